/- A row of numbers put behind a row of the call's own; own rows over later worlds. No condition. -/
import Derived.Test.YtjfgjlklbepnjaaBytes
import Derived.Maps.AppendAt
namespace Go.Proofs.Ytjfgjlklbepnjaa
open Go.RowKit
set_option linter.unusedSimpArgs false
set_option linter.unusedVariables false

section
variable {w w' : World} {base : Nat} {e : TypeId} {size n : Nat} {v : Value} {xs : List Value}
/-- An own row is kept wherever all elder memory is. -/
theorem own_keep (h : w.ownsRow base e size v n xs) (hb : Below w.heap.size w w') : w'.ownsRow base e size v n xs := by
  refine ⟨h.1, ?_⟩
  rcases h.2 with hn | ⟨g, cap, cur, rfl, hbase, hg, rest⟩
  · exact .inl hn
  · have hlt : g < w.heap.size := by
      rcases Nat.lt_or_ge g w.heap.size with hlt | hge
      · exact hlt
      · rw [Array.getElem?_eq_none hge] at hg; cases hg
    exact .inr ⟨g, cap, cur, rfl, hbase, (hb.block g hlt).trans hg, rest⟩
theorem own_set (h : w.ownsRow base e size v n xs) {p : Addr} (hp : p.block < base) (u : Value) : (w.setCell p u).ownsRow base e size v n xs := by
  refine ⟨h.1, ?_⟩
  rcases h.2 with hn | ⟨g, cap, cur, rfl, hbase, hg, rest⟩
  · exact .inl hn
  · exact .inr ⟨g, cap, cur, rfl, hbase, (Below.heap_setCell w p u g (by omega)).trans hg, rest⟩
theorem own_base {b : Nat} (h : w.ownsRow base e size v n xs) (hb : b ≤ base) : w.ownsRow b e size v n xs := by
  refine ⟨h.1, ?_⟩
  rcases h.2 with hn | ⟨g, cap, cur, rfl, hbase, rest⟩
  · exact .inl hn
  · exact .inr ⟨g, cap, cur, rfl, Nat.le_trans hb hbase, rest⟩
theorem own_cap {A : Option Addr} {c : Nat} (h : w.ownsRow base e size (.slice A n c) n xs) : n ≤ c ∧ c ≤ 9223372036854775807 := by
  rcases h.2 with ⟨hv, rfl⟩ | ⟨g, cap, cur, hv, _, _, h1, h2, _⟩
  · injection hv with _ _ h; exact ⟨by omega, by omega⟩
  · injection hv with _ _ h; subst h; exact ⟨h1, h2⟩
end

/-- A slice cut from a place on. -/
theorem Reads.from_ {k : IntKind} {w : World} {B : Nat} {A ao : Option Addr} {n i : Nat} {f : Nat → Int} (h : Reads k w B A n f) (hao : ∀ b o, A = some ⟨b, o, none⟩ → i < n → ao = some ⟨b, o + i, none⟩) :
    Reads k w B ao (n - i) (fun j => f (i + j)) := fun hn => by
  obtain ⟨b, o, rfl, hb, hc⟩ := h (by omega)
  exact ⟨b, o + i, hao b o rfl (by omega), hb, fun j hj => by rw [Nat.add_assoc]; exact hc (i + j) (by omega)⟩
theorem Reads.first {k : IntKind} {w : World} {B : Nat} {A : Option Addr} {n m : Nat} {f : Nat → Int} (h : Reads k w B A n f) (hm : m ≤ n) : Reads k w B A m f := fun hn => by
  obtain ⟨b, o, rfl, hb, hc⟩ := h (by omega)
  exact ⟨b, o, rfl, hb, fun j hj => hc j (by omega)⟩

section
variable {P : Program} (w : World)
theorem run_app_nil (base : Nat) (t ty e : TypeId) (i : TypeInfo) (size : Nat) (ht : P.underlying t = some (.slice e)) (hi : P.info? e = some i)
    (v : Value) (n : Nat) (xs : List Value) (hown : w.ownsRow base e size v n xs) (c : Nat) : (Builtin.append_ #[t, t] ty #[v, .slice none 0 c]).run P w = .ok v w := by
  rcases hown.2 with ⟨rfl, rfl⟩ | ⟨g, cap, cur, rfl, _, _, hnc, _⟩
  · simp [Builtin.append_, run_underlying ht, sizeOf, typeInfo, hi, Builtin.lenOf, Builtin.firstCells]
  · simp [Builtin.append_, run_underlying ht, sizeOf, typeInfo, hi, Builtin.lenOf, Builtin.firstCells, hnc, storeCells]
/-- append(own row, numbers that read): the walk's step. -/
theorem wpList_app {ops : Array Oper} {rest : List Oper} {o : Oper} {a : Act} {Q : Exit → Act → World → Prop} (hgd : o.guard = none) (s x : Operand) (t : TypeId)
    (ho : o.op = .call { callee := .builtin .append, args := #[s, x], argTypes := #[t, t] })
    (base : Nat) (e : TypeId) (i : TypeInfo) (z : Value) (bytes : Nat) (ht : P.underlying t = some (.slice e)) (hi : P.info? e = some i) (hz : i.zero = some z)
    (hsize : i.size = 1) (hby : i.bytes = bytes) (hzs : z.cells.size = 1)
    (v : Value) (n : Nat) (xs : List Value) (hs : a.eval s = v) (hown : w.ownsRow base e 1 v n xs)
    (k : IntKind) (B : Nat) (A : Option Addr) (m c : Nat) (f : Nat → Int) (hx : a.eval x = .slice A m c) (hr : Reads k w B A m f)
    (h63 : n + m ≤ 9223372036854775807) (hbytes : (n + m) * bytes ≤ 140737488355328) (hbase : base ≤ w.heap.size)
    (h : ∀ v' w', w'.ownsRow base e 1 v' (n + m) (xs ++ rowV k m f) → w.grownBy w' v.ownBlock → wpList P ops Q rest (a.put o.dst v') w') : wpList P ops Q (o :: rest) a w := by
  have hrun : ∃ v' w', (Builtin.append_ #[t, t] o.type #[v, .slice A m c]).run P w = .ok v' w' ∧ w'.ownsRow base e 1 v' (n + m) (xs ++ rowV k m f) ∧ w.grownBy w' v.ownBlock := by
    rcases A with _ | ad
    · have hm : m = 0 := by
        rcases Nat.eq_zero_or_pos m with h0 | h0
        · exact h0
        · obtain ⟨b, o, h, _⟩ := hr h0
          cases h
      subst hm
      exact ⟨v, w, run_app_nil w base t o.type e i 1 ht hi v n xs hown c, by simpa [rowV] using hown, World.grownBy.refl w _⟩
    · have hcells : ∀ j u, (rowV k m f)[j]? = some u → w.cell? (ad.add j) = some u := by
        intro j u hu
        have hj : j < m := by have := (List.getElem?_eq_some_iff.1 hu).1; rwa [rowV_len] at this
        obtain ⟨b, oo, h, _, hc⟩ := hr (by omega)
        injection h with h
        subst h
        rw [Addr.add_lit, hc j hj, ← hu, rowV_get hj]
      obtain ⟨v', w', hrun, h2, h3, _, _⟩ := run_append_own_at (P := P) w base t o.type e i z 1 bytes ht hi hz hsize hby hzs (by omega) v n xs hown ad m c (rowV k m f) (by rw [rowV_len, Nat.mul_one]) hcells rowV_one h63 hbytes hbase
      exact ⟨v', w', hrun, h2, h3⟩
  refine wpList_plain hgd fun _ hK => ?_
  obtain ⟨v', w', hrun, h2, h3⟩ := hrun
  unfold Oper.wp execOp
  simp only [ho, resolve, invoke, builtin, Sem.run_bind, Sem.run_pure, Result.andThen_ok, List.map_toArray, List.map_cons, List.map_nil, hs, hx, hrun]
  exact hK _ _ (h v' w' h2 h3)
end
theorem rowV_app {k : IntKind} {a b : List Nat} : rowV k a.length (atI a) ++ rowV k b.length (atI b) = rowV k (a ++ b).length (atI (a ++ b)) := by
  refine List.ext_getElem? fun j => ?_
  by_cases h : j < a.length
  · rw [List.getElem?_append_left (by rw [rowV_len]; exact h), rowV_get h, rowV_get (by rw [List.length_append]; omega)]
    simp [atI, List.getD, List.getElem?_append_left h]
  · rw [List.getElem?_append_right (by rw [rowV_len]; omega), rowV_len]
    by_cases h2 : j < a.length + b.length
    · rw [rowV_get (by omega), rowV_get (by rw [List.length_append]; omega)]
      simp [atI, List.getD, List.getElem?_append_right (Nat.le_of_not_lt h)]
    · rw [List.getElem?_eq_none (by rw [rowV_len]; omega), List.getElem?_eq_none (by rw [rowV_len, List.length_append]; omega)]
theorem rowV_nil (k : IntKind) (f : Nat → Int) : rowV k 0 f = [] := rfl
theorem atI_take {l : List Nat} {n j : Nat} (h : j < n) : atI (l.take n) j = atI l j := by
  simp [atI, List.getD, List.getElem?_take, h]
theorem atI_drop (l : List Nat) (n j : Nat) : atI (l.drop n) j = atI l (n + j) := by
  simp [atI, List.getD, List.getElem?_drop]
theorem rowV_take {k : IntKind} {l : List Nat} {n : Nat} (h : n ≤ l.length) : rowV k n (atI l) = rowV k (l.take n).length (atI (l.take n)) := by
  rw [List.length_take, Nat.min_eq_left h]
  exact rowV_congr fun j hj => (atI_take hj).symm
theorem rowV_drop {k : IntKind} {l : List Nat} {n : Nat} : rowV k (l.length - n) (fun j => atI l (n + j)) = rowV k (l.drop n).length (atI (l.drop n)) := by
  rw [List.length_drop]
  exact rowV_congr fun j hj => (atI_drop l n j).symm
end Go.Proofs.Ytjfgjlklbepnjaa
