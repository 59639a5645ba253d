/- Several texts of one proof, joined: A row of numbers put behind a row of the call's own; own rows over later worlds. No condition. | Rows of the call's own, sorted and made compact by the library; what comes of that. No condition. | Rules for someone: a point's zoom, the edges, walked. No condition beyond what the rows read as. -/
import Derived.Test.YthlijfligikciaaGreatZ03
import Derived.Maps.AppendAt
import Derived.Sort.OwnSortedInts
import Derived.Lib.RowBridge
import Derived.BigQuiet
/- A row of numbers put behind a row of the call's own; own rows over later worlds. No condition. -/
namespace Go.Proofs.YthlijfligikciaaGreat
open Go.RowKit
set_option linter.unusedSimpArgs false
set_option linter.unusedVariables false

section
variable {w w' : World} {base : Nat} {e : TypeId} {size n : Nat} {v : Value} {xs : List Value}
/-- An own row is kept wherever all elder memory is. -/
theorem own_keep (h : w.ownsRow base e size v n xs) (hb : Below w.heap.size w w') : w'.ownsRow base e size v n xs := by
  refine ⟨h.1, ?_⟩
  rcases h.2 with hn | ⟨g, cap, cur, rfl, hbase, hg, rest⟩
  · exact .inl hn
  · have hlt : g < w.heap.size := by
      rcases Nat.lt_or_ge g w.heap.size with hlt | hge
      · exact hlt
      · rw [Array.getElem?_eq_none hge] at hg; cases hg
    exact .inr ⟨g, cap, cur, rfl, hbase, (hb.block g hlt).trans hg, rest⟩
theorem own_set (h : w.ownsRow base e size v n xs) {p : Addr} (hp : p.block < base) (u : Value) : (w.setCell p u).ownsRow base e size v n xs := by
  refine ⟨h.1, ?_⟩
  rcases h.2 with hn | ⟨g, cap, cur, rfl, hbase, hg, rest⟩
  · exact .inl hn
  · exact .inr ⟨g, cap, cur, rfl, hbase, (Below.heap_setCell w p u g (by omega)).trans hg, rest⟩
theorem own_base {b : Nat} (h : w.ownsRow base e size v n xs) (hb : b ≤ base) : w.ownsRow b e size v n xs := by
  refine ⟨h.1, ?_⟩
  rcases h.2 with hn | ⟨g, cap, cur, rfl, hbase, rest⟩
  · exact .inl hn
  · exact .inr ⟨g, cap, cur, rfl, Nat.le_trans hb hbase, rest⟩
theorem own_cap {A : Option Addr} {c : Nat} (h : w.ownsRow base e size (.slice A n c) n xs) : n ≤ c ∧ c ≤ 9223372036854775807 := by
  rcases h.2 with ⟨hv, rfl⟩ | ⟨g, cap, cur, hv, _, _, h1, h2, _⟩
  · injection hv with _ _ h; exact ⟨by omega, by omega⟩
  · injection hv with _ _ h; subst h; exact ⟨h1, h2⟩
end

/-- A slice cut from a place on. -/
theorem Reads.from_ {k : IntKind} {w : World} {B : Nat} {A ao : Option Addr} {n i : Nat} {f : Nat → Int} (h : Reads k w B A n f) (hao : ∀ b o, A = some ⟨b, o, none⟩ → i < n → ao = some ⟨b, o + i, none⟩) :
    Reads k w B ao (n - i) (fun j => f (i + j)) := fun hn => by
  obtain ⟨b, o, rfl, hb, hc⟩ := h (by omega)
  exact ⟨b, o + i, hao b o rfl (by omega), hb, fun j hj => by rw [Nat.add_assoc]; exact hc (i + j) (by omega)⟩
theorem Reads.first {k : IntKind} {w : World} {B : Nat} {A : Option Addr} {n m : Nat} {f : Nat → Int} (h : Reads k w B A n f) (hm : m ≤ n) : Reads k w B A m f := fun hn => by
  obtain ⟨b, o, rfl, hb, hc⟩ := h (by omega)
  exact ⟨b, o, rfl, hb, fun j hj => hc j (by omega)⟩

section
variable {P : Program} (w : World)
theorem run_app_nil (base : Nat) (t ty e : TypeId) (i : TypeInfo) (size : Nat) (ht : P.underlying t = some (.slice e)) (hi : P.info? e = some i)
    (v : Value) (n : Nat) (xs : List Value) (hown : w.ownsRow base e size v n xs) (c : Nat) : (Builtin.append_ #[t, t] ty #[v, .slice none 0 c]).run P w = .ok v w := by
  rcases hown.2 with ⟨rfl, rfl⟩ | ⟨g, cap, cur, rfl, _, _, hnc, _⟩
  · simp [Builtin.append_, run_underlying ht, sizeOf, typeInfo, hi, Builtin.lenOf, Builtin.firstCells]
  · simp [Builtin.append_, run_underlying ht, sizeOf, typeInfo, hi, Builtin.lenOf, Builtin.firstCells, hnc, storeCells]
/-- append(own row, numbers that read): the walk's step. -/
theorem wpList_app {ops : Array Oper} {rest : List Oper} {o : Oper} {a : Act} {Q : Exit → Act → World → Prop} (hgd : o.guard = none) (s x : Operand) (t : TypeId)
    (ho : o.op = .call { callee := .builtin .append, args := #[s, x], argTypes := #[t, t] })
    (base : Nat) (e : TypeId) (i : TypeInfo) (z : Value) (bytes : Nat) (ht : P.underlying t = some (.slice e)) (hi : P.info? e = some i) (hz : i.zero = some z)
    (hsize : i.size = 1) (hby : i.bytes = bytes) (hzs : z.cells.size = 1)
    (v : Value) (n : Nat) (xs : List Value) (hs : a.eval s = v) (hown : w.ownsRow base e 1 v n xs)
    (k : IntKind) (B : Nat) (A : Option Addr) (m c : Nat) (f : Nat → Int) (hx : a.eval x = .slice A m c) (hr : Reads k w B A m f)
    (h63 : n + m ≤ 9223372036854775807) (hbytes : (n + m) * bytes ≤ 140737488355328) (hbase : base ≤ w.heap.size)
    (h : ∀ v' w', w'.ownsRow base e 1 v' (n + m) (xs ++ rowV k m f) → w.grownBy w' v.ownBlock → wpList P ops Q rest (a.put o.dst v') w') : wpList P ops Q (o :: rest) a w := by
  have hrun : ∃ v' w', (Builtin.append_ #[t, t] o.type #[v, .slice A m c]).run P w = .ok v' w' ∧ w'.ownsRow base e 1 v' (n + m) (xs ++ rowV k m f) ∧ w.grownBy w' v.ownBlock := by
    rcases A with _ | ad
    · have hm : m = 0 := by
        rcases Nat.eq_zero_or_pos m with h0 | h0
        · exact h0
        · obtain ⟨b, o, h, _⟩ := hr h0
          cases h
      subst hm
      exact ⟨v, w, run_app_nil w base t o.type e i 1 ht hi v n xs hown c, by simpa [rowV] using hown, World.grownBy.refl w _⟩
    · have hcells : ∀ j u, (rowV k m f)[j]? = some u → w.cell? (ad.add j) = some u := by
        intro j u hu
        have hj : j < m := by have := (List.getElem?_eq_some_iff.1 hu).1; rwa [rowV_len] at this
        obtain ⟨b, oo, h, _, hc⟩ := hr (by omega)
        injection h with h
        subst h
        rw [Addr.add_lit, hc j hj, ← hu, rowV_get hj]
      obtain ⟨v', w', hrun, h2, h3, _, _⟩ := run_append_own_at (P := P) w base t o.type e i z 1 bytes ht hi hz hsize hby hzs (by omega) v n xs hown ad m c (rowV k m f) (by rw [rowV_len, Nat.mul_one]) hcells rowV_one h63 hbytes hbase
      exact ⟨v', w', hrun, h2, h3⟩
  refine wpList_plain hgd fun _ hK => ?_
  obtain ⟨v', w', hrun, h2, h3⟩ := hrun
  unfold Oper.wp execOp
  simp only [ho, resolve, invoke, builtin, Sem.run_bind, Sem.run_pure, Result.andThen_ok, List.map_toArray, List.map_cons, List.map_nil, hs, hx, hrun]
  exact hK _ _ (h v' w' h2 h3)
end
theorem rowV_app {k : IntKind} {a b : List Nat} : rowV k a.length (atI a) ++ rowV k b.length (atI b) = rowV k (a ++ b).length (atI (a ++ b)) := by
  refine List.ext_getElem? fun j => ?_
  by_cases h : j < a.length
  · rw [List.getElem?_append_left (by rw [rowV_len]; exact h), rowV_get h, rowV_get (by rw [List.length_append]; omega)]
    simp [atI, List.getD, List.getElem?_append_left h]
  · rw [List.getElem?_append_right (by rw [rowV_len]; omega), rowV_len]
    by_cases h2 : j < a.length + b.length
    · rw [rowV_get (by omega), rowV_get (by rw [List.length_append]; omega)]
      simp [atI, List.getD, List.getElem?_append_right (Nat.le_of_not_lt h)]
    · rw [List.getElem?_eq_none (by rw [rowV_len]; omega), List.getElem?_eq_none (by rw [rowV_len, List.length_append]; omega)]
theorem rowV_nil (k : IntKind) (f : Nat → Int) : rowV k 0 f = [] := rfl
theorem atI_take {l : List Nat} {n j : Nat} (h : j < n) : atI (l.take n) j = atI l j := by
  simp [atI, List.getD, List.getElem?_take, h]
theorem atI_drop (l : List Nat) (n j : Nat) : atI (l.drop n) j = atI l (n + j) := by
  simp [atI, List.getD, List.getElem?_drop]
theorem rowV_take {k : IntKind} {l : List Nat} {n : Nat} (h : n ≤ l.length) : rowV k n (atI l) = rowV k (l.take n).length (atI (l.take n)) := by
  rw [List.length_take, Nat.min_eq_left h]
  exact rowV_congr fun j hj => (atI_take hj).symm
theorem rowV_drop {k : IntKind} {l : List Nat} {n : Nat} : rowV k (l.length - n) (fun j => atI l (n + j)) = rowV k (l.drop n).length (atI (l.drop n)) := by
  rw [List.length_drop]
  exact rowV_congr fun j hj => (atI_drop l n j).symm
end Go.Proofs.YthlijfligikciaaGreat

/- Rows of the call's own, sorted and made compact by the library; what comes of that. No condition. -/
namespace Go.Proofs.YthlijfligikciaaGreat
open Go.RowKit
set_option linter.unusedSimpArgs false
set_option linter.unusedVariables false
set_option maxRecDepth 2000

/-- Numbers as cells. -/
def nC (L : List Int) : List Value := L.map (Value.int .i64)
theorem nC_len (L : List Int) : (nC L).length = L.length := by simp [nC]
theorem nC_snoc (L : List Int) (x : Int) : nC (L ++ [x]) = nC L ++ [.int .i64 x] := by simp [nC]
def sortL (L : List Int) : List Int := L.mergeSort fun x y => decide (x ≤ y)
theorem sortL_len (L : List Int) : (sortL L).length = L.length := by simp [sortL]
theorem sortL_mem {L : List Int} {x : Int} : x ∈ sortL L ↔ x ∈ L := by simp [sortL]
theorem sortL_le (L : List Int) : (sortL L).Pairwise (· ≤ ·) := by
  have h := List.pairwise_mergeSort (le := fun x y : Int => decide (x ≤ y)) (fun a b c => by simp; omega) (fun a b => by simp; omega) L
  exact h.imp fun h => by simpa using h
theorem sort_own {base n c : Nat} {A : Option Addr} {L : List Int} {w : World} (h : w.ownsRow base 3 1 (.slice A n c) n (nC L)) (hl : n ≤ 1000000000) :
    Calls Tryz.prog 114 #[.slice A n c] w fun e w' => e = .returned (.tuple #[]) ∧ w'.ownsRow base 3 1 (.slice A n c) n (nC (sortL L)) ∧ w.grownBy w' (Value.slice A n c).ownBlock := by
  have hlen : L.length = n := by have := h.1; simpa [nC] using this
  rcases h.2 with ⟨hv, hn⟩ | ⟨g, cap, cur, hv, hb, hg, h1, h2, h3, h4⟩
  · injection hv with e1 e2 e3
    subst e1 e2 e3
    obtain rfl : L = [] := List.eq_nil_of_length_eq_zero hlen
    refine (Tryz.slices_Sort_int_none none 0 w).mono ?_
    rintro e w' ⟨rfl, rfl⟩
    exact ⟨rfl, by simpa [sortL] using h, World.grownBy.refl _ _⟩
  · injection hv with e1 e2 e3
    subst e1 e3
    subst hlen
    have hH : Go.Sort.Holds (Value.int .i64) w g 0 L.toArray := holds_of_blockI hg (by simpa [nC] using h4)
    refine (Tryz.slices_Sort_int g 0 c L w hH (Array.getElem?_eq_some_iff.1 hg).1 (by omega)).mono ?_
    rintro e w' ⟨rfl, m, os, rfl⟩
    exact ⟨rfl, ownsRow_sortedI (by simp) hb hg h1 h2 h3, grownBy_sortedI _⟩
theorem compact_len (L : List Int) : (Lib.compact L).length ≤ L.length := Lib.compact_length_le L
theorem compact_own {base n c : Nat} {A : Option Addr} {L : List Int} {w : World} (h : w.ownsRow base 3 1 (.slice A n c) n (nC L)) (hl : n ≤ 1000000000) :
    Calls Tryz.prog 115 #[.slice A n c] w fun e w' => e = .returned (.slice A (Lib.compact L).length c) ∧ w'.ownsRow base 3 1 (.slice A (Lib.compact L).length c) (Lib.compact L).length (nC (Lib.compact L)) ∧ w.grownBy w' (Value.slice A n c).ownBlock := by
  have hlen : L.length = n := by have := h.1; simpa [nC] using this
  rcases h.2 with ⟨hv, hn⟩ | ⟨g, cap, cur, hv, hb, hg, h1, h2, h3, h4⟩
  · injection hv with e1 e2 e3
    subst e1 e2 e3
    obtain rfl : L = [] := List.eq_nil_of_length_eq_zero hlen
    refine (Tryz.slices_Compact_int_empty none 0 w).mono ?_
    rintro e w' ⟨rfl, rfl⟩
    exact ⟨rfl, h, World.grownBy.refl _ _⟩
  · injection hv with e1 e2 e3
    subst e1 e3
    subst hlen
    have hH : Go.Sort.Holds (Value.int .i64) w g 0 L.toArray := holds_of_blockI hg (by simpa [nC] using h4)
    have hc := compact_len L
    refine (Tryz.slices_Compact_int g 0 c L w hH (by omega) h1).mono ?_
    rintro e w' ⟨rfl, m, rfl⟩
    have e0 : ∀ d : Array Int, Go.Sort.putRow (Value.int .i64) (Sort.ahead w m) g 0 d = Go.Sort.grow (Go.Sort.putRow (Value.int .i64) (Sort.ahead w m) g 0 d) #[] := fun d => (Go.Sort.grow_empty _).symm
    rw [e0]
    refine ⟨rfl, ⟨by simp [nC], .inr ⟨g, c, _, rfl, hb, heap_sortedI _ hg, by omega, h2, by simp [Go.Sort.putCells, h3], ?_⟩⟩, grownBy_sortedI _⟩
    have h5 := take_putCellsI cur (Lib.compact L ++ List.replicate (L.length - (Lib.compact L).length) 0) (by simp; omega)
    have h6 := congrArg (List.take (Lib.compact L).length) h5
    rw [List.take_take, List.map_append, List.take_append_of_le_length (by simp)] at h6
    rw [show min (Lib.compact L).length (Lib.compact L ++ List.replicate (L.length - (Lib.compact L).length) (0 : Int)).length = (Lib.compact L).length by simp] at h6
    rw [Nat.mul_one, h6]
    exact List.take_of_length_le (by simp)
/-- A list that rises, made compact: all of it once, rising. -/
theorem compact_facts {L : List Int} (h : L.Pairwise (· ≤ ·)) : (∀ x, x ∈ Lib.compact L ↔ x ∈ L) ∧ (Lib.compact L).Pairwise (· < ·) := by
  have hle : ∀ i j, i ≤ j → j < L.length → L.getD i 0 ≤ L.getD j 0 := fun i j hij hj => by
    rcases Nat.lt_or_eq_of_le hij with hlt | rfl
    · have := List.pairwise_iff_getElem.1 h i j (by omega) hj hlt
      simpa [List.getD, List.getElem?_eq_getElem hj, List.getElem?_eq_getElem (show i < L.length by omega)] using this
    · exact Int.le_refl _
  have hget : ∀ j, j < L.length → L.toArray[j]! = L.getD j 0 := fun j hj => by
    simp [List.getD, List.getElem?_eq_getElem hj]
  have key : ∀ m, m ≤ L.length → (∀ x, x ∈ Lib.compactUpTo L.toArray m ↔ ∃ j, j < m ∧ x = L.getD j 0) ∧ (Lib.compactUpTo L.toArray m).Pairwise (· < ·) := by
    intro m
    induction m with
    | zero => intro _; exact ⟨fun x => by simp [Lib.compactUpTo], by simp [Lib.compactUpTo]⟩
    | succ m ih =>
      intro hm
      obtain ⟨h1, h2⟩ := ih (by omega)
      rw [Lib.compactUpTo_succ]
      by_cases hk : Lib.keeps L.toArray m = true
      · rw [if_pos hk, hget m (by omega)]
        refine ⟨fun x => ?_, ?_⟩
        · rw [List.mem_append, h1]
          constructor
          · rintro (⟨j, hj, e⟩ | e)
            · exact ⟨j, by omega, e⟩
            · exact ⟨m, by omega, by simpa using e⟩
          · rintro ⟨j, hj, e⟩
            by_cases hjm : j = m
            · subst hjm; exact .inr (by simp [e])
            · exact .inl ⟨j, by omega, e⟩
        · rw [List.pairwise_append]
          refine ⟨h2, by simp, fun a ha b hb => ?_⟩
          obtain rfl : b = L.getD m 0 := by simpa using hb
          obtain ⟨j, hj, rfl⟩ := (h1 a).1 ha
          have h3 : m = 0 ∨ L.toArray[m]! ≠ L.toArray[m - 1]! := by simpa [Lib.keeps] using hk
          rcases h3 with h3 | h3
          · omega
          · rw [hget m (by omega), hget (m - 1) (by omega)] at h3
            have h4 := hle j (m - 1) (by omega) (by omega)
            have h5 := hle (m - 1) m (by omega) (by omega)
            omega
      · rw [if_neg hk, List.append_nil]
        refine ⟨fun x => ?_, h2⟩
        rw [h1]
        constructor
        · rintro ⟨j, hj, e⟩; exact ⟨j, by omega, e⟩
        · rintro ⟨j, hj, e⟩
          by_cases hjm : j = m
          · subst hjm
            have h3 : ¬ (j = 0 ∨ L.toArray[j]! ≠ L.toArray[j - 1]!) := by simpa [Lib.keeps] using hk
            have h4 : j ≠ 0 := fun h => h3 (.inl h)
            have h5 : L.toArray[j]! = L.toArray[j - 1]! := Classical.byContradiction fun h => h3 (.inr h)
            rw [hget j (by omega), hget (j - 1) (by omega)] at h5
            exact ⟨j - 1, by omega, by rw [e, h5]⟩
          · exact ⟨j, by omega, e⟩
  obtain ⟨h1, h2⟩ := key L.length (Nat.le_refl _)
  refine ⟨fun x => ?_, h2⟩
  unfold Lib.compact
  rw [h1]
  constructor
  · rintro ⟨j, hj, rfl⟩
    simp [List.getD, List.getElem?_eq_getElem hj]
  · intro hx
    obtain ⟨j, hj, rfl⟩ := List.mem_iff_getElem.1 hx
    exact ⟨j, hj, by simp [List.getD, List.getElem?_eq_getElem hj]⟩
/-- All numbers of a list, each once, rising. -/
def edgesL (L : List Int) : List Int := Lib.compact (sortL L)
theorem edges_mem {L : List Int} {x : Int} : x ∈ edgesL L ↔ x ∈ L := by rw [edgesL, (compact_facts (sortL_le L)).1, sortL_mem]
theorem edges_lt (L : List Int) : (edgesL L).Pairwise (· < ·) := (compact_facts (sortL_le L)).2
theorem edges_len (L : List Int) : (edgesL L).length ≤ L.length := by
  have := compact_len (sortL L)
  rw [sortL_len] at this
  exact this
end Go.Proofs.YthlijfligikciaaGreat

/- Rules for someone: a point's zoom, the edges, walked. No condition beyond what the rows read as. -/
namespace Go.Proofs.YthlijfligikciaaGreat
open Go.RowKit
set_option linter.unusedSimpArgs false
set_option linter.unusedVariables false
set_option maxRecDepth 2000

theorem gz1_any (b : Bx) (p : Nat) (x y : Int) (w : World) (h0 : w.cell? ⟨p, 0, none⟩ = some (.int .i64 x)) (h1 : w.cell? ⟨p, 1, none⟩ = some (.int .i64 y)) :
    Calls Tryz.prog 186 #[.agg #[.int .i64 b.a, .int .i64 b.b, .int .i64 b.c, .int .i64 b.d], .pointer (some ⟨p, 0, none⟩)] w fun e w' => e = .returned (.bool (hasX b x y)) ∧ Below w.heap.size w w' := by
  have hp : p < w.heap.size := by have := World.block_lt_of_cell? w _ h0; simpa using this
  have p1 := has_any b.a b.b b.c b.d x y
  unfold hasX
  obtain ⟨d, hd⟩ : ∃ d, hasB b.a b.b b.c b.d x y = d := ⟨_, rfl⟩
  rw [hd] at p1 ⊢
  have P1 := Lib.hid p1
  clear p1 hd
  go_enter Tryz.func186, Tryz.ntmps186
  go_wp2_with (first
    | (go_at_call 72; with_reducible refine (P1.out _).mono ?_; rintro e w' ⟨rfl, hb⟩; obtain ⟨X1, rfl, hl1, hm1⟩ := later _ hb (Nat.le_refl _); clear hb; (try simp only [World.size_alloc, World.size_setCell, World.size_drew] at hm1 hl1)))
  go_ret
  exact ⟨rfl, by repeat' (first | (with_reducible exact Below.refl _ _) | (with_reducible assumption) | (with_reducible refine Later.step ?_ ?_ _) | (with_reducible refine Below.alloc ?_ ?_ _) | (with_reducible refine Below.drew ?_) | (with_reducible refine bel_drewN ?_ _) | (with_reducible refine bel_grown ?_ (by assumption) ?_ ?_) | (with_reducible refine Below.setCell ?_ ?_ _) | go_size)⟩
set_option maxHeartbeats 4000000 in
theorem xindex_any (n c p : Nat) (A : Option Addr) (L : List Bx) (x y : Int) (w : World) (h : Bxs w w.heap.size A L) (hn : L.length = n) (hn1 : n ≤ 9223372036854775806) (h0 : w.cell? ⟨p, 0, none⟩ = some (.int .i64 x)) (h1 : w.cell? ⟨p, 1, none⟩ = some (.int .i64 y)) :
    Calls Tryz.prog 199 #[.slice A n c, .func (.func 186) #[] #[.pointer (some ⟨p, 0, none⟩)]] w fun e w' => (∃ r : Int, e = .returned (.int .i64 r) ∧ decide (0 ≤ r) = hasL L x y) ∧ Below w.heap.size w w' := by
  have hp : p < w.heap.size := by have := World.block_lt_of_cell? w _ h0; simpa using this
  have H := Lib.hid h
  have HN := Lib.hid hn
  have P1 := Lib.hid (fun (b : Bx) (Y : World) (hY : Below w.heap.size w Y) => gz1_any b p x y Y ((hY.cell (p := ⟨p, 0, none⟩) hp).trans h0) ((hY.cell (p := ⟨p, 1, none⟩) hp).trans h1))
  obtain ⟨R, hR⟩ : ∃ R, hasL L x y = R := ⟨_, rfl⟩
  rw [hR]
  have HR := Lib.hid hR
  clear h hn hR h0 h1
  go_enter Tryz.func199, Tryz.ntmps199
  go_wp2
  go_loopw [8] (fun i wr => ∃ k : Nat, k ≤ n ∧ i = .int .i64 k ∧ Hid (∀ j, j < k → hasX (L.getD j bx0) x y = false) ∧ Below w.heap.size w wr) (fun i _ => n - (intOf i).toNat)
  case atStart => exact ⟨0, Nat.zero_le _, rfl, fun j hj => absurd hj (by omega), Below.refl _ _⟩
  case round =>
    obtain ⟨k, hk, rfl, hall, hb⟩ := hrel
    obtain ⟨X, rfl⟩ : ∃ X : Later w.heap.size w, wr = X.w := ⟨⟨wr, hb⟩, rfl⟩
    have hs := X.is.size
    clear hb
    by_cases hlt : k < n
    · have hkL : k < L.length := by rw [HN.out]; exact hlt
      obtain ⟨b, o, hA, hB, c0, c1, c2, c3⟩ := bxs_at H.out hkL
      subst hA
      have hyes : hasX (L.getD k bx0) x y = true → R = true := fun he => by
        rw [← HR.out]
        exact List.any_eq_true.2 ⟨L.getD k bx0, by rw [getX_lt hkL]; exact List.getElem_mem _, he⟩
      obtain ⟨z, hz⟩ : ∃ z, L.getD k bx0 = z := ⟨_, rfl⟩
      rw [hz] at c0 c1 c2 c3 hyes
      have p2 := P1.out z
      obtain ⟨d, hd⟩ : ∃ d, hasX z x y = d := ⟨_, rfl⟩
      rw [hd] at p2
      have P2 := Lib.hid p2
      have HX := Lib.hid (show L.getD k bx0 = z ∧ hasX z x y = d from ⟨hz, hd⟩)
      clear p2 hd hz
      cases d with
      | false =>
        clear hyes
        go_wp2_with (first
          | (go_at_call 186; with_reducible refine (P2.out _ ?_).mono ?_; (focus (repeat' (first | (with_reducible exact Below.refl _ _) | (with_reducible assumption) | (with_reducible refine Later.step ?_ ?_ _) | (with_reducible refine Below.alloc ?_ ?_ _) | (with_reducible refine Below.drew ?_) | (with_reducible refine bel_drewN ?_ _) | (with_reducible refine bel_grown ?_ (by assumption) ?_ ?_) | (with_reducible refine Below.setCell ?_ ?_ _) | go_size))); rintro e w' ⟨rfl, hb⟩; obtain ⟨X1, rfl, hl1, hm1⟩ := later _ hb (Nat.le_refl _); clear hb; (try simp only [World.size_alloc, World.size_setCell, World.size_drew] at hm1 hl1)))
        go_roundw
        case rel =>
          refine ⟨k + 1, by omega, by go_num, fun j hj => ?_, by repeat' (first | (with_reducible exact Below.refl _ _) | (with_reducible assumption) | (with_reducible refine Later.step ?_ ?_ _) | (with_reducible refine Below.alloc ?_ ?_ _) | (with_reducible refine Below.drew ?_) | (with_reducible refine bel_drewN ?_ _) | (with_reducible refine bel_grown ?_ (by assumption) ?_ ?_) | (with_reducible refine Below.setCell ?_ ?_ _) | go_size)⟩
          by_cases hjk : j = k
          · subst hjk; rw [HX.out.1, HX.out.2]
          · exact hall.out j (by omega)
        case measure => simp [intOf]; omega
      | true =>
        obtain rfl : R = true := hyes HX.out.2
        clear hyes
        go_wp2_with (first
          | (go_at_call 186; with_reducible refine (P2.out _ ?_).mono ?_; (focus (repeat' (first | (with_reducible exact Below.refl _ _) | (with_reducible assumption) | (with_reducible refine Later.step ?_ ?_ _) | (with_reducible refine Below.alloc ?_ ?_ _) | (with_reducible refine Below.drew ?_) | (with_reducible refine bel_drewN ?_ _) | (with_reducible refine bel_grown ?_ (by assumption) ?_ ?_) | (with_reducible refine Below.setCell ?_ ?_ _) | go_size))); rintro e w' ⟨rfl, hb⟩; obtain ⟨X1, rfl, hl1, hm1⟩ := later _ hb (Nat.le_refl _); clear hb; (try simp only [World.size_alloc, World.size_setCell, World.size_drew] at hm1 hl1)))
        go_ret
        exact ⟨⟨_, rfl, by simp⟩, by repeat' (first | (with_reducible exact Below.refl _ _) | (with_reducible assumption) | (with_reducible refine Later.step ?_ ?_ _) | (with_reducible refine Below.alloc ?_ ?_ _) | (with_reducible refine Below.drew ?_) | (with_reducible refine bel_drewN ?_ _) | (with_reducible refine bel_grown ?_ (by assumption) ?_ ?_) | (with_reducible refine Below.setCell ?_ ?_ _) | go_size)⟩
    · obtain rfl : k = n := by omega
      obtain rfl : R = false := by
        rw [← HR.out]
        unfold hasL
        rw [List.any_eq_false]
        intro z hz
        obtain ⟨j, hj, rfl⟩ := List.mem_iff_getElem.1 hz
        have := hall.out j (by rw [← HN.out]; exact hj)
        rw [getX_lt hj] at this
        rw [this]
        simp
      go_wp2
      go_ret
      exact ⟨⟨_, rfl, by decide⟩, by repeat' (first | (with_reducible exact Below.refl _ _) | (with_reducible assumption) | (with_reducible refine Later.step ?_ ?_ _) | (with_reducible refine Below.alloc ?_ ?_ _) | (with_reducible refine Below.drew ?_) | (with_reducible refine bel_drewN ?_ _) | (with_reducible refine bel_grown ?_ (by assumption) ?_ ?_) | (with_reducible refine Below.setCell ?_ ?_ _) | go_size)⟩
set_option maxHeartbeats 4000000 in
theorem xcontains_any (n c p : Nat) (A : Option Addr) (L : List Bx) (x y : Int) (w : World) (h : Bxs w w.heap.size A L) (hn : L.length = n) (hn1 : n ≤ 9223372036854775806) (h0 : w.cell? ⟨p, 0, none⟩ = some (.int .i64 x)) (h1 : w.cell? ⟨p, 1, none⟩ = some (.int .i64 y)) :
    Calls Tryz.prog 185 #[.slice A n c, .func (.func 186) #[] #[.pointer (some ⟨p, 0, none⟩)]] w fun e w' => e = .returned (.bool (hasL L x y)) ∧ Below w.heap.size w w' := by
  have P1 := Lib.hid (xindex_any n c p A L x y w h hn hn1 h0 h1)
  obtain ⟨R, hR⟩ : ∃ R, hasL L x y = R := ⟨_, rfl⟩
  rw [hR] at P1 ⊢
  clear h hn h0 h1 hR
  go_enter Tryz.func185, Tryz.ntmps185
  go_wp2_with fail
  refine P1.out.mono ?_
  rintro e w1 ⟨⟨r, rfl, hr⟩, hb⟩
  obtain ⟨X1, rfl, hl1, hm1⟩ := later _ hb (Nat.le_refl _)
  clear hb
  go_wp2
  go_ret
  exact ⟨ret_b (by first | exact hr | rfl | simp_all), by repeat' (first | (with_reducible exact Below.refl _ _) | (with_reducible assumption) | (with_reducible refine Later.step ?_ ?_ _) | (with_reducible refine Below.alloc ?_ ?_ _) | (with_reducible refine Below.drew ?_) | (with_reducible refine bel_drewN ?_ _) | (with_reducible refine bel_grown ?_ (by assumption) ?_ ?_) | (with_reducible refine Below.setCell ?_ ?_ _) | go_size)⟩
set_option maxHeartbeats 16000000 in
theorem gzoom_any (n c : Nat) (A : Option Addr) (L : List Rl) (P : Nat → Option Addr × Nat) (x y : Int) (w : World) (h : Rls w w.heap.size A L P) (hn : L.length = n) (hn1 : n ≤ 9223372036854775806) (hbx : ∀ i, i < n → (L.getD i rl0).boxes.length ≤ 9223372036854775806) :
    Calls Tryz.prog 155 #[.slice A n c, .agg #[.int .i64 x, .int .i64 y]] w fun e w' => e = .returned (.int .i64 (zoomF L x y)) ∧ Below w.heap.size w w' := by
  have hmf : ∀ (fn : Fn) (first cap : Array Value) (w : World), (Instr.makeFunc fn first cap).run Tryz.prog w = .ok (.func fn first cap) w := fun _ _ _ _ => rfl
  have H := Lib.hid h
  have HN := Lib.hid hn
  have HB := Lib.hid hbx
  obtain ⟨R, hR⟩ : ∃ R, zoomF L x y = R := ⟨_, rfl⟩
  rw [hR]
  have HRR := Lib.hid hR
  clear h hn hbx hR
  go_enter Tryz.func155, Tryz.ntmps155
  go_wp2
  go_loopw [5, 6, 11] (fun al ca i wr => ∃ (k : Nat) (u v : Int), al = .int .i64 u ∧ ca = .int .i64 v ∧ i = .int .i64 k ∧ k ≤ n ∧ Hid ((u, v) = foldZ (L.take k) x y) ∧ Below (w.heap.size + 1) (w.alloc (Obj.cells #[.int .i64 x, .int .i64 y] 30)) wr) (fun _ _ i _ => n - (intOf i).toNat)
  case atStart => exact ⟨0, 0, 16, rfl, rfl, rfl, Nat.zero_le _, rfl, Below.refl _ _⟩
  case round =>
    obtain ⟨k, u, v, rfl, rfl, rfl, hk, hF, hb⟩ := hrel
    have b0 : wr.cell? ⟨w.heap.size, 0, none⟩ = some (.int .i64 x) := (hb.cell (p := ⟨w.heap.size, 0, none⟩) (Nat.lt_succ_self _)).trans (by go_simp)
    have b1 : wr.cell? ⟨w.heap.size, 1, none⟩ = some (.int .i64 y) := (hb.cell (p := ⟨w.heap.size, 1, none⟩) (Nat.lt_succ_self _)).trans (by go_simp)
    have hbw : Below w.heap.size w wr := Below.trans (by repeat' (first | (with_reducible exact Below.refl _ _) | (with_reducible assumption) | (with_reducible refine Later.step ?_ ?_ _) | (with_reducible refine Below.alloc ?_ ?_ _) | (with_reducible refine Below.drew ?_) | (with_reducible refine Below.setCell ?_ ?_ _) | go_size)) (hb.mono (Nat.le_succ _))
    have hs0 := hb.size
    simp only [World.size_alloc] at hs0
    obtain ⟨X, rfl⟩ : ∃ X : Later w.heap.size w, wr = X.w := ⟨⟨wr, hbw⟩, rfl⟩
    by_cases hlt : k < n
    · have hkL : k < L.length := by rw [HN.out]; exact hlt
      obtain ⟨b, o, hA, hB, c0, c1, c2, c3, c4, c5, c6⟩ := rls_at H.out hkL
      subst hA
      have hbx := HB.out k hlt
      have hbs := (H.out.bx k hkL).up hbw (by omega)
      have hms : foldZ (L.take (k + 1)) x y = stepZ x y (u, v) (L.getD k rl0) := by rw [takeR_snoc hkL, fold_snoc, ← hF.out]
      obtain ⟨A1, cc1, hP⟩ : ∃ A1 cc1, P k = (A1, cc1) := ⟨_, _, rfl⟩
      rw [hP] at c5 hbs
      obtain ⟨q, hq⟩ : ∃ q, L.getD k rl0 = q := ⟨_, rfl⟩
      rw [hq] at c0 c1 c2 c3 c4 c5 c6 hbx hbs hms
      obtain ⟨m, hm⟩ : ∃ m, q.boxes.length = m := ⟨_, rfl⟩
      rw [hm] at c5 hbx
      have p3 := fun (Y : World) (hY : Below X.w.heap.size X.w Y) => xcontains_any m cc1 w.heap.size A1 q.boxes x y Y (hbs.up hY hY.size) hm hbx ((hY.cell (p := ⟨w.heap.size, 0, none⟩) (by simp; omega)).trans b0) ((hY.cell (p := ⟨w.heap.size, 1, none⟩) (by simp; omega)).trans b1)
      unfold stepZ at hms
      obtain ⟨d2, hd2⟩ : ∃ d, hasL q.boxes x y = d := ⟨_, rfl⟩
      rw [hd2] at p3 hms
      have P3 := Lib.hid p3
      have HNX := Lib.hid hms
      have HBB := Lib.hid hb
      clear p3 hd2 hm hbs hP hms hq hF hb hbw
      cases d2 with
      | false =>
        go_wp2_with (first
          | (go_at_call 185; with_reducible refine (P3.out _ ?_).mono ?_; (focus (repeat' (first | (with_reducible exact Below.refl _ _) | (with_reducible assumption) | (with_reducible refine Later.step ?_ ?_ _) | (with_reducible refine Below.alloc ?_ ?_ _) | (with_reducible refine Below.drew ?_) | (with_reducible refine bel_drewN ?_ _) | (with_reducible refine bel_grown ?_ (by assumption) ?_ ?_) | (with_reducible refine Below.setCell ?_ ?_ _) | go_size))); rintro e w' ⟨rfl, hb⟩; obtain ⟨X3, rfl, hl3, hm3⟩ := later _ hb (Nat.le_refl _); clear hb; (try simp only [World.size_alloc, World.size_setCell, World.size_drew] at hm3 hl3)))
        go_roundw
        case rel => exact ⟨k + 1, u, v, rfl, rfl, by go_num, by omega, by rw [HNX.out]; rfl, HBB.out.trans ((show Below X.w.heap.size X.w X3.w by repeat' (first | (with_reducible exact Below.refl _ _) | (with_reducible assumption) | (with_reducible refine Later.step ?_ ?_ _) | (with_reducible refine Below.alloc ?_ ?_ _) | (with_reducible refine Below.drew ?_) | (with_reducible refine bel_drewN ?_ _) | (with_reducible refine bel_grown ?_ (by assumption) ?_ ?_) | (with_reducible refine Below.setCell ?_ ?_ _) | go_size)).mono (by omega))⟩
        case measure => simp [intOf]; omega
      | true =>
        by_cases k4 : q.kind = 4
        · have e4 : (q.kind == 4) = true := by simp [k4]
          have HK := Lib.hid k4
          clear k4
          go_wp2_with (first
            | (go_at_call 185; with_reducible refine (P3.out _ ?_).mono ?_; (focus (repeat' (first | (with_reducible exact Below.refl _ _) | (with_reducible assumption) | (with_reducible refine Later.step ?_ ?_ _) | (with_reducible refine Below.alloc ?_ ?_ _) | (with_reducible refine Below.drew ?_) | (with_reducible refine bel_drewN ?_ _) | (with_reducible refine bel_grown ?_ (by assumption) ?_ ?_) | (with_reducible refine Below.setCell ?_ ?_ _) | go_size))); rintro e w' ⟨rfl, hb⟩; obtain ⟨X3, rfl, hl3, hm3⟩ := later _ hb (Nat.le_refl _); clear hb; (try simp only [World.size_alloc, World.size_setCell, World.size_drew] at hm3 hl3)))
          go_roundw
          case rel => exact ⟨k + 1, max u q.zoom, v, rfl, rfl, by go_num, by omega, Lib.hid (HNX.out.trans ((if_pos (by simp)).trans (if_pos HK.out))).symm, HBB.out.trans ((show Below X.w.heap.size X.w X3.w by repeat' (first | (with_reducible exact Below.refl _ _) | (with_reducible assumption) | (with_reducible refine Later.step ?_ ?_ _) | (with_reducible refine Below.alloc ?_ ?_ _) | (with_reducible refine Below.drew ?_) | (with_reducible refine bel_drewN ?_ _) | (with_reducible refine bel_grown ?_ (by assumption) ?_ ?_) | (with_reducible refine Below.setCell ?_ ?_ _) | go_size)).mono (by omega))⟩
          case measure => simp [intOf]; omega
        · have e4 : (q.kind == 4) = false := by rw [beq_eq_false_iff_ne]; exact k4
          have HK := Lib.hid k4
          clear k4
          go_wp2_with (first
            | (go_at_call 185; with_reducible refine (P3.out _ ?_).mono ?_; (focus (repeat' (first | (with_reducible exact Below.refl _ _) | (with_reducible assumption) | (with_reducible refine Later.step ?_ ?_ _) | (with_reducible refine Below.alloc ?_ ?_ _) | (with_reducible refine Below.drew ?_) | (with_reducible refine bel_drewN ?_ _) | (with_reducible refine bel_grown ?_ (by assumption) ?_ ?_) | (with_reducible refine Below.setCell ?_ ?_ _) | go_size))); rintro e w' ⟨rfl, hb⟩; obtain ⟨X3, rfl, hl3, hm3⟩ := later _ hb (Nat.le_refl _); clear hb; (try simp only [World.size_alloc, World.size_setCell, World.size_drew] at hm3 hl3)))
          go_roundw
          case rel => exact ⟨k + 1, u, min v q.zoom, rfl, rfl, by go_num, by omega, Lib.hid (HNX.out.trans ((if_pos (by simp)).trans (if_neg HK.out))).symm, HBB.out.trans ((show Below X.w.heap.size X.w X3.w by repeat' (first | (with_reducible exact Below.refl _ _) | (with_reducible assumption) | (with_reducible refine Later.step ?_ ?_ _) | (with_reducible refine Below.alloc ?_ ?_ _) | (with_reducible refine Below.drew ?_) | (with_reducible refine bel_drewN ?_ _) | (with_reducible refine bel_grown ?_ (by assumption) ?_ ?_) | (with_reducible refine Below.setCell ?_ ?_ _) | go_size)).mono (by omega))⟩
          case measure => simp [intOf]; omega
    · obtain rfl : k = n := by omega
      obtain rfl : R = min u v := by
        rw [← HRR.out]
        have h9 := hF.out
        rw [← HN.out, List.take_length] at h9
        unfold zoomF
        rw [← h9]
      go_wp2
      go_ret
      exact ⟨rfl, by repeat' (first | (with_reducible exact Below.refl _ _) | (with_reducible assumption) | (with_reducible refine Later.step ?_ ?_ _) | (with_reducible refine Below.alloc ?_ ?_ _) | (with_reducible refine Below.drew ?_) | (with_reducible refine bel_drewN ?_ _) | (with_reducible refine bel_grown ?_ (by assumption) ?_ ?_) | (with_reducible refine Below.setCell ?_ ?_ _) | go_size)⟩
end Go.Proofs.YthlijfligikciaaGreat
