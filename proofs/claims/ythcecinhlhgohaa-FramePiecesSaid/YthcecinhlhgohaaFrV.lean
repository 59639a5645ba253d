/- Parts that are drained piece by piece: what is kept. No condition. -/
import Derived.Test.YthcecinhlhgohaaFrU
import Derived.Deep.CutRange
namespace Go.Proofs.Ythcecinhlhgohaa
open Go.RowKit
set_option linter.unusedSimpArgs false
set_option linter.unusedVariables false
set_option maxRecDepth 2000

/-- A feed keeps a list of parts. -/
theorem got_feed {x y : World} {lo q n room over : Nat} {l : List Nat} {v : Value} {xs : List Value} {ps : List (List Nat × Nat)} (hB : Buf x q room l over) (hq : q < lo) (own : x.ownsRow lo 33 2 v n xs) (hp : IsParts x (DOk lo q x v) xs ps)
    (hK : Kept x y q) (hR : RowKeep x y q) (hs : x.heap.size ≤ y.heap.size) : y.ownsRow lo 33 2 v n xs ∧ IsParts y (DOk lo q y v) xs ps := by
  refine ⟨⟨own.1, ?_⟩, hp.keep (fun b hb ⟨d1, d2, d3⟩ => ⟨hK b hb (by omega) d2, d1, hR b hb d2, d3⟩) hs⟩
  rcases own.2 with hn | ⟨g, cap, cur, rfl, hb, hg, rest⟩
  · exact .inl hn
  · have hgl : g < x.heap.size := by
      rcases Nat.lt_or_ge g x.heap.size with h | h
      · exact h
      · rw [Array.getElem?_eq_none h] at hg; cases hg
    refine .inr ⟨g, cap, cur, rfl, hb, ?_, rest⟩
    rw [hK g hgl (by omega) ?_]
    · exact hg
    · intro g' o n' c hc e
      subst e
      obtain ⟨lt, c0, ⟨A, c', c1, own'⟩, c2, z1, z2⟩ := hB
      rw [c1] at hc
      injection hc with hc
      injection hc with hA
      subst hA
      rcases own'.2 with ⟨hv, _⟩ | ⟨g2, cap2, cur2, hv, _, hg2, _⟩
      · injection hv with hA; cases hA
      · injection hv with hA
        cases hA
        rw [hg] at hg2
        injection hg2 with e
        injection e with _ ht
        exact absurd ht (by decide)
/-- What the buffer does by itself keeps a list of parts. -/
theorem got_grown {x y : World} {lo q n : Nat} {v : Value} {xs : List Value} {ps : List (List Nat × Nat)} (hq : q < lo) (own : x.ownsRow lo 33 2 v n xs) (hp : IsParts x (DOk lo q x v) xs ps)
    (hg : x.grownBy y (some q)) (hR : RowKeep x y q) : y.ownsRow lo 33 2 v n xs ∧ IsParts y (DOk lo q y v) xs ps :=
  ⟨own_grown own hg hq, hp.keep (fun b hb ⟨d1, d2, d3⟩ => ⟨hg.block b hb (fun e => by injection e with e; omega), d1, hR b hb d2, d3⟩) hg.size⟩
/-- A part more behind the list, out of another list. -/
theorem merge_round {x z : World} {lo l5 q n m room over c6 kd : Nat} {l p : List Nat} {v v5 v3 : Value} {xs ys : List Value} {ps qs : List (List Nat × Nat)} {A6 : Option Addr} {ob : Obj} (hq : q < lo) (hB : Buf x q room l over)
    (own : x.ownsRow lo 33 2 v n xs) (hp : IsParts x (DOk lo q x v) xs ps) (own5 : x.ownsRow l5 33 2 v5 m ys) (hp5 : IsParts x (DOk lo q x v) ys qs) (hne : ∀ g, v5.ownBlock = some g → v.ownBlock ≠ some g)
    (hbody : Body x (DOk lo q x v) A6 p) (hg3 : (x.alloc ob).grownBy z v.ownBlock) (hat : v3.ownBlock = v.ownBlock ∨ v3.ownBlock = some (x.heap.size + 1)) (hlo : lo ≤ x.heap.size) :
    IsParts z (DOk lo q z v3) (xs ++ [.slice A6 p.length c6, .int .i64 (kd : Nat)]) (ps ++ [(p, kd)]) ∧ z.ownsRow l5 33 2 v5 m ys ∧ IsParts z (DOk lo q z v3) ys qs ∧ (∀ g, v5.ownBlock = some g → v3.ownBlock ≠ some g) ∧ Buf z q room l over ∧ Below lo x z := by
  have hlt := own.lt
  have hbz : Below lo x z := ((Below.refl _ _).alloc hlo ob).grown hg3 (by rw [World.size_alloc]; omega) (fun k hk => (hlt k hk).1)
  have hxz := hbz.size
  have eq := hbz.block q hq
  have hkb : ∀ b, b < x.heap.size → v.ownBlock ≠ some b → z.heap[b]? = x.heap[b]? := fun b hb h => by
    rw [hg3.block b (by rw [World.size_alloc]; omega) (fun e => h e.symm)]
    exact heap_alloc_old x ob hb
  have hv3 : ∀ b, b < x.heap.size → v.ownBlock ≠ some b → v3.ownBlock ≠ some b := fun b hb h e => by
    rcases hat with hat | hat
    · exact h (hat ▸ e)
    · rw [e] at hat
      injection hat with hat
      omega
  have hk : ∀ b, b < x.heap.size → DOk lo q x v b → z.heap[b]? = x.heap[b]? ∧ DOk lo q z v3 b := fun b hb ⟨d1, d2, d3⟩ => ⟨hkb b hb d3, d1, notrow_same d2 eq, hv3 b hb d3⟩
  refine ⟨(hp.push (c := c6) (k := kd) hbody).keep hk hxz, ⟨own5.1, ?_⟩, hp5.keep hk hxz, fun g hg => hv3 g (own5.lt g hg).2 (hne g hg), ?_, hbz⟩
  · rcases own5.2 with hn | ⟨g, cap, cur, rfl, hb, hg, rest⟩
    · exact .inl hn
    · refine .inr ⟨g, cap, cur, rfl, hb, ?_, rest⟩
      rw [hkb g (own5.lt g rfl).2 (hne g rfl)]
      exact hg
  · exact Buf.grow (hB.keep ((Below.refl _ _).alloc (Nat.le_refl _) ob)) (own.alloc ob) hg3 hq
/-- A piece of a slice reads. -/
theorem reads_cut {w : World} {B : Nat} {A ao : Option Addr} {l : List Nat} {i k : Nat} (h : Reads .u8 w B A l.length (atI l)) (hk : k ≤ l.length) (hao : ∀ b o, A = some ⟨b, o, none⟩ → i < k → ao = some ⟨b, o + i, none⟩) : Reads .u8 w B ao ((l.drop i).take (k - i)).length (atI ((l.drop i).take (k - i))) := fun hn => by
  have hlen : ((l.drop i).take (k - i)).length = k - i := by rw [List.length_take, List.length_drop]; omega
  rw [hlen] at hn
  obtain ⟨b, o, rfl, hb, hc⟩ := h (by omega)
  refine ⟨b, o + i, hao b o rfl (by omega), hb, fun j hj => ?_⟩
  rw [hlen] at hj
  rw [Nat.add_assoc, atI_take (by omega), atI_drop]
  exact hc (i + j) (by omega)
end Go.Proofs.Ythcecinhlhgohaa
