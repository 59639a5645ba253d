/- Frames that are drained: the plain law. No condition. -/
import Derived.Test.YthcecinhlhgohaaFrQ
namespace Go.Proofs.Ythcecinhlhgohaa
open Go.RowKit
set_option linter.unusedSimpArgs false
set_option linter.unusedVariables false
set_option maxRecDepth 2000

/-- Frames taken one by one, so many at the most: what came out, and what is left. -/
def drainN : Nat → List Nat → Nat → List (List Nat × Nat) × List Nat × Nat
  | 0, l, o => ([], l, o)
  | n + 1, l, o => if kindN l = 0 then ([], l, o) else ((nextB l, kindN l) :: (drainN n (nextL l) (nextO l o)).1, (drainN n (nextL l) (nextO l o)).2)
def parts (l : List Nat) : List (List Nat × Nat) := (drainN (l.length + 1) l 0).1
theorem next_shorter {l : List Nat} (h : kindN l ≠ 0) : (nextL l).length < l.length := by
  rcases kind_cases l with hk | hk | hk
  · exact absurd hk h
  · have := kind_one hk
    unfold nextL
    rw [if_pos hk, List.length_drop, List.length_drop]; omega
  · have := kind_two hk
    unfold nextL
    rw [if_neg (by omega), if_pos hk, List.length_drop, List.length_drop]; omega
theorem drain_stop {l : List Nat} (h : kindN l = 0) (n o : Nat) : drainN n l o = ([], l, o) := by
  cases n with
  | zero => rfl
  | succ n => unfold drainN; rw [if_pos h]
theorem drain_step {l : List Nat} (h : kindN l ≠ 0) (n o : Nat) : drainN (n + 1) l o = ((nextB l, kindN l) :: (drainN n (nextL l) (nextO l o)).1, (drainN n (nextL l) (nextO l o)).2) := by
  conv => lhs; unfold drainN
  rw [if_neg h]
/-- What comes out hangs neither on how often one may ask nor on what is passed over. -/
theorem drain_fuel : ∀ (n m : Nat) (l : List Nat) (o p : Nat), l.length < n → l.length < m → (drainN n l o).1 = (drainN m l p).1
  | 0, _, _, _, _, h, _ => absurd h (by omega)
  | _ + 1, 0, _, _, _, _, h => absurd h (by omega)
  | n + 1, m + 1, l, o, p, h, h' => by
    by_cases hk : kindN l = 0
    · rw [drain_stop hk, drain_stop hk]
    · have := next_shorter hk
      rw [drain_step hk, drain_step hk]
      simp only
      rw [drain_fuel n m (nextL l) (nextO l o) (nextO l p) (by omega) (by omega)]
theorem parts_stop {l : List Nat} (h : kindN l = 0) : parts l = [] := by unfold parts; rw [drain_stop h]
theorem parts_step {l : List Nat} (h : kindN l ≠ 0) : parts l = (nextB l, kindN l) :: parts (nextL l) := by
  have := next_shorter h
  unfold parts
  rw [drain_step h]
  simp only
  rw [drain_fuel l.length ((nextL l).length + 1) (nextL l) (nextO l 0) 0 (by omega) (by omega)]
theorem lenI_app {l : List Nat} (h : 2 ≤ l.length) (m : List Nat) : lenI (l ++ m) = lenI l := by
  unfold lenI
  have e0 : (l ++ m).getD 0 0 = l.getD 0 0 := by simp [List.getD, List.getElem?_append_left (show 0 < l.length by omega)]
  have e1 : (l ++ m).getD 1 0 = l.getD 1 0 := by simp [List.getD, List.getElem?_append_left (show 1 < l.length by omega)]
  rw [e0, e1]
theorem whole_app {l : List Nat} (h : kindN l = 1) (m : List Nat) : kindN (l ++ m) = 1 ∧ nextB (l ++ m) = nextB l ∧ nextL (l ++ m) = nextL l ++ m := by
  obtain ⟨h1, h2, h3⟩ := kind_one h
  have hl := lenI_app h1 m
  have hk : kindN (l ++ m) = 1 := kind_whole (by rw [List.length_append]; omega) (by omega) (by rw [List.length_append]; omega)
  have hd : (l ++ m).drop 2 = l.drop 2 ++ m := List.drop_append_of_le_length h1
  refine ⟨hk, ?_, ?_⟩
  · unfold nextB
    rw [if_pos hk, if_pos h, hl, hd, List.take_append_of_le_length (by rw [List.length_drop]; omega)]
  · unfold nextL
    rw [if_pos hk, if_pos h, hl, hd, List.drop_append_of_le_length (by rw [List.length_drop]; omega)]
theorem over_app {l : List Nat} (h : kindN l = 2) (m : List Nat) : kindN (l ++ m) = 2 ∧ nextB (l ++ m) = nextB l ∧ nextL (l ++ m) = nextL l ++ m.drop (nextO l 0) := by
  obtain ⟨h1, h2⟩ := kind_two h
  have hl := lenI_app h1 m
  have hk : kindN (l ++ m) = 2 := kind_over (by rw [List.length_append]; omega) (by omega)
  have hd : (l ++ m).drop 2 = l.drop 2 ++ m := List.drop_append_of_le_length h1
  refine ⟨hk, ?_, ?_⟩
  · unfold nextB
    rw [if_neg (show ¬ kindN (l ++ m) = 1 by omega), if_neg (show ¬ kindN l = 1 by omega)]
  · unfold nextL nextO
    rw [if_neg (show ¬ kindN (l ++ m) = 1 by omega), if_neg (show ¬ kindN l = 1 by omega), if_pos hk, if_pos h, if_pos h, hl, hd, List.length_append]
    by_cases hc : lenI l ≤ l.length - 2
    · rw [show min (lenI l) (l.length + m.length - 2) = lenI l by omega, show min (lenI l) (l.length - 2) = lenI l by omega, Nat.sub_self, List.drop_zero,
        List.drop_append_of_le_length (by rw [List.length_drop]; omega)]
    · rw [show min (lenI l) (l.length - 2) = l.length - 2 by omega, show (l.drop 2).drop (l.length - 2) = [] by rw [List.drop_eq_nil_iff, List.length_drop]; exact Nat.le_refl _, List.nil_append]
      by_cases hd2 : lenI l ≤ l.length + m.length - 2
      · rw [show min (lenI l) (l.length + m.length - 2) = lenI l by omega, List.drop_append, List.length_drop,
          show (l.drop 2).drop (lenI l) = [] by rw [List.drop_eq_nil_iff, List.length_drop]; omega, List.nil_append]
      · rw [show min (lenI l) (l.length + m.length - 2) = l.length + m.length - 2 by omega,
          show (l.drop 2 ++ m).drop (l.length + m.length - 2) = [] by rw [List.drop_eq_nil_iff, List.length_append, List.length_drop]; omega]
        exact (List.drop_eq_nil_iff.2 (by omega)).symm
theorem over_free {l : List Nat} (h : kindN l = 2) (o : Nat) : nextO l o = nextO l 0 := by unfold nextO; rw [if_pos h, if_pos h]
theorem whole_over {l : List Nat} (h : kindN l = 1) (o : Nat) : nextO l o = o := by unfold nextO; rw [if_neg (by omega)]
/-- Draining what is there first, and the rest later, is draining all at once. -/
theorem drain_app : ∀ (n : Nat) (y : List Nat) (o room : Nat) (rest : List Nat), y.length < n → (0 < y.length → o = 0) → y.length ≤ room → o ≤ 65535 → Small y →
    parts (y ++ rest.drop o) = (drainN n y o).1 ++ parts ((drainN n y o).2.1 ++ rest.drop (drainN n y o).2.2)
      ∧ kindN (drainN n y o).2.1 = 0 ∧ (0 < (drainN n y o).2.1.length → (drainN n y o).2.2 = 0) ∧ (drainN n y o).2.1.length ≤ y.length ∧ (drainN n y o).2.2 ≤ 65535 ∧ Small (drainN n y o).2.1
  | 0, _, _, _, _, h, _, _, _, _ => absurd h (by omega)
  | n + 1, y, o, room, rest, h, ho, hr, hb, hs => by
    by_cases hk : kindN y = 0
    · rw [drain_stop hk]
      exact ⟨by simp, hk, ho, Nat.le_refl _, hb, hs⟩
    · have hlt := next_shorter hk
      have h0 : o = 0 := ho (by omega)
      subst h0
      obtain ⟨f1, f2, f3, f4⟩ := next_facts hr ho hb hs
      obtain ⟨g1, g2, g3, g4, g5, g6⟩ := drain_app n (nextL y) (nextO y 0) room rest (by omega) f2 f1 f3 f4
      rw [drain_step hk]
      refine ⟨?_, g2, g3, Nat.le_of_lt (Nat.lt_of_le_of_lt g4 hlt), g5, g6⟩
      simp only [List.cons_append]
      rw [← g1, List.drop_zero]
      rcases kind_cases y with hk' | hk' | hk'
      · exact absurd hk' hk
      · obtain ⟨e1, e2, e3⟩ := whole_app hk' rest
        rw [parts_step (by omega), e1, e2, e3, hk', whole_over hk', List.drop_zero]
      · obtain ⟨e1, e2, e3⟩ := over_app hk' rest
        rw [parts_step (by omega), e1, e2, e3, hk']
theorem drain_count : ∀ (n : Nat) (l : List Nat) (o : Nat), (drainN n l o).1.length ≤ n
  | 0, _, _ => by simp [drainN]
  | n + 1, l, o => by
    by_cases hk : kindN l = 0
    · rw [drain_stop hk]; simp
    · rw [drain_step hk]
      have := drain_count n (nextL l) (nextO l o)
      simp only [List.length_cons]; omega
/-- A piece comes in: what is still to come is the same. -/
theorem feed_piece (r l : List Nat) (o at_ to : Nat) (h1 : at_ ≤ to) (h2 : to ≤ l.length) :
    r ++ (l.drop at_).drop o = (r ++ ((l.drop at_).take (to - at_)).drop (min o (to - at_))) ++ (l.drop to).drop (o - min o (to - at_)) := by
  rw [List.append_assoc]
  congr 1
  have e : l.drop at_ = (l.drop at_).take (to - at_) ++ l.drop to := by
    conv => lhs; rw [← List.take_append_drop (to - at_) (l.drop at_)]
    rw [List.drop_drop, show at_ + (to - at_) = to by omega]
  have hlen : ((l.drop at_).take (to - at_)).length = to - at_ := by rw [List.length_take, List.length_drop]; omega
  conv => lhs; rw [e]
  rw [List.drop_append, hlen]
  by_cases hc : o ≤ to - at_
  · rw [show min o (to - at_) = o by omega, show o - (to - at_) = 0 by omega, show o - o = 0 by omega]
  · rw [show min o (to - at_) = to - at_ by omega, List.drop_eq_nil_iff.2 (show _ ≤ o by rw [hlen]; omega), List.drop_eq_nil_iff.2 (show _ ≤ to - at_ by rw [hlen]; exact Nat.le_refl _)]
end Go.Proofs.Ythcecinhlhgohaa
