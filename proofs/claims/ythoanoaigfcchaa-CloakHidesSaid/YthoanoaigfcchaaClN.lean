/- What a cloak found says: plain facts. No condition. -/
import Derived.Test.YthoanoaigfcchaaClL2
namespace Go.Proofs.Ythoanoaigfcchaa
open Go.RowKit Go.Maps
set_option linter.unusedSimpArgs false
set_option linter.unusedVariables false
set_option maxRecDepth 2000

theorem does_mono {K A n a n' a' : Int} (h : doesB K A n a = true) (hn : n ≤ n') (ha : a ≤ a') : doesB K A n' a' = true := by
  unfold doesB at *
  simp only [decide_eq_true_eq] at *
  omega
theorem does_more {K A K' A' n a : Int} (h : doesB K' A' n a = true) (hK : K ≤ K') (hA : A ≤ A') (hr : rightK K = true) : doesB K A n a = true := by
  unfold doesB at *
  unfold rightK at *
  simp only [decide_eq_true_eq] at *
  omega
theorem better_ne {d1 d2 : Bool} {n1 n2 : Int} : betterK d1 d2 n1 n2 ≠ 3 ↔ d1 = true ∨ d2 = true := by
  unfold betterK
  cases d1 <;> cases d2 <;> by_cases h : n1 ≤ n2 <;> simp [h]
theorem better_in (d1 d2 : Bool) (n1 n2 : Int) : (betterK d1 d2 n1 n2 = 1 ∧ d1 = true) ∨ (betterK d1 d2 n1 n2 = 2 ∧ d2 = true) ∨ betterK d1 d2 n1 n2 = 3 := by
  unfold betterK
  cases d1 <;> cases d2 <;> by_cases h : n1 ≤ n2 <;> simp [h]
section
variable {N : Int → Int → Int → Int} {K A l x y : Int}
/-- How it is found, and what does. -/
theorem atK_cases (N : Int → Int → Int → Int) (K A l x y : Int) : (atK N K A l x y = 0 ∧ doesB K A (N l x y) (boA l x y) = true)
    ∨ (atK N K A l x y = 1 ∧ doesB K A (N l x y) (boA l x y) = false ∧ l ≠ 0 ∧ doesB K A (N l x y + N l (otherI x) y) (huA l x y (otherI x) y) = true)
    ∨ (atK N K A l x y = 2 ∧ doesB K A (N l x y) (boA l x y) = false ∧ l ≠ 0 ∧ doesB K A (N l x y + N l x (otherI y)) (huA l x y x (otherI y)) = true)
    ∨ (atK N K A l x y = 3 ∧ doesB K A (N l x y) (boA l x y) = false) := by
  unfold atK
  cases h1 : doesB K A (N l x y) (boA l x y) with
  | true => exact .inl ⟨by simp, rfl⟩
  | false =>
    rw [if_neg (by simp)]
    by_cases h2 : l = 0
    · rw [if_pos h2]
      exact .inr (.inr (.inr ⟨rfl, rfl⟩))
    · rw [if_neg h2]
      rcases better_in (doesB K A (N l x y + N l (otherI x) y) (huA l x y (otherI x) y)) (doesB K A (N l x y + N l x (otherI y)) (huA l x y x (otherI y))) (N l x y + N l (otherI x) y) (N l x y + N l x (otherI y)) with ⟨h, h'⟩ | ⟨h, h'⟩ | h
      · exact .inr (.inl ⟨h, rfl, h2, h'⟩)
      · exact .inr (.inr (.inl ⟨h, rfl, h2, h'⟩))
      · exact .inr (.inr (.inr ⟨h, rfl⟩))
theorem atK_ne : atK N K A l x y ≠ 3 ↔ doesB K A (N l x y) (boA l x y) = true ∨ (l ≠ 0 ∧ (doesB K A (N l x y + N l (otherI x) y) (huA l x y (otherI x) y) = true ∨ doesB K A (N l x y + N l x (otherI y)) (huA l x y x (otherI y)) = true)) := by
  unfold atK
  by_cases h1 : doesB K A (N l x y) (boA l x y) = true
  · rw [if_pos h1]
    simp [h1]
  · rw [if_neg h1]
    by_cases h2 : l = 0
    · rw [if_pos h2]
      subst h2
      simp [h1]
    · rw [if_neg h2, better_ne]
      simp [h1, h2]
/-- Its level, and its kind. -/
theorem atV_lev (h : atK N K A l x y ≠ 3) : ∃ a b c d n, atV N l x y (atK N K A l x y) = .agg #[.int .i64 a, .int .i64 b, .int .i64 c, .int .i64 d, .int .i64 l, .int .i64 x, .int .i64 y, .int .i64 (atK N K A l x y), .int .i64 n] := by
  rcases atK_cases N K A l x y with ⟨e, _⟩ | ⟨e, _⟩ | ⟨e, _⟩ | ⟨e, _⟩
  · rw [e]; exact ⟨_, _, _, _, _, rfl⟩
  · rw [e]; exact ⟨_, _, _, _, _, rfl⟩
  · rw [e]; exact ⟨_, _, _, _, _, rfl⟩
  · exact absurd e h
end
theorem inL_lq (P : List (Int × Int)) (a b c d : Int) : inL P a b c d ≤ P.length := List.countP_le_length
theorem cntP_le (P : List (Int × Int)) (l x y : Int) : cntP P l x y ≤ P.length := by
  unfold cntP
  have := inL_lq P (x * sd l) (y * sd l) (x * sd l + sd l - 1) (y * sd l + sd l - 1)
  split <;> omega
theorem top_all {P : List (Int × Int)} (hg : GoodP P) {x y : Int} (hf : fitsB x y = true) : cntP P 0 (x / sd 0) (y / sd 0) = P.length := by
  have hc : crightB 0 (x / sd 0) (y / sd 0) = true := cof_right hf (by decide) (by decide)
  unfold cntP
  rw [if_pos hc]
  congr 1
  unfold inL
  rw [List.countP_eq_length]
  intro p hp
  have hp' := hg p hp
  rw [has_cell hc hp']
  have e : sd 0 = 65536 := by decide
  rw [fits_iff] at hf hp'
  rw [e]
  omega
theorem top_area {x y : Int} (hf : fitsB x y = true) : boA 0 (x / sd 0) (y / sd 0) = 4294967296 := by
  have e : sd 0 = 65536 := by decide
  rw [fits_iff] at hf
  rw [e, show x / 65536 = 0 by omega, show y / 65536 = 0 by omega]
  decide +kernel
/-- None is found where even all of the points in the whole of the square do not. -/
theorem none_iff {P : List (Int × Int)} (hg : GoodP P) {x y K A : Int} (hf : fitsB x y = true) : (∀ j : Nat, j ≤ 16 → lvA (cntP P) K A x y j = 3) ↔ doesB K A P.length 4294967296 = false := by
  constructor
  · intro h
    have h16 := h 16 (Nat.le_refl _)
    cases hd : doesB K A P.length 4294967296 with
    | false => rfl
    | true =>
      refine absurd h16 (atK_ne.2 (.inl ?_))
      rw [show (16 : Int) - ((16 : Nat) : Int) = 0 by decide, top_all hg hf, top_area hf]
      exact hd
  · intro h j hj
    apply Classical.byContradiction
    intro hne
    have hc : crightB (16 - (j : Int)) (x / sd (16 - (j : Int))) (y / sd (16 - (j : Int))) = true := cof_right hf (by omega) (by omega)
    have key : doesB K A P.length 4294967296 = true := by
      rcases atK_ne.1 hne with h1 | ⟨h0, h1 | h1⟩
      · exact does_mono h1 (cntP_le _ _ _ _) (area_bd _ _ _ _).2
      · refine does_mono h1 ?_ (area_bd _ _ _ _).2
        rw [← inL_beside hg hc (by omega)]
        exact Int.ofNat_le.2 (inL_lq _ _ _ _ _)
      · refine does_mono h1 ?_ (area_bd _ _ _ _).2
        rw [← inL_over hg hc (by omega)]
        exact Int.ofNat_le.2 (inL_lq _ _ _ _ _)
    rw [h] at key
    exact Bool.noConfusion key
/-- Who asks less is found no later. -/
theorem more_le {N : Int → Int → Int → Int} {K A K' A' x y : Int} {i j : Nat} (hK : K ≤ K') (hA : A ≤ A') (hr : rightK K = true) (hj : lvA N K' A' x y j ≠ 3) (hi : ∀ t, t < i → lvA N K A x y t = 3) : i ≤ j := by
  apply Classical.byContradiction
  intro hij
  refine absurd (hi j (by omega)) (atK_ne.2 ?_)
  rcases atK_ne.1 hj with h1 | ⟨h0, h1 | h1⟩
  · exact .inl (does_more h1 hK hA hr)
  · exact .inr ⟨h0, .inl (does_more h1 hK hA hr)⟩
  · exact .inr ⟨h0, .inr (does_more h1 hK hA hr)⟩
/-- Below the one found, and at it unless it is the cell's own, no cell's own box does. -/
theorem least_no {P : List (Int × Int)} {K A x y : Int} {j i : Nat} (hall : ∀ t, t < j → lvA (cntP P) K A x y t = 3) (hi : i ≤ 16) (hij : i < j ∨ (i = j ∧ lvA (cntP P) K A x y j ≠ 0)) : doesB K A (cntP P (16 - (i : Int)) (x / sd (16 - (i : Int))) (y / sd (16 - (i : Int)))) (boA (16 - (i : Int)) (x / sd (16 - (i : Int))) (y / sd (16 - (i : Int)))) = false := by
  rcases atK_cases (cntP P) K A (16 - (i : Int)) (x / sd (16 - (i : Int))) (y / sd (16 - (i : Int))) with ⟨e, h⟩ | ⟨_, h, _⟩ | ⟨_, h, _⟩ | ⟨_, h⟩
  · exfalso
    rcases hij with h1 | ⟨rfl, h1⟩
    · have h2 := hall i h1
      unfold lvA at h2
      rw [h2] at e
      exact absurd e (by decide)
    · exact h1 e
  · exact h
  · exact h
  · exact h
end Go.Proofs.Ythoanoaigfcchaa
