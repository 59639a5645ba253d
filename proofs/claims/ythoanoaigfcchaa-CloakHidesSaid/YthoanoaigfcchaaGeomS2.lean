/- What follows of the geometry layer's plain functions: hulls, cuts, nearest points. No condition. -/
import Derived.Test.YthoanoaigfcchaaGeomS
namespace Go.Proofs.Ythoanoaigfcchaa
theorem in_hull {a b c d a' b' c' d' p q r s : Int} (h1 : inB a b c d p q r s = true) (h2 : inB a' b' c' d' p q r s = true) :
    bothB a b c d a' b' c' d' = true ∧ inB (min a a') (min b b') (max c c') (max d d') p q r s = true := by
  have g1 := in_iff.1 h1
  have g2 := in_iff.1 h2
  refine ⟨by simp [bothB, g1.1, g2.1], in_iff.2 ⟨?_, g1.2.1, by omega, by omega, by omega, by omega⟩⟩
  have r1 := right_iff.1 g1.1
  have r2 := right_iff.1 g2.1
  exact right_iff.2 (by omega)

theorem hull_has {a b c d a' b' c' d' : Int} (h1 : rightB a b c d = true) (h2 : rightB a' b' c' d' = true) :
    inB a b c d (min a a') (min b b') (max c c') (max d d') = true ∧ inB a' b' c' d' (min a a') (min b b') (max c c') (max d d') = true := by
  have r1 := right_iff.1 h1
  have r2 := right_iff.1 h2
  have r3 : rightB (min a a') (min b b') (max c c') (max d d') = true := right_iff.2 (by omega)
  exact ⟨in_iff.2 ⟨h1, r3, by omega, by omega, by omega, by omega⟩, in_iff.2 ⟨h2, r3, by omega, by omega, by omega, by omega⟩⟩

theorem has_hull {a b c d a' b' c' d' x y : Int} (h1 : rightB a b c d = true) (h2 : rightB a' b' c' d' = true) (h : hasB a b c d x y = true ∨ hasB a' b' c' d' x y = true) :
    hasB (min a a') (min b b') (max c c') (max d d') x y = true := by
  have r1 := right_iff.1 h1
  have r2 := right_iff.1 h2
  rw [has_iff]
  refine ⟨right_iff.2 (by omega), ?_⟩
  rcases h with h | h
  all_goals
    have := has_iff.1 h
    omega

theorem has_meet {a b c d a' b' c' d' x y : Int} (h : meetsB a b c d a' b' c' d' = true) :
    hasB (max a a') (max b b') (min c c') (min d d') x y = (hasB a b c d x y && hasB a' b' c' d' x y) := by
  have g := meets_iff.1 h
  have r1 := right_iff.1 g.1
  have r2 := right_iff.1 g.2.1
  have r3 : rightB (max a a') (max b b') (min c c') (min d d') = true := right_iff.2 (by omega)
  rw [Bool.eq_iff_iff, Bool.and_eq_true, has_iff, has_iff, has_iff, r3, g.1, g.2.1]
  simp only [true_and]; omega

theorem meet_none {a b c d a' b' c' d' x y : Int} (h : meetsB a b c d a' b' c' d' = false) : (hasB a b c d x y && hasB a' b' c' d' x y) = false := by
  rw [Bool.eq_false_iff] at h ⊢
  intro k
  rw [Bool.and_eq_true, has_iff, has_iff] at k
  exact h (meets_iff.2 ⟨k.1.1, k.2.1, by omega, by omega, by omega, by omega⟩)

theorem has_none {a b c d x y : Int} (h : rightB a b c d = false) : hasB a b c d x y = false := by
  rw [Bool.eq_false_iff, Ne, has_iff, h]; simp

theorem area_bd (a b c d : Int) : 0 ≤ areaI a b c d ∧ areaI a b c d ≤ 4294967296 := by
  unfold areaI
  split
  · rename_i h
    have g := right_iff.1 h
    exact mul_bd (by omega) (by omega) (by omega) (by omega)
  · omega

theorem cut_down {a b c d m : Int} (h : rightB a b c d = true) (h0 : b ≤ m) (h1 : m < d) :
    rightB a b c m = true ∧ rightB a (m + 1) c d = true ∧ areaI a b c m + areaI a (m + 1) c d = areaI a b c d ∧ meetsB a b c m a (m + 1) c d = false := by
  have g := right_iff.1 h
  have r1 : rightB a b c m = true := right_iff.2 (by omega)
  have r2 : rightB a (m + 1) c d = true := right_iff.2 (by omega)
  refine ⟨r1, r2, ?_, ?_⟩
  · unfold areaI
    rw [h, r1, r2, if_pos rfl, if_pos rfl, if_pos rfl, ← Int.mul_add]
    congr 1; omega
  · rw [Bool.eq_false_iff, Ne, meets_iff]; omega

theorem cut_side {a b c d m : Int} (h : rightB a b c d = true) (h0 : a ≤ m) (h1 : m < c) :
    rightB a b m d = true ∧ rightB (m + 1) b c d = true ∧ areaI a b m d + areaI (m + 1) b c d = areaI a b c d ∧ meetsB a b m d (m + 1) b c d = false := by
  have g := right_iff.1 h
  have r1 : rightB a b m d = true := right_iff.2 (by omega)
  have r2 : rightB (m + 1) b c d = true := right_iff.2 (by omega)
  refine ⟨r1, r2, ?_, ?_⟩
  · unfold areaI
    rw [h, r1, r2, if_pos rfl, if_pos rfl, if_pos rfl, ← Int.add_mul]
    congr 1; omega
  · rw [Bool.eq_false_iff, Ne, meets_iff]; omega

theorem near_has {a b c d x y : Int} (h : rightB a b c d = true) : hasB a b c d (clampI x a c) (clampI y b d) = true := by
  have g := right_iff.1 h
  exact has_iff.2 ⟨h, by unfold clampI; omega, by unfold clampI; omega, by unfold clampI; omega, by unfold clampI; omega⟩

theorem sq_zero {u : Int} : u * u = 0 ↔ u = 0 := by
  constructor
  · intro h; rcases Int.mul_eq_zero.1 h with h | h <;> exact h
  · rintro rfl; rfl
theorem sq_nonneg (u : Int) : 0 ≤ u * u := by
  rcases Int.le_total 0 u with h | h
  · exact Int.mul_nonneg h h
  · exact Int.mul_nonneg_of_nonpos_of_nonpos h h
theorem sq_le {u v : Int} (h0 : 0 ≤ u) (h : u ≤ v ∨ u ≤ -v) : u * u ≤ v * v := by
  rcases h with h | h
  · exact Int.mul_le_mul h h h0 (by omega)
  · have e : v * v = (-v) * (-v) := by rw [Int.neg_mul_neg]
    rw [e]; exact Int.mul_le_mul h h h0 (by omega)
theorem sq_lt {u v : Int} (h0 : 0 ≤ u) (h : u < v ∨ u < -v) : u * u < v * v := by
  have h1 : (u + 1) * (u + 1) ≤ v * v := sq_le (by omega) (by omega)
  have h2 : (u + 1) * (u + 1) = u * u + 2 * u + 1 := by rw [Int.add_mul, Int.mul_add]; omega
  omega

theorem gap_nn (n a b : Int) : 0 ≤ gapI n a b := by unfold gapI; split <;> (try split) <;> omega

theorem dist_zero {a b c d x y : Int} (h : rightB a b c d = true) (hf : fitsB x y = true) : (distI a b c d x y == 0) = hasB a b c d x y := by
  have g := right_iff.1 h
  have s1 := sq_nonneg (gapI x a c)
  have s2 := sq_nonneg (gapI y b d)
  rw [Bool.eq_iff_iff, beq_iff_eq, has_iff, h]
  unfold distI
  rw [h, hf, Bool.and_self, if_pos rfl]
  have e : gapI x a c * gapI x a c + gapI y b d * gapI y b d = 0 ↔ gapI x a c * gapI x a c = 0 ∧ gapI y b d * gapI y b d = 0 := by omega
  rw [e, sq_zero, sq_zero]
  simp only [true_and]
  unfold gapI
  constructor
  · rintro ⟨h1, h2⟩
    split at h1 <;> (try split at h1) <;> split at h2 <;> (try split at h2) <;> omega
  · intro h
    refine ⟨?_, ?_⟩
    · rw [if_neg (by omega), if_neg (by omega)]
    · rw [if_neg (by omega), if_neg (by omega)]

/-- A point of the rectangle is no nearer than the nearest one; only that one is as near. -/
theorem near_least {a b c d x y x' y' : Int} (h : rightB a b c d = true) (hf : fitsB x y = true) (hq : hasB a b c d x' y' = true) :
    distI a b c d x y ≤ apartI x y x' y' ∧ (¬ (x' = clampI x a c ∧ y' = clampI y b d) → distI a b c d x y < apartI x y x' y') := by
  have g := right_iff.1 h
  have q := has_iff.1 hq
  have fq : fitsB x' y' = true := fits_iff.2 (by omega)
  have gx := gap_nn x a c
  have gy := gap_nn y b d
  have kx : gapI x a c ≤ x - x' ∨ gapI x a c ≤ -(x - x') := by unfold gapI; split <;> (try split) <;> omega
  have ky : gapI y b d ≤ y - y' ∨ gapI y b d ≤ -(y - y') := by unfold gapI; split <;> (try split) <;> omega
  have lx := sq_le gx kx
  have ly := sq_le gy ky
  unfold distI apartI
  rw [h, hf, fq, Bool.and_self, if_pos rfl, if_pos rfl]
  refine ⟨by omega, fun hne => ?_⟩
  by_cases ex : x' = clampI x a c
  · have ey : ¬ y' = clampI y b d := fun e => hne ⟨ex, e⟩
    have : gapI y b d < y - y' ∨ gapI y b d < -(y - y') := by
      unfold clampI at ey
      unfold gapI; split <;> (try split) <;> omega
    have := sq_lt gy this
    omega
  · have : gapI x a c < x - x' ∨ gapI x a c < -(x - x') := by
      unfold clampI at ex
      unfold gapI; split <;> (try split) <;> omega
    have := sq_lt gx this
    omega
end Go.Proofs.Ythoanoaigfcchaa
