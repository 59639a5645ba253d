/- What the geometry layer answers, as plain functions on integers. No condition. -/
namespace Go.Proofs.Ytjfgjlklbepnjaa

def fitsB (x y : Int) : Bool := decide (0 ≤ x ∧ x ≤ 65535 ∧ 0 ≤ y ∧ y ≤ 65535)
def rightB (a b c d : Int) : Bool := decide (0 ≤ a ∧ a ≤ 65535 ∧ 0 ≤ b ∧ b ≤ 65535 ∧ 0 ≤ c ∧ c ≤ 65535 ∧ 0 ≤ d ∧ d ≤ 65535 ∧ a ≤ c ∧ b ≤ d)
def hasB (a b c d x y : Int) : Bool := decide (rightB a b c d = true ∧ a ≤ x ∧ x ≤ c ∧ b ≤ y ∧ y ≤ d)
def inB (a b c d a' b' c' d' : Int) : Bool := decide (rightB a b c d = true ∧ rightB a' b' c' d' = true ∧ a' ≤ a ∧ c ≤ c' ∧ b' ≤ b ∧ d ≤ d')
def meetsB (a b c d a' b' c' d' : Int) : Bool := decide (rightB a b c d = true ∧ rightB a' b' c' d' = true ∧ a ≤ c' ∧ a' ≤ c ∧ b ≤ d' ∧ b' ≤ d)
def bothB (a b c d a' b' c' d' : Int) : Bool := rightB a b c d && rightB a' b' c' d'
def sel (m : Bool) (x : Int) : Int := if m then x else 0
def areaI (a b c d : Int) : Int := if rightB a b c d then (c - a + 1) * (d - b + 1) else 0
def gapI (n a b : Int) : Int := if n < a then a - n else if n > b then n - b else 0
def distI (a b c d x y : Int) : Int := if rightB a b c d && fitsB x y then gapI x a c * gapI x a c + gapI y b d * gapI y b d else 0
def apartI (x y x' y' : Int) : Int := if fitsB x y && fitsB x' y' then (x - x') * (x - x') + (y - y') * (y - y') else 0
def clampI (n lo hi : Int) : Int := max lo (min hi n)

theorem fits_iff {x y : Int} : fitsB x y = true ↔ 0 ≤ x ∧ x ≤ 65535 ∧ 0 ≤ y ∧ y ≤ 65535 := by simp [fitsB]
theorem right_iff {a b c d : Int} : rightB a b c d = true ↔ 0 ≤ a ∧ a ≤ 65535 ∧ 0 ≤ b ∧ b ≤ 65535 ∧ 0 ≤ c ∧ c ≤ 65535 ∧ 0 ≤ d ∧ d ≤ 65535 ∧ a ≤ c ∧ b ≤ d := by simp [rightB]
theorem has_iff {a b c d x y : Int} : hasB a b c d x y = true ↔ rightB a b c d = true ∧ a ≤ x ∧ x ≤ c ∧ b ≤ y ∧ y ≤ d := by simp [hasB]
theorem in_iff {a b c d a' b' c' d' : Int} : inB a b c d a' b' c' d' = true ↔ rightB a b c d = true ∧ rightB a' b' c' d' = true ∧ a' ≤ a ∧ c ≤ c' ∧ b' ≤ b ∧ d ≤ d' := by simp [inB]
theorem meets_iff {a b c d a' b' c' d' : Int} : meetsB a b c d a' b' c' d' = true ↔ rightB a b c d = true ∧ rightB a' b' c' d' = true ∧ a ≤ c' ∧ a' ≤ c ∧ b ≤ d' ∧ b' ≤ d := by simp [meetsB]
theorem sel_true (x : Int) : sel true x = x := rfl
theorem sel_false (x : Int) : sel false x = 0 := rfl

theorem sq_bd {u : Int} (h0 : -65535 ≤ u) (h1 : u ≤ 65535) : 0 ≤ u * u ∧ u * u ≤ 4294836225 := by
  have h : 0 ≤ u * u := by
    rcases Int.le_total 0 u with h | h
    · exact Int.mul_nonneg h h
    · exact Int.mul_nonneg_of_nonpos_of_nonpos h h
  refine ⟨h, ?_⟩
  rcases Int.le_total 0 u with h | h
  · calc u * u ≤ 65535 * u := Int.mul_le_mul_of_nonneg_right h1 h
      _ ≤ 4294836225 := by omega
  · have e : u * u = (-u) * (-u) := by rw [Int.neg_mul_neg]
    rw [e]
    calc (-u) * (-u) ≤ 65535 * (-u) := Int.mul_le_mul_of_nonneg_right (by omega) (by omega)
      _ ≤ 4294836225 := by omega

theorem mul_bd {u v : Int} (hu0 : 0 ≤ u) (hu1 : u ≤ 65536) (hv0 : 0 ≤ v) (hv1 : v ≤ 65536) : 0 ≤ u * v ∧ u * v ≤ 4294967296 := by
  refine ⟨Int.mul_nonneg hu0 hv0, ?_⟩
  calc u * v ≤ 65536 * v := Int.mul_le_mul_of_nonneg_right hu1 hv0
    _ ≤ 4294967296 := by omega

theorem clamp_gap {n a b : Int} (h : a ≤ b) : (n - clampI n a b) * (n - clampI n a b) = gapI n a b * gapI n a b := by
  unfold clampI gapI
  by_cases h1 : n < a
  · rw [if_pos h1, show max a (min b n) = a by omega, show n - a = -(a - n) by omega, Int.neg_mul_neg]
  · rw [if_neg h1]
    by_cases h2 : n > b
    · rw [if_pos h2, show max a (min b n) = b by omega]
    · rw [if_neg h2, show max a (min b n) = n by omega]; simp
theorem right_pt {x y : Int} : rightB x y x y = fitsB x y := by
  rw [Bool.eq_iff_iff, right_iff, fits_iff]; omega

theorem gap_sq {n a : Int} : gapI n a a * gapI n a a = (n - a) * (n - a) := by
  unfold gapI
  by_cases h1 : n < a
  · rw [if_pos h1, show n - a = -(a - n) by omega, Int.neg_mul_neg]
  · rw [if_neg h1]
    by_cases h2 : n > a
    · rw [if_pos h2]
    · rw [if_neg h2, show n - a = 0 by omega]

theorem apart_dist {x y x' y' : Int} : distI x' y' x' y' x y = apartI x y x' y' := by
  unfold distI apartI
  rw [right_pt, Bool.and_comm, gap_sq, gap_sq]

theorem dist_apart {a b c d x y : Int} (h : rightB a b c d = true) (hf : fitsB x y = true) : apartI x y (clampI x a c) (clampI y b d) = distI a b c d x y := by
  have g := right_iff.1 h
  have f := fits_iff.1 hf
  have k : fitsB (clampI x a c) (clampI y b d) = true := by rw [fits_iff]; unfold clampI; omega
  unfold distI apartI
  rw [h, hf, k, clamp_gap g.2.2.2.2.2.2.2.2.1, clamp_gap g.2.2.2.2.2.2.2.2.2]

theorem gap_bd {n a b : Int} (h0 : 0 ≤ n) (h1 : n ≤ 65535) (a0 : 0 ≤ a) (a1 : a ≤ 65535) (b0 : 0 ≤ b) (b1 : b ≤ 65535) : 0 ≤ gapI n a b ∧ gapI n a b ≤ 65535 := by
  unfold gapI; split
  · omega
  · split <;> omega

theorem meets_right {a b c d a' b' c' d' : Int} (h : rightB a b c d = true) (h' : rightB a' b' c' d' = true) :
    rightB (max a a') (max b b') (min c c') (min d d') = meetsB a b c d a' b' c' d' := by
  have g := right_iff.1 h
  have g' := right_iff.1 h'
  rw [Bool.eq_iff_iff, right_iff, meets_iff, h, h']; simp only [true_and]; omega
theorem meets_left {a b c d a' b' c' d' : Int} (h : rightB a b c d = false) : meetsB a b c d a' b' c' d' = false := by
  rw [Bool.eq_false_iff, Ne, meets_iff, h]; simp
theorem meets_other {a b c d a' b' c' d' : Int} (h : rightB a' b' c' d' = false) : meetsB a b c d a' b' c' d' = false := by
  rw [Bool.eq_false_iff, Ne, meets_iff, h]; simp
end Go.Proofs.Ytjfgjlklbepnjaa
