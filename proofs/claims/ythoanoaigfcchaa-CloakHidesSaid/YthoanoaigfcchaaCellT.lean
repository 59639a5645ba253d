/- The arithmetic of cells: plain laws. No condition. -/
import Derived.Test.YthoanoaigfcchaaCellS
namespace Go.Proofs.Ythoanoaigfcchaa
set_option linter.unusedSimpArgs false
set_option linter.unusedVariables false

theorem sd_mul {l m : Int} (h0 : 0 ≤ m) (h1 : m ≤ l) (h2 : l ≤ 16) : sd m = sd l * pw (l - m) := by
  unfold sd pw
  rw [← Int.pow_add, show (16 - l).toNat + (l - m).toNat = (16 - m).toNat by omega]
theorem pw_mul {l m : Int} (h0 : 0 ≤ m) (h1 : m ≤ l) : pw l = pw m * pw (l - m) := by
  unfold pw
  rw [← Int.pow_add, show m.toNat + (l - m).toNat = l.toNat by omega]
theorem div_div' {n s q : Int} (hs : 0 < s) : n / (s * q) = n / s / q := (Int.ediv_ediv_of_nonneg (Int.le_of_lt hs)).symm
/-- A number of a cell, divided by the side, is the cell's. -/
theorem div_in {x s r : Int} (hs : 0 < s) (h0 : 0 ≤ r) (h1 : r < s) : (x * s + r) / s = x := (div_iff hs).1 ⟨by omega, by omega⟩
theorem div_of {x s : Int} (hs : 0 < s) : x * s / s = x := by have := div_in (x := x) hs (Int.le_refl 0) hs; rwa [Int.add_zero] at this
theorem div_last {x s : Int} (hs : 0 < s) : (x * s + s - 1) / s = x := by have := div_in (x := x) (r := s - 1) hs (by omega) (by omega); rwa [show x * s + (s - 1) = x * s + s - 1 by omega] at this
/-- A cell's box is in the box of the cell that it stands under. -/
theorem under_box {x s q : Int} (hs : 0 < s) (hq : 0 < q) : x / q * (s * q) ≤ x * s ∧ x * s + s - 1 ≤ x / q * (s * q) + s * q - 1 := by
  have e := (div_iff (n := x) (x := x / q) hq).2 rfl
  have h1 := Int.mul_le_mul_of_nonneg_right e.1 (Int.le_of_lt hs)
  have h2 := Int.mul_le_mul_of_nonneg_right (show x + 1 ≤ x / q * q + q by omega) (Int.le_of_lt hs)
  rw [Int.add_mul, Int.add_mul, Int.one_mul] at h2
  rw [show x / q * (s * q) = x / q * q * s by rw [Int.mul_comm s q, Int.mul_assoc], Int.mul_comm s q]
  omega
theorem le_div {n u s : Int} (hs : 0 < s) : u * s ≤ n ↔ u ≤ n / s := (Int.le_ediv_iff_mul_le hs).symm
theorem last_div {n u s : Int} (hs : 0 < s) : n ≤ u * s + s - 1 ↔ n / s ≤ u := by
  constructor
  · intro h
    have := Int.ediv_lt_of_lt_mul hs (show n < (u + 1) * s by rw [Int.add_mul]; omega)
    omega
  · intro h
    have e := (div_iff (n := n) (x := n / s) hs).2 rfl
    have := Int.mul_le_mul_of_nonneg_right h (Int.le_of_lt hs)
    omega
/-- Snapped again: of a snapped number the lower level's cell is the number's own. -/
theorem snap_again {n s q r : Int} (hs : 0 < s) (h0 : 0 ≤ r) (h1 : r < s) : (n / s * s + r) / (s * q) = n / (s * q) := by
  rw [div_div' hs, div_div' hs, div_in hs h0 h1]
theorem mul_le_iff {u v s : Int} (hs : 0 < s) : u * s ≤ v * s ↔ u ≤ v := by
  constructor
  · intro h
    rcases Int.lt_or_le v u with h1 | h1
    · have := Int.mul_le_mul_of_nonneg_right (show v + 1 ≤ u from h1) (Int.le_of_lt hs)
      rw [Int.add_mul] at this
      omega
    · exact h1
  · intro h; exact Int.mul_le_mul_of_nonneg_right h (Int.le_of_lt hs)

/-- A snapped rectangle may be. -/
theorem snap_right {a b c d l : Int} (h0 : 0 ≤ l) (h1 : l ≤ 16) (h : rightB a b c d = true) : rightB (a / sd l * sd l) (b / sd l * sd l) (c / sd l * sd l + sd l - 1) (d / sd l * sd l + sd l - 1) = true := by
  have g := right_iff.1 h
  have hs := sd_pos l
  have ga := div_grid h0 h1 (n := a) (by omega) (by omega)
  have gb := div_grid h0 h1 (n := b) (by omega) (by omega)
  have gc := div_grid h0 h1 (n := c) (by omega) (by omega)
  have gd := div_grid h0 h1 (n := d) (by omega) (by omega)
  have qa := grid_lt h0 h1 ga.1 ga.2
  have qb := grid_lt h0 h1 gb.1 gb.2
  have qc := grid_lt h0 h1 gc.1 gc.2
  have qd := grid_lt h0 h1 gd.1 gd.2
  have ac : a / sd l ≤ c / sd l := Int.ediv_le_ediv hs (by omega)
  have bd : b / sd l ≤ d / sd l := Int.ediv_le_ediv hs (by omega)
  have ac' := (mul_le_iff hs).2 ac
  have bd' := (mul_le_iff hs).2 bd
  rw [right_iff]
  omega
/-- A cell's box may be. -/
theorem box_right {l x y : Int} (h : crightB l x y = true) : rightB (x * sd l) (y * sd l) (x * sd l + sd l - 1) (y * sd l + sd l - 1) = true := by
  obtain ⟨l0, l1, x0, y0, x1, y1⟩ := cright_iff.1 h
  have qx := grid_lt l0 l1 x0 x1
  have qy := grid_lt l0 l1 y0 y1
  have hs := sd_pos l
  rw [right_iff]; omega
end Go.Proofs.Ythoanoaigfcchaa
