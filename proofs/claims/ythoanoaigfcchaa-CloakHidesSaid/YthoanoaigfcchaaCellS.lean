/- What the layer of cells answers, as plain functions. No condition. -/
import Derived.Test.YthoanoaigfcchaaGeomS2
namespace Go.Proofs.Ythoanoaigfcchaa
set_option linter.unusedSimpArgs false
set_option linter.unusedVariables false

/-- Two so many times, and the side of a level's cells. -/
def pw (l : Int) : Int := (2 : Int) ^ l.toNat
def sd (l : Int) : Int := (2 : Int) ^ (16 - l).toNat
def lvlB (l : Int) : Bool := decide (0 ≤ l ∧ l ≤ 16)
def crightB (l x y : Int) : Bool := decide (0 ≤ l ∧ l ≤ 16 ∧ 0 ≤ x ∧ 0 ≤ y ∧ x < pw l ∧ y < pw l)
theorem pw_pos (l : Int) : 0 < pw l := Int.pow_pos (by omega)
theorem sd_pos (l : Int) : 0 < sd l := Int.pow_pos (by omega)
theorem pw_sd {l : Int} (h0 : 0 ≤ l) (h1 : l ≤ 16) : pw l * sd l = 65536 := by
  unfold pw sd
  rw [← Int.pow_add, show l.toNat + (16 - l).toNat = 16 by omega]; rfl
theorem lvl_iff {l : Int} : lvlB l = true ↔ 0 ≤ l ∧ l ≤ 16 := by simp [lvlB]
theorem cright_iff {l x y : Int} : crightB l x y = true ↔ 0 ≤ l ∧ l ≤ 16 ∧ 0 ≤ x ∧ 0 ≤ y ∧ x < pw l ∧ y < pw l := by simp [crightB]
theorem pw_le {l : Int} (h1 : l ≤ 16) : pw l ≤ 65536 := by
  unfold pw
  obtain ⟨n, hn⟩ : ∃ n, l.toNat = n := ⟨_, rfl⟩
  have hn' : n ≤ 16 := by omega
  rw [hn]
  have h2 := Nat.pow_le_pow_right (n := 2) (by omega) hn'
  have h3 : ((2 : Int) ^ n) = ((2 ^ n : Nat) : Int) := by push_cast; rfl
  have h4 : (2 : Nat) ^ 16 = 65536 := by decide
  omega
theorem sd_le {l : Int} (h1 : 0 ≤ l) : sd l ≤ 65536 := by
  have := pw_le (l := 16 - l) (by omega)
  exact this
theorem sd_pw (l : Int) : sd l = pw (16 - l) := rfl
/-- A cell's numbers, times the side, are the grid's. -/
theorem grid_lt {l x : Int} (h0 : 0 ≤ l) (h1 : l ≤ 16) (x0 : 0 ≤ x) (x1 : x < pw l) : 0 ≤ x * sd l ∧ x * sd l + sd l ≤ 65536 := by
  have h := pw_sd h0 h1
  have hs := sd_pos l
  refine ⟨Int.mul_nonneg x0 (by omega), ?_⟩
  have := Int.mul_le_mul_of_nonneg_right (show x + 1 ≤ pw l by omega) (show 0 ≤ sd l by omega)
  rw [Int.add_mul] at this
  omega
/-- A number of the grid is of the cell that its division by the side tells. -/
theorem div_iff {n s x : Int} (hs : 0 < s) : (x * s ≤ n ∧ n ≤ x * s + s - 1) ↔ n / s = x := by
  constructor
  · rintro ⟨h1, h2⟩
    have e := Int.emod_add_mul_ediv n s
    rw [Int.le_antisymm_iff]
    constructor
    · have : n / s < x + 1 := Int.ediv_lt_of_lt_mul hs (by rw [Int.add_mul]; omega)
      omega
    · exact Int.le_ediv_of_mul_le hs h1
  · rintro rfl
    have h1 := Int.emod_nonneg n (show s ≠ 0 by omega)
    have h2 := Int.emod_lt_of_pos n hs
    have e := Int.emod_add_mul_ediv n s
    rw [Int.mul_comm] at e
    omega
theorem div_grid {l n : Int} (h0 : 0 ≤ l) (h1 : l ≤ 16) (n0 : 0 ≤ n) (n1 : n ≤ 65535) : 0 ≤ n / sd l ∧ n / sd l < pw l := by
  refine ⟨Int.ediv_nonneg n0 (by have := sd_pos l; omega), Int.ediv_lt_of_lt_mul (sd_pos l) ?_⟩
  rw [pw_sd h0 h1]; omega
end Go.Proofs.Ythoanoaigfcchaa
