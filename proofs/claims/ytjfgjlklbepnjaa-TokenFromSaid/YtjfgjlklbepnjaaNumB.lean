/- Bytes read as a number: the functions walked. No condition beyond the slices' readings. -/
import Derived.Test.YtjfgjlklbepnjaaBytes
import Derived.Test.YtjfgjlklbepnjaaNumS
namespace Go.Proofs.Ytjfgjlklbepnjaa
open Go.RowKit
set_option linter.unusedSimpArgs false
set_option linter.unusedVariables false

/-- The number of the first k bytes. -/
def getF (f : Nat → Int) : Nat → Int
  | 0 => 0
  | k + 1 => 256 * getF f k + f k
theorem getF_nonneg {f : Nat → Int} (h : ∀ j, 0 ≤ f j) (k : Nat) : 0 ≤ getF f k := by
  induction k with
  | zero => exact Int.le_refl _
  | succ k ih => have := h k; rw [getF]; omega
theorem getF_lt {f : Nat → Int} (h : ∀ j, 0 ≤ f j ∧ f j ≤ 255) (k : Nat) : getF f k + 1 ≤ (256 : Int) ^ k := by
  induction k with
  | zero => simp [getF]
  | succ k ih => have := h k; rw [getF, Int.pow_succ]; omega
theorem getF_small {f : Nat → Int} (h : ∀ j, 0 ≤ f j ∧ f j ≤ 255) {k : Nat} (hk : k ≤ 7) : 0 ≤ getF f k ∧ getF f k ≤ 72057594037927935 := by
  refine ⟨getF_nonneg (fun j => (h j).1) k, ?_⟩
  have h1 := getF_lt h k
  have : (256 : Int) ^ k ≤ 256 ^ 7 := by
    match k, hk with
    | 0, _ => decide
    | 1, _ => decide
    | 2, _ => decide
    | 3, _ => decide
    | 4, _ => decide
    | 5, _ => decide
    | 6, _ => decide
    | 7, _ => decide
  have e : (256 : Int) ^ 7 = 72057594037927936 := by decide
  omega

theorem or_low {a b : Int} {k : Nat} (ha : 0 ≤ a) (hb : 0 ≤ b) (hk : b < (2 : Int) ^ k) (h : a * (2 : Int) ^ k + b < 18446744073709551616) : bits .or .u64 (a * (2 : Int) ^ k) b = a * (2 : Int) ^ k + b := by
  obtain ⟨x, rfl⟩ := Int.eq_ofNat_of_zero_le ha
  obtain ⟨y, rfl⟩ := Int.eq_ofNat_of_zero_le hb
  have e : (x : Int) * (2 : Int) ^ k = ((2 ^ k * x : Nat) : Int) := by push_cast; rw [Int.mul_comm]
  rw [e] at h ⊢
  have hy : y < 2 ^ k := by exact_mod_cast hk
  rw [u64_or_nat _ _ (by omega) (by omega), ← Nat.two_pow_add_eq_or_of_lt hy]
  rfl
theorem or_byte {a b : Int} (ha : 0 ≤ a) (ha' : a ≤ 72057594037927935) (hb : 0 ≤ b) (hb' : b ≤ 255) : bits .or .u64 (a * 256) b = 256 * a + b := by
  have := or_low (k := 8) ha hb (by simpa using (by omega : b < 256)) (by simp; omega)
  simp only [show (2 : Int) ^ 8 = 256 from rfl] at this
  rw [this]; omega
theorem or_nib {a b : Int} (ha : 0 ≤ a) (ha' : a ≤ 1152921504606846975) (hb : 0 ≤ b) (hb' : b ≤ 15) : bits .or .u64 (a * 16) b = 16 * a + b := by
  have := or_low (k := 4) ha hb (by simpa using (by omega : b < 16)) (by simp; omega)
  simp only [show (2 : Int) ^ 4 = 16 from rfl] at this
  rw [this]; omega

end Go.Proofs.Ytjfgjlklbepnjaa
