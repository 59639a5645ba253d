/- Bytes read as a number: the functions walked. No condition beyond the slices' readings. -/
import Derived.Test.YtdjkhcnejbinjaaBytes
import Derived.Test.YtdjkhcnejbinjaaNumS
namespace Go.Proofs.Ytdjkhcnejbinjaa
open Go.RowKit
set_option linter.unusedSimpArgs false
set_option linter.unusedVariables false

/-- The number of the first k bytes. -/
def getF (f : Nat → Int) : Nat → Int
  | 0 => 0
  | k + 1 => 256 * getF f k + f k
theorem getF_nonneg {f : Nat → Int} (h : ∀ j, 0 ≤ f j) (k : Nat) : 0 ≤ getF f k := by
  induction k with
  | zero => exact Int.le_refl _
  | succ k ih => have := h k; rw [getF]; omega
theorem getF_lt {f : Nat → Int} (h : ∀ j, 0 ≤ f j ∧ f j ≤ 255) (k : Nat) : getF f k + 1 ≤ (256 : Int) ^ k := by
  induction k with
  | zero => simp [getF]
  | succ k ih => have := h k; rw [getF, Int.pow_succ]; omega
theorem getF_small {f : Nat → Int} (h : ∀ j, 0 ≤ f j ∧ f j ≤ 255) {k : Nat} (hk : k ≤ 7) : 0 ≤ getF f k ∧ getF f k ≤ 72057594037927935 := by
  refine ⟨getF_nonneg (fun j => (h j).1) k, ?_⟩
  have h1 := getF_lt h k
  have : (256 : Int) ^ k ≤ 256 ^ 7 := by
    match k, hk with
    | 0, _ => decide
    | 1, _ => decide
    | 2, _ => decide
    | 3, _ => decide
    | 4, _ => decide
    | 5, _ => decide
    | 6, _ => decide
    | 7, _ => decide
  have e : (256 : Int) ^ 7 = 72057594037927936 := by decide
  omega

theorem or_low {a b : Int} {k : Nat} (ha : 0 ≤ a) (hb : 0 ≤ b) (hk : b < (2 : Int) ^ k) (h : a * (2 : Int) ^ k + b < 18446744073709551616) : bits .or .u64 (a * (2 : Int) ^ k) b = a * (2 : Int) ^ k + b := by
  obtain ⟨x, rfl⟩ := Int.eq_ofNat_of_zero_le ha
  obtain ⟨y, rfl⟩ := Int.eq_ofNat_of_zero_le hb
  have e : (x : Int) * (2 : Int) ^ k = ((2 ^ k * x : Nat) : Int) := by push_cast; rw [Int.mul_comm]
  rw [e] at h ⊢
  have hy : y < 2 ^ k := by exact_mod_cast hk
  rw [u64_or_nat _ _ (by omega) (by omega), ← Nat.two_pow_add_eq_or_of_lt hy]
  rfl
theorem or_byte {a b : Int} (ha : 0 ≤ a) (ha' : a ≤ 72057594037927935) (hb : 0 ≤ b) (hb' : b ≤ 255) : bits .or .u64 (a * 256) b = 256 * a + b := by
  have := or_low (k := 8) ha hb (by simpa using (by omega : b < 256)) (by simp; omega)
  simp only [show (2 : Int) ^ 8 = 256 from rfl] at this
  rw [this]; omega
theorem or_nib {a b : Int} (ha : 0 ≤ a) (ha' : a ≤ 1152921504606846975) (hb : 0 ≤ b) (hb' : b ≤ 15) : bits .or .u64 (a * 16) b = 16 * a + b := by
  have := or_low (k := 4) ha hb (by simpa using (by omega : b < 16)) (by simp; omega)
  simp only [show (2 : Int) ^ 4 = 16 from rfl] at this
  rw [this]; omega

set_option maxHeartbeats 2000000 in
theorem get_any (A : Option Addr) (n c : Nat) (f : Nat → Int) (w : World) (ha : Reads .u8 w w.heap.size A n f) (hf : ∀ j, 0 ≤ f j ∧ f j ≤ 255) (hn : n ≤ 9223372036854775807) (h1 : 1 ≤ n) (h8 : n ≤ 8) :
    Calls Try.prog 48 #[.slice A n c] w fun e w' => e = .returned (.tuple #[.int .u64 (getF f n), .int .i64 0]) ∧ Below w.heap.size w w' := by
  have HF := Lib.hid hf
  have HA := Lib.hid ha
  clear ha hf
  go_enter Try.func48, Try.ntmps48
  go_wp2
  go_loop [4, 17] (fun v i => ∃ k : Nat, k ≤ n ∧ i = .int .i64 k ∧ v = .int .u64 (getF f k)) (fun _ i => n - (intOf i).toNat)
  case atStart => exact ⟨0, Nat.zero_le _, rfl, rfl⟩
  case round =>
    obtain ⟨k, hk, rfl, rfl⟩ := hrel
    by_cases hlt : k < n
    · obtain ⟨b, o, rfl, hB, hc⟩ := HA.out (by omega)
      have h1 := hc k hlt
      have hs := getF_small HF.out (k := k) (by omega)
      have hb := HF.out k
      have ho := or_byte hs.1 hs.2 hb.1 hb.2
      have HO := Lib.hid ho
      clear hc ho
      go_wp2
      go_round
      case rel => exact ⟨k + 1, by omega, by go_num, by rw [HO.out]; rfl⟩
      case measure => simp [intOf]; omega
    · obtain rfl : k = n := by omega
      go_wp2
      go_ret2
      exact ⟨rfl, Below.refl _ _⟩
theorem get_none (A : Option Addr) (n c : Nat) (w : World) (hn : n ≤ 9223372036854775807) (h : n < 1 ∨ 8 < n) :
    Calls Try.prog 48 #[.slice A n c] w fun e w' => e = .returned (.tuple #[.int .u64 0, .int .i64 1]) ∧ Below w.heap.size w w' := by
  rcases h with h | h
  all_goals
    go_enter Try.func48, Try.ntmps48
    go_wp2
    go_ret2
    exact ⟨rfl, Below.refl _ _⟩
end Go.Proofs.Ytdjkhcnejbinjaa
