/- Codes and back: plain laws. No condition. -/
import Derived.Test.YthoanoaigfcchaaCellT2
import Derived.Test.YthoanoaigfcchaaCellG
namespace Go.Proofs.Ythoanoaigfcchaa
set_option linter.unusedSimpArgs false
set_option linter.unusedVariables false
theorem code_back : ∀ (k c : Nat), c < 4 ^ k → codeN k (fxN c k) (fyN c k) = c
  | 0, c, h => by simp at h; simp [codeN, h]
  | k + 1, c, h => by
    rw [codeN, fxN_low, fyN_low]
    have hc : c / 4 < 4 ^ k := by rw [Nat.pow_succ] at h; omega
    have ih := code_back k (c / 4) hc
    have e1 : (2 * fxN (c / 4) k + c % 2) / 2 = fxN (c / 4) k := by omega
    have e2 : (2 * fyN (c / 4) k + c / 2 % 2) / 2 = fyN (c / 4) k := by omega
    rw [e1, e2, ih]
    omega
theorem from_back : ∀ (k x y : Nat), x < 2 ^ k → y < 2 ^ k → fxN (codeN k x y) k = x ∧ fyN (codeN k x y) k = y
  | 0, x, y, hx, hy => by simp at hx hy; simp [fxN, fyN, hx, hy]
  | k + 1, x, y, hx, hy => by
    rw [Nat.pow_succ] at hx hy
    obtain ⟨e1, e2⟩ := from_back k (x / 2) (y / 2) (by omega) (by omega)
    rw [fxN_low, fyN_low, codeN]
    have d : (4 * codeN k (x / 2) (y / 2) + (2 * (y % 2) + x % 2)) / 4 = codeN k (x / 2) (y / 2) := by omega
    rw [d, e1, e2]
    omega
theorem pw_nat (k : Nat) : pw (k : Int) = ((2 ^ k : Nat) : Int) := by unfold pw; simp
theorem from_right {k c : Nat} (h : k ≤ 16) : crightB k (fxN c k) (fyN c k) = true := by
  have a := fxN_lt c k
  have b := fyN_lt c k
  rw [cright_iff, pw_nat]; omega
theorem code_of_from {k c : Nat} (h : c < 4 ^ k) : codeI k (fxN c k) (fyN c k) = c := by
  unfold codeI
  simp [code_back k c h]
theorem code_child {k x y i : Nat} (hi : i ≤ 3) : codeN (k + 1) (2 * x + i % 2) (2 * y + i / 2) = 4 * codeN k x y + i := by
  rw [codeN]
  have e1 : (2 * x + i % 2) / 2 = x := by omega
  have e2 : (2 * y + i / 2) / 2 = y := by omega
  rw [e1, e2]; omega
end Go.Proofs.Ythoanoaigfcchaa
