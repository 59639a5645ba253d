/- Rows of bytes compared and read as numbers: the functions walked. No condition beyond the slices' readings. -/
import Derived.Test.YtjfgjlklbepnjaaBytes
import Derived.Test.YtjfgjlklbepnjaaNumS
namespace Go.Proofs.Ytjfgjlklbepnjaa
open Go.RowKit
set_option linter.unusedSimpArgs false
set_option linter.unusedVariables false

/-- Two rows of numbers are the same. -/
def sameF (n m : Nat) (f g : Nat → Int) : Bool := decide (n = m) && (List.range n).all fun j => f j == g j
theorem sameF_true {n m : Nat} {f g : Nat → Int} (h : n = m) (he : ∀ j, j < n → f j = g j) : sameF n m f g = true := by
  unfold sameF
  simp only [Bool.and_eq_true, decide_eq_true_eq, List.all_eq_true, List.mem_range, beq_iff_eq]
  exact ⟨h, he⟩
theorem sameF_len {n m : Nat} {f g : Nat → Int} (h : ¬ n = m) : sameF n m f g = false := by
  unfold sameF; simp [h]
theorem sameF_at {n m : Nat} {f g : Nat → Int} {j : Nat} (hj : j < n) (h : ¬ f j = g j) : sameF n m f g = false := by
  unfold sameF
  rw [Bool.and_eq_false_iff]
  exact .inr (by rw [List.all_eq_false]; exact ⟨j, by simpa using hj, by simpa using h⟩)

/-- The first place at which two rows differ tells which is below. -/
def belowF : Nat → (Nat → Int) → (Nat → Int) → Nat → Bool
  | 0, _, _, _ => false
  | n + 1, f, g, k => if f k = g k then belowF n f g (k + 1) else decide (f k < g k)
theorem belowF_step {n k : Nat} {f g : Nat → Int} (h : f k = g k) : belowF (n + 1) f g k = belowF n f g (k + 1) := by rw [belowF, if_pos h]
theorem belowF_stop {n k : Nat} {f g : Nat → Int} (h : ¬ f k = g k) : belowF (n + 1) f g k = decide (f k < g k) := by rw [belowF, if_neg h]

end Go.Proofs.Ytjfgjlklbepnjaa
