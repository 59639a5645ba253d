/- A rectangle's home, as the program finds it, walked. No condition. -/
import Derived.Test.YthoanoaigfcchaaCellE
namespace Go.Proofs.Ythoanoaigfcchaa
open Go.RowKit
set_option linter.unusedSimpArgs false
set_option linter.unusedVariables false

/-- The home so far: the cell of the level below, nothing yet at 0. -/
def lastI (v : Nat → Int) : Nat → Int
  | 0 => 0
  | k + 1 => v k
theorem hm_before {a b c d : Int} {k : Nat} (hk : k ≤ 17) (h : ∀ j, j < k → hm a b c d j = true) : k ≠ 0 → hm a b c d (k - 1) = true := fun h0 => h _ (by omega)

end Go.Proofs.Ythoanoaigfcchaa
