/- Snapped rectangles and homes, walked. No condition. -/
import Derived.Test.YthoanoaigfcchaaCellC
import Derived.BigRegion
namespace Go.Proofs.Ythoanoaigfcchaa
open Go.RowKit
set_option linter.unusedSimpArgs false
set_option linter.unusedVariables false

def snapB (a b c d l : Int) : Bool := lvlB l && rightB a b c d
/-- The least and the greatest number of the cell that has a number. -/
def low (n l : Int) : Int := n / sd l * sd l
def high (n l : Int) : Int := n / sd l * sd l + sd l - 1
theorem of_right {l x y : Int} (h0 : 0 ≤ l) (h1 : l ≤ 16) (x0 : 0 ≤ x) (x1 : x ≤ 65535) (y0 : 0 ≤ y) (y1 : y ≤ 65535) : crightB l (x / sd l) (y / sd l) = true :=
  cright_iff.2 ⟨h0, h1, (div_grid h0 h1 x0 x1).1, (div_grid h0 h1 y0 y1).1, (div_grid h0 h1 x0 x1).2, (div_grid h0 h1 y0 y1).2⟩

end Go.Proofs.Ythoanoaigfcchaa
