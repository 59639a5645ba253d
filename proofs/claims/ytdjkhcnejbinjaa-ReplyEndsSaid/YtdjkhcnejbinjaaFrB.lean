/- A buffer's functions walked: what waits, what is next, what comes in. No condition beyond what the memory holds. -/
import Derived.Test.YtdjkhcnejbinjaaFrA
namespace Go.Proofs.Ytdjkhcnejbinjaa
open Go.RowKit
set_option linter.unusedSimpArgs false
set_option linter.unusedVariables false

/-- What kind of frame is next. -/
def kindN (l : List Nat) : Nat := if l.length < 2 then 0 else if 600 < lenI l then 2 else if l.length < 2 + lenI l then 0 else 1
end Go.Proofs.Ytdjkhcnejbinjaa
