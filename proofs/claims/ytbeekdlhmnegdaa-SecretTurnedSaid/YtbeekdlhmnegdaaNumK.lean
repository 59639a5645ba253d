/- The layer's fixed calls walked, and what reading and writing answer of each other. No condition. -/
import Derived.Test.YtbeekdlhmnegdaaNumA
import Derived.Test.YtbeekdlhmnegdaaNumC
import Derived.Test.YtbeekdlhmnegdaaNumG
namespace Go.Proofs.Ytbeekdlhmnegdaa
open Go.RowKit Go.PlainAid
set_option linter.unusedSimpArgs false
set_option linter.unusedVariables false

end Go.Proofs.Ytbeekdlhmnegdaa
