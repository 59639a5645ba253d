/- The layer's fixed calls walked, and what reading and writing answer of each other. No condition. -/
import Derived.Test.YtjfgjlklbepnjaaNumA
import Derived.Test.YtjfgjlklbepnjaaNumC
import Derived.Test.YtjfgjlklbepnjaaNumG
namespace Go.Proofs.Ytjfgjlklbepnjaa
open Go.RowKit Go.PlainAid
set_option linter.unusedSimpArgs false
set_option linter.unusedVariables false

end Go.Proofs.Ytjfgjlklbepnjaa
