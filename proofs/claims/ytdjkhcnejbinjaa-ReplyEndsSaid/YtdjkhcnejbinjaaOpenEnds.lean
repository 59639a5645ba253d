/- ReplyEnds, its facts as the opened answer hands them. No condition. -/
import Derived.Test.YtdjkhcnejbinjaaRepY
import Derived.Test.YtdjkhcnejbinjaaOpenAns
namespace Go.Proofs.Ytdjkhcnejbinjaa
open Go.RowKit
set_option linter.unusedSimpArgs false
set_option linter.unusedVariables false
theorem ends_open (op m s k id x y lab b0 b1 b2 b3 : Int) (A1 A2 : Option Addr) (ns ne c1 c2 : Nat) (f g : Nat → Nat → Int) (at_ : Int) (w : World) (fo : (Lit.int .i64 op).wf = true) (fm : (Lit.int .i64 m).wf = true)
    (h : (0 ≤ k ∧ k ≤ 18446744073709551615) ∧ (ns ≤ 9223372036854775807 ∧ IsItems w w.heap.size A1 ns 6 f) ∧ (ne ≤ 9223372036854775807 ∧ IsItems w w.heap.size A2 ne 4 g)) (fa : (Lit.int .i64 at_).wf = true) :
    Calls Try.prog 8 #[.int .i64 op, .int .i64 m, .agg #[.int .i64 s, .int .u64 k, .int .i64 id, .int .i64 x, .int .i64 y, .int .i64 lab, .int .i64 b0, .int .i64 b1, .int .i64 b2, .int .i64 b3, .slice A1 ns c1, .slice A2 ne c2], .int .i64 at_] w fun e w' => e = .returned (.bool true) ∧ Below w.heap.size w w' :=
  ends_law op m s k id x y lab b0 b1 b2 b3 at_ A1 A2 ns ne c1 c2 f g w h.2.1.2 h.2.2.2 h.2.1.1 h.2.2.1 h.1.1 h.1.2
end Go.Proofs.Ytdjkhcnejbinjaa
