/- The layer's statements walked: texts, sums, hex texts. No condition. -/
import Derived.Test.YtjfgjlklbepnjaaNumK
namespace Go.Proofs.Ytjfgjlklbepnjaa
open Go.RowKit Go.PlainAid
set_option linter.unusedSimpArgs false
set_option linter.unusedVariables false

theorem u64_lim {a : Int} (h : (Lit.int .u64 a).wf = true) : 0 ≤ a ∧ a ≤ 18446744073709551615 := by
  simp only [Lit.wf, Bool.and_eq_true, decide_eq_true_eq] at h
  exact h
theorem max_lim {n : Nat} (h : n ≤ maxLen) : n ≤ 9223372036854775807 := h

end Go.Proofs.Ytjfgjlklbepnjaa
