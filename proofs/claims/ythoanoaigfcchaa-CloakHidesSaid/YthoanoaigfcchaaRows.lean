/-
  No cell of these rows narrows 'for every input' (looked for: loops, veiled, ifaces, maps, wideKeys, modest, calm, conditions, laid).
  DERIVED. THE GIVEN ROWS OF THIS SEAT. 6 by the template 'for every input the law returns true; each argument reads behind the call as it read before'; 0 by the template 'total and deterministic' (their statements: YthoanoaigfcchaaTotals.lean).
  GIVEN WITH THE SEED: the statements are not yours to turn. If you find one false, say at which input.
  Laid BY PROGRAM, IN A SANDBOX (cutbox-rows.mjs): the forced cells as the released guide's own fill.sh prints them over the translation f652ca4ef1b06b7f… (all of the seat's roots in one cut). By AI agents, Wed Nov 11 2026. No macro, syntax, notation, axiom, sorry.
-/
import Derived.Test.YthoanoaigfcchaaChecked
import GoSem.Claim
import GoSem.ClaimJoined
import GoSem.ClaimMapViews
import Derived.JoinedTies
import Derived.KernelRfl
namespace Go.Proofs.Ythoanoaigfcchaa
/- THE CELL 'sum', in the pinned program and in every row, IS THE sha256 OF THE DUMP (.gsa) THAT YthoanoaigfcchaaProg.lean LOADS. Nothing in Lean hashes anything: it is a label: what it is worth is what the hold of that sum in a sandbox is worth. -/
noncomputable def Try.pinned : Pinned := { name := "ythoanoaigfcchaa", sum := "f652ca4ef1b06b7f35e95864214d0c2588849a04952bbfcc715bd9a53528226e", checked := Try.checked }
namespace Rows
def none {H : Type} : Left H := { results := [], args := [] }

/-- 'paraventlaw09.CloakFinds': WHATEVER THE INPUT: true; the input reads as it did. -/
def cloakFindsSpec : ChangeSpec := { name := "cloakFinds", fn := fun _ => fun
  | [d1, d2, d3] => { results := [.lit (.bool true)], args := [d1, d2, d3] }
  | _ => none }
def cloakFindsRow : OpenClaim := { program := "ythoanoaigfcchaa", sum := "f652ca4ef1b06b7f35e95864214d0c2588849a04952bbfcc715bd9a53528226e", func := "paravent/paraventlaw09.CloakFinds", spec := "cloakFinds", unfollowed := true, recurses := true, apart := false }
def CloakFindsSaid : Prop := cloakFindsRow.holds Try.pinned (OpenSpec.ofChange cloakFindsSpec)

/-- ITS FALSE NEIGHBOUR: 'it returns false'. Refute it at one input. -/
def cloakFindsWrong : ChangeSpec := { name := "cloakFinds", fn := fun _ => fun
  | [d1, d2, d3] => { results := [.lit (.bool false)], args := [d1, d2, d3] }
  | _ => none }
def CloakFindsWrongFalsely : Prop := cloakFindsRow.holds Try.pinned (OpenSpec.ofChange cloakFindsWrong)

/-- 'paraventlaw09.CloakHides': WHATEVER THE INPUT: true; the input reads as it did. -/
def cloakHidesSpec : ChangeSpec := { name := "cloakHides", fn := fun _ => fun
  | [d1, d2, d3] => { results := [.lit (.bool true)], args := [d1, d2, d3] }
  | _ => none }
def cloakHidesRow : OpenClaim := { program := "ythoanoaigfcchaa", sum := "f652ca4ef1b06b7f35e95864214d0c2588849a04952bbfcc715bd9a53528226e", func := "paravent/paraventlaw09.CloakHides", spec := "cloakHides", unfollowed := true, recurses := true, apart := false }
def CloakHidesSaid : Prop := cloakHidesRow.holds Try.pinned (OpenSpec.ofChange cloakHidesSpec)

/-- ITS FALSE NEIGHBOUR: 'it returns false'. Refute it at one input. -/
def cloakHidesWrong : ChangeSpec := { name := "cloakHides", fn := fun _ => fun
  | [d1, d2, d3] => { results := [.lit (.bool false)], args := [d1, d2, d3] }
  | _ => none }
def CloakHidesWrongFalsely : Prop := cloakHidesRow.holds Try.pinned (OpenSpec.ofChange cloakHidesWrong)

/-- 'paraventlaw09.CloakLeast': WHATEVER THE INPUT: true; the input reads as it did. -/
def cloakLeastSpec : ChangeSpec := { name := "cloakLeast", fn := fun _ => fun
  | [d1, d2, d3, d4] => { results := [.lit (.bool true)], args := [d1, d2, d3, d4] }
  | _ => none }
def cloakLeastRow : OpenClaim := { program := "ythoanoaigfcchaa", sum := "f652ca4ef1b06b7f35e95864214d0c2588849a04952bbfcc715bd9a53528226e", func := "paravent/paraventlaw09.CloakLeast", spec := "cloakLeast", unfollowed := true, recurses := true, apart := false }
def CloakLeastSaid : Prop := cloakLeastRow.holds Try.pinned (OpenSpec.ofChange cloakLeastSpec)

/-- ITS FALSE NEIGHBOUR: 'it returns false'. Refute it at one input. -/
def cloakLeastWrong : ChangeSpec := { name := "cloakLeast", fn := fun _ => fun
  | [d1, d2, d3, d4] => { results := [.lit (.bool false)], args := [d1, d2, d3, d4] }
  | _ => none }
def CloakLeastWrongFalsely : Prop := cloakLeastRow.holds Try.pinned (OpenSpec.ofChange cloakLeastWrong)

/-- 'paraventlaw09.CloakNone': WHATEVER THE INPUT: true; the input reads as it did. -/
def cloakNoneSpec : ChangeSpec := { name := "cloakNone", fn := fun _ => fun
  | [d1, d2, d3] => { results := [.lit (.bool true)], args := [d1, d2, d3] }
  | _ => none }
def cloakNoneRow : OpenClaim := { program := "ythoanoaigfcchaa", sum := "f652ca4ef1b06b7f35e95864214d0c2588849a04952bbfcc715bd9a53528226e", func := "paravent/paraventlaw09.CloakNone", spec := "cloakNone", unfollowed := true, recurses := true, apart := false }
def CloakNoneSaid : Prop := cloakNoneRow.holds Try.pinned (OpenSpec.ofChange cloakNoneSpec)

/-- ITS FALSE NEIGHBOUR: 'it returns false'. Refute it at one input. -/
def cloakNoneWrong : ChangeSpec := { name := "cloakNone", fn := fun _ => fun
  | [d1, d2, d3] => { results := [.lit (.bool false)], args := [d1, d2, d3] }
  | _ => none }
def CloakNoneWrongFalsely : Prop := cloakNoneRow.holds Try.pinned (OpenSpec.ofChange cloakNoneWrong)

/-- 'paraventlaw09.CloakMore': WHATEVER THE INPUT: true; the input reads as it did. -/
def cloakMoreSpec : ChangeSpec := { name := "cloakMore", fn := fun _ => fun
  | [d1, d2, d3, d4] => { results := [.lit (.bool true)], args := [d1, d2, d3, d4] }
  | _ => none }
def cloakMoreRow : OpenClaim := { program := "ythoanoaigfcchaa", sum := "f652ca4ef1b06b7f35e95864214d0c2588849a04952bbfcc715bd9a53528226e", func := "paravent/paraventlaw09.CloakMore", spec := "cloakMore", unfollowed := true, recurses := true, apart := false }
def CloakMoreSaid : Prop := cloakMoreRow.holds Try.pinned (OpenSpec.ofChange cloakMoreSpec)

/-- ITS FALSE NEIGHBOUR: 'it returns false'. Refute it at one input. -/
def cloakMoreWrong : ChangeSpec := { name := "cloakMore", fn := fun _ => fun
  | [d1, d2, d3, d4] => { results := [.lit (.bool false)], args := [d1, d2, d3, d4] }
  | _ => none }
def CloakMoreWrongFalsely : Prop := cloakMoreRow.holds Try.pinned (OpenSpec.ofChange cloakMoreWrong)

/-- 'paraventlaw09.CloakDoes': WHATEVER THE INPUT: true; the input reads as it did. -/
def cloakDoesSpec : ChangeSpec := { name := "cloakDoes", fn := fun _ => fun
  | [d1, d2, d3, d4] => { results := [.lit (.bool true)], args := [d1, d2, d3, d4] }
  | _ => none }
def cloakDoesRow : OpenClaim := { program := "ythoanoaigfcchaa", sum := "f652ca4ef1b06b7f35e95864214d0c2588849a04952bbfcc715bd9a53528226e", func := "paravent/paraventlaw09.CloakDoes", spec := "cloakDoes", unfollowed := true, recurses := true, apart := false }
def CloakDoesSaid : Prop := cloakDoesRow.holds Try.pinned (OpenSpec.ofChange cloakDoesSpec)

/-- ITS FALSE NEIGHBOUR: 'it returns false'. Refute it at one input. -/
def cloakDoesWrong : ChangeSpec := { name := "cloakDoes", fn := fun _ => fun
  | [d1, d2, d3, d4] => { results := [.lit (.bool false)], args := [d1, d2, d3, d4] }
  | _ => none }
def CloakDoesWrongFalsely : Prop := cloakDoesRow.holds Try.pinned (OpenSpec.ofChange cloakDoesWrong)

/- THE SECOND FORM. 'bulk': how many values and letters a reading holds, each counted each time it is reached (what is shared counts as often as it is met; a slice's spare places count too). A statement '..UptoSaid' is the law's where the arguments, and the package variables that the reading takes, are together of bulk at most 1048576: NARROWER than '..Said'. Prove '..Said' where nothing that the law and all that it calls make is longer than what came in: it says more and counts as full. Else prove '..UptoSaid'. A law counts once. -/
mutual
def uptoBulk {H : Type} : DataW H → Nat
  | .lit (.string bytes) => bytes.length + 1
  | .lit _ => 1
  | .nil => 1
  | .ptr d => uptoBulk d + 1
  | .slice elems spare => uptoBulkAll elems + uptoBulkAll spare + 1
  | .agg parts => uptoBulkAll parts + 1
  | .iface _ d => uptoBulk d + 1
  | .map entries => uptoBulkEntries entries + 1
  | .held _ => 1
def uptoBulkAll {H : Type} : List (DataW H) → Nat
  | [] => 0
  | d :: r => uptoBulk d + uptoBulkAll r
def uptoBulkEntries {H : Type} : List (Lit × DataW H) → Nat
  | [] => 0
  | x :: r => uptoBulkEntry x + uptoBulkEntries r
def uptoBulkEntry {H : Type} : Lit × DataW H → Nat
  | (.string bytes, d) => bytes.length + uptoBulk d + 1
  | (_, d) => uptoBulk d + 1
 end
def uptoSmall : (H : Type) → List (DataW H) → Bool := fun _ ds => decide (uptoBulkAll ds ≤ 1048576)
def OpenSpec.upto (s : _root_.Go.ChangeSpec) : _root_.Go.OpenSpec := { _root_.Go.OpenSpec.ofChange s with cond := some uptoSmall }

/-- 'paraventlaw09.CloakFinds', WHERE WHAT IT READS IS OF BULK AT MOST 1048576: true; the input reads as it did. -/
def cloakFindsUptoRow : OpenClaim := { program := "ythoanoaigfcchaa", sum := "f652ca4ef1b06b7f35e95864214d0c2588849a04952bbfcc715bd9a53528226e", func := "paravent/paraventlaw09.CloakFinds", spec := "cloakFinds", unfollowed := true, recurses := true, apart := false, narrowed := true }
def CloakFindsUptoSaid : Prop := cloakFindsUptoRow.holds Try.pinned (OpenSpec.upto cloakFindsSpec)

/-- 'paraventlaw09.CloakHides', WHERE WHAT IT READS IS OF BULK AT MOST 1048576: true; the input reads as it did. -/
def cloakHidesUptoRow : OpenClaim := { program := "ythoanoaigfcchaa", sum := "f652ca4ef1b06b7f35e95864214d0c2588849a04952bbfcc715bd9a53528226e", func := "paravent/paraventlaw09.CloakHides", spec := "cloakHides", unfollowed := true, recurses := true, apart := false, narrowed := true }
def CloakHidesUptoSaid : Prop := cloakHidesUptoRow.holds Try.pinned (OpenSpec.upto cloakHidesSpec)

/-- 'paraventlaw09.CloakLeast', WHERE WHAT IT READS IS OF BULK AT MOST 1048576: true; the input reads as it did. -/
def cloakLeastUptoRow : OpenClaim := { program := "ythoanoaigfcchaa", sum := "f652ca4ef1b06b7f35e95864214d0c2588849a04952bbfcc715bd9a53528226e", func := "paravent/paraventlaw09.CloakLeast", spec := "cloakLeast", unfollowed := true, recurses := true, apart := false, narrowed := true }
def CloakLeastUptoSaid : Prop := cloakLeastUptoRow.holds Try.pinned (OpenSpec.upto cloakLeastSpec)

/-- 'paraventlaw09.CloakNone', WHERE WHAT IT READS IS OF BULK AT MOST 1048576: true; the input reads as it did. -/
def cloakNoneUptoRow : OpenClaim := { program := "ythoanoaigfcchaa", sum := "f652ca4ef1b06b7f35e95864214d0c2588849a04952bbfcc715bd9a53528226e", func := "paravent/paraventlaw09.CloakNone", spec := "cloakNone", unfollowed := true, recurses := true, apart := false, narrowed := true }
def CloakNoneUptoSaid : Prop := cloakNoneUptoRow.holds Try.pinned (OpenSpec.upto cloakNoneSpec)

/-- 'paraventlaw09.CloakMore', WHERE WHAT IT READS IS OF BULK AT MOST 1048576: true; the input reads as it did. -/
def cloakMoreUptoRow : OpenClaim := { program := "ythoanoaigfcchaa", sum := "f652ca4ef1b06b7f35e95864214d0c2588849a04952bbfcc715bd9a53528226e", func := "paravent/paraventlaw09.CloakMore", spec := "cloakMore", unfollowed := true, recurses := true, apart := false, narrowed := true }
def CloakMoreUptoSaid : Prop := cloakMoreUptoRow.holds Try.pinned (OpenSpec.upto cloakMoreSpec)

/-- 'paraventlaw09.CloakDoes', WHERE WHAT IT READS IS OF BULK AT MOST 1048576: true; the input reads as it did. -/
def cloakDoesUptoRow : OpenClaim := { program := "ythoanoaigfcchaa", sum := "f652ca4ef1b06b7f35e95864214d0c2588849a04952bbfcc715bd9a53528226e", func := "paravent/paraventlaw09.CloakDoes", spec := "cloakDoes", unfollowed := true, recurses := true, apart := false, narrowed := true }
def CloakDoesUptoSaid : Prop := cloakDoesUptoRow.holds Try.pinned (OpenSpec.upto cloakDoesSpec)

end Rows
end Go.Proofs.Ythoanoaigfcchaa
