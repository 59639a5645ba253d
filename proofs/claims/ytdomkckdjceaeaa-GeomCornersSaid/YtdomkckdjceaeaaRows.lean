/-
  No cell of these rows narrows 'for every input' (looked for: loops, veiled, ifaces, maps, wideKeys, modest, calm, conditions, laid).
  DERIVED. THE GIVEN ROWS OF THIS SEAT. 8 by the template 'for every input the law returns true; each argument reads behind the call as it read before'; 0 by the template 'total and deterministic' (their statements: YtdomkckdjceaeaaTotals.lean).
  GIVEN WITH THE SEED: the statements are not yours to turn. If you find one false, say at which input.
  Laid BY PROGRAM, IN A SANDBOX (cutbox-rows.mjs): the forced cells as the released guide's own fill.sh prints them over the translation e2d4e42c39377a18… (all of the seat's roots in one cut). By AI agents, Wed Nov 11 2026. No macro, syntax, notation, axiom, sorry.
-/
import Derived.Test.YtdomkckdjceaeaaChecked
import GoSem.Claim
import GoSem.ClaimJoined
import GoSem.ClaimMapViews
import Derived.JoinedTies
import Derived.KernelRfl
namespace Go.Proofs.Ytdomkckdjceaeaa
/- THE CELL 'sum', in the pinned program and in every row, IS THE sha256 OF THE DUMP (.gsa) THAT YtdomkckdjceaeaaProg.lean LOADS. Nothing in Lean hashes anything: it is a label: what it is worth is what the hold of that sum in a sandbox is worth. -/
noncomputable def Try.pinned : Pinned := { name := "ytdomkckdjceaeaa", sum := "e2d4e42c39377a186fc83e475c034371b0abd850bc365a355484adc275cf142d", checked := Try.checked }
namespace Rows
def none {H : Type} : Left H := { results := [], args := [] }

/-- 'paraventlaw02.GeomMeets': WHATEVER THE INPUT: true; the input reads as it did. -/
def geomMeetsSpec : ChangeSpec := { name := "geomMeets", fn := fun _ => fun
  | [d1, d2] => { results := [.lit (.bool true)], args := [d1, d2] }
  | _ => none }
def geomMeetsRow : OpenClaim := { program := "ytdomkckdjceaeaa", sum := "e2d4e42c39377a186fc83e475c034371b0abd850bc365a355484adc275cf142d", func := "paravent/paraventlaw02.GeomMeets", spec := "geomMeets", unfollowed := true, recurses := true, apart := false }
def GeomMeetsSaid : Prop := geomMeetsRow.holds Try.pinned (OpenSpec.ofChange geomMeetsSpec)

/-- ITS FALSE NEIGHBOUR: 'it returns false'. Refute it at one input. -/
def geomMeetsWrong : ChangeSpec := { name := "geomMeets", fn := fun _ => fun
  | [d1, d2] => { results := [.lit (.bool false)], args := [d1, d2] }
  | _ => none }
def GeomMeetsWrongFalsely : Prop := geomMeetsRow.holds Try.pinned (OpenSpec.ofChange geomMeetsWrong)

/-- 'paraventlaw02.GeomReckons': WHATEVER THE INPUT: true; the input reads as it did. -/
def geomReckonsSpec : ChangeSpec := { name := "geomReckons", fn := fun _ => fun
  | [d1, d2, d3] => { results := [.lit (.bool true)], args := [d1, d2, d3] }
  | _ => none }
def geomReckonsRow : OpenClaim := { program := "ytdomkckdjceaeaa", sum := "e2d4e42c39377a186fc83e475c034371b0abd850bc365a355484adc275cf142d", func := "paravent/paraventlaw02.GeomReckons", spec := "geomReckons", unfollowed := true, recurses := true, apart := false }
def GeomReckonsSaid : Prop := geomReckonsRow.holds Try.pinned (OpenSpec.ofChange geomReckonsSpec)

/-- ITS FALSE NEIGHBOUR: 'it returns false'. Refute it at one input. -/
def geomReckonsWrong : ChangeSpec := { name := "geomReckons", fn := fun _ => fun
  | [d1, d2, d3] => { results := [.lit (.bool false)], args := [d1, d2, d3] }
  | _ => none }
def GeomReckonsWrongFalsely : Prop := geomReckonsRow.holds Try.pinned (OpenSpec.ofChange geomReckonsWrong)

/-- 'paraventlaw02.GeomCuts': WHATEVER THE INPUT: true; the input reads as it did. -/
def geomCutsSpec : ChangeSpec := { name := "geomCuts", fn := fun _ => fun
  | [d1, d2, d3] => { results := [.lit (.bool true)], args := [d1, d2, d3] }
  | _ => none }
def geomCutsRow : OpenClaim := { program := "ytdomkckdjceaeaa", sum := "e2d4e42c39377a186fc83e475c034371b0abd850bc365a355484adc275cf142d", func := "paravent/paraventlaw02.GeomCuts", spec := "geomCuts", unfollowed := true, recurses := true, apart := false }
def GeomCutsSaid : Prop := geomCutsRow.holds Try.pinned (OpenSpec.ofChange geomCutsSpec)

/-- ITS FALSE NEIGHBOUR: 'it returns false'. Refute it at one input. -/
def geomCutsWrong : ChangeSpec := { name := "geomCuts", fn := fun _ => fun
  | [d1, d2, d3] => { results := [.lit (.bool false)], args := [d1, d2, d3] }
  | _ => none }
def GeomCutsWrongFalsely : Prop := geomCutsRow.holds Try.pinned (OpenSpec.ofChange geomCutsWrong)

/-- 'paraventlaw02.GeomHulls': WHATEVER THE INPUT: true; the input reads as it did. -/
def geomHullsSpec : ChangeSpec := { name := "geomHulls", fn := fun _ => fun
  | [d1, d2, d3] => { results := [.lit (.bool true)], args := [d1, d2, d3] }
  | _ => none }
def geomHullsRow : OpenClaim := { program := "ytdomkckdjceaeaa", sum := "e2d4e42c39377a186fc83e475c034371b0abd850bc365a355484adc275cf142d", func := "paravent/paraventlaw02.GeomHulls", spec := "geomHulls", unfollowed := true, recurses := true, apart := false }
def GeomHullsSaid : Prop := geomHullsRow.holds Try.pinned (OpenSpec.ofChange geomHullsSpec)

/-- ITS FALSE NEIGHBOUR: 'it returns false'. Refute it at one input. -/
def geomHullsWrong : ChangeSpec := { name := "geomHulls", fn := fun _ => fun
  | [d1, d2, d3] => { results := [.lit (.bool false)], args := [d1, d2, d3] }
  | _ => none }
def GeomHullsWrongFalsely : Prop := geomHullsRow.holds Try.pinned (OpenSpec.ofChange geomHullsWrong)

/-- 'paraventlaw02.GeomNearest': WHATEVER THE INPUT: true; the input reads as it did. -/
def geomNearestSpec : ChangeSpec := { name := "geomNearest", fn := fun _ => fun
  | [d1, d2, d3] => { results := [.lit (.bool true)], args := [d1, d2, d3] }
  | _ => none }
def geomNearestRow : OpenClaim := { program := "ytdomkckdjceaeaa", sum := "e2d4e42c39377a186fc83e475c034371b0abd850bc365a355484adc275cf142d", func := "paravent/paraventlaw02.GeomNearest", spec := "geomNearest", unfollowed := true, recurses := true, apart := false }
def GeomNearestSaid : Prop := geomNearestRow.holds Try.pinned (OpenSpec.ofChange geomNearestSpec)

/-- ITS FALSE NEIGHBOUR: 'it returns false'. Refute it at one input. -/
def geomNearestWrong : ChangeSpec := { name := "geomNearest", fn := fun _ => fun
  | [d1, d2, d3] => { results := [.lit (.bool false)], args := [d1, d2, d3] }
  | _ => none }
def GeomNearestWrongFalsely : Prop := geomNearestRow.holds Try.pinned (OpenSpec.ofChange geomNearestWrong)

/-- 'paraventlaw02.GeomPoints': WHATEVER THE INPUT: true; the input reads as it did. -/
def geomPointsSpec : ChangeSpec := { name := "geomPoints", fn := fun _ => fun
  | [d1, d2, d3] => { results := [.lit (.bool true)], args := [d1, d2, d3] }
  | _ => none }
def geomPointsRow : OpenClaim := { program := "ytdomkckdjceaeaa", sum := "e2d4e42c39377a186fc83e475c034371b0abd850bc365a355484adc275cf142d", func := "paravent/paraventlaw02.GeomPoints", spec := "geomPoints", unfollowed := true, recurses := true, apart := false }
def GeomPointsSaid : Prop := geomPointsRow.holds Try.pinned (OpenSpec.ofChange geomPointsSpec)

/-- ITS FALSE NEIGHBOUR: 'it returns false'. Refute it at one input. -/
def geomPointsWrong : ChangeSpec := { name := "geomPoints", fn := fun _ => fun
  | [d1, d2, d3] => { results := [.lit (.bool false)], args := [d1, d2, d3] }
  | _ => none }
def GeomPointsWrongFalsely : Prop := geomPointsRow.holds Try.pinned (OpenSpec.ofChange geomPointsWrong)

/-- 'paraventlaw02.GeomAsks': WHATEVER THE INPUT: true; the input reads as it did. -/
def geomAsksSpec : ChangeSpec := { name := "geomAsks", fn := fun _ => fun
  | [d1, d2, d3] => { results := [.lit (.bool true)], args := [d1, d2, d3] }
  | _ => none }
def geomAsksRow : OpenClaim := { program := "ytdomkckdjceaeaa", sum := "e2d4e42c39377a186fc83e475c034371b0abd850bc365a355484adc275cf142d", func := "paravent/paraventlaw02.GeomAsks", spec := "geomAsks", unfollowed := true, recurses := true, apart := false }
def GeomAsksSaid : Prop := geomAsksRow.holds Try.pinned (OpenSpec.ofChange geomAsksSpec)

/-- ITS FALSE NEIGHBOUR: 'it returns false'. Refute it at one input. -/
def geomAsksWrong : ChangeSpec := { name := "geomAsks", fn := fun _ => fun
  | [d1, d2, d3] => { results := [.lit (.bool false)], args := [d1, d2, d3] }
  | _ => none }
def GeomAsksWrongFalsely : Prop := geomAsksRow.holds Try.pinned (OpenSpec.ofChange geomAsksWrong)

/-- 'paraventlaw02.GeomCorners': WHATEVER THE INPUT: true; the input reads as it did. -/
def geomCornersSpec : ChangeSpec := { name := "geomCorners", fn := fun _ => fun
  | [d] => { results := [.lit (.bool true)], args := [d] }
  | _ => none }
def geomCornersRow : OpenClaim := { program := "ytdomkckdjceaeaa", sum := "e2d4e42c39377a186fc83e475c034371b0abd850bc365a355484adc275cf142d", func := "paravent/paraventlaw02.GeomCorners", spec := "geomCorners", unfollowed := true, recurses := true, apart := false }
def GeomCornersSaid : Prop := geomCornersRow.holds Try.pinned (OpenSpec.ofChange geomCornersSpec)

/-- ITS FALSE NEIGHBOUR: 'it returns false'. Refute it at one input. -/
def geomCornersWrong : ChangeSpec := { name := "geomCorners", fn := fun _ => fun
  | [d] => { results := [.lit (.bool false)], args := [d] }
  | _ => none }
def GeomCornersWrongFalsely : Prop := geomCornersRow.holds Try.pinned (OpenSpec.ofChange geomCornersWrong)

/- THE SECOND FORM. 'bulk': how many values and letters a reading holds, each counted each time it is reached (what is shared counts as often as it is met; a slice's spare places count too). A statement '..UptoSaid' is the law's where the arguments, and the package variables that the reading takes, are together of bulk at most 1048576: NARROWER than '..Said'. Prove '..Said' where nothing that the law and all that it calls make is longer than what came in: it says more and counts as full. Else prove '..UptoSaid'. A law counts once. -/
mutual
def uptoBulk {H : Type} : DataW H → Nat
  | .lit (.string bytes) => bytes.length + 1
  | .lit _ => 1
  | .nil => 1
  | .ptr d => uptoBulk d + 1
  | .slice elems spare => uptoBulkAll elems + uptoBulkAll spare + 1
  | .agg parts => uptoBulkAll parts + 1
  | .iface _ d => uptoBulk d + 1
  | .map entries => uptoBulkEntries entries + 1
  | .held _ => 1
def uptoBulkAll {H : Type} : List (DataW H) → Nat
  | [] => 0
  | d :: r => uptoBulk d + uptoBulkAll r
def uptoBulkEntries {H : Type} : List (Lit × DataW H) → Nat
  | [] => 0
  | x :: r => uptoBulkEntry x + uptoBulkEntries r
def uptoBulkEntry {H : Type} : Lit × DataW H → Nat
  | (.string bytes, d) => bytes.length + uptoBulk d + 1
  | (_, d) => uptoBulk d + 1
 end
def uptoSmall : (H : Type) → List (DataW H) → Bool := fun _ ds => decide (uptoBulkAll ds ≤ 1048576)
def OpenSpec.upto (s : _root_.Go.ChangeSpec) : _root_.Go.OpenSpec := { _root_.Go.OpenSpec.ofChange s with cond := some uptoSmall }

/-- 'paraventlaw02.GeomMeets', WHERE WHAT IT READS IS OF BULK AT MOST 1048576: true; the input reads as it did. -/
def geomMeetsUptoRow : OpenClaim := { program := "ytdomkckdjceaeaa", sum := "e2d4e42c39377a186fc83e475c034371b0abd850bc365a355484adc275cf142d", func := "paravent/paraventlaw02.GeomMeets", spec := "geomMeets", unfollowed := true, recurses := true, apart := false, narrowed := true }
def GeomMeetsUptoSaid : Prop := geomMeetsUptoRow.holds Try.pinned (OpenSpec.upto geomMeetsSpec)

/-- 'paraventlaw02.GeomReckons', WHERE WHAT IT READS IS OF BULK AT MOST 1048576: true; the input reads as it did. -/
def geomReckonsUptoRow : OpenClaim := { program := "ytdomkckdjceaeaa", sum := "e2d4e42c39377a186fc83e475c034371b0abd850bc365a355484adc275cf142d", func := "paravent/paraventlaw02.GeomReckons", spec := "geomReckons", unfollowed := true, recurses := true, apart := false, narrowed := true }
def GeomReckonsUptoSaid : Prop := geomReckonsUptoRow.holds Try.pinned (OpenSpec.upto geomReckonsSpec)

/-- 'paraventlaw02.GeomCuts', WHERE WHAT IT READS IS OF BULK AT MOST 1048576: true; the input reads as it did. -/
def geomCutsUptoRow : OpenClaim := { program := "ytdomkckdjceaeaa", sum := "e2d4e42c39377a186fc83e475c034371b0abd850bc365a355484adc275cf142d", func := "paravent/paraventlaw02.GeomCuts", spec := "geomCuts", unfollowed := true, recurses := true, apart := false, narrowed := true }
def GeomCutsUptoSaid : Prop := geomCutsUptoRow.holds Try.pinned (OpenSpec.upto geomCutsSpec)

/-- 'paraventlaw02.GeomHulls', WHERE WHAT IT READS IS OF BULK AT MOST 1048576: true; the input reads as it did. -/
def geomHullsUptoRow : OpenClaim := { program := "ytdomkckdjceaeaa", sum := "e2d4e42c39377a186fc83e475c034371b0abd850bc365a355484adc275cf142d", func := "paravent/paraventlaw02.GeomHulls", spec := "geomHulls", unfollowed := true, recurses := true, apart := false, narrowed := true }
def GeomHullsUptoSaid : Prop := geomHullsUptoRow.holds Try.pinned (OpenSpec.upto geomHullsSpec)

/-- 'paraventlaw02.GeomNearest', WHERE WHAT IT READS IS OF BULK AT MOST 1048576: true; the input reads as it did. -/
def geomNearestUptoRow : OpenClaim := { program := "ytdomkckdjceaeaa", sum := "e2d4e42c39377a186fc83e475c034371b0abd850bc365a355484adc275cf142d", func := "paravent/paraventlaw02.GeomNearest", spec := "geomNearest", unfollowed := true, recurses := true, apart := false, narrowed := true }
def GeomNearestUptoSaid : Prop := geomNearestUptoRow.holds Try.pinned (OpenSpec.upto geomNearestSpec)

/-- 'paraventlaw02.GeomPoints', WHERE WHAT IT READS IS OF BULK AT MOST 1048576: true; the input reads as it did. -/
def geomPointsUptoRow : OpenClaim := { program := "ytdomkckdjceaeaa", sum := "e2d4e42c39377a186fc83e475c034371b0abd850bc365a355484adc275cf142d", func := "paravent/paraventlaw02.GeomPoints", spec := "geomPoints", unfollowed := true, recurses := true, apart := false, narrowed := true }
def GeomPointsUptoSaid : Prop := geomPointsUptoRow.holds Try.pinned (OpenSpec.upto geomPointsSpec)

/-- 'paraventlaw02.GeomAsks', WHERE WHAT IT READS IS OF BULK AT MOST 1048576: true; the input reads as it did. -/
def geomAsksUptoRow : OpenClaim := { program := "ytdomkckdjceaeaa", sum := "e2d4e42c39377a186fc83e475c034371b0abd850bc365a355484adc275cf142d", func := "paravent/paraventlaw02.GeomAsks", spec := "geomAsks", unfollowed := true, recurses := true, apart := false, narrowed := true }
def GeomAsksUptoSaid : Prop := geomAsksUptoRow.holds Try.pinned (OpenSpec.upto geomAsksSpec)

/-- 'paraventlaw02.GeomCorners', WHERE WHAT IT READS IS OF BULK AT MOST 1048576: true; the input reads as it did. -/
def geomCornersUptoRow : OpenClaim := { program := "ytdomkckdjceaeaa", sum := "e2d4e42c39377a186fc83e475c034371b0abd850bc365a355484adc275cf142d", func := "paravent/paraventlaw02.GeomCorners", spec := "geomCorners", unfollowed := true, recurses := true, apart := false, narrowed := true }
def GeomCornersUptoSaid : Prop := geomCornersUptoRow.holds Try.pinned (OpenSpec.upto geomCornersSpec)

end Rows
end Go.Proofs.Ytdomkckdjceaeaa
