/-
  No cell of these rows narrows 'for every input' (looked for: loops, veiled, ifaces, maps, wideKeys, modest, calm, conditions, laid).
  DERIVED. THE GIVEN ROWS OF THIS SEAT. 9 by the template 'for every input the law returns true; each argument reads behind the call as it read before'; 0 by the template 'total and deterministic' (their statements: YthfnmlbdbjblkaaTotals.lean).
  GIVEN WITH THE SEED: the statements are not yours to turn. If you find one false, say at which input.
  Laid BY PROGRAM, IN A SANDBOX (cutbox-rows.mjs): the forced cells as the released guide's own fill.sh prints them over the translation 487e07dd052230f3… (all of the seat's roots in one cut). By AI agents, Wed Nov 11 2026. No macro, syntax, notation, axiom, sorry.
-/
import Derived.Test.YthfnmlbdbjblkaaChecked
import GoSem.Claim
import GoSem.ClaimJoined
import GoSem.ClaimMapViews
import Derived.JoinedTies
import Derived.KernelRfl
namespace Go.Proofs.Ythfnmlbdbjblkaa
/- THE CELL 'sum', in the pinned program and in every row, IS THE sha256 OF THE DUMP (.gsa) THAT YthfnmlbdbjblkaaProg.lean LOADS. Nothing in Lean hashes anything: it is a label: what it is worth is what the hold of that sum in a sandbox is worth. -/
noncomputable def Try.pinned : Pinned := { name := "ythfnmlbdbjblkaa", sum := "487e07dd052230f372d413580c08e4a8bfc172765a6cc0edeb0afd8f2079dc89", checked := Try.checked }
namespace Rows
def none {H : Type} : Left H := { results := [], args := [] }

/-- 'paraventlaw03.CellAsks': WHATEVER THE INPUT: true; the input reads as it did. -/
def cellAsksSpec : ChangeSpec := { name := "cellAsks", fn := fun _ => fun
  | [d1, d2, d3] => { results := [.lit (.bool true)], args := [d1, d2, d3] }
  | _ => none }
def cellAsksRow : OpenClaim := { program := "ythfnmlbdbjblkaa", sum := "487e07dd052230f372d413580c08e4a8bfc172765a6cc0edeb0afd8f2079dc89", func := "paravent/paraventlaw03.CellAsks", spec := "cellAsks", unfollowed := true, recurses := true, apart := false }
def CellAsksSaid : Prop := cellAsksRow.holds Try.pinned (OpenSpec.ofChange cellAsksSpec)

/-- ITS FALSE NEIGHBOUR: 'it returns false'. Refute it at one input. -/
def cellAsksWrong : ChangeSpec := { name := "cellAsks", fn := fun _ => fun
  | [d1, d2, d3] => { results := [.lit (.bool false)], args := [d1, d2, d3] }
  | _ => none }
def CellAsksWrongFalsely : Prop := cellAsksRow.holds Try.pinned (OpenSpec.ofChange cellAsksWrong)

/-- 'paraventlaw03.CellSnaps': WHATEVER THE INPUT: true; the input reads as it did. -/
def cellSnapsSpec : ChangeSpec := { name := "cellSnaps", fn := fun _ => fun
  | [d1, d2] => { results := [.lit (.bool true)], args := [d1, d2] }
  | _ => none }
def cellSnapsRow : OpenClaim := { program := "ythfnmlbdbjblkaa", sum := "487e07dd052230f372d413580c08e4a8bfc172765a6cc0edeb0afd8f2079dc89", func := "paravent/paraventlaw03.CellSnaps", spec := "cellSnaps", unfollowed := true, recurses := true, apart := false }
def CellSnapsSaid : Prop := cellSnapsRow.holds Try.pinned (OpenSpec.ofChange cellSnapsSpec)

/-- ITS FALSE NEIGHBOUR: 'it returns false'. Refute it at one input. -/
def cellSnapsWrong : ChangeSpec := { name := "cellSnaps", fn := fun _ => fun
  | [d1, d2] => { results := [.lit (.bool false)], args := [d1, d2] }
  | _ => none }
def CellSnapsWrongFalsely : Prop := cellSnapsRow.holds Try.pinned (OpenSpec.ofChange cellSnapsWrong)

/-- 'paraventlaw03.CellHomes': WHATEVER THE INPUT: true; the input reads as it did. -/
def cellHomesSpec : ChangeSpec := { name := "cellHomes", fn := fun _ => fun
  | [d] => { results := [.lit (.bool true)], args := [d] }
  | _ => none }
def cellHomesRow : OpenClaim := { program := "ythfnmlbdbjblkaa", sum := "487e07dd052230f372d413580c08e4a8bfc172765a6cc0edeb0afd8f2079dc89", func := "paravent/paraventlaw03.CellHomes", spec := "cellHomes", unfollowed := true, recurses := true, apart := false }
def CellHomesSaid : Prop := cellHomesRow.holds Try.pinned (OpenSpec.ofChange cellHomesSpec)

/-- ITS FALSE NEIGHBOUR: 'it returns false'. Refute it at one input. -/
def cellHomesWrong : ChangeSpec := { name := "cellHomes", fn := fun _ => fun
  | [d] => { results := [.lit (.bool false)], args := [d] }
  | _ => none }
def CellHomesWrongFalsely : Prop := cellHomesRow.holds Try.pinned (OpenSpec.ofChange cellHomesWrong)

/-- 'paraventlaw03.CellAgain': WHATEVER THE INPUT: true; the input reads as it did. -/
def cellAgainSpec : ChangeSpec := { name := "cellAgain", fn := fun _ => fun
  | [d1, d2, d3] => { results := [.lit (.bool true)], args := [d1, d2, d3] }
  | _ => none }
def cellAgainRow : OpenClaim := { program := "ythfnmlbdbjblkaa", sum := "487e07dd052230f372d413580c08e4a8bfc172765a6cc0edeb0afd8f2079dc89", func := "paravent/paraventlaw03.CellAgain", spec := "cellAgain", unfollowed := true, recurses := true, apart := false }
def CellAgainSaid : Prop := cellAgainRow.holds Try.pinned (OpenSpec.ofChange cellAgainSpec)

/-- ITS FALSE NEIGHBOUR: 'it returns false'. Refute it at one input. -/
def cellAgainWrong : ChangeSpec := { name := "cellAgain", fn := fun _ => fun
  | [d1, d2, d3] => { results := [.lit (.bool false)], args := [d1, d2, d3] }
  | _ => none }
def CellAgainWrongFalsely : Prop := cellAgainRow.holds Try.pinned (OpenSpec.ofChange cellAgainWrong)

/-- 'paraventlaw03.CellAbove': WHATEVER THE INPUT: true; the input reads as it did. -/
def cellAboveSpec : ChangeSpec := { name := "cellAbove", fn := fun _ => fun
  | [d1, d2, d3] => { results := [.lit (.bool true)], args := [d1, d2, d3] }
  | _ => none }
def cellAboveRow : OpenClaim := { program := "ythfnmlbdbjblkaa", sum := "487e07dd052230f372d413580c08e4a8bfc172765a6cc0edeb0afd8f2079dc89", func := "paravent/paraventlaw03.CellAbove", spec := "cellAbove", unfollowed := true, recurses := true, apart := false }
def CellAboveSaid : Prop := cellAboveRow.holds Try.pinned (OpenSpec.ofChange cellAboveSpec)

/-- ITS FALSE NEIGHBOUR: 'it returns false'. Refute it at one input. -/
def cellAboveWrong : ChangeSpec := { name := "cellAbove", fn := fun _ => fun
  | [d1, d2, d3] => { results := [.lit (.bool false)], args := [d1, d2, d3] }
  | _ => none }
def CellAboveWrongFalsely : Prop := cellAboveRow.holds Try.pinned (OpenSpec.ofChange cellAboveWrong)

/-- 'paraventlaw03.CellCodes': WHATEVER THE INPUT: true; the input reads as it did. -/
def cellCodesSpec : ChangeSpec := { name := "cellCodes", fn := fun _ => fun
  | [d1, d2, d3] => { results := [.lit (.bool true)], args := [d1, d2, d3] }
  | _ => none }
def cellCodesRow : OpenClaim := { program := "ythfnmlbdbjblkaa", sum := "487e07dd052230f372d413580c08e4a8bfc172765a6cc0edeb0afd8f2079dc89", func := "paravent/paraventlaw03.CellCodes", spec := "cellCodes", unfollowed := true, recurses := true, apart := false }
def CellCodesSaid : Prop := cellCodesRow.holds Try.pinned (OpenSpec.ofChange cellCodesSpec)

/-- ITS FALSE NEIGHBOUR: 'it returns false'. Refute it at one input. -/
def cellCodesWrong : ChangeSpec := { name := "cellCodes", fn := fun _ => fun
  | [d1, d2, d3] => { results := [.lit (.bool false)], args := [d1, d2, d3] }
  | _ => none }
def CellCodesWrongFalsely : Prop := cellCodesRow.holds Try.pinned (OpenSpec.ofChange cellCodesWrong)

/-- 'paraventlaw03.CellMeets': WHATEVER THE INPUT: true; the input reads as it did. -/
def cellMeetsSpec : ChangeSpec := { name := "cellMeets", fn := fun _ => fun
  | [d1, d2, d3] => { results := [.lit (.bool true)], args := [d1, d2, d3] }
  | _ => none }
def cellMeetsRow : OpenClaim := { program := "ythfnmlbdbjblkaa", sum := "487e07dd052230f372d413580c08e4a8bfc172765a6cc0edeb0afd8f2079dc89", func := "paravent/paraventlaw03.CellMeets", spec := "cellMeets", unfollowed := true, recurses := true, apart := false }
def CellMeetsSaid : Prop := cellMeetsRow.holds Try.pinned (OpenSpec.ofChange cellMeetsSpec)

/-- ITS FALSE NEIGHBOUR: 'it returns false'. Refute it at one input. -/
def cellMeetsWrong : ChangeSpec := { name := "cellMeets", fn := fun _ => fun
  | [d1, d2, d3] => { results := [.lit (.bool false)], args := [d1, d2, d3] }
  | _ => none }
def CellMeetsWrongFalsely : Prop := cellMeetsRow.holds Try.pinned (OpenSpec.ofChange cellMeetsWrong)

/-- 'paraventlaw03.CellKin': WHATEVER THE INPUT: true; the input reads as it did. -/
def cellKinSpec : ChangeSpec := { name := "cellKin", fn := fun _ => fun
  | [d1, d2] => { results := [.lit (.bool true)], args := [d1, d2] }
  | _ => none }
def cellKinRow : OpenClaim := { program := "ythfnmlbdbjblkaa", sum := "487e07dd052230f372d413580c08e4a8bfc172765a6cc0edeb0afd8f2079dc89", func := "paravent/paraventlaw03.CellKin", spec := "cellKin", unfollowed := true, recurses := true, apart := false }
def CellKinSaid : Prop := cellKinRow.holds Try.pinned (OpenSpec.ofChange cellKinSpec)

/-- ITS FALSE NEIGHBOUR: 'it returns false'. Refute it at one input. -/
def cellKinWrong : ChangeSpec := { name := "cellKin", fn := fun _ => fun
  | [d1, d2] => { results := [.lit (.bool false)], args := [d1, d2] }
  | _ => none }
def CellKinWrongFalsely : Prop := cellKinRow.holds Try.pinned (OpenSpec.ofChange cellKinWrong)

/-- 'paraventlaw03.CellParts': WHATEVER THE INPUT: true; the input reads as it did. -/
def cellPartsSpec : ChangeSpec := { name := "cellParts", fn := fun _ => fun
  | [d1, d2] => { results := [.lit (.bool true)], args := [d1, d2] }
  | _ => none }
def cellPartsRow : OpenClaim := { program := "ythfnmlbdbjblkaa", sum := "487e07dd052230f372d413580c08e4a8bfc172765a6cc0edeb0afd8f2079dc89", func := "paravent/paraventlaw03.CellParts", spec := "cellParts", unfollowed := true, recurses := true, apart := false }
def CellPartsSaid : Prop := cellPartsRow.holds Try.pinned (OpenSpec.ofChange cellPartsSpec)

/-- ITS FALSE NEIGHBOUR: 'it returns false'. Refute it at one input. -/
def cellPartsWrong : ChangeSpec := { name := "cellParts", fn := fun _ => fun
  | [d1, d2] => { results := [.lit (.bool false)], args := [d1, d2] }
  | _ => none }
def CellPartsWrongFalsely : Prop := cellPartsRow.holds Try.pinned (OpenSpec.ofChange cellPartsWrong)

/- THE SECOND FORM. 'bulk': how many values and letters a reading holds, each counted each time it is reached (what is shared counts as often as it is met; a slice's spare places count too). A statement '..UptoSaid' is the law's where the arguments, and the package variables that the reading takes, are together of bulk at most 1048576: NARROWER than '..Said'. Prove '..Said' where nothing that the law and all that it calls make is longer than what came in: it says more and counts as full. Else prove '..UptoSaid'. A law counts once. -/
mutual
def uptoBulk {H : Type} : DataW H → Nat
  | .lit (.string bytes) => bytes.length + 1
  | .lit _ => 1
  | .nil => 1
  | .ptr d => uptoBulk d + 1
  | .slice elems spare => uptoBulkAll elems + uptoBulkAll spare + 1
  | .agg parts => uptoBulkAll parts + 1
  | .iface _ d => uptoBulk d + 1
  | .map entries => uptoBulkEntries entries + 1
  | .held _ => 1
def uptoBulkAll {H : Type} : List (DataW H) → Nat
  | [] => 0
  | d :: r => uptoBulk d + uptoBulkAll r
def uptoBulkEntries {H : Type} : List (Lit × DataW H) → Nat
  | [] => 0
  | x :: r => uptoBulkEntry x + uptoBulkEntries r
def uptoBulkEntry {H : Type} : Lit × DataW H → Nat
  | (.string bytes, d) => bytes.length + uptoBulk d + 1
  | (_, d) => uptoBulk d + 1
 end
def uptoSmall : (H : Type) → List (DataW H) → Bool := fun _ ds => decide (uptoBulkAll ds ≤ 1048576)
def OpenSpec.upto (s : _root_.Go.ChangeSpec) : _root_.Go.OpenSpec := { _root_.Go.OpenSpec.ofChange s with cond := some uptoSmall }

/-- 'paraventlaw03.CellAsks', WHERE WHAT IT READS IS OF BULK AT MOST 1048576: true; the input reads as it did. -/
def cellAsksUptoRow : OpenClaim := { program := "ythfnmlbdbjblkaa", sum := "487e07dd052230f372d413580c08e4a8bfc172765a6cc0edeb0afd8f2079dc89", func := "paravent/paraventlaw03.CellAsks", spec := "cellAsks", unfollowed := true, recurses := true, apart := false, narrowed := true }
def CellAsksUptoSaid : Prop := cellAsksUptoRow.holds Try.pinned (OpenSpec.upto cellAsksSpec)

/-- 'paraventlaw03.CellSnaps', WHERE WHAT IT READS IS OF BULK AT MOST 1048576: true; the input reads as it did. -/
def cellSnapsUptoRow : OpenClaim := { program := "ythfnmlbdbjblkaa", sum := "487e07dd052230f372d413580c08e4a8bfc172765a6cc0edeb0afd8f2079dc89", func := "paravent/paraventlaw03.CellSnaps", spec := "cellSnaps", unfollowed := true, recurses := true, apart := false, narrowed := true }
def CellSnapsUptoSaid : Prop := cellSnapsUptoRow.holds Try.pinned (OpenSpec.upto cellSnapsSpec)

/-- 'paraventlaw03.CellHomes', WHERE WHAT IT READS IS OF BULK AT MOST 1048576: true; the input reads as it did. -/
def cellHomesUptoRow : OpenClaim := { program := "ythfnmlbdbjblkaa", sum := "487e07dd052230f372d413580c08e4a8bfc172765a6cc0edeb0afd8f2079dc89", func := "paravent/paraventlaw03.CellHomes", spec := "cellHomes", unfollowed := true, recurses := true, apart := false, narrowed := true }
def CellHomesUptoSaid : Prop := cellHomesUptoRow.holds Try.pinned (OpenSpec.upto cellHomesSpec)

/-- 'paraventlaw03.CellAgain', WHERE WHAT IT READS IS OF BULK AT MOST 1048576: true; the input reads as it did. -/
def cellAgainUptoRow : OpenClaim := { program := "ythfnmlbdbjblkaa", sum := "487e07dd052230f372d413580c08e4a8bfc172765a6cc0edeb0afd8f2079dc89", func := "paravent/paraventlaw03.CellAgain", spec := "cellAgain", unfollowed := true, recurses := true, apart := false, narrowed := true }
def CellAgainUptoSaid : Prop := cellAgainUptoRow.holds Try.pinned (OpenSpec.upto cellAgainSpec)

/-- 'paraventlaw03.CellAbove', WHERE WHAT IT READS IS OF BULK AT MOST 1048576: true; the input reads as it did. -/
def cellAboveUptoRow : OpenClaim := { program := "ythfnmlbdbjblkaa", sum := "487e07dd052230f372d413580c08e4a8bfc172765a6cc0edeb0afd8f2079dc89", func := "paravent/paraventlaw03.CellAbove", spec := "cellAbove", unfollowed := true, recurses := true, apart := false, narrowed := true }
def CellAboveUptoSaid : Prop := cellAboveUptoRow.holds Try.pinned (OpenSpec.upto cellAboveSpec)

/-- 'paraventlaw03.CellCodes', WHERE WHAT IT READS IS OF BULK AT MOST 1048576: true; the input reads as it did. -/
def cellCodesUptoRow : OpenClaim := { program := "ythfnmlbdbjblkaa", sum := "487e07dd052230f372d413580c08e4a8bfc172765a6cc0edeb0afd8f2079dc89", func := "paravent/paraventlaw03.CellCodes", spec := "cellCodes", unfollowed := true, recurses := true, apart := false, narrowed := true }
def CellCodesUptoSaid : Prop := cellCodesUptoRow.holds Try.pinned (OpenSpec.upto cellCodesSpec)

/-- 'paraventlaw03.CellMeets', WHERE WHAT IT READS IS OF BULK AT MOST 1048576: true; the input reads as it did. -/
def cellMeetsUptoRow : OpenClaim := { program := "ythfnmlbdbjblkaa", sum := "487e07dd052230f372d413580c08e4a8bfc172765a6cc0edeb0afd8f2079dc89", func := "paravent/paraventlaw03.CellMeets", spec := "cellMeets", unfollowed := true, recurses := true, apart := false, narrowed := true }
def CellMeetsUptoSaid : Prop := cellMeetsUptoRow.holds Try.pinned (OpenSpec.upto cellMeetsSpec)

/-- 'paraventlaw03.CellKin', WHERE WHAT IT READS IS OF BULK AT MOST 1048576: true; the input reads as it did. -/
def cellKinUptoRow : OpenClaim := { program := "ythfnmlbdbjblkaa", sum := "487e07dd052230f372d413580c08e4a8bfc172765a6cc0edeb0afd8f2079dc89", func := "paravent/paraventlaw03.CellKin", spec := "cellKin", unfollowed := true, recurses := true, apart := false, narrowed := true }
def CellKinUptoSaid : Prop := cellKinUptoRow.holds Try.pinned (OpenSpec.upto cellKinSpec)

/-- 'paraventlaw03.CellParts', WHERE WHAT IT READS IS OF BULK AT MOST 1048576: true; the input reads as it did. -/
def cellPartsUptoRow : OpenClaim := { program := "ythfnmlbdbjblkaa", sum := "487e07dd052230f372d413580c08e4a8bfc172765a6cc0edeb0afd8f2079dc89", func := "paravent/paraventlaw03.CellParts", spec := "cellParts", unfollowed := true, recurses := true, apart := false, narrowed := true }
def CellPartsUptoSaid : Prop := cellPartsUptoRow.holds Try.pinned (OpenSpec.upto cellPartsSpec)

end Rows
end Go.Proofs.Ythfnmlbdbjblkaa
