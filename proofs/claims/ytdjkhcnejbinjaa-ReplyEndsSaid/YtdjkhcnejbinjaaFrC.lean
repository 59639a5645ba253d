/- Bytes come into a buffer, walked. No condition beyond what the memory holds. -/
import Derived.Test.YtdjkhcnejbinjaaFrB
namespace Go.Proofs.Ytdjkhcnejbinjaa
open Go.RowKit
set_option linter.unusedSimpArgs false
set_option linter.unusedVariables false

theorem Reads.set_other {k : IntKind} {w : World} {B n : Nat} {A : Option Addr} {f : Nat → Int} (h : Reads k w B A n f) {p : Addr} {u : Value} (hp : w.cell? p = some u) (hu : ∀ x, u ≠ .int k x) (u' : Value) : Reads k (w.setCell p u') B A n f := fun hn => by
  obtain ⟨b, o, rfl, hb, hc⟩ := h hn
  refine ⟨b, o, rfl, hb, fun j hj => ?_⟩
  rw [World.cell?_setCell_other _ _ _ _ (fun e => by
    have := hc j hj
    first | rw [e] at this | rw [← e] at this
    rw [hp] at this
    injection this with this
    exact hu _ this)]
  exact hc j hj
/-- What a buffer holds behind bytes that came in. -/
def fedOk (room over : Nat) (l m : List Nat) : Bool := decide (m.length - min over m.length + l.length ≤ room)
def fedL (room over : Nat) (l m : List Nat) : List Nat := if fedOk room over l m then l ++ m.drop (min over m.length) else l
def fedO (room over : Nat) (l m : List Nat) : Nat := if fedOk room over l m then over - min over m.length else over
/-- All blocks but the buffer's own and that of its row are as they were. -/
def Kept (w w' : World) (q : Nat) : Prop := ∀ k, k < w.heap.size → k ≠ q → (∀ g o n c, w.cell? ⟨q, 1, none⟩ = some (.slice (some ⟨g, o, none⟩) n c) → k ≠ g) → w'.heap[k]? = w.heap[k]?
end Go.Proofs.Ytdjkhcnejbinjaa
