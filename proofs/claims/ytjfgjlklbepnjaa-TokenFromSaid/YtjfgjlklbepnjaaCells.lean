/- A block of cells that may be written. No condition. -/
import Derived.Test.YtjfgjlklbepnjaaTail
import Derived.Carry
namespace Go.Proofs.Ytjfgjlklbepnjaa
open Go.RowKit
set_option linter.unusedSimpArgs false
set_option linter.unusedVariables false

theorem cell_heap {w : World} {b j : Nat} {cs : Array Value} {t : TypeId} {fz : Nat × Nat} {v : Value} (h : w.heap[b]? = some (.cells cs t fz)) (hv : cs[j]? = some v) : w.cell? ⟨b, j, none⟩ = some v := by
  simp [World.cell?, h, hv]
/-- A block of cells that may be written. -/
def CellsAt (w : World) (b n : Nat) (F : Nat → Value) : Prop := b < w.heap.size ∧ ∀ j, j < n → w.cell? ⟨b, j, none⟩ = some (F j) ∧ w.frozen? ⟨b, j, none⟩ = false
theorem CellsAt.grown {w w' : World} {b n q : Nat} {F : Nat → Value} (h : CellsAt w b n F) (hg : w.grownBy w' (some q)) (hq : b ≠ q) : CellsAt w' b n F :=
  ⟨Nat.lt_of_lt_of_le h.1 hg.size, fun j hj => by
    have e := hg.block b h.1 (fun e => by injection e with e; exact hq e)
    exact ⟨(World.cell?_of_block (a := ⟨b, j, none⟩) e).trans (h.2 j hj).1, (World.frozen?_of_block (a := ⟨b, j, none⟩) e).trans (h.2 j hj).2⟩⟩
theorem CellsAt.keep {w w' : World} {b n : Nat} {F : Nat → Value} (h : CellsAt w b n F) (hb : Below w.heap.size w w') : CellsAt w' b n F :=
  ⟨Nat.lt_of_lt_of_le h.1 hb.size, fun j hj => ⟨(hb.cell (p := ⟨b, j, none⟩) h.1).trans (h.2 j hj).1, (hb.frozen (p := ⟨b, j, none⟩) h.1).trans (h.2 j hj).2⟩⟩
theorem CellsAt.congr {w : World} {b n : Nat} {F G : Nat → Value} (h : CellsAt w b n F) (e : ∀ j, j < n → F j = G j) : CellsAt w b n G := ⟨h.1, fun j hj => by rw [← e j hj]; exact h.2 j hj⟩
theorem CellsAt.set {w : World} {b n j : Nat} {F : Nat → Value} (h : CellsAt w b n F) (hj : j < n) (v : Value) : CellsAt (w.setCell ⟨b, j, none⟩ v) b n (fun i => if i = j then v else F i) := by
  refine ⟨by rw [World.size_setCell]; exact h.1, fun i hi => ?_⟩
  have h1 := h.2 i hi
  have h2 := h.2 j hj
  have hlt := h.1
  by_cases e : i = j
  · subst e
    exact ⟨by go_simp, by go_simp⟩
  · exact ⟨by go_simp, by go_simp⟩
theorem CellsAt.other {w : World} {b n : Nat} {p : Addr} {F : Nat → Value} (h : CellsAt w b n F) (hp : p.block ≠ b) (v : Value) : CellsAt (w.setCell p v) b n F := by
  refine ⟨by rw [World.size_setCell]; exact h.1, fun i hi => ?_⟩
  have e := Below.heap_setCell w p v b (fun e => hp e.symm)
  exact ⟨(World.cell?_of_block (a := ⟨b, i, none⟩) e).trans (h.2 i hi).1, (World.frozen?_of_block (a := ⟨b, i, none⟩) e).trans (h.2 i hi).2⟩
theorem CellsAt.new {w : World} {n : Nat} {F : Nat → Value} {C : Array Value} {t : TypeId} (h : ∀ j, j < n → C[j]? = some (F j)) : CellsAt (w.alloc (Obj.cells C t)) w.heap.size n F := by
  refine ⟨by rw [World.size_alloc]; omega, fun j hj => ⟨cell_heap (heap_alloc_new w _) (h j hj), ?_⟩⟩
  have h9 := heap_alloc_new w (Obj.cells C t)
  unfold World.frozen?
  simp only [h9]
  simp
section
variable {w W : World} {g m : Nat} {F : Nat → Value}
theorem CellsAt.later (X : Later W.heap.size W) (h : CellsAt W g m F) : CellsAt X.w g m F := h.keep X.is
theorem CellsAt.alloc (h : CellsAt w g m F) (o : Obj) : CellsAt (w.alloc o) g m F := h.keep ((Below.refl _ _).alloc (Nat.le_refl _) o)
theorem CellsAt.drew (h : CellsAt w g m F) : CellsAt w.drew g m F := h
/-- Some cells that may be written, whatever they hold. -/
def HasC (w : World) (g m : Nat) : Prop := ∃ F, CellsAt w g m F
theorem HasC.of {F : Nat → Value} (h : CellsAt w g m F) : HasC w g m := ⟨F, h⟩
theorem hasC_new {C : Array Value} {t : TypeId} (hC : C.size = m) (hg : g = w.heap.size) : HasC (w.alloc (Obj.cells C t)) g m := by
  subst hg
  exact ⟨fun j => C.getD j undef, CellsAt.new fun j hj => by
    simp [Array.getD, hC, hj]⟩
theorem HasC.alloc (h : HasC w g m) (o : Obj) : HasC (w.alloc o) g m := by
  obtain ⟨F, h⟩ := h
  exact ⟨F, h.alloc o⟩
theorem HasC.other {p : Addr} (h : HasC w g m) (hp : p.block ≠ g) (v : Value) : HasC (w.setCell p v) g m := by
  obtain ⟨F, h⟩ := h
  exact ⟨F, h.other hp v⟩
theorem HasC.later (X : Later W.heap.size W) (h : HasC W g m) : HasC X.w g m := by
  obtain ⟨F, h⟩ := h
  exact ⟨F, h.later X⟩
theorem HasC.drew (h : HasC w g m) : HasC w.drew g m := h
end
end Go.Proofs.Ytjfgjlklbepnjaa
