/- Small aids for this seat's walks: what is known behind a call that leaves all elder memory alone. No condition. -/
import Derived.Test.YtjfgjlklbepnjaaChecked
import Derived.WalkKit
import Derived.Handy
import Derived.WalkLawsBesides
import Derived.WalkSpells
import Derived.Lib.MinMax
import Derived.Lib.Hide
import Derived.Deep.Quiet
import Derived.Deep.QuietTactic
import Derived.BigQuiet
namespace Go.Proofs.Ytjfgjlklbepnjaa
open Go.RowKit

/-- A world that is, below block B, as W was. -/
structure Later (B : Nat) (W : World) where
  w : World
  is : Below B W w

instance (B : Nat) (W : World) : Nonempty (Later B W) := ⟨⟨W, Below.refl _ _⟩⟩

/-- The side condition 'b < B', in a form that the walk's own arithmetic decides. -/
abbrev Under (b B : Nat) : Prop := ¬ ((⟨b, 0, none⟩ : Addr) = ⟨max b B, 0, none⟩)
theorem Under.lt {b B : Nat} (h : Under b B) : b < B := by
  rcases Nat.lt_or_ge b B with h' | h'
  · exact h'
  · exact absurd (by rw [Nat.max_eq_left h']) h

@[go_sem] theorem Later.cell {B : Nat} {W : World} (X : Later B W) {b o : Nat} (h : Under b B) : X.w.cell? ⟨b, o, none⟩ = W.cell? ⟨b, o, none⟩ := X.is.cell (p := ⟨b, o, none⟩) h.lt
@[go_sem] theorem Later.frozen {B : Nat} {W : World} (X : Later B W) {b o : Nat} (h : Under b B) : X.w.frozen? ⟨b, o, none⟩ = W.frozen? ⟨b, o, none⟩ := X.is.frozen (p := ⟨b, o, none⟩) h.lt
@[go_sem] theorem cell_past (w : World) (o : Obj) (n i : Nat) (h : Under n w.heap.size) : (w.alloc o).cell? ⟨n, i, none⟩ = w.cell? ⟨n, i, none⟩ := World.cell?_alloc_past o n i h.lt
@[go_sem] theorem frozen_past (w : World) (o : Obj) (n i : Nat) (h : Under n w.heap.size) : (w.alloc o).frozen? ⟨n, i, none⟩ = w.frozen? ⟨n, i, none⟩ := World.frozen?_alloc_past o n i h.lt

/-- Behind a call: the world as a later one; how far it reaches. -/
theorem later {W w1 : World} (B : Nat) (hb : Below W.heap.size W w1) (hB : B ≤ W.heap.size) : ∃ X : Later B W, w1 = X.w ∧ B ≤ X.w.heap.size ∧ W.heap.size ≤ X.w.heap.size :=
  ⟨⟨w1, hb.mono hB⟩, rfl, Nat.le_trans hB hb.size, hb.size⟩

theorem Later.step {b B : Nat} {w W : World} (h : Below b w W) (hb : b ≤ B) (X : Later B W) : Below b w X.w := h.trans (X.is.mono hb)

theorem ret_b {a b : Bool} (h : a = b) : Ending.returned (.bool a) = .returned (.bool b) := by rw [h]
theorem ret_i {k : IntKind} {a b : Int} (h : a = b) : Ending.returned (.int k a) = .returned (.int k b) := by rw [h]
theorem iff_b {a b : Bool} (h : a = true ↔ b = true) : a = b := Bool.eq_iff_iff.2 h

theorem not_t {b : Bool} (h : (!b) = true) : b = false := by simpa using h
theorem not_f {b : Bool} (h : (!b) = false) : b = true := by simpa using h
theorem not_n {b : Bool} (h : ¬ b = true) : b = false := by simpa using h

section
variable {P : Program} {ops : Array Oper}
theorem quiet_weak {C : World → Prop} {Q1 Q2 : Act → Prop} (hq : ∀ a, Q1 a → Q2 a) : ∀ (m : List Oper) (a : Act), wpQuiet P ops C Q1 m a → wpQuiet P ops C Q2 m a
  | [], a, h => hq a h
  | o :: m, a, h => by
    simp only [wpQuiet] at h ⊢
    split
    · rename_i hw; rw [if_pos hw] at h; exact Oper.quiet_mono (quiet_weak hq m) h
    · rename_i hw; rw [if_neg hw] at h; exact quiet_weak hq m _ h
/-- A region that draws its order, whose calls make memory of their own alone: one walk in the text's order. B: the memory that is looked at lies below it. -/
theorem wp_region_later {id : Nat} {Q : Exit → Act → World → Prop} {a : Act} {w : World} {l : List Oper} (B : Nat) (hm : P.follows .mixedOrders = true) (hB : Region.lexB .any l.toArray = true) (h0 : B ≤ w.heap.size)
    (h : wpQuiet P l.toArray (fun w' => ∃ X : Later B w, w' = X.w) (fun a' => ∀ X : Later B w, B ≤ X.w.heap.size → w.heap.size ≤ X.w.heap.size → Q .normal a' X.w) l a) : (Code.region id l.toArray true).wp P Q a w := by
  have hd : Below B w { w with drawn := w.drawn + 1 } := ⟨rfl, rfl, rfl, Nat.le_refl _, fun _ _ => rfl⟩
  refine wp_region_quiet (C := fun w' => ∃ X : Later B w, w' = X.w) hm hB ⟨⟨_, hd⟩, rfl⟩ ?_
  have h' := quiet_weak (Q2 := fun a' => ∀ w', (∃ X : Later B w, w' = X.w) → Q .normal a' w') (fun a' ha w' ⟨X, hX⟩ => by subst hX; exact ha X (Nat.le_trans h0 X.is.size) X.is.size) l a h
  simpa using h'

/-- A callee's contract within such a walk. -/
theorem Later.call {B : Nat} {W : World} (X : Later B W) {f : FuncId} {args : Array Value} {v : Value} (hB : B ≤ X.w.heap.size) (h : Calls P f args X.w fun e w' => e = .returned v ∧ Below X.w.heap.size X.w w') :
    Calls P f args X.w fun e w'' => e = .returned v ∧ ∃ Y : Later B W, w'' = Y.w :=
  h.mono fun _ w' ⟨he, hb⟩ => ⟨he, ⟨w', X.is.trans (hb.mono hB)⟩, rfl⟩
end
end Go.Proofs.Ytjfgjlklbepnjaa
