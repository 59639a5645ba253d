/- Whatever is done with a buffer: the statement walked. No condition beyond what the slices read as. -/
import Derived.Test.YthcecinhlhgohaaFrM
namespace Go.Proofs.Ythcecinhlhgohaa
open Go.RowKit
set_option linter.unusedSimpArgs false
set_option linter.unusedVariables false
set_option maxRecDepth 2000

/-- The document's buffer in memory, at block b. -/
def Rec (w : World) (b room : Nat) (A : Option Addr) (n c over : Nat) : Prop := w.heap[b]? = some (.cells #[.int .i64 room, .slice A n c, .int .i64 over] 48 (0, 0))
theorem Rec.cells {w : World} {b room n c over : Nat} {A : Option Addr} (h : Rec w b room A n c over) :
    w.cell? ⟨b, 0, none⟩ = some (.int .i64 room) ∧ w.cell? ⟨b, 1, none⟩ = some (.slice A n c) ∧ w.cell? ⟨b, 2, none⟩ = some (.int .i64 over) ∧ (∀ j, w.frozen? ⟨b, j, none⟩ = false) ∧ b < w.heap.size := by
  unfold Rec at h
  refine ⟨by simp [World.cell?, h], by simp [World.cell?, h], by simp [World.cell?, h], fun j => by simp [World.frozen?, h], ?_⟩
  rcases Nat.lt_or_ge b w.heap.size with hlt | hge
  · exact hlt
  · rw [Array.getElem?_eq_none hge] at h; cases h
/-- The buffer's row does not lie in the document's block. -/
theorem Rec.apart {w : World} {q room over b n c over' r : Nat} {l : List Nat} {A : Option Addr} (h : Buf w q room l over) (hr : Rec w b r A n c over') : ∀ g o n c, w.cell? ⟨q, 1, none⟩ = some (.slice (some ⟨g, o, none⟩) n c) → b ≠ g ∧ g < w.heap.size := by
  obtain ⟨lt, c0, ⟨A', c', c1, own⟩, c2, z1, z2⟩ := h
  intro g o n' c'' hc
  rw [c1] at hc
  injection hc with hc
  injection hc with hA
  subst hA
  rcases own.2 with ⟨hv, _⟩ | ⟨g', cap, cur, hv, hb, hg, _⟩
  · injection hv with hA; cases hA
  · injection hv with hA
    cases hA
    refine ⟨?_, ?_⟩
    · rintro rfl
      unfold Rec at hr
      rw [hg] at hr
      injection hr with hr
      injection hr with _ ht
      exact absurd ht (by decide)
    · rcases Nat.lt_or_ge g w.heap.size with hlt | hge
      · exact hlt
      · rw [Array.getElem?_eq_none hge] at hg; cases hg
theorem Rec.set0 {w : World} {b room n c over : Nat} {A : Option Addr} (h : Rec w b room A n c over) : Rec (w.setCell ⟨b, 0, none⟩ (.int .i64 room)) b room A n c over := by
  unfold Rec at h ⊢
  simp [World.setCell, Array.getElem?_modify, h]
theorem Rec.set1 {w : World} {b room n c over n' c' : Nat} {A A' : Option Addr} (h : Rec w b room A n c over) : Rec (w.setCell ⟨b, 1, none⟩ (.slice A' n' c')) b room A' n' c' over := by
  unfold Rec at h ⊢
  simp [World.setCell, Array.getElem?_modify, h]
theorem Rec.set2 {w : World} {b room n c over over' : Nat} {A : Option Addr} (h : Rec w b room A n c over) : Rec (w.setCell ⟨b, 2, none⟩ (.int .i64 over')) b room A n c over' := by
  unfold Rec at h ⊢
  simp [World.setCell, Array.getElem?_modify, h]
/-- The program's buffer stays where the document's value is stored. -/
theorem Buf.set_rec {w : World} {q room over b r n c over' : Nat} {l : List Nat} {A : Option Addr} (h : Buf w q room l over) (hr : Rec w b r A n c over') (hbq : b ≠ q) (j : Nat) (u : Value) : Buf (w.setCell ⟨b, j, none⟩ u) q room l over := by
  have hap := Rec.apart h hr
  obtain ⟨lt, c0, ⟨A', c', c1, own⟩, c2, z1, z2⟩ := h
  have hne : ∀ i, (⟨q, i, none⟩ : Addr) ≠ ⟨b, j, none⟩ := fun i e => hbq (by injection e with e; exact e.symm)
  refine ⟨by rw [World.size_setCell]; exact lt, ?_, ⟨A', c', ?_, own.kept (grown_set w ⟨b, j, none⟩ u) ?_⟩, ?_, ?_, ?_⟩
  · rw [World.cell?_setCell_other _ _ _ _ (fun e => hne 0 (by first | exact e | exact e.symm))]; exact c0
  · rw [World.cell?_setCell_other _ _ _ _ (fun e => hne 1 (by first | exact e | exact e.symm))]; exact c1
  · rcases hv : (Value.slice A' l.length c').ownBlock with _ | g
    · exact .inl rfl
    · refine .inr fun e => ?_
      rcases A' with _ | ad
      · simp [Value.ownBlock] at hv
      · rcases own.2 with ⟨h0, _⟩ | ⟨g', cap, cur, h0, _⟩
        · injection h0 with hA; cases hA
        · injection h0 with hA
          cases hA
          have := (hap g' 0 _ _ c1).1
          simp [Value.ownBlock] at hv e
          omega
  · rw [World.cell?_setCell_other _ _ _ _ (fun e => hne 2 (by first | exact e | exact e.symm))]; exact c2
  · rw [World.frozen?_setCell]; exact z1
  · rw [World.frozen?_setCell]; exact z2
end Go.Proofs.Ythcecinhlhgohaa
