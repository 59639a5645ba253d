/- The next frame is taken out of a buffer, walked. No condition beyond what the memory holds. -/
import Derived.Test.YtdjkhcnejbinjaaFrC
namespace Go.Proofs.Ytdjkhcnejbinjaa
open Go.RowKit
set_option linter.unusedSimpArgs false
set_option linter.unusedVariables false

theorem Buf.over_set {w : World} {q room over : Nat} {l : List Nat} (h : Buf w q room l over) {o : Nat} {x : Int} (hx : x = o) : Buf (w.setCell ⟨q, 2, none⟩ (.int .i64 x)) q room l o := by
  subst hx
  obtain ⟨lt, c0, ⟨A, c, c1, own⟩, c2, z1, z2⟩ := h
  refine ⟨by rw [World.size_setCell]; exact lt, ?_, ⟨A, c, ?_, own_set own (show q < q + 1 by omega) _⟩, ?_, ?_, ?_⟩
  · rw [World.cell?_setCell_other _ _ _ _ (by simp)]; exact c0
  · rw [World.cell?_setCell_other _ _ _ _ (by simp)]; exact c1
  · exact World.cell?_setCell_same _ _ _ c2
  · rw [World.frozen?_setCell]; exact z1
  · rw [World.frozen?_setCell]; exact z2
def nextL (l : List Nat) : List Nat := if kindN l = 1 then (l.drop 2).drop (lenI l) else if kindN l = 2 then (l.drop 2).drop (min (lenI l) (l.length - 2)) else l
def nextO (l : List Nat) (over : Nat) : Nat := if kindN l = 2 then lenI l - min (lenI l) (l.length - 2) else over
def nextB (l : List Nat) : List Nat := if kindN l = 1 then (l.drop 2).take (lenI l) else []
/-- What Next leaves. -/
def NextPost (q room over : Nat) (l : List Nat) (w : World) (e : Ending) (w' : World) : Prop :=
  (∃ A c, e = .returned (.tuple #[.slice A (nextB l).length c, .int .i64 (kindN l)]) ∧ w'.ownsRow (q + 1) 5 1 (.slice A (nextB l).length c) (nextB l).length (rowV .u8 (nextB l).length (atI (nextB l))))
    ∧ Buf w' q room (nextL l) (nextO l over) ∧ Below q w w' ∧ w.heap.size ≤ w'.heap.size ∧ w.grownBy w' (some q)
def TakePost (q room over n : Nat) (l : List Nat) (w : World) (e : Ending) (w' : World) : Prop :=
  (∃ A c, e = .returned (.slice A n c) ∧ w'.ownsRow (q + 1) 5 1 (.slice A n c) n (rowV .u8 n (atI l))) ∧ Buf w' q room (l.drop n) over ∧ Below q w w' ∧ w.heap.size ≤ w'.heap.size ∧ w.grownBy w' (some q)
theorem kind_one {l : List Nat} (h : kindN l = 1) : 2 ≤ l.length ∧ lenI l ≤ 600 ∧ 2 + lenI l ≤ l.length := by
  unfold kindN at h
  split at h
  · omega
  · split at h
    · omega
    · split at h
      · omega
      · omega
theorem kind_two {l : List Nat} (h : kindN l = 2) : 2 ≤ l.length ∧ 600 < lenI l := by
  unfold kindN at h
  split at h
  · omega
  · split at h
    · omega
    · split at h
      · omega
      · omega
theorem kind_cases (l : List Nat) : kindN l = 0 ∨ kindN l = 1 ∨ kindN l = 2 := by
  unfold kindN; repeat' split
  all_goals omega
end Go.Proofs.Ytdjkhcnejbinjaa
