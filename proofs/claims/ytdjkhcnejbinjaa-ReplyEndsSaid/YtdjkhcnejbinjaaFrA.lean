/- A buffer of bytes in memory; its functions walked. No condition beyond what the memory holds. -/
import Derived.Test.YtdjkhcnejbinjaaApp
import Derived.Test.YtdjkhcnejbinjaaTail
import Derived.Test.YtdjkhcnejbinjaaNumB
import Derived.Test.YtdjkhcnejbinjaaNumC
namespace Go.Proofs.Ytdjkhcnejbinjaa
open Go.RowKit
set_option linter.unusedSimpArgs false
set_option linter.unusedVariables false

/-- A buffer at block q: its room, the bytes that wait, what is to be passed over. -/
structure Buf (w : World) (q room : Nat) (l : List Nat) (over : Nat) : Prop where
  lt : q < w.heap.size
  c0 : w.cell? ⟨q, 0, none⟩ = some (.int .i64 room)
  row : ∃ A c, w.cell? ⟨q, 1, none⟩ = some (.slice A l.length c) ∧ w.ownsRow (q + 1) 5 1 (.slice A l.length c) l.length (rowV .u8 l.length (atI l))
  c2 : w.cell? ⟨q, 2, none⟩ = some (.int .i64 over)
  z1 : w.frozen? ⟨q, 1, none⟩ = false
  z2 : w.frozen? ⟨q, 2, none⟩ = false
theorem Buf.keep {w w' : World} {q room over : Nat} {l : List Nat} (h : Buf w q room l over) (hb : Below w.heap.size w w') : Buf w' q room l over := by
  obtain ⟨lt, c0, ⟨A, c, c1, own⟩, c2, z1, z2⟩ := h
  exact ⟨Nat.lt_of_lt_of_le lt hb.size, (hb.cell (p := ⟨q, 0, none⟩) lt).trans c0, ⟨A, c, (hb.cell (p := ⟨q, 1, none⟩) lt).trans c1, own_keep own hb⟩, (hb.cell (p := ⟨q, 2, none⟩) lt).trans c2, (hb.frozen (p := ⟨q, 1, none⟩) lt).trans z1, (hb.frozen (p := ⟨q, 2, none⟩) lt).trans z2⟩
/-- The number of the first two bytes. -/
def lenI (l : List Nat) : Nat := 256 * l.getD 0 0 + l.getD 1 0
theorem small_at {l : List Nat} (h : Small l) (j : Nat) : l.getD j 0 < 256 := by
  by_cases hj : j < l.length
  · exact h _ (by simp [List.getD, hj])
  · simp [List.getD, List.getElem?_eq_none (Nat.le_of_not_lt hj)]
theorem lenI_bd {l : List Nat} (h : Small l) : lenI l < 65536 := by
  have := small_at h 0
  have := small_at h 1
  unfold lenI; omega
set_option maxRecDepth 2000 in
theorem getF_two (l : List Nat) : getF (atI l) 2 = ((lenI l : Nat) : Int) := by
  simp only [getF, atI, lenI]; push_cast; omega
theorem Small.take {l : List Nat} (h : Small l) (n : Nat) : Small (l.take n) := fun x hx => h x (List.mem_of_mem_take hx)
theorem Small.drop {l : List Nat} (h : Small l) (n : Nat) : Small (l.drop n) := fun x hx => h x (List.mem_of_mem_drop hx)
theorem Small.app {a b : List Nat} (h : Small a) (h' : Small b) : Small (a ++ b) := fun x hx => by
  rcases List.mem_append.1 hx with hx | hx
  · exact h x hx
  · exact h' x hx
theorem atI_bd {l : List Nat} (h : Small l) (j : Nat) : 0 ≤ atI l j ∧ atI l j ≤ 255 := ⟨atI_nonneg l j, atI_le h j⟩

theorem own_form {w : World} {base : Nat} {e : TypeId} {size n : Nat} {v : Value} {xs : List Value} (h : w.ownsRow base e size v n xs) : ∃ A c, v = .slice A n c := by
  rcases h.2 with ⟨rfl, rfl⟩ | ⟨g, cap, cur, rfl, _⟩
  · exact ⟨_, _, rfl⟩
  · exact ⟨_, _, rfl⟩
theorem grown_of_below {w w' : World} (h : Below w.heap.size w w') (r : Option Nat) : w.grownBy w' r := ⟨h.os, h.tape, h.output, h.size, fun k hk _ => h.block k hk⟩
theorem grown_trans {w w1 w2 : World} {r : Option Nat} (h : w.grownBy w1 r) (h' : w1.grownBy w2 r) : w.grownBy w2 r :=
  ⟨h'.os.trans h.os, h'.tape.trans h.tape, h'.output.trans h.output, Nat.le_trans h.size h'.size, fun k hk hr => (h'.block k (Nat.lt_of_lt_of_le hk h.size) hr).trans (h.block k hk hr)⟩
theorem grown_set (w : World) (p : Addr) (u : Value) : w.grownBy (w.setCell p u) (some p.block) :=
  ⟨rfl, rfl, rfl, by rw [World.size_setCell]; exact Nat.le_refl _, fun k hk hr => Below.heap_setCell w p u k (fun e => hr (by rw [e]))⟩
end Go.Proofs.Ytdjkhcnejbinjaa
