/- Whatever is done with a buffer: the statement walked. No condition beyond what the slices read as. -/
import Derived.Test.YthcecinhlhgohaaFrJ
import Derived.Test.YthcecinhlhgohaaFrL1
namespace Go.Proofs.Ythcecinhlhgohaa
open Go.RowKit
set_option linter.unusedSimpArgs false
set_option linter.unusedVariables false
set_option maxRecDepth 2000

/-- A slice of things that are done: a number and bytes each. -/
def IsOps (w : World) (x : Option Addr) (len : Nat) : Prop := ∀ i, i < len → ∃ b o k A c l, x = some ⟨b, o, none⟩ ∧ b < w.heap.size ∧ w.cell? ⟨b, o + i * 2, none⟩ = some (.int .i64 k) ∧ w.cell? ⟨b, o + i * 2 + 1, none⟩ = some (.slice A (l : List Nat).length c) ∧ Small l ∧ Reads .u8 w w.heap.size A l.length (atI l) ∧ l.length ≤ c ∧ c ≤ 9000000000000000000
theorem fed_facts {room over : Nat} {l m : List Nat} (hl : l.length ≤ room) (hov : 0 < l.length → over = 0) (ho : over ≤ 65535) (hs : Small l) (hm : Small m) :
    (fedL room over l m).length ≤ room ∧ (0 < (fedL room over l m).length → fedO room over l m = 0) ∧ fedO room over l m ≤ 65535 ∧ Small (fedL room over l m) := by
  unfold fedL fedO
  by_cases h : fedOk room over l m = true
  · simp only [h, if_true]
    have h' : m.length - min over m.length + l.length ≤ room := by simpa [fedOk] using h
    refine ⟨by rw [List.length_append, List.length_drop]; omega, fun hp => ?_, by omega, hs.app (hm.drop _)⟩
    rw [List.length_append, List.length_drop] at hp
    by_cases h0 : 0 < l.length
    · have := hov h0; omega
    · omega
  · rw [if_neg h, if_neg h]
    exact ⟨hl, hov, ho, hs⟩
theorem next_facts {room over : Nat} {l : List Nat} (hl : l.length ≤ room) (hov : 0 < l.length → over = 0) (ho : over ≤ 65535) (hs : Small l) :
    (nextL l).length ≤ room ∧ (0 < (nextL l).length → nextO l over = 0) ∧ nextO l over ≤ 65535 ∧ Small (nextL l) := by
  have hb := lenI_bd hs
  rcases kind_cases l with h | h | h
  · obtain ⟨e1, e2, e3⟩ := next_zero h over
    rw [e1, e2]; exact ⟨hl, hov, ho, hs⟩
  · have := kind_one h
    have h0 := hov (by omega)
    unfold nextL nextO
    rw [h, if_pos rfl, if_neg (by decide)]
    exact ⟨by rw [List.length_drop, List.length_drop]; omega, fun _ => h0, by omega, (hs.drop _).drop _⟩
  · have := kind_two h
    unfold nextL nextO
    rw [h, if_neg (by decide), if_pos rfl, if_pos rfl]
    refine ⟨by rw [List.length_drop, List.length_drop]; omega, fun hp => ?_, by omega, (hs.drop _).drop _⟩
    rw [List.length_drop, List.length_drop] at hp
    omega
end Go.Proofs.Ythcecinhlhgohaa
