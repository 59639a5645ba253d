/- A slice of slices of bytes that came in, opened. No condition. -/
import Derived.Test.YthcecinhlhgohaaFrL1
import Derived.Test.YthcecinhlhgohaaRows
import Derived.ProofKit
import Derived.OpenShut
import Derived.Deep.Slices
namespace Go.Proofs.Ythcecinhlhgohaa
open Go.ChangeShapes Go.WideShapes Go.ChangeAt Go.RowKit
set_option linter.unusedSimpArgs false
set_option linter.unusedVariables false

theorem open_row {H : Type} {enc : TypeId × Value → H} {W : World} {base : Nat} {held : Bool} {fuel : Nat} {v : Value} {x : DataW H × List MemPlace} (h : DataW.trod enc Try.prog W base (fun _ => true) held fuel 22 [v] = some x) :
    ∃ A n c zs, v = .slice A n c ∧ IsRow .u8 W A n c zs := by
  rcases open_ints Try.underlying22 Try.underlying5 (by kernel_rfl) h with ⟨hcs, _⟩ | ⟨x, l, c, zs, hcs, _, hl, hm, hz, _, hcell, hwz⟩
  · simp at hcs
    exact ⟨none, 0, 0, [], hcs, .inl ⟨rfl, rfl, rfl, rfl⟩⟩
  · simp at hcs
    exact ⟨some x, l, c, zs, hcs, .inr ⟨x, rfl, hl, hm, by simpa using hz, hcell, hwz⟩⟩
theorem open_rows {H : Type} {enc : TypeId × Value → H} {W : World} {base : Nat} {held : Bool} {fuel : Nat} {a : Option Addr} {len cap : Nat} {x : DataW H × List MemPlace} (h : DataW.trod enc Try.prog W base (fun _ => true) held fuel 37 [.slice a len cap] = some x) :
    len ≤ 9223372036854775807 ∧ ∀ i, i < len → ∃ ad A n c zs, a = some ad ∧ W.cell? (ad.add i) = some (.slice A n c) ∧ IsRow .u8 W A n c zs := by
  rcases Go.Deep.open_slice Try.underlying37 h with ⟨hcs, _⟩ | ⟨ad, len', cap', m, n, D, Pl, hcs, hb, hl, hm, hmm, hx, hi⟩
  · simp at hcs
    obtain ⟨rfl, rfl, rfl⟩ := hcs
    exact ⟨by omega, fun i hi => absurd hi (by omega)⟩
  · simp at hcs
    obtain ⟨rfl, rfl, rfl⟩ := hcs
    refine ⟨by have := maxLen_lim hm; omega, fun i hlt => ?_⟩
    obtain ⟨cs', hc, ht⟩ := hi i (by rw [hmm]; split <;> omega)
    have hC : Try.prog.cellsOf 22 = 1 := by kernel_rfl
    rw [hC, Nat.mul_one] at hc
    obtain ⟨_, hlen, hget⟩ := World.cells?_some hc
    match cs', hlen with
    | [v], _ =>
      obtain ⟨A, k, c, zs, rfl, hrow⟩ := open_row ht
      have hv := hget 0 (by omega)
      exact ⟨ad, A, k, c, zs, rfl, by simpa [Addr.add] using hv, hrow⟩
/-- The same as the walk reads it. -/
theorem rows_of {W : World} {a : Option Addr} {len : Nat} (h : ∀ i, i < len → ∃ ad A n c zs, a = some ad ∧ W.cell? (ad.add i) = some (.slice A n c) ∧ IsRow .u8 W A n c zs) :
    ∀ i, i < len → ∃ b o A c l, a = some ⟨b, o, none⟩ ∧ b < W.heap.size ∧ W.cell? ⟨b, o + i, none⟩ = some (.slice A (l : List Nat).length c) ∧ Small l ∧ Reads .u8 W W.heap.size A l.length (atI l) ∧ l.length ≤ c ∧ c ≤ 9223372036854775807 := by
  intro i hi
  obtain ⟨ad, A, n, c, zs, rfl, hc, hrow⟩ := h i hi
  obtain ⟨l, rfl, h1, h2, h3, h4⟩ := row_list hrow
  obtain ⟨b, o, sp⟩ := ad
  have hsp : sp = none := by
    obtain ⟨ad0, A0, n0, c0, zs0, e0, hc0, _⟩ := h 0 (by omega)
    injection e0 with e0
    subst e0
    simpa [Addr.add] using World.cell?_spot hc0
  subst hsp
  rw [Addr.add_lit] at hc
  exact ⟨b, o, A, c, l, rfl, by have := World.block_lt_of_cell? _ _ hc; simpa using this, hc, h1, h2, h3, h4⟩
end Go.Proofs.Ythcecinhlhgohaa
