/- Whatever is done with a buffer: what came in as the walk reads it. No condition. -/
import Derived.Test.YthcecinhlhgohaaFrO
import Derived.Test.YthcecinhlhgohaaOpenOp
namespace Go.Proofs.Ythcecinhlhgohaa
open Go.ChangeShapes Go.WideShapes Go.ChangeAt Go.RowKit
set_option linter.unusedSimpArgs false
set_option linter.unusedVariables false

theorem ops_of {W : World} {a : Option Addr} {len : Nat} (h : ∀ i, i < len → ∃ ad k A n c zs, a = some ad ∧ W.cell? (ad.add (i * 2)) = some (.int .i64 k) ∧ (Lit.int .i64 k).wf = true ∧ W.cell? ((ad.add (i * 2)).add 1) = some (.slice A n c) ∧ IsRow .u8 W A n c zs ∧ c ≤ reachBytes) : IsOps W a len := by
  intro i hi
  obtain ⟨ad, k, A, n, c, zs, rfl, hk, hw, hc, hrow, hsz⟩ := h i hi
  obtain ⟨l, rfl, h1, h2, h3, h4⟩ := row_list hrow
  obtain ⟨b, o, sp⟩ := ad
  have hsp : sp = none := by
    obtain ⟨ad0, k0, A0, n0, c0, zs0, e0, hk0, _⟩ := h 0 (by omega)
    injection e0 with e0
    subst e0
    simpa [Addr.add] using World.cell?_spot hk0
  subst hsp
  rw [Addr.add_lit] at hk hc
  rw [Addr.add_lit] at hc
  have hcl : c ≤ 9000000000000000000 := Nat.le_trans hsz (by decide)
  exact ⟨b, o, k, A, c, l, rfl, by have := World.block_lt_of_cell? _ _ hk; simpa using this, hk, hc, h1, h2, h3, hcl⟩
theorem plays_law (room : Int) (x : Option Addr) (n c : Nat) (w : World) (hr : (Lit.int .i64 room).wf = true) (h : n ≤ 9223372036854775807 ∧ ∀ i, i < n → ∃ ad k A n c zs, x = some ad ∧ w.cell? (ad.add (i * 2)) = some (.int .i64 k) ∧ (Lit.int .i64 k).wf = true ∧ w.cell? ((ad.add (i * 2)).add 1) = some (.slice A n c) ∧ IsRow .u8 w A n c zs ∧ c ≤ reachBytes) :
    Calls Try.prog 6 #[.int .i64 room, .slice x n c] w fun e w' => e = .returned (.bool true) ∧ Below w.heap.size w w' :=
  plays_walk room x n c w (ops_of h.2) h.1
end Go.Proofs.Ythcecinhlhgohaa
