/- A list of points that came in, opened. No condition. -/
import Derived.Test.YthoanoaigfcchaaClI
import Derived.Test.YthoanoaigfcchaaRows
import Derived.ProofKit
import Derived.OpenShut
import Derived.Deep.Slices
import Derived.Deep.Fields
import Derived.ChangeArms
import Derived.Lib.SmallJoins
namespace Go.Proofs.Ythoanoaigfcchaa
open Go.ChangeShapes Go.WideShapes Go.ChangeAt Go.RowKit
set_option linter.unusedSimpArgs false
set_option linter.unusedVariables false
set_option maxRecDepth 4000

section
variable {H : Type} {enc : TypeId × Value → H} {W : World} {base : Nat} {held : Bool} {fuel : Nat} {x : DataW H × List MemPlace}
theorem cells_int : Try.prog.cellsOf 3 = 1 := by kernel_rfl
theorem cells_pt : Try.prog.cellsOf 24 = 2 := by kernel_rfl
/-- A number's cell. -/
def IsInt (v : Value) : Prop := ∃ z, v = .int .i64 z
theorem open_z {v : Value} (h : DataW.trod enc Try.prog W base (fun _ => true) held fuel 3 [v] = some x) : IsInt v := by
  obtain ⟨z, e, _, _⟩ := DataW.trod_int Try.underlying3 h
  simp at e
  exact ⟨z, e⟩
theorem open_pt2 {v0 v1 : Value} (h : DataW.trod enc Try.prog W base (fun _ => true) held fuel 24 [v0, v1] = some x) : IsInt v0 ∧ IsInt v1 := by
  obtain ⟨xs, n', hn', hx', hcl, hxl, hf⟩ := DataW.trod_struct Try.underlying24 h
  match xs, hxl with
  | [y0, y1], _ =>
    have h0 := hf 0 _ rfl
    have h1 := hf 1 _ rfl
    simp [cells_int] at h0 h1
    exact ⟨open_z h0, open_z h1⟩
/-- Items of so many ints each. -/
def IsItems (w : World) (B : Nat) (A : Option Addr) (n size : Nat) (f : Nat → Nat → Int) : Prop := 0 < n → ∃ b o, A = some ⟨b, o, none⟩ ∧ b < B ∧ ∀ i, i < n → ∀ j, j < size → w.cell? ⟨b, o + i * size + j, none⟩ = some (.int .i64 (f i j))
def numAt (W : World) (a : Option Addr) (size i j : Nat) : Int := match a with
  | some ad => match W.cell? ((ad.add (i * size)).add j) with
    | some (.int .i64 z) => z
    | _ => 0
  | none => 0
theorem items_of {A : Option Addr} {n size : Nat} (hsz : 0 < size) (h : ∀ i, i < n → ∃ ad, A = some ad ∧ ∀ j, j < size → ∃ z, W.cell? ((ad.add (i * size)).add j) = some (.int .i64 z)) : IsItems W W.heap.size A n size (numAt W A size) := fun hn => by
  obtain ⟨ad, rfl, h0⟩ := h 0 hn
  obtain ⟨z0, hz0⟩ := h0 0 hsz
  obtain ⟨b, o, sp⟩ := ad
  have hsp : sp = none := by simpa [Addr.add] using World.cell?_spot hz0
  subst hsp
  refine ⟨b, o, rfl, by have := World.block_lt_of_cell? _ _ hz0; simpa [Addr.add] using this, fun i hi j hj => ?_⟩
  obtain ⟨ad', e, h'⟩ := h i hi
  injection e with e
  subst e
  obtain ⟨z, hz⟩ := h' j hj
  simp only [numAt, hz]
  rw [Addr.add_lit, Addr.add_lit] at hz
  exact hz
theorem open_points {a : Option Addr} {len cap : Nat} (h : DataW.trod enc Try.prog W base (fun _ => true) held fuel 22 [.slice a len cap] = some x) :
    len ≤ 9223372036854775807 ∧ IsItems W W.heap.size a len 2 (numAt W a 2) := by
  rcases Go.Deep.open_slice Try.underlying22 h with ⟨hcs, _⟩ | ⟨ad, len', cap', m, n, D, Pl, hcs, hb, hl, hm, hmm, hx, hi⟩
  · simp at hcs
    obtain ⟨rfl, rfl, rfl⟩ := hcs
    exact ⟨by omega, fun h => absurd h (by omega)⟩
  · simp at hcs
    obtain ⟨rfl, rfl, rfl⟩ := hcs
    refine ⟨by have : (maxLen : Nat) = 9223372036854775807 := rfl; omega, items_of (by decide) fun i hlt => ⟨ad, rfl, fun j hj => ?_⟩⟩
    obtain ⟨cs', hc, ht⟩ := hi i (by rw [hmm]; split <;> omega)
    rw [cells_pt] at hc
    obtain ⟨_, hlen, hget⟩ := World.cells?_some hc
    match cs', hlen with
    | [v0, v1], _ =>
      have hv2 := open_pt2 ht
      have hv : ∀ v ∈ [v0, v1], IsInt v := fun v hv => by
        simp at hv
        rcases hv with rfl | rfl
        · exact hv2.1
        · exact hv2.2
      have hg := hget j hj
      have hin : ∃ v, [v0, v1][j]? = some v := ⟨_, List.getElem?_eq_getElem (by simpa using hj)⟩
      obtain ⟨v, hvj⟩ := hin
      obtain ⟨z, rfl⟩ := hv v (List.mem_of_getElem? hvj)
      exact ⟨z, by rw [hg, hvj]⟩
/-- The points that a slice leads to. -/
def ptsAt (W : World) (a : Option Addr) (len : Nat) : List (Int × Int) := (List.range len).map fun i => (numAt W a 2 i 0, numAt W a 2 i 1)
theorem ptsAt_len (W : World) (a : Option Addr) (len : Nat) : (ptsAt W a len).length = len := by simp [ptsAt]
theorem open_pts {a : Option Addr} {len cap : Nat} (h : DataW.trod enc Try.prog W base (fun _ => true) held fuel 22 [.slice a len cap] = some x) : len ≤ 9223372036854775807 ∧ Pts W W.heap.size a (ptsAt W a len) := by
  obtain ⟨h1, h2⟩ := open_points h
  refine ⟨h1, fun hp => ?_⟩
  rw [ptsAt_len] at hp
  obtain ⟨b, o, e, hb, hc⟩ := h2 hp
  refine ⟨b, o, e, hb, fun i hi => ?_⟩
  rw [ptsAt_len] at hi
  have e1 : (ptsAt W a len).getD i (0, 0) = (numAt W a 2 i 0, numAt W a 2 i 1) := by simp [ptsAt, List.getD, hi]
  rw [e1]
  exact ⟨by simpa using hc i hi 0 (by decide), hc i hi 1 (by decide)⟩
end
end Go.Proofs.Ythoanoaigfcchaa
