/- A slice of things that are done, opened. No condition. -/
import Derived.Test.YthcecinhlhgohaaOpen
import Derived.Deep.Fields
import Derived.ChangeArms
import Derived.SizedLaws
namespace Go.Proofs.Ythcecinhlhgohaa
open Go.ChangeShapes Go.WideShapes Go.ChangeAt Go.RowKit
set_option linter.unusedSimpArgs false
set_option linter.unusedVariables false

theorem mem_weightsAll {H : Type} {P : Program} {e : TypeId} {d : DataW H} {n : Nat} (hn : n ∈ d.weights P e) : ∀ {l : List (DataW H)}, d ∈ l → n ∈ DataW.weightsAll P e l
  | x :: r, h => by
    simp only [DataW.weightsAll, List.mem_append]
    rcases List.mem_cons.1 h with rfl | h
    · exact .inl hn
    · exact .inr (mem_weightsAll hn h)
/-- A row of bytes and what the form's reach says of it. -/
theorem open_row_w {H : Type} {enc : TypeId × Value → H} {W : World} {base : Nat} {held : Bool} {fuel : Nat} {v : Value} {x : DataW H × List MemPlace} (h : DataW.trod enc Try.prog W base (fun _ => true) held fuel 22 [v] = some x) (hz : ∀ n ∈ x.1.weights Try.prog 22, n ≤ reachBytes) :
    ∃ A n c zs, v = .slice A n c ∧ IsRow .u8 W A n c zs ∧ c ≤ reachBytes := by
  rcases open_ints Try.underlying22 Try.underlying5 (by kernel_rfl) h with ⟨hcs, _⟩ | ⟨x, l, c, zs, hcs, _, hl, hm, hzl, hx, hcell, hwz⟩
  · simp at hcs
    exact ⟨none, 0, 0, [], hcs, .inl ⟨rfl, rfl, rfl, rfl⟩, by omega⟩
  · simp at hcs
    refine ⟨some x, l, c, zs, hcs, .inr ⟨x, rfl, hl, hm, by simpa using hzl, hcell, hwz⟩, ?_⟩
    have e8 : Try.prog.bytesOf 5 = 1 := by kernel_rfl
    simp at hzl
    rw [hx] at hz
    have := hz (((lits (H := H) .u8 (zs.take l)).length + (lits (H := H) .u8 (zs.drop l)).length) * Try.prog.bytesOf 5) (by simp [DataW.weights, Try.underlying22])
    rw [e8] at this
    simp only [lits, List.length_map, List.length_take, List.length_drop] at this
    omega
theorem open_ops {H : Type} {enc : TypeId × Value → H} {W : World} {base : Nat} {held : Bool} {fuel : Nat} {a : Option Addr} {len cap : Nat} {x : DataW H × List MemPlace} (h : DataW.trod enc Try.prog W base (fun _ => true) held fuel 46 [.slice a len cap] = some x) (hz : ∀ n ∈ x.1.weights Try.prog 46, n ≤ reachBytes) :
    len ≤ 9223372036854775807 ∧ ∀ i, i < len → ∃ ad k A n c zs, a = some ad ∧ W.cell? (ad.add (i * 2)) = some (.int .i64 k) ∧ (Lit.int .i64 k).wf = true ∧ W.cell? ((ad.add (i * 2)).add 1) = some (.slice A n c) ∧ IsRow .u8 W A n c zs ∧ c ≤ reachBytes := by
  rcases Go.Deep.open_slice Try.underlying46 h with ⟨hcs, _⟩ | ⟨ad, len', cap', m, n, D, Pl, hcs, hb, hl, hm, hmm, hx, hi⟩
  · simp at hcs
    obtain ⟨rfl, rfl, rfl⟩ := hcs
    exact ⟨by omega, fun i hi => absurd hi (by omega)⟩
  · simp at hcs
    obtain ⟨rfl, rfl, rfl⟩ := hcs
    refine ⟨by have := maxLen_lim hm; omega, fun i hlt => ?_⟩
    obtain ⟨cs', hc, ht⟩ := hi i (by rw [hmm]; split <;> omega)
    have hC : Try.prog.cellsOf 50 = 2 := by kernel_rfl
    rw [hC] at hc
    obtain ⟨_, hlen, hget⟩ := World.cells?_some hc
    match cs', hlen with
    | [v0, v1], _ =>
      obtain ⟨xs, n', hn', hx', hcl, hxl, hf⟩ := DataW.trod_struct Try.underlying50 ht
      match xs, hxl with
      | [y0, y1], _ =>
        have h0 := hf 0 _ rfl
        have h1 := hf 1 _ rfl
        have e3 : Try.prog.cellsOf 3 = 1 := by kernel_rfl
        have e22 : Try.prog.cellsOf 22 = 1 := by kernel_rfl
        simp [e3, e22] at h0 h1
        obtain ⟨k, ek, uk, fk⟩ := DataW.trod_int Try.underlying3 h0
        simp at ek
        subst ek
        obtain ⟨A, q, c, zs, rfl, hrow, hsz⟩ := open_row_w h1 (fun w hw => hz w (by
          rw [hx]
          have hD : D i = .agg [y0.1, y1.1] := by injection hx' with e1 _
          simp only [DataW.weights, Try.underlying46, List.mem_cons, List.mem_append]
          refine .inr (.inl (mem_weightsAll (d := D i) ?_ (List.mem_map.2 ⟨i, List.mem_range.2 hlt, rfl⟩)))
          rw [hD]
          simp only [DataW.weights, Try.underlying50]
          exact DataW.weights_mem_each (j := 1) (t := 22) rfl rfl _ hw))
        have hv0 := hget 0 (by omega)
        have hv1 := hget 1 (by omega)
        exact ⟨ad, k, A, q, c, zs, rfl, by simpa [Addr.add] using hv0, fk, by simpa using hv1, hrow, hsz⟩
end Go.Proofs.Ythcecinhlhgohaa
