/- An answer that came in, opened. No condition. -/
import Derived.Test.YtdjkhcnejbinjaaRepL2
import Derived.Test.YtdjkhcnejbinjaaRows
import Derived.ProofKit
import Derived.OpenShut
import Derived.Deep.Slices
import Derived.Deep.Fields
import Derived.ChangeArms
import Derived.Lib.SmallJoins
namespace Go.Proofs.Ytdjkhcnejbinjaa
open Go.ChangeShapes Go.WideShapes Go.ChangeAt Go.RowKit
set_option linter.unusedSimpArgs false
set_option linter.unusedVariables false
set_option maxRecDepth 4000

section
variable {H : Type} {enc : TypeId × Value → H} {W : World} {base : Nat} {held : Bool} {fuel : Nat} {x : DataW H × List MemPlace}
theorem cells_int : Try.prog.cellsOf 3 = 1 := by kernel_rfl
theorem cells_pt : Try.prog.cellsOf 30 = 2 := by kernel_rfl
theorem cells_rc : Try.prog.cellsOf 34 = 4 := by kernel_rfl
theorem cells_rec : Try.prog.cellsOf 32 = 4 := by kernel_rfl
theorem cells_u64 : Try.prog.cellsOf 28 = 1 := by kernel_rfl
theorem cells_ss : Try.prog.cellsOf 35 = 1 := by kernel_rfl
theorem cells_es : Try.prog.cellsOf 36 = 1 := by kernel_rfl
theorem cells_seen : Try.prog.cellsOf 61 = 6 := by kernel_rfl
theorem cells_ev : Try.prog.cellsOf 64 = 4 := by kernel_rfl
/-- A number's cell. -/
def IsInt (v : Value) : Prop := ∃ z, v = .int .i64 z
theorem open_z {v : Value} (h : DataW.trod enc Try.prog W base (fun _ => true) held fuel 3 [v] = some x) : IsInt v := by
  obtain ⟨z, e, _, _⟩ := DataW.trod_int Try.underlying3 h
  simp at e
  exact ⟨z, e⟩
theorem open_pt2 {v0 v1 : Value} (h : DataW.trod enc Try.prog W base (fun _ => true) held fuel 30 [v0, v1] = some x) : IsInt v0 ∧ IsInt v1 := by
  obtain ⟨xs, n', hn', hx', hcl, hxl, hf⟩ := DataW.trod_struct Try.underlying30 h
  match xs, hxl with
  | [y0, y1], _ =>
    have h0 := hf 0 _ rfl
    have h1 := hf 1 _ rfl
    simp [cells_int] at h0 h1
    exact ⟨open_z h0, open_z h1⟩
theorem open_rc4 {v0 v1 v2 v3 : Value} (h : DataW.trod enc Try.prog W base (fun _ => true) held fuel 34 [v0, v1, v2, v3] = some x) : IsInt v0 ∧ IsInt v1 ∧ IsInt v2 ∧ IsInt v3 := by
  obtain ⟨xs, n', hn', hx', hcl, hxl, hf⟩ := DataW.trod_struct Try.underlying34 h
  match xs, hxl with
  | [y0, y1, y2, y3], _ =>
    have h0 := hf 0 _ rfl
    have h1 := hf 1 _ rfl
    have h2 := hf 2 _ rfl
    have h3 := hf 3 _ rfl
    simp [cells_int] at h0 h1 h2 h3
    exact ⟨open_z h0, open_z h1, open_z h2, open_z h3⟩
theorem open_rec4 {v0 v1 v2 v3 : Value} (h : DataW.trod enc Try.prog W base (fun _ => true) held fuel 32 [v0, v1, v2, v3] = some x) : IsInt v0 ∧ IsInt v1 ∧ IsInt v2 ∧ IsInt v3 := by
  obtain ⟨xs, n', hn', hx', hcl, hxl, hf⟩ := DataW.trod_struct Try.underlying32 h
  match xs, hxl with
  | [y0, y1, y2], _ =>
    have h0 := hf 0 _ rfl
    have h1 := hf 1 _ rfl
    have h2 := hf 2 _ rfl
    simp [cells_int, cells_pt] at h0 h1 h2
    obtain ⟨a, b⟩ := open_pt2 h1
    exact ⟨open_z h0, a, b, open_z h2⟩
theorem open_seen6 {v0 v1 v2 v3 v4 v5 : Value} (h : DataW.trod enc Try.prog W base (fun _ => true) held fuel 61 [v0, v1, v2, v3, v4, v5] = some x) : ∀ v ∈ [v0, v1, v2, v3, v4, v5], IsInt v := by
  obtain ⟨xs, n', hn', hx', hcl, hxl, hf⟩ := DataW.trod_struct Try.underlying61 h
  match xs, hxl with
  | [y0, y1, y2], _ =>
    have h0 := hf 0 _ rfl
    have h1 := hf 1 _ rfl
    have h2 := hf 2 _ rfl
    simp [cells_int, cells_rc] at h0 h1 h2
    obtain ⟨a, b, c, d⟩ := open_rc4 h2
    intro v hv
    simp at hv
    rcases hv with rfl | rfl | rfl | rfl | rfl | rfl
    · exact open_z h0
    · exact open_z h1
    · exact a
    · exact b
    · exact c
    · exact d
theorem open_ev4 {v0 v1 v2 v3 : Value} (h : DataW.trod enc Try.prog W base (fun _ => true) held fuel 64 [v0, v1, v2, v3] = some x) : ∀ v ∈ [v0, v1, v2, v3], IsInt v := by
  obtain ⟨xs, n', hn', hx', hcl, hxl, hf⟩ := DataW.trod_struct Try.underlying64 h
  match xs, hxl with
  | [y0, y1, y2, y3], _ =>
    have h0 := hf 0 _ rfl
    have h1 := hf 1 _ rfl
    have h2 := hf 2 _ rfl
    have h3 := hf 3 _ rfl
    simp [cells_int] at h0 h1 h2 h3
    intro v hv
    simp at hv
    rcases hv with rfl | rfl | rfl | rfl
    · exact open_z h0
    · exact open_z h1
    · exact open_z h2
    · exact open_z h3
/-- What a place holds, as a number. -/
def numAt (W : World) (a : Option Addr) (size i j : Nat) : Int := match a with
  | some ad => match W.cell? ((ad.add (i * size)).add j) with
    | some (.int .i64 z) => z
    | _ => 0
  | none => 0
theorem items_of {A : Option Addr} {n size : Nat} (hsz : 0 < size) (h : ∀ i, i < n → ∃ ad, A = some ad ∧ ∀ j, j < size → ∃ z, W.cell? ((ad.add (i * size)).add j) = some (.int .i64 z)) : IsItems W W.heap.size A n size (numAt W A size) := fun hn => by
  obtain ⟨ad, rfl, h0⟩ := h 0 hn
  obtain ⟨z0, hz0⟩ := h0 0 hsz
  obtain ⟨b, o, sp⟩ := ad
  have hsp : sp = none := by simpa [Addr.add] using World.cell?_spot hz0
  subst hsp
  refine ⟨b, o, rfl, by have := World.block_lt_of_cell? _ _ hz0; simpa [Addr.add] using this, fun i hi j hj => ?_⟩
  obtain ⟨ad', e, h'⟩ := h i hi
  injection e with e
  subst e
  obtain ⟨z, hz⟩ := h' j hj
  simp only [numAt, hz]
  rw [Addr.add_lit, Addr.add_lit] at hz
  exact hz
theorem open_seens {a : Option Addr} {len cap : Nat} (h : DataW.trod enc Try.prog W base (fun _ => true) held fuel 35 [.slice a len cap] = some x) :
    len ≤ 9223372036854775807 ∧ IsItems W W.heap.size a len 6 (numAt W a 6) := by
  rcases Go.Deep.open_slice Try.underlying35 h with ⟨hcs, _⟩ | ⟨ad, len', cap', m, n, D, Pl, hcs, hb, hl, hm, hmm, hx, hi⟩
  · simp at hcs
    obtain ⟨rfl, rfl, rfl⟩ := hcs
    exact ⟨by omega, fun h => absurd h (by omega)⟩
  · simp at hcs
    obtain ⟨rfl, rfl, rfl⟩ := hcs
    refine ⟨by have : (maxLen : Nat) = 9223372036854775807 := rfl; omega, items_of (by decide) fun i hlt => ⟨ad, rfl, fun j hj => ?_⟩⟩
    obtain ⟨cs', hc, ht⟩ := hi i (by rw [hmm]; split <;> omega)
    rw [cells_seen] at hc
    obtain ⟨_, hlen, hget⟩ := World.cells?_some hc
    match cs', hlen with
    | [v0, v1, v2, v3, v4, v5], _ =>
      have hv := open_seen6 ht
      have hg := hget j hj
      have hin : ∃ v, [v0, v1, v2, v3, v4, v5][j]? = some v := ⟨_, List.getElem?_eq_getElem (by simpa using hj)⟩
      obtain ⟨v, hvj⟩ := hin
      obtain ⟨z, rfl⟩ := hv v (List.mem_of_getElem? hvj)
      exact ⟨z, by rw [hg, hvj]⟩
theorem open_evs {a : Option Addr} {len cap : Nat} (h : DataW.trod enc Try.prog W base (fun _ => true) held fuel 36 [.slice a len cap] = some x) :
    len ≤ 9223372036854775807 ∧ IsItems W W.heap.size a len 4 (numAt W a 4) := by
  rcases Go.Deep.open_slice Try.underlying36 h with ⟨hcs, _⟩ | ⟨ad, len', cap', m, n, D, Pl, hcs, hb, hl, hm, hmm, hx, hi⟩
  · simp at hcs
    obtain ⟨rfl, rfl, rfl⟩ := hcs
    exact ⟨by omega, fun h => absurd h (by omega)⟩
  · simp at hcs
    obtain ⟨rfl, rfl, rfl⟩ := hcs
    refine ⟨by have : (maxLen : Nat) = 9223372036854775807 := rfl; omega, items_of (by decide) fun i hlt => ⟨ad, rfl, fun j hj => ?_⟩⟩
    obtain ⟨cs', hc, ht⟩ := hi i (by rw [hmm]; split <;> omega)
    rw [cells_ev] at hc
    obtain ⟨_, hlen, hget⟩ := World.cells?_some hc
    match cs', hlen with
    | [v0, v1, v2, v3], _ =>
      have hv := open_ev4 ht
      have hg := hget j hj
      have hin : ∃ v, [v0, v1, v2, v3][j]? = some v := ⟨_, List.getElem?_eq_getElem (by simpa using hj)⟩
      obtain ⟨v, hvj⟩ := hin
      obtain ⟨z, rfl⟩ := hv v (List.mem_of_getElem? hvj)
      exact ⟨z, by rw [hg, hvj]⟩
theorem slice_of {T E : TypeId} {v : Value} (hu : Try.prog.underlying T = some (.slice E)) (h : DataW.trod enc Try.prog W base (fun _ => true) held fuel T [v] = some x) : ∃ a n c, v = .slice a n c := by
  rcases Go.Deep.open_slice hu h with ⟨hcs, _⟩ | ⟨ad, len', cap', m, n, D, Pl, hcs, _⟩
  · simp at hcs; exact ⟨_, _, _, hcs⟩
  · simp at hcs; exact ⟨_, _, _, hcs⟩
/-- An answer's cells. -/
theorem open_ans {r : Reach} {b0 : Nat} {v : Value} {d : DataW H} {p : List MemPlace} (hv : Value.okWide Try.prog W r b0 38 v) (h : DataW.Trod enc Try.prog W base (fun _ => true) held 38 v d p) :
    ∃ (s k id x y lab r0 r1 r2 r3 : Int) (A1 A2 : Option Addr) (ns ne c1 c2 : Nat), v = .agg #[.int .i64 s, .int .u64 k, .int .i64 id, .int .i64 x, .int .i64 y, .int .i64 lab, .int .i64 r0, .int .i64 r1, .int .i64 r2, .int .i64 r3, .slice A1 ns c1, .slice A2 ne c2] ∧ (0 ≤ k ∧ k ≤ 18446744073709551615) ∧ (ns ≤ 9223372036854775807 ∧ IsItems W W.heap.size A1 ns 6 (numAt W A1 6)) ∧ (ne ≤ 9223372036854775807 ∧ IsItems W W.heap.size A2 ne 4 (numAt W A2 4)) := by
  obtain ⟨cs, rfl, hsz⟩ := okWide_struct Try.underlying38 hv
  have hC : Try.prog.cellsOf 38 = 12 := by kernel_rfl
  obtain ⟨l⟩ := cs
  match l, hsz.trans hC with
  | [v0, v1, v2, v3, v4, v5, v6, v7, v8, v9, v10, v11], _ =>
    obtain ⟨fuel, hf0⟩ := h
    obtain ⟨xs, n, _, hx, _, hlen, hf⟩ := DataW.trod_struct Try.underlying38 hf0
    match xs, hlen with
    | [y0, y1, y2, y3, y4, y5], _ =>
      have h0 := hf 0 _ rfl
      have h1 := hf 1 _ rfl
      have h2 := hf 2 _ rfl
      have h3 := hf 3 _ rfl
      have h4 := hf 4 _ rfl
      have h5 := hf 5 _ rfl
      simp [Value.cells, cells_int, cells_u64, cells_rec, cells_rc, cells_ss, cells_es] at h0 h1 h2 h3 h4 h5
      obtain ⟨s, rfl⟩ := open_z h0
      obtain ⟨k, ek, _, fk⟩ := DataW.trod_int Try.underlying28 h1
      simp at ek
      subst ek
      obtain ⟨⟨id, rfl⟩, ⟨x, rfl⟩, ⟨y, rfl⟩, ⟨lab, rfl⟩⟩ := open_rec4 h2
      obtain ⟨⟨r0, rfl⟩, ⟨r1, rfl⟩, ⟨r2, rfl⟩, ⟨r3, rfl⟩⟩ := open_rc4 h3
      obtain ⟨A1, ns, c1, rfl⟩ := slice_of Try.underlying35 h4
      obtain ⟨A2, ne, c2, rfl⟩ := slice_of Try.underlying36 h5
      refine ⟨s, k, id, x, y, lab, r0, r1, r2, r3, A1, A2, ns, ne, c1, c2, rfl, ?_, open_seens h4, open_evs h5⟩
      simp only [Lit.wf, Bool.and_eq_true, decide_eq_true_eq] at fk
      exact fk
end
theorem same_law (op m s k id x y lab b0 b1 b2 b3 : Int) (A1 A2 : Option Addr) (ns ne c1 c2 : Nat) (f g : Nat → Nat → Int) (s' k' id' x' y' lab' b0' b1' b2' b3' : Int) (A1' A2' : Option Addr) (ns' ne' c1' c2' : Nat) (f' g' : Nat → Nat → Int) (w : World) (fo : (Lit.int .i64 op).wf = true) (fm : (Lit.int .i64 m).wf = true)
    (h : (0 ≤ k ∧ k ≤ 18446744073709551615) ∧ (ns ≤ 9223372036854775807 ∧ IsItems w w.heap.size A1 ns 6 f) ∧ (ne ≤ 9223372036854775807 ∧ IsItems w w.heap.size A2 ne 4 g))
    (h' : (0 ≤ k' ∧ k' ≤ 18446744073709551615) ∧ (ns' ≤ 9223372036854775807 ∧ IsItems w w.heap.size A1' ns' 6 f') ∧ (ne' ≤ 9223372036854775807 ∧ IsItems w w.heap.size A2' ne' 4 g')) :
    Calls Try.prog 5 #[.int .i64 op, .int .i64 m, .agg #[.int .i64 s, .int .u64 k, .int .i64 id, .int .i64 x, .int .i64 y, .int .i64 lab, .int .i64 b0, .int .i64 b1, .int .i64 b2, .int .i64 b3, .slice A1 ns c1, .slice A2 ne c2], .agg #[.int .i64 s', .int .u64 k', .int .i64 id', .int .i64 x', .int .i64 y', .int .i64 lab', .int .i64 b0', .int .i64 b1', .int .i64 b2', .int .i64 b3', .slice A1' ns' c1', .slice A2' ne' c2']] w fun e w' => e = .returned (.bool true) ∧ Below w.heap.size w w' :=
  law_same op m s k id x y lab b0 b1 b2 b3 A1 A2 ns ne c1 c2 f g s' k' id' x' y' lab' b0' b1' b2' b3' A1' A2' ns' ne' c1' c2' f' g' w h.2.1.2 h.2.2.2 h.2.1.1 h.2.2.1 h.1.1 h.1.2 h'.2.1.2 h'.2.2.2 h'.2.1.1 h'.2.2.1 h'.1.1 h'.1.2
end Go.Proofs.Ytdjkhcnejbinjaa
