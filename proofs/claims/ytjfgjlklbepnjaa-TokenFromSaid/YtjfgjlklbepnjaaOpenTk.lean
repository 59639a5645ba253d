/- Grants, operations, tickets that came in, opened. No condition. -/
import Derived.Test.YtjfgjlklbepnjaaTkQ
import Derived.Test.YtjfgjlklbepnjaaRows
import Derived.ProofKit
import Derived.OpenShut
import Derived.Deep.Slices
import Derived.Deep.Fields
import Derived.ChangeArms
import Derived.Lib.SmallJoins
namespace Go.Proofs.Ytjfgjlklbepnjaa
open Go.ChangeShapes Go.WideShapes Go.ChangeAt Go.RowKit
set_option linter.unusedSimpArgs false
set_option linter.unusedVariables false
set_option maxRecDepth 4000

section
variable {H : Type} {enc : TypeId × Value → H} {W : World} {base : Nat} {held : Bool} {fuel : Nat} {x : DataW H × List MemPlace}
theorem cells_int : Try.prog.cellsOf 3 = 1 := by kernel_rfl
theorem cells_bool : Try.prog.cellsOf 4 = 1 := by kernel_rfl
theorem cells_u64 : Try.prog.cellsOf 26 = 1 := by kernel_rfl
theorem cells_rc : Try.prog.cellsOf 28 = 4 := by kernel_rfl
theorem cells_gr : Try.prog.cellsOf 30 = 8 := by kernel_rfl
theorem cells_op : Try.prog.cellsOf 32 = 12 := by kernel_rfl
theorem cells_tk : Try.prog.cellsOf 35 = 10 := by kernel_rfl
theorem open_z {v : Value} (h : DataW.trod enc Try.prog W base (fun _ => true) held fuel 3 [v] = some x) : ∃ z, v = .int .i64 z := by
  obtain ⟨z, e, _, _⟩ := DataW.trod_int Try.underlying3 h
  simp at e
  exact ⟨z, e⟩
theorem open_b {v : Value} (h : DataW.trod enc Try.prog W base (fun _ => true) held fuel 4 [v] = some x) : ∃ z, v = .bool z := by
  obtain ⟨z, e, _⟩ := DataW.trod_bool Try.underlying4 h
  simp at e
  exact ⟨z, e⟩
theorem open_n {v : Value} (h : DataW.trod enc Try.prog W base (fun _ => true) held fuel 26 [v] = some x) : ∃ z : Nat, v = .int .u64 (z : Nat) ∧ z < 18446744073709551616 := by
  obtain ⟨z, e, _, f⟩ := DataW.trod_int Try.underlying26 h
  simp at e
  simp only [Lit.wf, Bool.and_eq_true, decide_eq_true_eq] at f
  have f1 : 0 ≤ z := f.1
  have f2 : z ≤ 18446744073709551615 := f.2
  exact ⟨z.toNat, by rw [e, Int.toNat_of_nonneg f1], by omega⟩
theorem open_rc4 {v0 v1 v2 v3 : Value} (h : DataW.trod enc Try.prog W base (fun _ => true) held fuel 28 [v0, v1, v2, v3] = some x) : (∃ z, v0 = .int .i64 z) ∧ (∃ z, v1 = .int .i64 z) ∧ (∃ z, v2 = .int .i64 z) ∧ (∃ z, v3 = .int .i64 z) := by
  obtain ⟨xs, n', hn', hx', hcl, hxl, hf⟩ := DataW.trod_struct Try.underlying28 h
  match xs, hxl with
  | [y0, y1, y2, y3], _ =>
    have h0 := hf 0 _ rfl
    have h1 := hf 1 _ rfl
    have h2 := hf 2 _ rfl
    have h3 := hf 3 _ rfl
    simp [cells_int] at h0 h1 h2 h3
    exact ⟨open_z h0, open_z h1, open_z h2, open_z h3⟩
theorem open_gr8 {v0 v1 v2 v3 v4 v5 v6 v7 : Value} (h : DataW.trod enc Try.prog W base (fun _ => true) held fuel 30 [v0, v1, v2, v3, v4, v5, v6, v7] = some x) : ∃ g : Gr, [v0, v1, v2, v3, v4, v5, v6, v7] = [.int .i64 g.ops, .int .i64 g.zoom, .int .i64 g.a, .int .i64 g.b, .int .i64 g.c, .int .i64 g.d, .bool g.void, .int .i64 g.til] := by
  obtain ⟨xs, n', hn', hx', hcl, hxl, hf⟩ := DataW.trod_struct Try.underlying30 h
  match xs, hxl with
  | [y0, y1, y2, y3, y4], _ =>
    have h0 := hf 0 _ rfl
    have h1 := hf 1 _ rfl
    have h2 := hf 2 _ rfl
    have h3 := hf 3 _ rfl
    have h4 := hf 4 _ rfl
    simp [cells_int, cells_rc, cells_bool] at h0 h1 h2 h3 h4
    obtain ⟨o, rfl⟩ := open_z h0
    obtain ⟨z, rfl⟩ := open_z h1
    obtain ⟨⟨a, rfl⟩, ⟨b, rfl⟩, ⟨c, rfl⟩, ⟨d, rfl⟩⟩ := open_rc4 h2
    obtain ⟨v, rfl⟩ := open_b h3
    obtain ⟨t, rfl⟩ := open_z h4
    exact ⟨⟨o, z, a, b, c, d, v, t⟩, rfl⟩
theorem open_op12 {v0 v1 v2 v3 v4 v5 v6 v7 v8 v9 v10 v11 : Value} (h : DataW.trod enc Try.prog W base (fun _ => true) held fuel 32 [v0, v1, v2, v3, v4, v5, v6, v7, v8, v9, v10, v11] = some x) : ∃ g : OpT, [v0, v1, v2, v3, v4, v5, v6, v7, v8, v9, v10, v11] = [.int .i64 g.kind, .int .u64 (g.fr : Nat), .int .u64 (g.draw : Nat), .int .i64 g.g.ops, .int .i64 g.g.zoom, .int .i64 g.g.a, .int .i64 g.g.b, .int .i64 g.g.c, .int .i64 g.g.d, .bool g.g.void, .int .i64 g.g.til, .int .i64 g.now] ∧ g.fr < 18446744073709551616 ∧ g.draw < 18446744073709551616 := by
  obtain ⟨xs, n', hn', hx', hcl, hxl, hf⟩ := DataW.trod_struct Try.underlying32 h
  match xs, hxl with
  | [y0, y1, y2, y3, y4], _ =>
    have h0 := hf 0 _ rfl
    have h1 := hf 1 _ rfl
    have h2 := hf 2 _ rfl
    have h3 := hf 3 _ rfl
    have h4 := hf 4 _ rfl
    simp [cells_int, cells_u64, cells_gr] at h0 h1 h2 h3 h4
    obtain ⟨k, rfl⟩ := open_z h0
    obtain ⟨f, rfl, hfr⟩ := open_n h1
    obtain ⟨d, rfl, hd⟩ := open_n h2
    obtain ⟨g, hg⟩ := open_gr8 h3
    obtain ⟨t, rfl⟩ := open_z h4
    refine ⟨⟨k, f, d, g, t⟩, ?_, hfr, hd⟩
    simp only [List.cons.injEq, and_true] at hg
    obtain ⟨rfl, rfl, rfl, rfl, rfl, rfl, rfl, rfl⟩ := hg
    rfl
theorem open_tk10 {v0 v1 v2 v3 v4 v5 v6 v7 v8 v9 : Value} (h : DataW.trod enc Try.prog W base (fun _ => true) held fuel 35 [v0, v1, v2, v3, v4, v5, v6, v7, v8, v9] = some x) : ∃ g : Tk, [v0, v1, v2, v3, v4, v5, v6, v7, v8, v9] = [.int .u64 (g.s : Nat), .int .u64 (g.p : Nat), .int .i64 g.g.ops, .int .i64 g.g.zoom, .int .i64 g.g.a, .int .i64 g.g.b, .int .i64 g.g.c, .int .i64 g.g.d, .bool g.g.void, .int .i64 g.g.til] ∧ g.s < 18446744073709551616 ∧ g.p < 18446744073709551616 := by
  obtain ⟨xs, n', hn', hx', hcl, hxl, hf⟩ := DataW.trod_struct Try.underlying35 h
  match xs, hxl with
  | [y0, y1, y2], _ =>
    have h0 := hf 0 _ rfl
    have h1 := hf 1 _ rfl
    have h2 := hf 2 _ rfl
    simp [cells_u64, cells_gr] at h0 h1 h2
    obtain ⟨f, rfl, hfr⟩ := open_n h0
    obtain ⟨d, rfl, hd⟩ := open_n h1
    obtain ⟨g, hg⟩ := open_gr8 h2
    refine ⟨⟨f, d, g⟩, ?_, hfr, hd⟩
    simp only [List.cons.injEq, and_true] at hg
    obtain ⟨rfl, rfl, rfl, rfl, rfl, rfl, rfl, rfl⟩ := hg
    rfl
/-- A grant, an operation that came in. -/
theorem open_grant {r : Reach} {b0 : Nat} {v : Value} {d : DataW H} {p : List MemPlace} (hv : Value.okWide Try.prog W r b0 30 v) (h : DataW.Trod enc Try.prog W base (fun _ => true) held 30 v d p) : ∃ g : Gr, v = .agg #[.int .i64 g.ops, .int .i64 g.zoom, .int .i64 g.a, .int .i64 g.b, .int .i64 g.c, .int .i64 g.d, .bool g.void, .int .i64 g.til] := by
  obtain ⟨cs, rfl, hsz⟩ := okWide_struct Try.underlying30 hv
  obtain ⟨l⟩ := cs
  match l, hsz.trans cells_gr with
  | [v0, v1, v2, v3, v4, v5, v6, v7], _ =>
    obtain ⟨fuel, hf0⟩ := h
    obtain ⟨g, hg⟩ := open_gr8 (by simpa [Value.cells] using hf0)
    exact ⟨g, by rw [hg]⟩
theorem open_opT {r : Reach} {b0 : Nat} {v : Value} {d : DataW H} {p : List MemPlace} (hv : Value.okWide Try.prog W r b0 32 v) (h : DataW.Trod enc Try.prog W base (fun _ => true) held 32 v d p) : ∃ g : OpT, v = .agg #[.int .i64 g.kind, .int .u64 (g.fr : Nat), .int .u64 (g.draw : Nat), .int .i64 g.g.ops, .int .i64 g.g.zoom, .int .i64 g.g.a, .int .i64 g.g.b, .int .i64 g.g.c, .int .i64 g.g.d, .bool g.g.void, .int .i64 g.g.til, .int .i64 g.now] ∧ g.fr < 18446744073709551616 ∧ g.draw < 18446744073709551616 := by
  obtain ⟨cs, rfl, hsz⟩ := okWide_struct Try.underlying32 hv
  obtain ⟨l⟩ := cs
  match l, hsz.trans cells_op with
  | [v0, v1, v2, v3, v4, v5, v6, v7, v8, v9, v10, v11], _ =>
    obtain ⟨fuel, hf0⟩ := h
    obtain ⟨g, hg, h1, h2⟩ := open_op12 (by simpa [Value.cells] using hf0)
    exact ⟨g, by rw [hg], h1, h2⟩
theorem list_of {α : Type} (d : α) {P : Nat → α → Prop} : ∀ n, (∀ i, i < n → ∃ a, P i a) → ∃ L : List α, L.length = n ∧ ∀ i, i < n → P i (L.getD i d)
  | 0, _ => ⟨[], rfl, fun i hi => absurd hi (by omega)⟩
  | n + 1, h => by
    obtain ⟨L, hL, hP⟩ := list_of d n fun i hi => h i (by omega)
    obtain ⟨a, ha⟩ := h n (by omega)
    refine ⟨L ++ [a], by simp [hL], fun i hi => ?_⟩
    by_cases hin : i < n
    · have e : (L ++ [a]).getD i d = L.getD i d := by simp [List.getD, List.getElem?_append_left (show i < L.length by omega)]
      rw [e]
      exact hP i hin
    · obtain rfl : i = L.length := by omega
      have e : (L ++ [a]).getD L.length d = a := by simp [List.getD]
      rw [e]
      obtain rfl : L.length = n := by omega
      exact ha
theorem open_ops {a : Option Addr} {len cap : Nat} (h : DataW.trod enc Try.prog W base (fun _ => true) held fuel 22 [.slice a len cap] = some x) :
    ∃ L : List OpT, L.length = len ∧ len ≤ 9223372036854775807 ∧ Ops W W.heap.size a L ∧ U64o L := by
  rcases Go.Deep.open_slice Try.underlying22 h with ⟨hcs, _⟩ | ⟨ad, len', cap', m, n, D, Pl, hcs, hb, hl, hm, hmm, hx, hi⟩
  · simp at hcs
    obtain ⟨rfl, rfl, rfl⟩ := hcs
    exact ⟨[], rfl, by omega, fun h => absurd h (by simp), fun i h => absurd h (by simp)⟩
  · simp at hcs
    obtain ⟨rfl, rfl, rfl⟩ := hcs
    have key : ∀ i, i < len → ∃ g : OpT, (∀ j, j < 12 → W.cell? ((ad.add (i * 12)).add j) = some (opC g j)) ∧ g.fr < 18446744073709551616 ∧ g.draw < 18446744073709551616 := fun i hlt => by
      obtain ⟨cs', hc, ht⟩ := hi i (by rw [hmm]; split <;> omega)
      rw [cells_op] at hc
      obtain ⟨_, hlen, hget⟩ := World.cells?_some hc
      match cs', hlen with
      | [v0, v1, v2, v3, v4, v5, v6, v7, v8, v9, v10, v11], _ =>
        obtain ⟨g, hg, h1, h2⟩ := open_op12 ht
        refine ⟨g, fun j hj => ?_, h1, h2⟩
        rw [hget j hj, hg]
        have hj2 : j < ([.int .i64 g.kind, .int .u64 (g.fr : Nat), .int .u64 (g.draw : Nat), .int .i64 g.g.ops, .int .i64 g.g.zoom, .int .i64 g.g.a, .int .i64 g.g.b, .int .i64 g.g.c, .int .i64 g.g.d, .bool g.g.void, .int .i64 g.g.til, .int .i64 g.now] : List Value).length := hj
        simp only [opC, List.getD, List.getElem?_eq_getElem hj2, Option.getD_some]
    obtain ⟨L, hL, hP⟩ := list_of op0 len key
    refine ⟨L, hL, by have : (maxLen : Nat) = 9223372036854775807 := rfl; omega, fun hp => ?_, fun i hi => (hP i (by omega)).2⟩
    have h0 := (hP 0 (by omega)).1 0 (by omega)
    obtain ⟨b, o, sp⟩ := ad
    have hsp : sp = none := by simpa [Addr.add] using World.cell?_spot h0
    subst hsp
    refine ⟨b, o, rfl, by have := World.block_lt_of_cell? _ _ h0; simpa [Addr.add] using this, fun i hi j hj => ?_⟩
    have := (hP i (by omega)).1 j hj
    rw [Addr.add_lit, Addr.add_lit] at this
    exact this
theorem open_tks {a : Option Addr} {len cap : Nat} (h : DataW.trod enc Try.prog W base (fun _ => true) held fuel 25 [.slice a len cap] = some x) :
    ∃ L : List Tk, L.length = len ∧ len ≤ cap ∧ cap ≤ 9223372036854775807 ∧ Tks W W.heap.size a L ∧ U64 L := by
  rcases Go.Deep.open_slice Try.underlying25 h with ⟨hcs, _⟩ | ⟨ad, len', cap', m, n, D, Pl, hcs, hb, hl, hm, hmm, hx, hi⟩
  · simp at hcs
    obtain ⟨rfl, rfl, rfl⟩ := hcs
    exact ⟨[], rfl, by omega, by omega, fun h => absurd h (by simp), fun k h => by cases h⟩
  · simp at hcs
    obtain ⟨rfl, rfl, rfl⟩ := hcs
    have key : ∀ i, i < len → ∃ g : Tk, (∀ j, j < 10 → W.cell? ((ad.add (i * 10)).add j) = some (tkC g j)) ∧ g.s < 18446744073709551616 ∧ g.p < 18446744073709551616 := fun i hlt => by
      obtain ⟨cs', hc, ht⟩ := hi i (by rw [hmm]; split <;> omega)
      rw [cells_tk] at hc
      obtain ⟨_, hlen, hget⟩ := World.cells?_some hc
      match cs', hlen with
      | [v0, v1, v2, v3, v4, v5, v6, v7, v8, v9], _ =>
        obtain ⟨g, hg, h1, h2⟩ := open_tk10 ht
        refine ⟨g, fun j hj => ?_, h1, h2⟩
        rw [hget j hj, hg]
        have hj2 : j < ([.int .u64 (g.s : Nat), .int .u64 (g.p : Nat), .int .i64 g.g.ops, .int .i64 g.g.zoom, .int .i64 g.g.a, .int .i64 g.g.b, .int .i64 g.g.c, .int .i64 g.g.d, .bool g.g.void, .int .i64 g.g.til] : List Value).length := hj
        simp only [tkC, List.getD, List.getElem?_eq_getElem hj2, Option.getD_some]
    obtain ⟨L, hL, hP⟩ := list_of t0 len key
    refine ⟨L, hL, by omega, by have : (maxLen : Nat) = 9223372036854775807 := rfl; omega, fun hp => ?_, fun k hk => ?_⟩
    · have h0 := (hP 0 (by omega)).1 0 (by omega)
      obtain ⟨b, o, sp⟩ := ad
      have hsp : sp = none := by simpa [Addr.add] using World.cell?_spot h0
      subst hsp
      refine ⟨b, o, rfl, by have := World.block_lt_of_cell? _ _ h0; simpa [Addr.add] using this, fun i hi j hj => ?_⟩
      have := (hP i (by omega)).1 j hj
      rw [Addr.add_lit, Addr.add_lit] at this
      exact this
    · obtain ⟨i, hi, rfl⟩ := List.mem_iff_getElem.1 hk
      have := (hP i (by omega)).2
      rwa [getD_lt hi] at this
end
end Go.Proofs.Ytjfgjlklbepnjaa
