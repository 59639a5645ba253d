/- Several texts of one proof, joined: Rules, a viewer, a record that came in, opened; how many boxes there may be. No condition. | review: whose zoom, which rules are for someone, their mask: walked. No condition beyond what the rows read as. -/
import Derived.Test.YthlijfligikciaaGreatZ11
import Derived.Test.YthlijfligikciaaGreatZ10
import Derived.Test.YthlijfligikciaaGreatRows
import Derived.ProofKit
import Derived.OpenShut
import Derived.Deep.Slices
import Derived.Deep.Fields
import Derived.ChangeArms
import Derived.Lib.SmallJoins
import Derived.Test.YthlijfligikciaaGreatZ01
/- Rules, a viewer, a record that came in, opened; how many boxes there may be. No condition. -/
namespace Go.Proofs.YthlijfligikciaaGreat
open Go.ChangeShapes Go.WideShapes Go.ChangeAt Go.RowKit
set_option linter.unusedSimpArgs false
set_option linter.unusedVariables false
set_option maxRecDepth 4000

theorem bulk_one {H : Type} (d : DataW H) : 1 ≤ Rows.uptoBulk d := by
  cases d with
  | lit l => cases l <;> simp [Rows.uptoBulk]
  | nil => simp [Rows.uptoBulk]
  | ptr d => simp [Rows.uptoBulk]
  | slice elems spare => simp [Rows.uptoBulk]
  | agg parts => simp [Rows.uptoBulk]
  | iface t d => simp [Rows.uptoBulk]
  | map entries => simp [Rows.uptoBulk]
  | held h => simp [Rows.uptoBulk]
theorem bulk_len {H : Type} (l : List (DataW H)) : l.length ≤ Rows.uptoBulkAll l := by
  induction l with
  | nil => simp [Rows.uptoBulkAll]
  | cons x r ih => have := bulk_one x; simp only [Rows.uptoBulkAll, List.length_cons]; omega
section
variable {H : Type} {enc : TypeId × Value → H} {W : World} {base : Nat} {held : Bool} {fuel : Nat} {x : DataW H × List MemPlace}
theorem cells_int : Tryz.prog.cellsOf 3 = 1 := by kernel_rfl
theorem cells_bool : Tryz.prog.cellsOf 4 = 1 := by kernel_rfl
theorem cells_rc : Tryz.prog.cellsOf 24 = 4 := by kernel_rfl
theorem cells_pt : Tryz.prog.cellsOf 30 = 2 := by kernel_rfl
theorem cells_rcs : Tryz.prog.cellsOf 63 = 1 := by kernel_rfl
theorem cells_rule : Tryz.prog.cellsOf 65 = 7 := by kernel_rfl
theorem cells_gr : Tryz.prog.cellsOf 26 = 8 := by kernel_rfl
theorem cells_vw : Tryz.prog.cellsOf 28 = 10 := by kernel_rfl
theorem cells_rec : Tryz.prog.cellsOf 32 = 4 := by kernel_rfl
theorem open_z {v : Value} (h : DataW.trod enc Tryz.prog W base (fun _ => true) held fuel 3 [v] = some x) : ∃ z, v = .int .i64 z ∧ wf64 z := by
  obtain ⟨z, e, _, f⟩ := DataW.trod_int Tryz.underlying3 h
  simp at e
  simp only [Lit.wf, Bool.and_eq_true, decide_eq_true_eq] at f
  exact ⟨z, e, ⟨f.1, f.2⟩⟩
theorem open_b {v : Value} (h : DataW.trod enc Tryz.prog W base (fun _ => true) held fuel 4 [v] = some x) : ∃ z, v = .bool z := by
  obtain ⟨z, e, _⟩ := DataW.trod_bool Tryz.underlying4 h
  simp at e
  exact ⟨z, e⟩
theorem open_rc4 {v0 v1 v2 v3 : Value} (h : DataW.trod enc Tryz.prog W base (fun _ => true) held fuel 24 [v0, v1, v2, v3] = some x) : ∃ b : Bx, [v0, v1, v2, v3] = [.int .i64 b.a, .int .i64 b.b, .int .i64 b.c, .int .i64 b.d] := by
  obtain ⟨xs, n', hn', hx', hcl, hxl, hf⟩ := DataW.trod_struct Tryz.underlying24 h
  match xs, hxl with
  | [y0, y1, y2, y3], _ =>
    have h0 := hf 0 _ rfl
    have h1 := hf 1 _ rfl
    have h2 := hf 2 _ rfl
    have h3 := hf 3 _ rfl
    simp [cells_int] at h0 h1 h2 h3
    obtain ⟨a, rfl, _⟩ := open_z h0
    obtain ⟨b, rfl, _⟩ := open_z h1
    obtain ⟨c, rfl, _⟩ := open_z h2
    obtain ⟨d, rfl, _⟩ := open_z h3
    exact ⟨⟨a, b, c, d⟩, rfl⟩
theorem open_pt2 {v0 v1 : Value} (h : DataW.trod enc Tryz.prog W base (fun _ => true) held fuel 30 [v0, v1] = some x) : ∃ a b, [v0, v1] = [.int .i64 a, .int .i64 b] := by
  obtain ⟨xs, n', hn', hx', hcl, hxl, hf⟩ := DataW.trod_struct Tryz.underlying30 h
  match xs, hxl with
  | [y0, y1], _ =>
    have h0 := hf 0 _ rfl
    have h1 := hf 1 _ rfl
    simp [cells_int] at h0 h1
    obtain ⟨a, rfl, _⟩ := open_z h0
    obtain ⟨b, rfl, _⟩ := open_z h1
    exact ⟨a, b, rfl⟩
theorem open_gr8 {v0 v1 v2 v3 v4 v5 v6 v7 : Value} (h : DataW.trod enc Tryz.prog W base (fun _ => true) held fuel 26 [v0, v1, v2, v3, v4, v5, v6, v7] = some x) : ∃ g : Gr, [v0, v1, v2, v3, v4, v5, v6, v7] = [.int .i64 g.ops, .int .i64 g.zoom, .int .i64 g.a, .int .i64 g.b, .int .i64 g.c, .int .i64 g.d, .bool g.void, .int .i64 g.til] := by
  obtain ⟨xs, n', hn', hx', hcl, hxl, hf⟩ := DataW.trod_struct Tryz.underlying26 h
  match xs, hxl with
  | [y0, y1, y2, y3, y4], _ =>
    have h0 := hf 0 _ rfl
    have h1 := hf 1 _ rfl
    have h2 := hf 2 _ rfl
    have h3 := hf 3 _ rfl
    have h4 := hf 4 _ rfl
    simp [cells_int, cells_rc, cells_bool] at h0 h1 h2 h3 h4
    obtain ⟨o, rfl, _⟩ := open_z h0
    obtain ⟨z, rfl, _⟩ := open_z h1
    obtain ⟨⟨a, b, c, d⟩, hb⟩ := open_rc4 h2
    obtain ⟨v, rfl⟩ := open_b h3
    obtain ⟨t, rfl, _⟩ := open_z h4
    refine ⟨⟨o, z, a, b, c, d, v, t⟩, ?_⟩
    simp only [List.cons.injEq, and_true] at hb
    obtain ⟨rfl, rfl, rfl, rfl⟩ := hb
    rfl
theorem list_of {α : Type} (d : α) {P : Nat → α → Prop} : ∀ n, (∀ i, i < n → ∃ a, P i a) → ∃ L : List α, L.length = n ∧ ∀ i, i < n → P i (L.getD i d)
  | 0, _ => ⟨[], rfl, fun i hi => absurd hi (by omega)⟩
  | n + 1, h => by
    obtain ⟨L, hL, hP⟩ := list_of d n fun i hi => h i (by omega)
    obtain ⟨a, ha⟩ := h n (by omega)
    refine ⟨L ++ [a], by simp [hL], fun i hi => ?_⟩
    by_cases hin : i < n
    · have e : (L ++ [a]).getD i d = L.getD i d := by simp [List.getD, List.getElem?_append_left (show i < L.length by omega)]
      rw [e]
      exact hP i hin
    · obtain rfl : i = L.length := by omega
      have e : (L ++ [a]).getD L.length d = a := by simp [List.getD]
      rw [e]
      obtain rfl : L.length = n := by omega
      exact ha
/-- A slice of boxes. -/
theorem open_boxes {v : Value} (h : DataW.trod enc Tryz.prog W base (fun _ => true) held fuel 63 [v] = some x) :
    ∃ A c L, v = .slice A (L : List Bx).length c ∧ Bxs W W.heap.size A L ∧ (L.length ≤ c ∧ c ≤ 9223372036854775807) ∧ (A = none → L.length = 0) ∧ L.length ≤ Rows.uptoBulk x.1 := by
  rcases Go.Deep.open_slice Tryz.underlying63 h with ⟨hcs, _⟩ | ⟨ad, len, cap, m, n, D, Pl, hcs, hb, hl, hm, hmm, hx, hi⟩
  · simp at hcs
    exact ⟨none, 0, [], hcs, fun h => absurd h (by simp), ⟨by simp, by decide⟩, fun _ => rfl, by simp⟩
  · simp at hcs
    subst hcs
    have key : ∀ i, i < len → ∃ b : Bx, ∀ j, j < 4 → W.cell? ((ad.add (i * 4)).add j) = some (bxC b j) := fun i hlt => by
      obtain ⟨cs', hc, ht⟩ := hi i (by rw [hmm]; split <;> omega)
      rw [cells_rc] at hc
      obtain ⟨_, hlen, hget⟩ := World.cells?_some hc
      match cs', hlen with
      | [v0, v1, v2, v3], _ =>
        obtain ⟨b, hb9⟩ := open_rc4 ht
        refine ⟨b, fun j hj => ?_⟩
        rw [hget j hj, hb9]
        match j, hj with
        | 0, _ | 1, _ | 2, _ | 3, _ => rfl
    obtain ⟨L, hL, hP⟩ := list_of bx0 len key
    subst hL
    refine ⟨some ad, cap, L, rfl, fun hp => ?_, ⟨hl, by have : (maxLen : Nat) = 9223372036854775807 := rfl; omega⟩, (fun e => by cases e), ?_⟩
    · have h0 := hP 0 (by omega) 0 (by omega)
      obtain ⟨b, o, sp⟩ := ad
      have hsp : sp = none := by simpa [Addr.add] using World.cell?_spot h0
      subst hsp
      refine ⟨b, o, rfl, by have := World.block_lt_of_cell? _ _ h0; simpa [Addr.add] using this, fun i hi j hj => ?_⟩
      have := hP i (by omega) j hj
      rw [Addr.add_lit, Addr.add_lit] at this
      exact this
    · rw [hx]
      simp only [Rows.uptoBulk]
      have := bulk_len ((List.range L.length).map D)
      rw [List.length_map, List.length_range] at this
      omega
/-- A rule's cells. -/
theorem open_rule {v0 v1 v2 v3 v4 v5 v6 : Value} (h : DataW.trod enc Tryz.prog W base (fun _ => true) held fuel 65 [v0, v1, v2, v3, v4, v5, v6] = some x) :
    ∃ r : RP, [v0, v1, v2, v3, v4, v5, v6] = rpV r ∧ Bxs W W.heap.size r.2.1 r.1.boxes ∧ (r.1.boxes.length ≤ r.2.2 ∧ r.2.2 ≤ 9223372036854775807) ∧ (r.2.1 = none → r.1.boxes.length = 0) ∧ r.1.boxes.length ≤ Rows.uptoBulk x.1 := by
  obtain ⟨xs, n', hn', hx', hcl, hxl, hf⟩ := DataW.trod_struct Tryz.underlying65 h
  match xs, hxl with
  | [y0, y1, y2, y3, y4, y5, y6], _ =>
    have h0 := hf 0 _ rfl
    have h1 := hf 1 _ rfl
    have h2 := hf 2 _ rfl
    have h3 := hf 3 _ rfl
    have h4 := hf 4 _ rfl
    have h5 := hf 5 _ rfl
    have h6 := hf 6 _ rfl
    simp [cells_int, cells_rcs] at h0 h1 h2 h3 h4 h5 h6
    obtain ⟨a, rfl, _⟩ := open_z h0
    obtain ⟨b, rfl, _⟩ := open_z h1
    obtain ⟨c, rfl, _⟩ := open_z h2
    obtain ⟨d, rfl, _⟩ := open_z h3
    obtain ⟨e, rfl, _⟩ := open_z h4
    obtain ⟨A, cc, L, rfl, hB, hc, hn, hl⟩ := open_boxes h5
    obtain ⟨z, rfl, _⟩ := open_z h6
    refine ⟨(⟨a, b, c, d, e, L, z⟩, (A, cc)), rfl, hB, hc, hn, Nat.le_trans hl ?_⟩
    have hD : x.1 = .agg [y0.1, y1.1, y2.1, y3.1, y4.1, y5.1, y6.1] := by rw [hx']; rfl
    rw [hD]
    simp only [Rows.uptoBulk, Rows.uptoBulkAll]
    omega
theorem cnt_le : ∀ (L : List Rl) (D : Nat → DataW H), (∀ i, i < L.length → (L.getD i rl0).boxes.length ≤ Rows.uptoBulk (D i)) → cntB L ≤ Rows.uptoBulkAll ((List.range L.length).map D)
  | [], _, _ => by simp [cntB]
  | r :: L, D, h => by
    have ih := cnt_le L (fun i => D (i + 1)) (fun i hi => h (i + 1) (by simpa using hi))
    have h0 := h 0 (by simp)
    rw [List.length_cons, List.range_succ_eq_map, List.map_cons, List.map_map]
    simp only [Rows.uptoBulkAll, cntB, List.map_cons, List.sum_cons] at ih ⊢
    have e : List.map (D ∘ Nat.succ) (List.range L.length) = List.map (fun i => D (i + 1)) (List.range L.length) := rfl
    rw [e]
    have h1 : r.boxes.length ≤ Rows.uptoBulk (D 0) := h0
    omega
/-- A slice of rules. -/
theorem open_rules {a : Option Addr} {len cap : Nat} (h : DataW.trod enc Tryz.prog W base (fun _ => true) held fuel 22 [.slice a len cap] = some x) :
    ∃ L P, L.length = len ∧ Rls W W.heap.size a L P ∧ (∀ i, i < len → (P i).1 = none → (L.getD i rl0).boxes.length = 0) ∧ len ≤ Rows.uptoBulk x.1 ∧ cntB L ≤ Rows.uptoBulk x.1 := by
  rcases Go.Deep.open_slice Tryz.underlying22 h with ⟨hcs, _⟩ | ⟨ad, len', cap', m, n, D, Pl, hcs, hb, hl, hm, hmm, hx, hi⟩
  · simp at hcs
    obtain ⟨rfl, rfl, rfl⟩ := hcs
    exact ⟨[], fun _ => (none, 0), rfl, ⟨fun h => absurd h (by simp), fun i h => absurd h (by simp), fun i h => absurd h (by simp)⟩, fun i h => absurd h (by omega), by omega, by simp [cntB]⟩
  · simp at hcs
    obtain ⟨rfl, rfl, rfl⟩ := hcs
    have key : ∀ i, i < len → ∃ r : RP, (∀ j, j < 7 → W.cell? ((ad.add (i * 7)).add j) = (rpV r)[j]?) ∧ Bxs W W.heap.size r.2.1 r.1.boxes ∧ (r.1.boxes.length ≤ r.2.2 ∧ r.2.2 ≤ 9223372036854775807) ∧ (r.2.1 = none → r.1.boxes.length = 0) ∧ r.1.boxes.length ≤ Rows.uptoBulk (D i) := fun i hlt => by
      obtain ⟨cs', hc, ht⟩ := hi i (by rw [hmm]; split <;> omega)
      rw [cells_rule] at hc
      obtain ⟨_, hlen, hget⟩ := World.cells?_some hc
      match cs', hlen with
      | [v0, v1, v2, v3, v4, v5, v6], _ =>
        obtain ⟨r, hr, h1, h2, h3, h4⟩ := open_rule ht
        refine ⟨r, fun j hj => ?_, h1, h2, h3, h4⟩
        rw [hget j hj, ← hr]
    obtain ⟨M, hM, hP⟩ := list_of rp0 len key
    subst hM
    have hget : ∀ i, i < M.length → (M.map Prod.fst).getD i rl0 = (M.getD i rp0).1 := fun i hi => by simp [List.getD, List.getElem?_eq_getElem hi]
    refine ⟨M.map Prod.fst, fun i => (M.getD i rp0).2, by simp, ⟨fun hp => ?_, fun i hi => ?_, fun i hi => ?_⟩, fun i hi hn => ?_, ?_, ?_⟩
    · rw [List.length_map] at hp
      have h0 : W.cell? ((ad.add (0 * 7)).add 0) = some _ := (hP 0 hp).1 0 (by omega)
      obtain ⟨b, o, sp⟩ := ad
      have hsp : sp = none := by simpa [Addr.add] using World.cell?_spot h0
      subst hsp
      refine ⟨b, o, rfl, by have := World.block_lt_of_cell? _ _ h0; simpa [Addr.add] using this, fun i hi => ?_⟩
      rw [List.length_map] at hi
      rw [hget i hi]
      have hc : ∀ j, j < 7 → W.cell? ⟨b, o + i * 7 + j, none⟩ = (rpV (M.getD i rp0))[j]? := fun j hj => by
        have := (hP i hi).1 j hj
        rw [Addr.add_lit, Addr.add_lit] at this
        exact this
      exact ⟨hc 0 (by decide), hc 1 (by decide), hc 2 (by decide), hc 3 (by decide), hc 4 (by decide), hc 5 (by decide), hc 6 (by decide)⟩
    · rw [List.length_map] at hi
      rw [hget i hi]
      exact (hP i hi).2.1
    · rw [List.length_map] at hi
      rw [hget i hi]
      exact (hP i hi).2.2.1
    · rw [hget i hi]
      exact (hP i hi).2.2.2.1 hn
    · rw [hx]
      simp only [Rows.uptoBulk]
      have := bulk_len ((List.range M.length).map D)
      rw [List.length_map, List.length_range] at this
      omega
    · have h9 := cnt_le (M.map Prod.fst) D (fun i hi => by
        rw [List.length_map] at hi
        rw [hget i hi]
        exact (hP i hi).2.2.2.2)
      rw [List.length_map] at h9
      rw [hx]
      simp only [Rows.uptoBulk]
      omega
/-- A viewer that came in. -/
theorem open_viewer {r : Reach} {b0 : Nat} {v : Value} {d : DataW H} {p : List MemPlace} (hv : Value.okWide Tryz.prog W r b0 28 v) (h : DataW.Trod enc Tryz.prog W base (fun _ => true) held 28 v d p) : ∃ role tier, ∃ g : Gr, v = .agg #[.int .i64 role, .int .i64 tier, .int .i64 g.ops, .int .i64 g.zoom, .int .i64 g.a, .int .i64 g.b, .int .i64 g.c, .int .i64 g.d, .bool g.void, .int .i64 g.til] := by
  obtain ⟨cs, rfl, hsz⟩ := okWide_struct Tryz.underlying28 hv
  obtain ⟨l⟩ := cs
  match l, hsz.trans cells_vw with
  | [v0, v1, v2, v3, v4, v5, v6, v7, v8, v9], _ =>
    obtain ⟨fuel, hf0⟩ := h
    obtain ⟨xs, n', hn', hx', hcl, hxl, hf⟩ := DataW.trod_struct Tryz.underlying28 (by simpa [Value.cells] using hf0)
    match xs, hxl with
    | [y0, y1, y2], _ =>
      have h0 := hf 0 _ rfl
      have h1 := hf 1 _ rfl
      have h2 := hf 2 _ rfl
      simp [cells_int, cells_gr] at h0 h1 h2
      obtain ⟨a, rfl, _⟩ := open_z h0
      obtain ⟨b, rfl, _⟩ := open_z h1
      obtain ⟨g, hg⟩ := open_gr8 h2
      refine ⟨a, b, g, ?_⟩
      simp only [List.cons.injEq, and_true] at hg
      obtain ⟨rfl, rfl, rfl, rfl, rfl, rfl, rfl, rfl⟩ := hg
      rfl
/-- A record that came in. -/
theorem open_record {r : Reach} {b0 : Nat} {v : Value} {d : DataW H} {p : List MemPlace} (hv : Value.okWide Tryz.prog W r b0 32 v) (h : DataW.Trod enc Tryz.prog W base (fun _ => true) held 32 v d p) : ∃ id x y l, v = .agg #[.int .i64 id, .int .i64 x, .int .i64 y, .int .i64 l] ∧ wf64 id := by
  obtain ⟨cs, rfl, hsz⟩ := okWide_struct Tryz.underlying32 hv
  obtain ⟨l⟩ := cs
  match l, hsz.trans cells_rec with
  | [v0, v1, v2, v3], _ =>
    obtain ⟨fuel, hf0⟩ := h
    obtain ⟨xs, n', hn', hx', hcl, hxl, hf⟩ := DataW.trod_struct Tryz.underlying32 (by simpa [Value.cells] using hf0)
    match xs, hxl with
    | [y0, y1, y2], _ =>
      have h0 := hf 0 _ rfl
      have h1 := hf 1 _ rfl
      have h2 := hf 2 _ rfl
      simp [cells_int, cells_pt] at h0 h1 h2
      obtain ⟨a, rfl, wa⟩ := open_z h0
      obtain ⟨b, c, hb⟩ := open_pt2 h1
      obtain ⟨e, rfl, _⟩ := open_z h2
      refine ⟨a, b, c, e, ?_, wa⟩
      simp only [List.cons.injEq, and_true] at hb
      obtain ⟨rfl, rfl⟩ := hb
      rfl
end
end Go.Proofs.YthlijfligikciaaGreat

/- review: whose zoom, which rules are for someone, their mask: walked. No condition beyond what the rows read as. -/
namespace Go.Proofs.YthlijfligikciaaGreat
open Go.RowKit Go.Maps
set_option linter.unusedSimpArgs false
set_option linter.unusedVariables false
set_option maxRecDepth 2000

theorem rise_any (a b : Int) (w : World) : Calls Tryz.prog 25 #[.int .i64 a, .int .i64 b] w fun e w' => e = .returned (.bool (decide (a < b))) ∧ Below w.heap.size w w' := by
  go_enter Tryz.func25, Tryz.ntmps25
  go_wp2
  go_ret
  exact ⟨rfl, by repeat' (first | (with_reducible exact Below.refl _ _) | (with_reducible assumption) | (with_reducible refine Later.step ?_ ?_ _) | (with_reducible refine Below.alloc ?_ ?_ _) | (with_reducible refine Below.drew ?_) | (with_reducible refine Below.setCell ?_ ?_ _) | go_size)⟩
set_option maxHeartbeats 4000000 in
theorem whoZoom_any (a b c : Int) (n cc : Nat) (A : Option Addr) (L : List Rl) (P : Nat → Option Addr × Nat) (x y : Int) (w : World) (h : Rls w w.heap.size A L P) (hn : L.length = n) (hn1 : n ≤ 1000000) (hbx : ∀ i, i < n → (L.getD i rl0).boxes.length ≤ 1048576) :
    Calls Tryz.prog 154 #[key3 a b c, .slice A n cc, .agg #[.int .i64 x, .int .i64 y]] w fun e w' => e = .returned (.int .i64 (zoomR L a b c x y)) ∧ Below w.heap.size w w' := by
  have p1 := Lib.hid (fun (Y : World) (hY : Below w.heap.size w Y) => rzoom_any n cc A L P a b c x y Y ((h.keep hY).more hY.size) hn (by omega) (fun i hi => Nat.le_trans (hbx i hi) (by decide)))
  unfold key3
  generalize zoomR L a b c x y = z at p1 ⊢
  clear h hn hbx
  go_enter Tryz.func154, Tryz.ntmps154
  go_wp2_with (first
    | (go_at_call 184; refine (p1.out _ (by repeat' (first | (with_reducible exact Below.refl _ _) | (with_reducible assumption) | (with_reducible refine Later.step ?_ ?_ _) | (with_reducible refine Below.alloc ?_ ?_ _) | (with_reducible refine Below.drew ?_) | (with_reducible refine bel_drewN ?_ _) | (with_reducible refine bel_grown ?_ (by assumption) ?_ ?_) | (with_reducible refine Below.setCell ?_ ?_ _) | go_size))).mono ?_; rintro e w' ⟨rfl, hb⟩; obtain ⟨X1, rfl, hl1, hm1⟩ := later _ hb (Nat.le_refl _); clear hb; (try simp only [World.size_alloc, World.size_setCell, World.size_drew] at hm1 hl1)))
  go_ret
  exact ⟨rfl, by repeat' (first | (with_reducible exact Below.refl _ _) | (with_reducible assumption) | (with_reducible refine Later.step ?_ ?_ _) | (with_reducible refine Below.alloc ?_ ?_ _) | (with_reducible refine Below.drew ?_) | (with_reducible refine bel_drewN ?_ _) | (with_reducible refine bel_grown ?_ (by assumption) ?_ ?_) | (with_reducible refine Below.setCell ?_ ?_ _) | go_size)⟩
/-- The rules that are for someone, in a row of one's own. -/
def MinePost (L : List Rl) (P : Nat → Option Addr × Nat) (a b c : Int) (w : World) (e : Ending) (w' : World) : Prop :=
  ∃ C cc m, e = .returned (.slice C m cc) ∧ (mineN L P a b c L.length).length = m ∧ w'.ownsRow w.heap.size 65 7 (.slice C m cc) m (mV (mineN L P a b c L.length)) ∧ Below w.heap.size w w'
set_option maxHeartbeats 16000000 in
theorem whoMine_any (r t l : Int) (n c : Nat) (A : Option Addr) (L : List Rl) (P : Nat → Option Addr × Nat) (w : World) (h : Rls w w.heap.size A L P) (hn : L.length = n) (hn1 : n ≤ 1000000) (hbx : ∀ i, i < n → (L.getD i rl0).boxes.length ≤ 1048576) :
    Calls Tryz.prog 135 #[key3 r t l, .slice A n c] w (MinePost L P r t l w) := by
  obtain ⟨j0, hj, hy0, hy1, hy2⟩ := info_parts (show (Tryz.prog.info? 65).map (fun i => (i.zero, i.size, i.bytes)) = some (some (.agg #[.int .i64 0, .int .i64 0, .int .i64 0, .int .i64 0, .int .i64 0, .slice none 0 0, .int .i64 0]), 7, 72) by kernel_rfl)
  have H := Lib.hid h
  have HN := Lib.hid hn
  have HBL := Lib.hid hbx
  have HF := Lib.hid (show ∀ C cc m w', (mineN L P r t l n).length = m → w'.ownsRow w.heap.size 65 7 (.slice C m cc) m (mV (mineN L P r t l n)) → Below w.heap.size w w' → MinePost L P r t l w (.returned (.slice C m cc)) w' from fun C cc m w' h1 h2 h3 => ⟨C, cc, m, rfl, by rw [hn]; exact h1, by rw [hn]; exact h2, h3⟩)
  generalize MinePost L P r t l w = Post at HF ⊢
  unfold key3
  clear h hn hbx
  go_enter Tryz.func135, Tryz.ntmps135
  go_wp2_with fail
  go_loopw [5, 10] (fun al i wr => ∃ (j : Nat) (C : Option Addr) (cc m : Nat), ((j ≤ n ∧ m ≤ j) ∧ Hid (wr.ownsRow (w.heap.size + 1) 65 7 (.slice C m cc) m (mV (mineN L P r t l j)) ∧ (mineN L P r t l j).length = m)) ∧ al = .slice C m cc ∧ i = .int .i64 j ∧ Below (w.heap.size + 1) (w.alloc (.cells #[.int .i64 r, .int .i64 t, .int .i64 l] 46)) wr) (fun _ i _ => n - (intOf i).toNat)
  case atStart => exact ⟨0, none, 0, 0, ⟨⟨Nat.zero_le _, Nat.le_refl _⟩, World.ownsRow_nil _ _ _ _, rfl⟩, rfl, rfl, Below.refl _ _⟩
  case round =>
    obtain ⟨j, C, cc, m, ⟨⟨hj1, hmj⟩, hown⟩, rfl, rfl, hbel⟩ := hrel
    obtain ⟨X, rfl⟩ : ∃ X : Later (w.heap.size + 1) (w.alloc (.cells #[.int .i64 r, .int .i64 t, .int .i64 l] 46)), wr = X.w := ⟨⟨wr, hbel⟩, rfl⟩
    have hsz : w.heap.size + 1 ≤ X.w.heap.size := by have := hbel.size; simpa using this
    have hbX : Below w.heap.size w X.w := ((Below.refl w.heap.size w).alloc (Nat.le_refl _) _).trans (hbel.mono (Nat.le_succ _))
    clear hbel
    by_cases hlt : j < n
    · have hjL : j < L.length := by rw [HN.out]; exact hlt
      have hRX := H.out.keep hbX
      obtain ⟨bb, o, hA, hB, d0, d1, d2, d3, d4, d5, d6⟩ := rls_at hRX hjL
      subst hA
      have hbx := HBL.out j hlt
      have hbs := hRX.bx j hjL
      have hnx : mineN L P r t l (j + 1) = if forR (L.getD j rl0) r t l = true then mineN L P r t l j ++ [(L.getD j rl0, P j)] else mineN L P r t l j := rfl
      obtain ⟨A1, cc1, hP⟩ : ∃ A1 cc1, P j = (A1, cc1) := ⟨_, _, rfl⟩
      rw [hP] at d5 hbs hnx
      obtain ⟨x, hx⟩ : ∃ x, L.getD j rl0 = x := ⟨_, rfl⟩
      rw [hx] at d0 d1 d2 d3 d4 d5 d6 hbx hbs hnx
      obtain ⟨z, hz⟩ : ∃ z, x.boxes.length = z := ⟨_, rfl⟩
      rw [hz] at d5 hbx
      have p2 := fun (Y : World) (hY : Below X.w.heap.size X.w Y) => rfor_any x z cc1 A1 r t l Y (((hbs.keep (hY.mono (by have := hbX.size; omega))).more (by have := hbX.size; have := hY.size; omega))) hz (by omega)
      obtain ⟨d, hd⟩ : ∃ d, forR x r t l = d := ⟨_, rfl⟩
      rw [hd] at p2 hnx
      have P2 := Lib.hid p2
      have HX := Lib.hid (And.intro hnx hz)
      clear p2 hd hnx hx hz hbs hP hRX
      cases d with
      | true =>
        have HN2 := Lib.hid (show mineN L P r t l (j + 1) = mineN L P r t l j ++ [(x, (A1, cc1))] by rw [HX.out.1]; rfl)
        go_wp2_with (first
          | (go_at_call 106; with_reducible refine (P2.out _ ?_).mono ?_; (focus (repeat' (first | (with_reducible exact Below.refl _ _) | (with_reducible assumption) | (with_reducible refine Later.step ?_ ?_ _) | (with_reducible refine Below.alloc ?_ ?_ _) | (with_reducible refine Below.drew ?_) | (with_reducible refine bel_drewN ?_ _) | (with_reducible refine bel_grown ?_ (by assumption) ?_ ?_) | (with_reducible refine Below.setCell ?_ ?_ _) | go_size))); rintro e w' ⟨rfl, hb⟩; obtain ⟨X1, rfl, hl1, hm1⟩ := later _ hb (Nat.le_refl _); clear hb; (try simp only [World.size_alloc, World.size_setCell, World.size_drew] at hm1 hl1))
          | (at_builtin; refine wpList_append_own_at _ rfl _ _ 22 rfl (w.heap.size + 1) 65 j0 (.agg #[.int .i64 0, .int .i64 0, .int .i64 0, .int .i64 0, .int .i64 0, .slice none 0 0, .int .i64 0]) 7 72 Tryz.underlying22 hj hy0 hy1 hy2 rfl (by decide) (.slice C m cc) m _ (by rfl) ((own_keep hown.out.1 (show Below X.w.heap.size X.w X1.w by repeat' (first | (with_reducible exact Below.refl _ _) | (with_reducible assumption) | (with_reducible refine Later.step ?_ ?_ _) | (with_reducible refine Below.alloc ?_ ?_ _) | (with_reducible refine Below.drew ?_) | (with_reducible refine bel_drewN ?_ _) | (with_reducible refine bel_grown ?_ (by assumption) ?_ ?_) | (with_reducible refine Below.setCell ?_ ?_ _) | go_size))).alloc _) ⟨X1.w.heap.size, 0, none⟩ 1 1 [.int .i64 x.kind, .int .i64 x.roles, .int .i64 x.lo, .int .i64 x.hi, .int .i64 x.labels, .slice A1 z cc1, .int .i64 x.zoom] (by rfl) (by rfl) (cells_seven_new _ _ _ _ _ _ _ _ _) (by intro u hu; simp at hu; rcases hu with rfl | rfl | rfl | rfl | rfl | rfl | rfl <;> rfl) (by unfold maxLen; omega) (by omega) (by simp; omega) ?_; intro v3 w3 hown3 hgrow3 hat3 hlt3; have HG3 := Lib.hid (show Below (w.heap.size + 1) (w.alloc (.cells #[.int .i64 r, .int .i64 t, .int .i64 l] 46)) w3 from Below.grown (Below.alloc (X.is.trans (show Below (w.heap.size + 1) X.w X1.w by repeat' (first | (with_reducible exact Below.refl _ _) | (with_reducible assumption) | (with_reducible refine Later.step ?_ ?_ _) | (with_reducible refine Below.alloc ?_ ?_ _) | (with_reducible refine Below.drew ?_) | (with_reducible refine bel_drewN ?_ _) | (with_reducible refine bel_grown ?_ (by assumption) ?_ ?_) | (with_reducible refine Below.setCell ?_ ?_ _) | go_size))) (by go_size) _) hgrow3 (by go_size) (fun kk hkk => (hown.out.1.lt kk hkk).1)); have HO3 := Lib.hid hown3; have hs3 := hgrow3.size; clear hown3 hgrow3 hat3 hlt3))
        go_roundw
        case rel =>
          obtain ⟨A3, k3, rfl⟩ := own_formN HO3.out
          have h9 := HO3.out
          rw [show (mV (mineN L P r t l j) ++ [.int .i64 x.kind, .int .i64 x.roles, .int .i64 x.lo, .int .i64 x.hi, .int .i64 x.labels, .slice A1 z cc1, .int .i64 x.zoom] : List Value) = mV (mineN L P r t l (j + 1)) by rw [HN2.out, mV_snoc]; unfold rpV; rw [HX.out.2]] at h9
          exact ⟨j + 1, A3, k3, m + 1, ⟨⟨by omega, by omega⟩, h9, by rw [HN2.out, List.length_append, hown.out.2]; rfl⟩, rfl, by go_num, HG3.out⟩
        case measure => simp [intOf]; omega
      | false =>
        have HN2 := Lib.hid (show mineN L P r t l (j + 1) = mineN L P r t l j from HX.out.1)
        go_wp2_with (first
          | (go_at_call 106; with_reducible refine (P2.out _ ?_).mono ?_; (focus (repeat' (first | (with_reducible exact Below.refl _ _) | (with_reducible assumption) | (with_reducible refine Later.step ?_ ?_ _) | (with_reducible refine Below.alloc ?_ ?_ _) | (with_reducible refine Below.drew ?_) | (with_reducible refine bel_drewN ?_ _) | (with_reducible refine bel_grown ?_ (by assumption) ?_ ?_) | (with_reducible refine Below.setCell ?_ ?_ _) | go_size))); rintro e w' ⟨rfl, hb⟩; obtain ⟨X1, rfl, hl1, hm1⟩ := later _ hb (Nat.le_refl _); clear hb; (try simp only [World.size_alloc, World.size_setCell, World.size_drew] at hm1 hl1)))
        go_roundw
        case rel => exact ⟨j + 1, C, cc, m, ⟨⟨by omega, by omega⟩, by rw [HN2.out]; exact ⟨own_keep hown.out.1 (by repeat' (first | (with_reducible exact Below.refl _ _) | (with_reducible assumption) | (with_reducible refine Later.step ?_ ?_ _) | (with_reducible refine Below.alloc ?_ ?_ _) | (with_reducible refine Below.drew ?_) | (with_reducible refine bel_drewN ?_ _) | (with_reducible refine bel_grown ?_ (by assumption) ?_ ?_) | (with_reducible refine Below.setCell ?_ ?_ _) | go_size)), hown.out.2⟩⟩, rfl, by go_num, by repeat' (first | (with_reducible exact Below.refl _ _) | (with_reducible assumption) | (with_reducible refine Later.step ?_ ?_ _) | (with_reducible refine Below.alloc ?_ ?_ _) | (with_reducible refine Below.drew ?_) | (with_reducible refine bel_drewN ?_ _) | (with_reducible refine bel_grown ?_ (by assumption) ?_ ?_) | (with_reducible refine Below.setCell ?_ ?_ _) | go_size)⟩
        case measure => simp [intOf]; omega
    · obtain rfl : j = n := by omega
      have HE := Lib.hid (HF.out C cc m X.w hown.out.2 (own_base hown.out.1 (Nat.le_succ _)) hbX)
      go_wp2_with fail
      exact HE.out
/-- Which rules are for someone, as a number. -/
def maskN (L : List Rl) (a b c : Int) : Nat → Nat
  | 0 => 0
  | i + 1 => if forR (L.getD i rl0) a b c = true then maskN L a b c i + 2 ^ i else maskN L a b c i
theorem maskN_lt (L : List Rl) (a b c : Int) : ∀ i, maskN L a b c i < 2 ^ i
  | 0 => by unfold maskN; decide
  | i + 1 => by
    have ih := maskN_lt L a b c i
    have e : 2 ^ (i + 1) = 2 ^ i + 2 ^ i := by rw [Nat.pow_succ]; omega
    unfold maskN
    split <;> omega
theorem mask_or {mk j : Nat} (h : mk < 2 ^ j) (hj : j ≤ 32) : bits .or .u64 (mk : Int) (IntKind.u64.wrap ((2 : Int) ^ j)) = ((mk + 2 ^ j : Nat) : Int) := by
  have h1 : 2 ^ j ≤ 2 ^ 32 := Nat.pow_le_pow_right (by decide) hj
  have h2 : (2 : Nat) ^ 32 = 4294967296 := by decide
  have e : ((2 : Int) ^ j) = ((2 ^ j : Nat) : Int) := by push_cast; rfl
  rw [e, IntWalk.u64_in _ (by omega), u64_or_nat _ _ (by omega) (by omega)]
  congr 1
  have h3 := Nat.two_pow_add_eq_or_of_lt h 1
  rw [Nat.mul_one] at h3
  rw [Nat.or_comm, ← h3]
  omega
theorem maskN_inj {L : List Rl} {a b c a' b' c' : Int} : ∀ n, maskN L a b c n = maskN L a' b' c' n → ∀ i, i < n → forR (L.getD i rl0) a b c = forR (L.getD i rl0) a' b' c'
  | 0, _, i, hi => absurd hi (Nat.not_lt_zero i)
  | n + 1, h, i, hi => by
    have l1 := maskN_lt L a b c n
    have l2 := maskN_lt L a' b' c' n
    have key : maskN L a b c n = maskN L a' b' c' n ∧ forR (L.getD n rl0) a b c = forR (L.getD n rl0) a' b' c' := by
      unfold maskN at h
      cases h1 : forR (L.getD n rl0) a b c <;> cases h2 : forR (L.getD n rl0) a' b' c' <;> rw [h1, h2] at h <;> simp at h
      · exact ⟨h, rfl⟩
      · omega
      · omega
      · exact ⟨h, rfl⟩
    rcases Nat.lt_or_eq_of_le (Nat.le_of_lt_succ hi) with h9 | rfl
    · exact maskN_inj n key.1 i h9
    · exact key.2
theorem mine_same {L : List Rl} {a b c a' b' c' : Int} (h : maskN L a b c L.length = maskN L a' b' c' L.length) : mineR L a b c = mineR L a' b' c' := by
  unfold mineR
  refine List.filter_congr fun r hr => ?_
  obtain ⟨i, hi, rfl⟩ := List.mem_iff_getElem.1 hr
  have := maskN_inj L.length h i hi
  rwa [getR_lt hi] at this
set_option maxHeartbeats 16000000 in
theorem whoMask_any (r t l : Int) (n c : Nat) (A : Option Addr) (L : List Rl) (P : Nat → Option Addr × Nat) (w : World) (h : Rls w w.heap.size A L P) (hn : L.length = n) (hn1 : n ≤ 32) (hbx : ∀ i, i < n → (L.getD i rl0).boxes.length ≤ 1048576) :
    Calls Tryz.prog 66 #[key3 r t l, .slice A n c] w fun e w' => e = .returned (.int .u64 (maskN L r t l n : Nat)) ∧ Below w.heap.size w w' := by
  have H := Lib.hid h
  have HN := Lib.hid hn
  have HBL := Lib.hid hbx
  obtain ⟨M, hM⟩ : ∃ M, maskN L r t l n = M := ⟨_, rfl⟩
  rw [hM]
  have HM := Lib.hid hM
  unfold key3
  clear h hn hbx hM
  go_enter Tryz.func66, Tryz.ntmps66
  go_wp2_with fail
  go_loopw [5, 10] (fun v i wr => ∃ (j : Nat) (mk : Nat), (j ≤ n ∧ Hid (mk = maskN L r t l j)) ∧ v = .int .u64 (mk : Nat) ∧ i = .int .i64 j ∧ Below (w.heap.size + 1) (w.alloc (.cells #[.int .i64 r, .int .i64 t, .int .i64 l] 46)) wr) (fun _ i _ => n - (intOf i).toNat)
  case atStart => exact ⟨0, 0, ⟨Nat.zero_le _, rfl⟩, rfl, rfl, Below.refl _ _⟩
  case round =>
    obtain ⟨j, mk, ⟨hj1, hmk⟩, rfl, rfl, hbel⟩ := hrel
    obtain ⟨X, rfl⟩ : ∃ X : Later (w.heap.size + 1) (w.alloc (.cells #[.int .i64 r, .int .i64 t, .int .i64 l] 46)), wr = X.w := ⟨⟨wr, hbel⟩, rfl⟩
    have hsz : w.heap.size + 1 ≤ X.w.heap.size := by have := hbel.size; simpa using this
    have hbX : Below w.heap.size w X.w := ((Below.refl w.heap.size w).alloc (Nat.le_refl _) _).trans (hbel.mono (Nat.le_succ _))
    clear hbel
    by_cases hlt : j < n
    · have hjL : j < L.length := by rw [HN.out]; exact hlt
      have hRX := H.out.keep hbX
      obtain ⟨bb, o, hA, hB, d0, d1, d2, d3, d4, d5, d6⟩ := rls_at hRX hjL
      subst hA
      have hbx := HBL.out j hlt
      have hbs := hRX.bx j hjL
      have hnx : maskN L r t l (j + 1) = if forR (L.getD j rl0) r t l = true then maskN L r t l j + 2 ^ j else maskN L r t l j := rfl
      have hlm := maskN_lt L r t l j
      rw [← hmk.out] at hnx hlm
      obtain ⟨A1, cc1, hP⟩ : ∃ A1 cc1, P j = (A1, cc1) := ⟨_, _, rfl⟩
      rw [hP] at d5 hbs
      obtain ⟨x, hx⟩ : ∃ x, L.getD j rl0 = x := ⟨_, rfl⟩
      rw [hx] at d0 d1 d2 d3 d4 d5 d6 hbx hbs hnx
      obtain ⟨z, hz⟩ : ∃ z, x.boxes.length = z := ⟨_, rfl⟩
      rw [hz] at d5 hbx
      have p2 := fun (Y : World) (hY : Below X.w.heap.size X.w Y) => rfor_any x z cc1 A1 r t l Y (((hbs.keep (hY.mono (by have := hbX.size; omega))).more (by have := hbX.size; have := hY.size; omega))) hz (by omega)
      obtain ⟨d, hd⟩ : ∃ d, forR x r t l = d := ⟨_, rfl⟩
      rw [hd] at p2 hnx
      have P2 := Lib.hid p2
      have HX := Lib.hid hnx
      have HLM := Lib.hid hlm
      clear p2 hd hnx hx hz hbs hP hRX hlm
      cases d with
      | true =>
        have HN2 := Lib.hid (show mk + 2 ^ j = maskN L r t l (j + 1) by rw [HX.out]; rfl)
        go_wp2_with (first
          | (go_at_call 106; with_reducible refine (P2.out _ ?_).mono ?_; (focus (repeat' (first | (with_reducible exact Below.refl _ _) | (with_reducible assumption) | (with_reducible refine Later.step ?_ ?_ _) | (with_reducible refine Below.alloc ?_ ?_ _) | (with_reducible refine Below.drew ?_) | (with_reducible refine bel_drewN ?_ _) | (with_reducible refine bel_grown ?_ (by assumption) ?_ ?_) | (with_reducible refine Below.setCell ?_ ?_ _) | go_size))); rintro e w' ⟨rfl, hb⟩; obtain ⟨X1, rfl, hl1, hm1⟩ := later _ hb (Nat.le_refl _); clear hb; (try simp only [World.size_alloc, World.size_setCell, World.size_drew] at hm1 hl1)))
        go_roundw
        case rel =>
          exact ⟨j + 1, mk + 2 ^ j, ⟨by omega, HN2.out⟩, congrArg _ (mask_or HLM.out (by omega)), by go_num, by repeat' (first | (with_reducible exact Below.refl _ _) | (with_reducible assumption) | (with_reducible refine Later.step ?_ ?_ _) | (with_reducible refine Below.alloc ?_ ?_ _) | (with_reducible refine Below.drew ?_) | (with_reducible refine bel_drewN ?_ _) | (with_reducible refine bel_grown ?_ (by assumption) ?_ ?_) | (with_reducible refine Below.setCell ?_ ?_ _) | go_size)⟩
        case measure => simp [intOf]; omega
      | false =>
        have HN2 := Lib.hid (show mk = maskN L r t l (j + 1) from HX.out.symm)
        go_wp2_with (first
          | (go_at_call 106; with_reducible refine (P2.out _ ?_).mono ?_; (focus (repeat' (first | (with_reducible exact Below.refl _ _) | (with_reducible assumption) | (with_reducible refine Later.step ?_ ?_ _) | (with_reducible refine Below.alloc ?_ ?_ _) | (with_reducible refine Below.drew ?_) | (with_reducible refine bel_drewN ?_ _) | (with_reducible refine bel_grown ?_ (by assumption) ?_ ?_) | (with_reducible refine Below.setCell ?_ ?_ _) | go_size))); rintro e w' ⟨rfl, hb⟩; obtain ⟨X1, rfl, hl1, hm1⟩ := later _ hb (Nat.le_refl _); clear hb; (try simp only [World.size_alloc, World.size_setCell, World.size_drew] at hm1 hl1)))
        go_roundw
        case rel => exact ⟨j + 1, mk, ⟨by omega, HN2.out⟩, rfl, by go_num, by repeat' (first | (with_reducible exact Below.refl _ _) | (with_reducible assumption) | (with_reducible refine Later.step ?_ ?_ _) | (with_reducible refine Below.alloc ?_ ?_ _) | (with_reducible refine Below.drew ?_) | (with_reducible refine bel_drewN ?_ _) | (with_reducible refine bel_grown ?_ (by assumption) ?_ ?_) | (with_reducible refine Below.setCell ?_ ?_ _) | go_size)⟩
        case measure => simp [intOf]; omega
    · obtain rfl : j = n := by omega
      obtain rfl : mk = M := by rw [hmk.out, HM.out]
      go_wp2_with fail
      go_ret
      exact ⟨rfl, hbX⟩
/-- What is asked of two rows of rules. -/
def askE (d1 d2 : Bool) : Nat → Int
  | 0 => 0
  | 1 => if d1 = true then 0 else 1
  | _ => if d1 = true ∧ d2 = true then 0 else 1
set_option maxHeartbeats 16000000 in
theorem ask_any (g n1 n2 c1 c2 : Nat) (A1 A2 : Option Addr) (L1 L2 : List Rl) (P1 P2 : Nat → Option Addr × Nat) (w : World) (hg : g < w.heap.size) (g0 : w.cell? ⟨g, 0, none⟩ = some (.slice A1 n1 c1)) (g1 : w.cell? ⟨g, 1, none⟩ = some (.slice A2 n2 c2)) (h1 : Rls w w.heap.size A1 L1 P1) (h2 : Rls w w.heap.size A2 L2 P2) (hn1 : L1.length = n1) (hn2 : L2.length = n2) (hm1 : n1 ≤ 32) (hm2 : n2 ≤ 32) (hb1 : ∀ i, i < n1 → (L1.getD i rl0).boxes.length ≤ 1048576) (hb2 : ∀ i, i < n2 → (L2.getD i rl0).boxes.length ≤ 1048576) :
    Calls Tryz.prog 23 #[.slice (some ⟨g, 0, none⟩) 2 2] w fun e w' => e = .returned (.int .i64 (askE (L1.all rightR) (L2.all rightR) 2)) ∧ Below w.heap.size w w' := by
  have p1 := fun (Y : World) (hY : Below w.heap.size w Y) => rulesRight_any n1 c1 A1 L1 P1 Y ((h1.keep hY).more hY.size) hn1 (by omega) (fun i hi => Nat.le_trans (hb1 i hi) (by decide))
  have p2 := fun (Y : World) (hY : Below w.heap.size w Y) => rulesRight_any n2 c2 A2 L2 P2 Y ((h2.keep hY).more hY.size) hn2 (by omega) (fun i hi => Nat.le_trans (hb2 i hi) (by decide))
  obtain ⟨d1, hd1⟩ : ∃ d, L1.all rightR = d := ⟨_, rfl⟩
  obtain ⟨d2, hd2⟩ : ∃ d, L2.all rightR = d := ⟨_, rfl⟩
  rw [hd1] at p1 ⊢
  rw [hd2] at p2 ⊢
  have Q1 := Lib.hid p1
  have Q2 := Lib.hid p2
  obtain ⟨E, hE⟩ : ∃ E, askE d1 d2 2 = E := ⟨_, rfl⟩
  rw [hE]
  have HE := Lib.hid hE
  clear h1 h2 hn1 hn2 hb1 hb2 p1 p2 hd1 hd2 hE
  go_enter Tryz.func23, Tryz.ntmps23
  go_wp2_with fail
  go_loopw [3, 8] (fun v i wr => ∃ (j : Nat) (z : Int), (j ≤ 2 ∧ Hid (z = askE d1 d2 j)) ∧ v = .int .i64 z ∧ i = .int .i64 j ∧ Below w.heap.size w wr) (fun _ i _ => 2 - (intOf i).toNat)
  case atStart => exact ⟨0, 0, ⟨by omega, rfl⟩, rfl, rfl, Below.refl _ _⟩
  case round =>
    obtain ⟨j, z, ⟨hj, hz⟩, rfl, rfl, hbel⟩ := hrel
    obtain ⟨X, rfl⟩ : ∃ X : Later w.heap.size w, wr = X.w := ⟨⟨wr, hbel⟩, rfl⟩
    have hXs := hbel.size
    clear hbel
    have hcase : j = 0 ∨ j = 1 ∨ j = 2 := by omega
    rcases hcase with rfl | rfl | rfl
    · cases d1 with
      | true =>
        have HZ := Lib.hid (show z = askE true d2 1 from hz.out)
        go_wp2_with (first
          | (go_at_call 55; with_reducible refine (Q1.out _ ?_).mono ?_; (focus (repeat' (first | (with_reducible exact Below.refl _ _) | (with_reducible assumption) | (with_reducible refine Later.step ?_ ?_ _) | (with_reducible refine Below.alloc ?_ ?_ _) | (with_reducible refine Below.drew ?_) | (with_reducible refine bel_drewN ?_ _) | (with_reducible refine bel_grown ?_ (by assumption) ?_ ?_) | (with_reducible refine Below.setCell ?_ ?_ _) | go_size))); rintro e w' ⟨rfl, hb⟩; obtain ⟨X1, rfl, hl1, hm1⟩ := later _ hb (Nat.le_refl _); clear hb; (try simp only [World.size_alloc, World.size_setCell, World.size_drew] at hm1 hl1)))
        go_roundw
        case rel => exact ⟨1, z, ⟨by omega, HZ.out⟩, rfl, by go_num, by repeat' (first | (with_reducible exact Below.refl _ _) | (with_reducible assumption) | (with_reducible refine Later.step ?_ ?_ _) | (with_reducible refine Below.alloc ?_ ?_ _) | (with_reducible refine Below.drew ?_) | (with_reducible refine bel_drewN ?_ _) | (with_reducible refine bel_grown ?_ (by assumption) ?_ ?_) | (with_reducible refine Below.setCell ?_ ?_ _) | go_size)⟩
        case measure => simp [intOf]
      | false =>
        go_wp2_with (first
          | (go_at_call 55; with_reducible refine (Q1.out _ ?_).mono ?_; (focus (repeat' (first | (with_reducible exact Below.refl _ _) | (with_reducible assumption) | (with_reducible refine Later.step ?_ ?_ _) | (with_reducible refine Below.alloc ?_ ?_ _) | (with_reducible refine Below.drew ?_) | (with_reducible refine bel_drewN ?_ _) | (with_reducible refine bel_grown ?_ (by assumption) ?_ ?_) | (with_reducible refine Below.setCell ?_ ?_ _) | go_size))); rintro e w' ⟨rfl, hb⟩; obtain ⟨X1, rfl, hl1, hm1⟩ := later _ hb (Nat.le_refl _); clear hb; (try simp only [World.size_alloc, World.size_setCell, World.size_drew] at hm1 hl1)))
        go_roundw
        case rel => exact ⟨1, 1, ⟨by omega, rfl⟩, rfl, by go_num, by repeat' (first | (with_reducible exact Below.refl _ _) | (with_reducible assumption) | (with_reducible refine Later.step ?_ ?_ _) | (with_reducible refine Below.alloc ?_ ?_ _) | (with_reducible refine Below.drew ?_) | (with_reducible refine bel_drewN ?_ _) | (with_reducible refine bel_grown ?_ (by assumption) ?_ ?_) | (with_reducible refine Below.setCell ?_ ?_ _) | go_size)⟩
        case measure => simp [intOf]
    · cases d2 with
      | true =>
        have HZ := Lib.hid (show z = askE d1 true 2 by rw [hz.out]; cases d1 <;> rfl)
        go_wp2_with (first
          | (go_at_call 55; with_reducible refine (Q2.out _ ?_).mono ?_; (focus (repeat' (first | (with_reducible exact Below.refl _ _) | (with_reducible assumption) | (with_reducible refine Later.step ?_ ?_ _) | (with_reducible refine Below.alloc ?_ ?_ _) | (with_reducible refine Below.drew ?_) | (with_reducible refine bel_drewN ?_ _) | (with_reducible refine bel_grown ?_ (by assumption) ?_ ?_) | (with_reducible refine Below.setCell ?_ ?_ _) | go_size))); rintro e w' ⟨rfl, hb⟩; obtain ⟨X1, rfl, hl1, hm1⟩ := later _ hb (Nat.le_refl _); clear hb; (try simp only [World.size_alloc, World.size_setCell, World.size_drew] at hm1 hl1)))
        go_roundw
        case rel => exact ⟨2, z, ⟨by omega, HZ.out⟩, rfl, by go_num, by repeat' (first | (with_reducible exact Below.refl _ _) | (with_reducible assumption) | (with_reducible refine Later.step ?_ ?_ _) | (with_reducible refine Below.alloc ?_ ?_ _) | (with_reducible refine Below.drew ?_) | (with_reducible refine bel_drewN ?_ _) | (with_reducible refine bel_grown ?_ (by assumption) ?_ ?_) | (with_reducible refine Below.setCell ?_ ?_ _) | go_size)⟩
        case measure => simp [intOf]
      | false =>
        go_wp2_with (first
          | (go_at_call 55; with_reducible refine (Q2.out _ ?_).mono ?_; (focus (repeat' (first | (with_reducible exact Below.refl _ _) | (with_reducible assumption) | (with_reducible refine Later.step ?_ ?_ _) | (with_reducible refine Below.alloc ?_ ?_ _) | (with_reducible refine Below.drew ?_) | (with_reducible refine bel_drewN ?_ _) | (with_reducible refine bel_grown ?_ (by assumption) ?_ ?_) | (with_reducible refine Below.setCell ?_ ?_ _) | go_size))); rintro e w' ⟨rfl, hb⟩; obtain ⟨X1, rfl, hl1, hm1⟩ := later _ hb (Nat.le_refl _); clear hb; (try simp only [World.size_alloc, World.size_setCell, World.size_drew] at hm1 hl1)))
        go_roundw
        case rel => exact ⟨2, 1, ⟨by omega, by cases d1 <;> rfl⟩, rfl, by go_num, by repeat' (first | (with_reducible exact Below.refl _ _) | (with_reducible assumption) | (with_reducible refine Later.step ?_ ?_ _) | (with_reducible refine Below.alloc ?_ ?_ _) | (with_reducible refine Below.drew ?_) | (with_reducible refine bel_drewN ?_ _) | (with_reducible refine bel_grown ?_ (by assumption) ?_ ?_) | (with_reducible refine Below.setCell ?_ ?_ _) | go_size)⟩
        case measure => simp [intOf]
    · obtain rfl : z = E := by rw [hz.out, HE.out]
      go_wp2_with fail
      go_ret
      exact ⟨rfl, by repeat' (first | (with_reducible exact Below.refl _ _) | (with_reducible assumption) | (with_reducible refine Later.step ?_ ?_ _) | (with_reducible refine Below.alloc ?_ ?_ _) | (with_reducible refine Below.drew ?_) | (with_reducible refine bel_drewN ?_ _) | (with_reducible refine bel_grown ?_ (by assumption) ?_ ?_) | (with_reducible refine Below.setCell ?_ ?_ _) | go_size)⟩
end Go.Proofs.YthlijfligikciaaGreat
