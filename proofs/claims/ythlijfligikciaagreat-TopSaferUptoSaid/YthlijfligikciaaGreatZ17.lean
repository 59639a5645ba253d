/- Several texts of one proof, joined: Where no row of two sets of rules has a run, no zoom goes up: plain law. No condition. | review.some: walked: if it answers no, no zoom goes up. No condition beyond what the rows read as and how many boxes there are. | A map whose keys are two unsigned numbers and whose values are numbers: what it holds, looked up, put. No condition beyond what the memory holds. | What whose's callback keeps: plain facts of the memory. No condition. -/
import Derived.Test.YthlijfligikciaaGreatZ16
import Derived.Test.YthlijfligikciaaGreatZ08
/- Where no row of two sets of rules has a run, no zoom goes up: plain law. No condition. -/
namespace Go.Proofs.YthlijfligikciaaGreat
set_option linter.unusedSimpArgs false
set_option linter.unusedVariables false
set_option maxRecDepth 2000

/-- Within a cell of columns (of rows) of a finer list, a zoom is one. -/
theorem zoom_fineX {l : List Rl} {E : List Int} (hE : E.Pairwise (· < ·)) (hm : ∀ r ∈ l, ∀ b ∈ r.boxes, b.a ∈ E ∧ b.c + 1 ∈ E) {x y : Int} {i : Nat} (hi : i + 1 < E.length) (h0 : E.getD i 0 ≤ x) (h1 : x < E.getD (i + 1) 0) : zoomF l x y = zoomF l (E.getD i 0) y := by
  refine zoom_same fun r hr => hasL_congr fun b hb => ?_
  obtain ⟨m1, m2⟩ := hm r hr b hb
  have e1 : b.a ≤ x ↔ b.a ≤ E.getD i 0 := between hE m1 hi h0 h1
  have e2 : b.c + 1 ≤ x ↔ b.c + 1 ≤ E.getD i 0 := between hE m2 hi h0 h1
  rw [Bool.eq_iff_iff, hasX_iff, hasX_iff]
  constructor
  · rintro ⟨a, b1, c, d, e⟩
    have := e1.1 b1
    exact ⟨a, this, by omega, d, e⟩
  · rintro ⟨a, b1, c, d, e⟩
    exact ⟨a, by omega, Classical.byContradiction fun h => by have := e2.1 (by omega); omega, d, e⟩
theorem zoom_fineY {l : List Rl} {E : List Int} (hE : E.Pairwise (· < ·)) (hm : ∀ r ∈ l, ∀ b ∈ r.boxes, b.b ∈ E ∧ b.d + 1 ∈ E) {x y : Int} {i : Nat} (hi : i + 1 < E.length) (h0 : E.getD i 0 ≤ y) (h1 : y < E.getD (i + 1) 0) : zoomF l x y = zoomF l x (E.getD i 0) := by
  refine zoom_same fun r hr => hasL_congr fun b hb => ?_
  obtain ⟨m1, m2⟩ := hm r hr b hb
  have e1 : b.b ≤ y ↔ b.b ≤ E.getD i 0 := between hE m1 hi h0 h1
  have e2 : b.d + 1 ≤ y ↔ b.d + 1 ≤ E.getD i 0 := between hE m2 hi h0 h1
  rw [Bool.eq_iff_iff, hasX_iff, hasX_iff]
  constructor
  · rintro ⟨a, b1, c, d, e⟩
    have := e1.1 d
    exact ⟨a, b1, c, this, by omega⟩
  · rintro ⟨a, b1, c, d, e⟩
    exact ⟨a, b1, c, by omega, Classical.byContradiction fun h => by have := e2.1 (by omega); omega⟩
theorem mem_pts {f1 f2 : Bx → Int} {l : List Rl} {r : Rl} {b : Bx} (hr : r ∈ l) (hb : b ∈ r.boxes) : f1 b ∈ ptsL f1 f2 l ∧ f2 b + 1 ∈ ptsL f1 f2 l := by
  unfold ptsL ptsB
  exact ⟨List.mem_flatMap.2 ⟨r, hr, List.mem_flatMap.2 ⟨b, hb, by simp⟩⟩, List.mem_flatMap.2 ⟨r, hr, List.mem_flatMap.2 ⟨b, hb, by simp⟩⟩⟩
theorem exL_mem {l : List Rl} : ∀ r ∈ l, ∀ b ∈ r.boxes, b.a ∈ edgesL (exL l) ∧ b.c + 1 ∈ edgesL (exL l) := fun r hr b hb => by
  rw [edges_mem, edges_mem]
  obtain ⟨m1, m2⟩ := mem_pts (f1 := fun b => b.a) (f2 := fun b => b.c) hr hb
  exact ⟨List.mem_append_right _ m1, List.mem_append_right _ m2⟩
theorem eyL_mem {l : List Rl} : ∀ r ∈ l, ∀ b ∈ r.boxes, b.b ∈ edgesL (eyL l) ∧ b.d + 1 ∈ edgesL (eyL l) := fun r hr b hb => by
  rw [edges_mem, edges_mem]
  obtain ⟨m1, m2⟩ := mem_pts (f1 := fun b => b.b) (f2 := fun b => b.d) hr hb
  exact ⟨List.mem_append_right _ m1, List.mem_append_right _ m2⟩
theorem exL_grid (l : List Rl) : (0 : Int) ∈ edgesL (exL l) ∧ (65536 : Int) ∈ edgesL (exL l) := by
  rw [edges_mem, edges_mem]
  exact ⟨List.mem_append_left _ (by simp), List.mem_append_left _ (by simp)⟩
theorem eyL_grid (l : List Rl) : (0 : Int) ∈ edgesL (eyL l) ∧ (65536 : Int) ∈ edgesL (eyL l) := by
  rw [edges_mem, edges_mem]
  exact ⟨List.mem_append_left _ (by simp), List.mem_append_left _ (by simp)⟩
theorem exL_rng {l : List Rl} (h : ∀ r ∈ l, ∀ b ∈ r.boxes, rightX b = true) : ∀ x ∈ edgesL (exL l), 0 ≤ x ∧ x ≤ 65536 := fun x hx => by
  rw [edges_mem] at hx
  rcases List.mem_append.1 hx with hx | hx
  · simp at hx; omega
  · exact pts_rng (f1 := fun b => b.a) (f2 := fun b => b.c) (fun r hr b hb => by have := rightX_rng (h r hr b hb); omega) x (edges_mem.2 hx)
theorem eyL_rng {l : List Rl} (h : ∀ r ∈ l, ∀ b ∈ r.boxes, rightX b = true) : ∀ x ∈ edgesL (eyL l), 0 ≤ x ∧ x ≤ 65536 := fun x hx => by
  rw [edges_mem] at hx
  rcases List.mem_append.1 hx with hx | hx
  · simp at hx; omega
  · exact pts_rng (f1 := fun b => b.b) (f2 := fun b => b.d) (fun r hr b hb => by have := rightX_rng (h r hr b hb); omega) x (edges_mem.2 hx)
theorem mineR_len (L : List Rl) (a b c : Int) : (mineR L a b c).length ≤ L.length := List.length_filter_le _ _
theorem zoomR_mine (L : List Rl) (a b c x y : Int) : zoomR (mineR L a b c) a b c x y = zoomF (mineR L a b c) x y := by
  unfold zoomR
  rw [if_pos (List.all_eq_true.2 (mine_ok L a b c))]
  congr 1
  unfold mineR
  rw [List.filter_filter]
  simp
/-- Rules of which no row has a run do not let a zoom go up. -/
theorem no_rise {M1 M2 : List Rl} (h1 : OkL M1) (h2 : OkL M2) (h : ¬ upRows (fun x y => zoomF M1 x y) (fun x y => zoomF M2 x y) (edgesL (exL (M1 ++ M2))) (edgesL (eyL (M1 ++ M2))) ((edgesL (eyL (M1 ++ M2))).length - 1)) (x y : Int) : zoomF M2 x y ≤ zoomF M1 x y := by
  refine Classical.byContradiction fun hlt => h ?_
  have hz1 := zoom_range (fun r hr => rightR_zoom (h1 r hr)) x y
  have hne : zoomF M2 x y ≠ 0 := by omega
  obtain ⟨hx, hy⟩ := zoomF_rng h2 hne
  obtain ⟨gx0, gx1⟩ := exL_grid (M1 ++ M2)
  obtain ⟨gy0, gy1⟩ := eyL_grid (M1 ++ M2)
  obtain ⟨i, hi, u, v⟩ := zoom_inX.cell_of (edges_lt (exL (M1 ++ M2))) (mem_get gx0) (mem_get gx1) hx.1 (by omega)
  obtain ⟨j, hj, u', v'⟩ := zoom_inX.cell_of (edges_lt (eyL (M1 ++ M2))) (mem_get gy0) (mem_get gy1) hy.1 (by omega)
  have m1 : ∀ r ∈ M1, r ∈ M1 ++ M2 := fun r hr => List.mem_append_left _ hr
  have m2 : ∀ r ∈ M2, r ∈ M1 ++ M2 := fun r hr => List.mem_append_right _ hr
  have e1 : zoomF M1 x y = zoomF M1 ((edgesL (exL (M1 ++ M2))).getD i 0) ((edgesL (eyL (M1 ++ M2))).getD j 0) := by
    rw [zoom_fineX (edges_lt _) (fun r hr => exL_mem r (m1 r hr)) hi u v, zoom_fineY (edges_lt _) (fun r hr => eyL_mem r (m1 r hr)) hj u' v']
  have e2 : zoomF M2 x y = zoomF M2 ((edgesL (exL (M1 ++ M2))).getD i 0) ((edgesL (eyL (M1 ++ M2))).getD j 0) := by
    rw [zoom_fineX (edges_lt _) (fun r hr => exL_mem r (m2 r hr)) hi u v, zoom_fineY (edges_lt _) (fun r hr => eyL_mem r (m2 r hr)) hj u' v']
  exact ⟨j, by omega, i, by omega, by show zoomF M1 _ _ < zoomF M2 _ _; rw [← e1, ← e2]; omega⟩
end Go.Proofs.YthlijfligikciaaGreat

/- review.some: walked: if it answers no, no zoom goes up. No condition beyond what the rows read as and how many boxes there are. -/
namespace Go.Proofs.YthlijfligikciaaGreat
open Go.RowKit Go.Maps
set_option linter.unusedSimpArgs false
set_option linter.unusedVariables false
set_option maxRecDepth 2000

/-- What some answers. -/
def SomePost (L1 L2 : List Rl) (a b c : Int) (w : World) (e : Ending) (w' : World) : Prop :=
  ∃ v : Bool, e = .returned (.bool v) ∧ (v = false → ∀ x y, zoomF (mineR L2 a b c) x y ≤ zoomF (mineR L1 a b c) x y) ∧ Below w.heap.size w w'
set_option maxHeartbeats 16000000 in
theorem some_any (a b c : Int) (n1 n2 c1 c2 : Nat) (A1 A2 : Option Addr) (L1 L2 : List Rl) (P1 P2 : Nat → Option Addr × Nat) (w : World) (h1 : Rls w w.heap.size A1 L1 P1) (h2 : Rls w w.heap.size A2 L2 P2) (hn1 : L1.length = n1) (hn2 : L2.length = n2) (hm1 : n1 ≤ 32) (hm2 : n2 ≤ 32) (hc1 : cntB L1 ≤ 1048576) (hc2 : cntB L2 ≤ 1048576) :
    Calls Tryz.prog 67 #[.slice A1 n1 c1, .slice A2 n2 c2, key3 a b c, .func (.func 25) #[] #[]] w (SomePost L1 L2 a b c w) := by
  have PO := Lib.hid (fun (Y : World) (hY : Below w.heap.size w Y) => over_any w.heap.size a b c n1 n2 c1 c2 A1 A2 L1 L2 P1 P2 Y hY.size (h1.keep hY) (h2.keep hY) hn1 hn2 hm1 hm2 hc1 hc2)
  have HC := Lib.hid (And.intro hc1 hc2)
  have HM := Lib.hid (And.intro (Nat.le_trans (mineR_len L1 a b c) (Nat.le_of_eq hn1)) (Nat.le_trans (mineR_len L2 a b c) (Nat.le_of_eq hn2)))
  generalize hPost : SomePost L1 L2 a b c w = Post
  have HPost := Lib.hid hPost
  unfold key3 at PO ⊢
  clear h1 h2 hn1 hn2 hc1 hc2 hPost
  go_enter Tryz.func67, Tryz.ntmps67
  go_wp2_with fail
  go_at_call 107
  refine (PO.out _ (by repeat' (first | (with_reducible exact Below.refl _ _) | (with_reducible assumption) | (with_reducible refine Later.step ?_ ?_ _) | (with_reducible refine Below.alloc ?_ ?_ _) | (with_reducible refine Below.drew ?_) | (with_reducible refine bel_drewN ?_ _) | (with_reducible refine bel_grown ?_ (by assumption) ?_ ?_) | (with_reducible refine Below.setCell ?_ ?_ _) | go_size))).mono ?_
  rintro e w' ⟨B1, B2, D, F, m1, m2, nx, ny, d1, d2, cx, cy, Q1, Q2, xs, ys, rfl, ⟨r1, l1⟩, ⟨r2, l2⟩, ⟨ex, lx, ix⟩, ⟨ey, ly, iy⟩, hb⟩
  obtain ⟨X1, rfl, hl1, hm1'⟩ := later _ hb (Nat.le_refl _)
  have hz1 : w.heap.size + 2 ≤ X1.w.heap.size := Nat.le_trans (by simp) hl1
  have hok1 := mine_ok L1 a b c
  have hok2 := mine_ok L2 a b c
  have hrx : ∀ r ∈ mineR L1 a b c ++ mineR L2 a b c, ∀ b' ∈ r.boxes, rightX b' = true := fun r hr b' hb' => by
    rcases List.mem_append.1 hr with hr | hr
    · exact ok_rng hok1 r hr b' hb'
    · exact ok_rng hok2 r hr b' hb'
  have hst : ∀ w'', RowTo X1.w (w.heap.size + 1) none w'' none → Stay w.heap.size ((w.alloc (.cells #[.int .i64 a, .int .i64 b, .int .i64 c] 46)).alloc (.cells #[.bool false] 4)).heap.size X1.w w'' := fun w'' ht => ⟨ht.size, fun k hk hor => ht.block k hk (by simp at hor; omega) (fun a e => by cases e)⟩
  have hbx : ∀ (L : List Rl) (n : Nat), cntB L ≤ 1048576 → (mineR L a b c).length = n → ∀ i, i < n → ((mineR L a b c).getD i rl0).boxes.length ≤ 1048576 := fun L n hc hn i hi => by
    rw [← hn] at hi
    rw [getR_lt hi]
    exact Nat.le_trans (cnt_mem (List.getElem_mem hi)) (Nat.le_trans (cnt_filter _ L) hc)
  have p0 : X1.w.cell? ⟨w.heap.size + 1, 0, none⟩ = some (.bool false) := by go_simp
  have p1 : X1.w.frozen? ⟨w.heap.size + 1, 0, none⟩ = false := by go_simp
  have hxl : xs.length ≤ 65537 := by rw [ex]; exact rise_len (edges_lt _) (n := 65536) (exL_rng hrx)
  have hyl : ys.length ≤ 65537 := by rw [ey]; exact rise_len (edges_lt _) (n := 65536) (eyL_rng hrx)
  have HE := Lib.hid (each_any a b c (w.heap.size + 1) m1 m2 d1 d2 nx cx ny cy B1 B2 D F (mineR L1 a b c) (mineR L2 a b c) Q1 Q2 xs ys X1.w (by omega) p0 p1 (fun w'' ht => r1 w'' (hst w'' ht)) (fun w'' ht => r2 w'' (hst w'' ht)) l1 l2 (by have := HM.out.1; omega) (by have := HM.out.2; omega) (hbx L1 m1 HC.out.1 l1) (hbx L2 m2 HC.out.2 l2) (fun w'' ht => ix w'' (hst w'' ht)) lx (by omega) (by rw [ex]; exact exL_rng hrx) (fun w'' ht => iy w'' (hst w'' ht)) ly (by omega) (by rw [ey]; exact eyL_rng hrx))
  have HR := Lib.hid (show ¬ upRows (zoomR (mineR L1 a b c) a b c) (zoomR (mineR L2 a b c) a b c) xs ys (ys.length - 1) → ∀ x y, zoomF (mineR L2 a b c) x y ≤ zoomF (mineR L1 a b c) x y from fun h x y => by
    have e1 : zoomR (mineR L1 a b c) a b c = fun x y => zoomF (mineR L1 a b c) x y := funext fun x => funext fun y => zoomR_mine L1 a b c x y
    have e2 : zoomR (mineR L2 a b c) a b c = fun x y => zoomF (mineR L2 a b c) x y := funext fun x => funext fun y => zoomR_mine L2 a b c x y
    rw [e1, e2, ex, ey] at h
    exact no_rise hok1 hok2 h x y)
  clear r1 r2 l1 l2 ex ey lx ly ix iy hok1 hok2 hrx hst hbx hxl hyl hb
  go_wp2_with fail
  go_at_call 108
  refine HE.out.mono ?_
  rintro e w2 ⟨rfl, v, q0, hv, hto⟩
  have hbw : Below w.heap.size w w2 := (show Below w.heap.size w X1.w by repeat' (first | (with_reducible exact Below.refl _ _) | (with_reducible assumption) | (with_reducible refine Later.step ?_ ?_ _) | (with_reducible refine Below.alloc ?_ ?_ _) | (with_reducible refine Below.drew ?_) | (with_reducible refine bel_drewN ?_ _) | (with_reducible refine bel_grown ?_ (by assumption) ?_ ?_) | (with_reducible refine Below.setCell ?_ ?_ _) | go_size)).trans ((hto.elder (by omega) (fun a e => by cases e)).mono (Nat.le_succ _))
  have HFin := Lib.hid (show SomePost L1 L2 a b c w (.returned (.bool v)) w2 from ⟨v, rfl, fun hf => HR.out (fun h => by have := hv.2 h; rw [hf] at this; cases this), hbw⟩)
  rw [HPost.out] at HFin
  clear hv hto hbw
  go_wp2_with fail
  exact HFin.out
end Go.Proofs.YthlijfligikciaaGreat

/- A map whose keys are two unsigned numbers and whose values are numbers: what it holds, looked up, put. No condition beyond what the memory holds. -/
namespace Go.Proofs.YthlijfligikciaaGreat
open Go.RowKit Go.Maps
set_option linter.unusedSimpArgs false
set_option linter.unusedVariables false
set_option maxRecDepth 2000

def key2 (a b : Nat) : Value := .agg #[.int .u64 (a : Nat), .int .u64 (b : Nat)]
theorem key2_inj {a b a' b' : Nat} (h : key2 a b = key2 a' b') : a = a' ∧ b = b' := by
  unfold key2 at h
  simp at h
  omega
theorem k2_row : (136 : TypeId) < Tryz.prog.types.size := of_decide_eq_true (by kernel_rfl)
theorem k2_wide : (match Tryz.prog.underlying 136 with | some (.array _ _) | some (.struct _) => true | _ => false) = true := by rw [Tryz.underlying136]
theorem k2_law : WideMaps.KeyLaw Tryz.prog 136 := deep_law_laid (show laidOutB Tryz.prog = true by kernel_rfl) (m := 2) (by omega) k2_row (by kernel_rfl) k2_wide
theorem k2_keyed : Keyed Tryz.prog 136 := Keyed.of_law k2_law
theorem k2_type : Tryz.prog.keyType 136 = true := by kernel_rfl
theorem k2_size : ∃ m, Tryz.prog.types.size + 1 = m + 3 := ⟨Tryz.prog.types.size - 2, by have h := k2_row; have : 3 ≤ Tryz.prog.types.size := Nat.le_trans (by decide) h; omega⟩
theorem k2_cells : Tryz.prog.cellsOf 136 = 2 := by kernel_rfl
theorem u1_cells : Tryz.prog.cellsOf 99 = 1 := by kernel_rfl
theorem izero2 (w : World) : (zeroValue 3).run Tryz.prog w = .ok (.int .i64 0) w := by kernel_rfl
theorem u64_lit {a : Nat} (h : a < 18446744073709551616) : (Lit.int .u64 (a : Int)).wf = true := by
  simp only [Lit.wf, Bool.and_eq_true, decide_eq_true_eq]
  show (0 : Int) ≤ a ∧ (a : Int) ≤ 18446744073709551615
  omega
theorem keyOf_two {a b : Nat} (ha : a < 18446744073709551616) (hb : b < 18446744073709551616) : ∃ kl, keyOf Tryz.prog 136 (key2 a b) = some kl := by
  obtain ⟨m, hm⟩ := k2_size
  have h1 := u64_lit ha
  have h2 := u64_lit hb
  unfold keyOf key2
  rw [Tryz.underlying136]
  simp only [k2_type, Value.formed, Tryz.underlying136, k2_cells, hm]
  simp [Program.keyLits, Tryz.underlying136, Tryz.underlying99, k2_cells, u1_cells, Value.cells, h1, h2]
/-- A map from two numbers to a number: of at most n entries, these. -/
def M2 (w : World) (b n : Nat) (S : Nat → Nat → Option Int) : Prop :=
  ∃ D : DataW Value, w.ownsMap Tryz.prog 136 heldV b n D ∧ IsMap D ∧ ∀ u v kl, keyOf Tryz.prog 136 (key2 u v) = some kl → has D kl = (S u v).isSome ∧ ∀ z, S u v = some z → ∀ zd, D.atKey kl zd = .held (.int .i64 z)
section
variable {w w' : World} {b n : Nat} {S : Nat → Nat → Option Int}
theorem M2.lt (h : M2 w b n S) : b < w.heap.size := by
  obtain ⟨D, h, _⟩ := h
  exact h.lt
theorem M2.same (h : M2 w b n S) (e : w'.heap[b]? = w.heap[b]?) : M2 w' b n S := by
  obtain ⟨D, ⟨es, cl, h, r⟩, h2⟩ := h
  exact ⟨D, ⟨es, cl, e.trans h, r⟩, h2⟩
theorem M2.mono (h : M2 w b n S) {m : Nat} (hm : n ≤ m) : M2 w b m S := by
  obtain ⟨D, h, r⟩ := h
  exact ⟨D, h.mono hm, r⟩
theorem m2_made (w : World) : M2 (w.alloc (.map #[] 0)) w.heap.size 0 (fun _ _ => none) :=
  ⟨_, World.ownsMap_made _ _ _ _, isMap_empty, fun u v kl _ => ⟨rfl, fun z h => by cases h⟩⟩
theorem M2.look (h : M2 w b n S) {u v : Nat} (hu : u < 18446744073709551616) (hv : v < 18446744073709551616) : (Instr.lookup 132 (.map (some b)) (key2 u v) false).run Tryz.prog w = .ok (.int .i64 ((S u v).getD 0)) w := by
  obtain ⟨D, h, hm, hat⟩ := h
  obtain ⟨kl, hk⟩ := keyOf_two hu hv
  obtain ⟨y, ps, hrun, hy⟩ := h.lookup k2_keyed Tryz.underlying132 (izero2 w) (zd := .held (.int .i64 0)) (zp := []) rfl hk
  obtain ⟨h1, h2⟩ := hat u v kl hk
  rw [hrun]
  cases hS : S u v with
  | none =>
    rw [hS] at h1
    rw [atKey_of_not_has (by rw [h1]; rfl)] at hy
    rw [heldV_inv hy]
    rfl
  | some z =>
    rw [h2 z hS] at hy
    rw [heldV_inv hy]
    rfl
theorem M2.put (h : M2 w b n S) (hn : n < 9223372036854775807) {u v : Nat} (hu : u < 18446744073709551616) (hv : v < 18446744073709551616) (z : Int) :
    ∃ w', (Instr.mapUpdate 132 (.map (some b)) (key2 u v) (.int .i64 z)).run Tryz.prog w = .ok () w' ∧ M2 w' b (n + 1) (fun x y => if x = u ∧ y = v then some z else S x y) ∧ w.grownBy w' (some b) := by
  obtain ⟨D, h, hm, hat⟩ := h
  obtain ⟨kl, hk⟩ := keyOf_two hu hv
  obtain ⟨w', hrun, h1, h2⟩ := h.update k2_keyed Tryz.underlying132 (by unfold maxLen; omega) hk (val := .int .i64 z) (d := .held (.int .i64 z)) (ps := []) rfl
  refine ⟨w', hrun, ⟨_, h1, hm.put _ _, fun x y kl' hk' => ?_⟩, h2⟩
  by_cases e : x = u ∧ y = v
  · obtain ⟨rfl, rfl⟩ := e
    have : kl' = kl := by rw [hk] at hk'; injection hk' with hk'; exact hk'.symm
    subst this
    simp only [and_self, if_true]
    refine ⟨has_put_same hm (k2_keyed.key hk) _, fun q hq zd => ?_⟩
    injection hq with hq
    subst hq
    exact atKey_put_same hm (k2_keyed.key hk) _ _
  · have hne : kl' ≠ kl := fun he => e (key2_inj (k2_keyed.inj (he ▸ hk') hk))
    simp only [e, if_false]
    obtain ⟨h3, h4⟩ := hat x y kl' hk'
    exact ⟨(has_put_other hne _).trans h3, fun q hq zd => by rw [atKey_put_other hne]; exact h4 q hq zd⟩
end
end Go.Proofs.YthlijfligikciaaGreat

/- What whose's callback keeps: plain facts of the memory. No condition. -/
namespace Go.Proofs.YthlijfligikciaaGreat
open Go.RowKit Go.Maps
set_option linter.unusedSimpArgs false
set_option linter.unusedVariables false
set_option maxRecDepth 2000

/-- For someone no zoom goes up. -/
def riseNo (L1 L2 : List Rl) (r t l : Int) : Prop := ∀ x y, zoomF (mineR L2 r t l) x y ≤ zoomF (mineR L1 r t l) x y
theorem riseNo_same {L1 L2 : List Rl} {r t l r' t' l' : Int} (h : riseNo L1 L2 r t l) (h1 : maskN L1 r t l L1.length = maskN L1 r' t' l' L1.length) (h2 : maskN L2 r t l L2.length = maskN L2 r' t' l' L2.length) : riseNo L1 L2 r' t' l' := by
  unfold riseNo at h ⊢
  rw [← mine_same h1, ← mine_same h2]
  exact h
/-- What whose's callback finds: its cells, the row of those who are told, the map of what is known. -/
structure Wh (w : World) (s k m cc : Nat) (C : Option Addr) (O : List Sp) (S : Nat → Nat → Option Int) (A1 A2 : Option Addr) (c1 c2 : Nat) (L1 L2 : List Rl) : Prop where
  sz : s + 7 ≤ w.heap.size
  g0 : w.cell? ⟨s, 0, none⟩ = some (.slice A1 L1.length c1)
  g1 : w.cell? ⟨s + 1, 0, none⟩ = some (.slice A2 L2.length c2)
  g2 : w.cell? ⟨s + 2, 0, none⟩ = some (.int .i64 512)
  g3 : w.cell? ⟨s + 3, 0, none⟩ = some (.func (.func 25) #[] #[])
  g4 : w.cell? ⟨s + 4, 0, none⟩ = some (.slice C m cc)
  z4 : w.frozen? ⟨s + 4, 0, none⟩ = false
  g6 : w.cell? ⟨s + 6, 0, none⟩ = some (.map (some (s + 5)))
  own : w.ownsRow (s + 7) 46 3 (.slice C m cc) m (spV O)
  len : O.length = m
  map : M2 w (s + 5) k S
/-- What is known is so. -/
def WhInv (S : Nat → Nat → Option Int) (L1 L2 : List Rl) : Prop := ∀ u v z, S u v = some z → (z = 1 ∧ ∀ r t l, maskN L1 r t l L1.length = u → maskN L2 r t l L2.length = v → riseNo L1 L2 r t l) ∨ z = 2
theorem WhInv.put {S : Nat → Nat → Option Int} {L1 L2 : List Rl} {u v : Nat} {z : Int} (h : WhInv S L1 L2) (hz : (z = 1 ∧ ∀ r t l, maskN L1 r t l L1.length = u → maskN L2 r t l L2.length = v → riseNo L1 L2 r t l) ∨ z = 2) : WhInv (fun x y => if x = u ∧ y = v then some z else S x y) L1 L2 := fun x y q hq => by
  simp only at hq
  split at hq
  · rename_i e
    obtain ⟨rfl, rfl⟩ := e
    injection hq with hq
    subst hq
    exact hz
  · exact h x y q hq
section
variable {w w' : World} {s k m cc c1 c2 : Nat} {C A1 A2 : Option Addr} {O : List Sp} {S : Nat → Nat → Option Int} {L1 L2 : List Rl}
theorem Wh.keep (h : Wh w s k m cc C O S A1 A2 c1 c2 L1 L2) (hb : Below w.heap.size w w') : Wh w' s k m cc C O S A1 A2 c1 c2 L1 L2 := by
  have hs := h.sz
  refine ⟨Nat.le_trans hs hb.size, ?_, ?_, ?_, ?_, ?_, ?_, ?_, own_keep h.own hb, h.len, h.map.same (hb.block _ (by omega))⟩
  · exact (hb.cell (p := ⟨s, 0, none⟩) (by show s < _; omega)).trans h.g0
  · exact (hb.cell (p := ⟨s + 1, 0, none⟩) (by show s + 1 < _; omega)).trans h.g1
  · exact (hb.cell (p := ⟨s + 2, 0, none⟩) (by show s + 2 < _; omega)).trans h.g2
  · exact (hb.cell (p := ⟨s + 3, 0, none⟩) (by show s + 3 < _; omega)).trans h.g3
  · exact (hb.cell (p := ⟨s + 4, 0, none⟩) (by show s + 4 < _; omega)).trans h.g4
  · exact (hb.frozen (p := ⟨s + 4, 0, none⟩) (by show s + 4 < _; omega)).trans h.z4
  · exact (hb.cell (p := ⟨s + 6, 0, none⟩) (by show s + 6 < _; omega)).trans h.g6
theorem Wh.put {u v : Nat} {z : Int} (h : Wh w s k m cc C O S A1 A2 c1 c2 L1 L2) (hm : M2 w' (s + 5) (k + 1) (fun x y => if x = u ∧ y = v then some z else S x y)) (hg : w.grownBy w' (some (s + 5))) : Wh w' s (k + 1) m cc C O (fun x y => if x = u ∧ y = v then some z else S x y) A1 A2 c1 c2 L1 L2 := by
  have hs := h.sz
  have far : ∀ j, j < w.heap.size → j ≠ s + 5 → w'.heap[j]? = w.heap[j]? := fun j hj hne => hg.block j hj (fun e => by injection e with e; exact hne e)
  refine ⟨Nat.le_trans hs hg.size, ?_, ?_, ?_, ?_, ?_, ?_, ?_, own_stay h.own (fun j hj => far j (h.own.lt j hj).2 (by have := (h.own.lt j hj).1; omega)), h.len, hm⟩
  · exact (World.cell?_of_block (a := ⟨s, 0, none⟩) (far s (by omega) (by omega))).trans h.g0
  · exact (World.cell?_of_block (a := ⟨s + 1, 0, none⟩) (far (s + 1) (by omega) (by omega))).trans h.g1
  · exact (World.cell?_of_block (a := ⟨s + 2, 0, none⟩) (far (s + 2) (by omega) (by omega))).trans h.g2
  · exact (World.cell?_of_block (a := ⟨s + 3, 0, none⟩) (far (s + 3) (by omega) (by omega))).trans h.g3
  · exact (World.cell?_of_block (a := ⟨s + 4, 0, none⟩) (far (s + 4) (by omega) (by omega))).trans h.g4
  · exact (World.frozen?_of_block (a := ⟨s + 4, 0, none⟩) (far (s + 4) (by omega) (by omega))).trans h.z4
  · exact (World.cell?_of_block (a := ⟨s + 6, 0, none⟩) (far (s + 6) (by omega) (by omega))).trans h.g6
theorem Wh.push {W w7 : World} {A3 : Option Addr} {k3 : Nat} {x : Sp} (h : Wh w s k m cc C O S A1 A2 c1 c2 L1 L2) (hb : Below w.heap.size w W) (hg : W.grownBy w7 (gOf C)) (ho : w7.ownsRow (s + 7) 46 3 (.slice A3 (m + 1) k3) (m + 1) (spV O ++ [.int .i64 x.fr, .int .i64 x.to, .int .i64 x.zoom])) :
    Wh (w7.setCell ⟨s + 4, 0, none⟩ (.slice A3 (m + 1) k3)) s k (m + 1) k3 A3 (O ++ [x]) S A1 A2 c1 c2 L1 L2 ∧ Below s w (w7.setCell ⟨s + 4, 0, none⟩ (.slice A3 (m + 1) k3)) := by
  have hs := h.sz
  have hbs := hb.size
  have hgs := hg.size
  have hlo : ∀ j, j < s + 7 → some j ≠ gOf C := fun j hj e => by have := (h.own.lt j (gOf_own.trans e.symm)).1; omega
  have far : ∀ j, j < s + 7 → j ≠ s + 4 → (w7.setCell ⟨s + 4, 0, none⟩ (.slice A3 (m + 1) k3)).heap[j]? = w.heap[j]? := fun j hj hne => (Below.heap_setCell w7 ⟨s + 4, 0, none⟩ _ j hne).trans ((hg.block j (by omega) (hlo j hj)).trans (hb.block j (by omega)))
  have e4 : w7.cell? ⟨s + 4, 0, none⟩ = some (.slice C m cc) := (hg.cell_far ⟨s + 4, 0, none⟩ (by show s + 4 < _; omega) (hlo (s + 4) (by omega))).trans ((hb.cell (p := ⟨s + 4, 0, none⟩) (by show s + 4 < _; omega)).trans h.g4)
  have f4 : w7.frozen? ⟨s + 4, 0, none⟩ = false := (hg.frozen_far ⟨s + 4, 0, none⟩ (by show s + 4 < _; omega) (hlo (s + 4) (by omega))).trans ((hb.frozen (p := ⟨s + 4, 0, none⟩) (by show s + 4 < _; omega)).trans h.z4)
  refine ⟨⟨by rw [World.size_setCell]; omega, ?_, ?_, ?_, ?_, by go_simp, by go_simp, ?_, ?_, by rw [List.length_append, h.len]; rfl, h.map.same (far (s + 5) (by omega) (by omega))⟩, ⟨hg.os.trans hb.os, hg.tape.trans hb.tape, hg.output.trans hb.output, by rw [World.size_setCell]; omega, fun j hj => far j (by omega) (by omega)⟩⟩
  · exact (World.cell?_of_block (a := ⟨s, 0, none⟩) (far s (by omega) (by omega))).trans h.g0
  · exact (World.cell?_of_block (a := ⟨s + 1, 0, none⟩) (far (s + 1) (by omega) (by omega))).trans h.g1
  · exact (World.cell?_of_block (a := ⟨s + 2, 0, none⟩) (far (s + 2) (by omega) (by omega))).trans h.g2
  · exact (World.cell?_of_block (a := ⟨s + 3, 0, none⟩) (far (s + 3) (by omega) (by omega))).trans h.g3
  · exact (World.cell?_of_block (a := ⟨s + 6, 0, none⟩) (far (s + 6) (by omega) (by omega))).trans h.g6
  · rw [spV_snoc]
    exact own_set ho (show s + 4 < s + 7 by omega) _
end
end Go.Proofs.YthlijfligikciaaGreat
