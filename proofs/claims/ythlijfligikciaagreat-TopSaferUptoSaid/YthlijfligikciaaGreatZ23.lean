/- Several texts of one proof, joined: plan.Near: what is kept (Near$1$1): walked. No condition beyond what the table holds. | The seeker of a quadtree of points: a record that is kept, put into a queue without entries: walked. No condition beyond what the table holds. | The seeker of a quadtree of points with one leaf and one record: open: walked. No condition beyond what the table holds. -/
import Derived.Test.YthlijfligikciaaGreatZ22
import Derived.Test.YthlijfligikciaaGreatZ19
import Derived.Test.YthlijfligikciaaGreatZ21
/- plan.Near: what is kept (Near$1$1): walked. No condition beyond what the table holds. -/
namespace Go.Proofs.YthlijfligikciaaGreat
open Go.RowKit Go.Maps
set_option linter.unusedSimpArgs false
set_option linter.unusedVariables false
set_option maxRecDepth 2000

/-- A world to be seen, at a block. -/
structure Wb (w : World) (wb : Nat) (Pp Pc : Option Addr) (q : Nat) : Prop where
  c0 : w.cell? ⟨wb, 0, none⟩ = some (.pointer Pp)
  c1 : w.cell? ⟨wb, 1, none⟩ = some (.pointer Pc)
  c2 : w.cell? ⟨wb, 2, none⟩ = some (.pointer (some ⟨q, 0, none⟩))
/-- A viewer, at a block. -/
structure Vb (w : World) (vb : Nat) (role tier : Int) (g : Gr) : Prop where
  c0 : w.cell? ⟨vb, 0, none⟩ = some (.int .i64 role)
  c1 : w.cell? ⟨vb, 1, none⟩ = some (.int .i64 tier)
  c2 : w.cell? ⟨vb, 2, none⟩ = some (.int .i64 g.ops)
  c3 : w.cell? ⟨vb, 3, none⟩ = some (.int .i64 g.zoom)
  c4 : w.cell? ⟨vb, 4, none⟩ = some (.int .i64 g.a)
  c5 : w.cell? ⟨vb, 5, none⟩ = some (.int .i64 g.b)
  c6 : w.cell? ⟨vb, 6, none⟩ = some (.int .i64 g.c)
  c7 : w.cell? ⟨vb, 7, none⟩ = some (.int .i64 g.d)
  c8 : w.cell? ⟨vb, 8, none⟩ = some (.bool g.void)
  c9 : w.cell? ⟨vb, 9, none⟩ = some (.int .i64 g.til)
theorem Wb.lt {w : World} {wb q : Nat} {Pp Pc : Option Addr} (h : Wb w wb Pp Pc q) : wb < w.heap.size := cell_lt h.c0
theorem Vb.lt {w : World} {vb : Nat} {role tier : Int} {g : Gr} (h : Vb w vb role tier g) : vb < w.heap.size := cell_lt h.c0
theorem Wb.chg {X : Nat → Prop} {w w' : World} {wb q : Nat} {Pp Pc : Option Addr} (h : Wb w wb Pp Pc q) (hc : Chg X w w') (h1 : ¬ X wb) : Wb w' wb Pp Pc q :=
  ⟨(hc.cell (p := ⟨wb, 0, none⟩) h.lt h1).trans h.c0, (hc.cell (p := ⟨wb, 1, none⟩) h.lt h1).trans h.c1, (hc.cell (p := ⟨wb, 2, none⟩) h.lt h1).trans h.c2⟩
theorem Vb.chg {X : Nat → Prop} {w w' : World} {vb : Nat} {role tier : Int} {g : Gr} (h : Vb w vb role tier g) (hc : Chg X w w') (h1 : ¬ X vb) : Vb w' vb role tier g :=
  ⟨(hc.cell (p := ⟨vb, 0, none⟩) h.lt h1).trans h.c0, (hc.cell (p := ⟨vb, 1, none⟩) h.lt h1).trans h.c1, (hc.cell (p := ⟨vb, 2, none⟩) h.lt h1).trans h.c2, (hc.cell (p := ⟨vb, 3, none⟩) h.lt h1).trans h.c3, (hc.cell (p := ⟨vb, 4, none⟩) h.lt h1).trans h.c4, (hc.cell (p := ⟨vb, 5, none⟩) h.lt h1).trans h.c5, (hc.cell (p := ⟨vb, 6, none⟩) h.lt h1).trans h.c6, (hc.cell (p := ⟨vb, 7, none⟩) h.lt h1).trans h.c7, (hc.cell (p := ⟨vb, 8, none⟩) h.lt h1).trans h.c8, (hc.cell (p := ⟨vb, 9, none⟩) h.lt h1).trans h.c9⟩
theorem grown_trans {w w1 w2 : World} {x : Option Nat} (h : w.grownBy w1 x) (h' : w1.grownBy w2 x) : w.grownBy w2 x :=
  ⟨h'.os.trans h.os, h'.tape.trans h.tape, h'.output.trans h.output, Nat.le_trans h.size h'.size, fun k hk hx => (h'.block k (Nat.lt_of_lt_of_le hk h.size) hx).trans (h.block k hk hx)⟩
theorem Tb.ltb {w : World} {lo q b k : Nat} {L : List Rl} {G : Nat → Prop} (h : Tb w lo q b k L G) : b < w.heap.size := by obtain ⟨_, _, _, _, _, A, c, P, S, B, c0, c1, _, hm, _⟩ := h; exact hm.lt
set_option maxHeartbeats 16000000 in
theorem pkeep_any (G : Nat → Prop) (lo q b k : Nat) (L : List Rl) (Pp Pc : Option Addr) (role tier id x y label z : Int) (g : Gr) (wb vb zb : Nat) (w : World) (h : Tb w lo q b k L G) (hgw : ∀ x, G x → x < w.heap.size) (hk : k + 1 < 1000000) (hcnt : cntB L ≤ 1048576) (hn1 : L.length ≤ 1000000) (hw : Wb w wb Pp Pc q) (hv : Vb w vb role tier g) (hz : w.cell? ⟨zb, 0, none⟩ = some (.int .i64 z)) (hne : wb ≠ b ∧ vb ≠ b ∧ zb ≠ b) :
    Calls Tryz.prog 44 #[.agg #[.int .i64 id, .int .i64 x, .int .i64 y, .int .i64 label], .pointer (some ⟨wb, 0, none⟩), .pointer (some ⟨vb, 0, none⟩), .pointer (some ⟨zb, 0, none⟩)] w (TabPost G lo q b (k + 2) L (.bool (seeB L role tier g x y label && (zoomT L role tier label x y == z))) w) := by
  have hbl := h.ltb
  have PSee := Lib.hid (fun (Y : World) (hY : Below w.heap.size w Y) => see_any G lo q b k L Pp Pc role tier id x y label g Y (h.keep hY) (fun x e => Nat.lt_of_lt_of_le (hgw x e) hY.size) (by omega) hcnt hn1)
  have PZ := Lib.hid (fun (Y : World) (hT : Tb Y lo q b (k + 1) L G) (hY : w.heap.size ≤ Y.heap.size) => tzoom_any G lo q b (k + 1) L role tier label x y Y hT (fun x e => Nat.lt_of_lt_of_le (hgw x e) hY) (by omega) hcnt hn1)
  have HL := Lib.hid (And.intro hw (And.intro hv hz))
  have hwl := hw.lt
  have hvl := hv.lt
  have hzl : zb < w.heap.size := cell_lt hz
  obtain ⟨w0, w1, w2⟩ := hw
  obtain ⟨v0, v1, v2, v3, v4, v5, v6, v7, v8, v9⟩ := hv
  obtain ⟨n1, n2, n3⟩ := hne
  obtain ⟨sB, hsB⟩ : ∃ s, seeB L role tier g x y label = s := ⟨_, rfl⟩
  unfold TabPost seenV at PSee
  unfold TabPost at PZ
  rw [hsB] at PSee
  rw [hsB]
  obtain ⟨a0, h40⟩ : ∃ c, sel sB id = c := ⟨_, rfl⟩
  obtain ⟨a1, h41⟩ : ∃ c, sel sB (seeL L role tier g x y label) = c := ⟨_, rfl⟩
  obtain ⟨a2, h42⟩ : ∃ c, sel sB (x / sd (seeL L role tier g x y label) * sd (seeL L role tier g x y label)) = c := ⟨_, rfl⟩
  obtain ⟨a3, h43⟩ : ∃ c, sel sB (y / sd (seeL L role tier g x y label) * sd (seeL L role tier g x y label)) = c := ⟨_, rfl⟩
  obtain ⟨a4, h44⟩ : ∃ c, sel sB (x / sd (seeL L role tier g x y label) * sd (seeL L role tier g x y label) + sd (seeL L role tier g x y label) - 1) = c := ⟨_, rfl⟩
  obtain ⟨a5, h45⟩ : ∃ c, sel sB (y / sd (seeL L role tier g x y label) * sd (seeL L role tier g x y label) + sd (seeL L role tier g x y label) - 1) = c := ⟨_, rfl⟩
  rw [h40, h41, h42, h43, h44, h45] at PSee
  obtain ⟨zt, hzt⟩ : ∃ c, zoomT L role tier label x y = c := ⟨_, rfl⟩
  rw [hzt] at PZ
  rw [hzt]
  have HF := Lib.hid (show ∀ (v : Bool) (w1 w2 : World), Below w.heap.size w w1 → w1.grownBy w2 (some b) → ∀ (w3 : World) (j : Nat), Tb w2 lo q b j L G → j ≤ k + 2 → Below w2.heap.size w2 w3 → TabPost G lo q b (k + 2) L (.bool v) w (.returned (.bool v)) w3 from fun v w1 w2 h1 h2 w3 j hT hj h3 => ⟨rfl, (hT.keep h3).mono hj, grown_then (grown_after h1 h2) h3⟩)
  cases sB with
  | false =>
    rw [Bool.false_and]
    have HF := Lib.hid (HF.out false)
    generalize TabPost G lo q b (k + 2) L (.bool false) w = Post at HF ⊢
    clear h hgw hcnt hn1 hsB h40 h41 h42 h43 h44 h45 hzt hk PZ HL
    go_enter Tryz.func44, Tryz.ntmps44
    go_wp2_with fail
    go_at_call 8
    refine (PSee.out _ (by repeat' (first | (with_reducible exact Below.refl _ _) | (with_reducible assumption) | (with_reducible refine Later.step ?_ ?_ _) | (with_reducible refine Below.alloc ?_ ?_ _) | (with_reducible refine Below.drew ?_) | (with_reducible refine bel_drewN ?_ _) | (with_reducible refine bel_grown ?_ (by assumption) ?_ ?_) | (with_reducible refine Below.setCell ?_ ?_ _) | go_size))).mono ?_
    rintro e W ⟨rfl, hT, hg⟩
    have HT := Lib.hid (And.intro hT hg)
    have hs := hg.size
    simp only [World.size_alloc] at hs
    clear hT hg PSee
    go_wp2_with fail
    (refine wp_region_later (W.heap.size + 1) (by kernel_rfl) (by kernel_rfl) (by go_size) ?_; (repeat (go_big_quiet_step (fail))); refine wpQuiet_nil ?_; intro Xq hlXq hmXq)
    go_wp2_with fail
    exact HF.out _ W (by repeat' (first | (with_reducible exact Below.refl _ _) | (with_reducible assumption) | (with_reducible refine Later.step ?_ ?_ _) | (with_reducible refine Below.alloc ?_ ?_ _) | (with_reducible refine Below.drew ?_) | (with_reducible refine bel_drewN ?_ _) | (with_reducible refine bel_grown ?_ (by assumption) ?_ ?_) | (with_reducible refine Below.setCell ?_ ?_ _) | go_size)) HT.out.2 Xq.w (k + 1) HT.out.1 (by omega) (show Below W.heap.size W Xq.w by repeat' (first | (with_reducible exact Below.refl _ _) | (with_reducible assumption) | (with_reducible refine Later.step ?_ ?_ _) | (with_reducible refine Below.alloc ?_ ?_ _) | (with_reducible refine Below.drew ?_) | (with_reducible refine bel_drewN ?_ _) | (with_reducible refine bel_grown ?_ (by assumption) ?_ ?_) | (with_reducible refine Below.setCell ?_ ?_ _) | go_size))
  | true =>
    rw [Bool.true_and]
    have HF := Lib.hid (HF.out (zt == z))
    generalize TabPost G lo q b (k + 2) L (.bool (zt == z)) w = Post at HF ⊢
    have hwn : w.heap.size ≠ b := by omega
    have HSS := Lib.hid (show ∀ W', Chg (fun j => j = b) (w.alloc (.cells #[.int .i64 id, .int .i64 x, .int .i64 y, .int .i64 label] 32)) W' → (fun w' => w'.cell? ⟨wb, 2, none⟩ = some (.pointer (some ⟨q, 0, none⟩)) ∧ w'.cell? ⟨vb, 0, none⟩ = some (.int .i64 role) ∧ w'.cell? ⟨vb, 1, none⟩ = some (.int .i64 tier) ∧ w'.cell? ⟨w.heap.size, 3, none⟩ = some (.int .i64 label) ∧ w'.cell? ⟨w.heap.size, 1, none⟩ = some (.int .i64 x) ∧ w'.cell? ⟨w.heap.size, 2, none⟩ = some (.int .i64 y) ∧ w'.cell? ⟨zb, 0, none⟩ = some (.int .i64 z)) W' from fun W' hc => by
      have hz : (w.alloc (.cells #[.int .i64 id, .int .i64 x, .int .i64 y, .int .i64 label] 32)).heap.size = w.heap.size + 1 := by simp
      exact ⟨(hc.cell (p := ⟨wb, 2, none⟩) (by rw [hz]; show wb < _; omega) n1).trans (by go_simp), (hc.cell (p := ⟨vb, 0, none⟩) (by rw [hz]; show vb < _; omega) n2).trans (by go_simp), (hc.cell (p := ⟨vb, 1, none⟩) (by rw [hz]; show vb < _; omega) n2).trans (by go_simp), (hc.cell (p := ⟨w.heap.size, 3, none⟩) (by rw [hz]; show w.heap.size < _; omega) hwn).trans (by go_simp), (hc.cell (p := ⟨w.heap.size, 1, none⟩) (by rw [hz]; show w.heap.size < _; omega) hwn).trans (by go_simp), (hc.cell (p := ⟨w.heap.size, 2, none⟩) (by rw [hz]; show w.heap.size < _; omega) hwn).trans (by go_simp), (hc.cell (p := ⟨zb, 0, none⟩) (by rw [hz]; show zb < _; omega) n3).trans (by go_simp)⟩)
    clear h hgw hcnt hn1 hsB h40 h41 h42 h43 h44 h45 hzt hk HL
    go_enter Tryz.func44, Tryz.ntmps44
    go_wp2_with fail
    go_at_call 8
    refine (PSee.out _ (by repeat' (first | (with_reducible exact Below.refl _ _) | (with_reducible assumption) | (with_reducible refine Later.step ?_ ?_ _) | (with_reducible refine Below.alloc ?_ ?_ _) | (with_reducible refine Below.drew ?_) | (with_reducible refine bel_drewN ?_ _) | (with_reducible refine bel_grown ?_ (by assumption) ?_ ?_) | (with_reducible refine Below.setCell ?_ ?_ _) | go_size))).mono ?_
    rintro e W ⟨rfl, hT, hg⟩
    have hcW : Chg (fun j => j = b) (w.alloc (.cells #[.int .i64 id, .int .i64 x, .int .i64 y, .int .i64 label] 32)) W := Chg.ofGrown hg (fun k hk => by injection hk with hk; exact hk.symm)
    have HT := Lib.hid (And.intro hT (And.intro hg hcW))
    have hs := hg.size
    simp only [World.size_alloc] at hs
    clear hT hg hcW PSee
    go_wp2_with fail
    have hcD : Chg (fun j => j = b) (w.alloc (.cells #[.int .i64 id, .int .i64 x, .int .i64 y, .int .i64 label] 32)) (W.alloc (.cells #[.int .i64 a0, .int .i64 a1, .int .i64 a2, .int .i64 a3, .int .i64 a4, .int .i64 a5] 48)).drew := (HT.out.2.2.alloc _).trans (Chg.of (X := fun j => j = b) (Below.drew (Below.refl _ _))) (fun k hk => .inl hk)
    have HCD := Lib.hid hcD
    clear hcD
    refine wp_region_early (fun w' => w'.cell? ⟨wb, 2, none⟩ = some (.pointer (some ⟨q, 0, none⟩)) ∧ w'.cell? ⟨vb, 0, none⟩ = some (.int .i64 role) ∧ w'.cell? ⟨vb, 1, none⟩ = some (.int .i64 tier) ∧ w'.cell? ⟨w.heap.size, 3, none⟩ = some (.int .i64 label) ∧ w'.cell? ⟨w.heap.size, 1, none⟩ = some (.int .i64 x) ∧ w'.cell? ⟨w.heap.size, 2, none⟩ = some (.int .i64 y) ∧ w'.cell? ⟨zb, 0, none⟩ = some (.int .i64 z)) (fun _ => true) (by kernel_rfl) (HSS.out _ HCD.out) (fun HS => ?_)
    (refine wpAnyE_take (i := 0) (v := ?_) rfl (by kernel_rfl) (by kernel_rfl) (by kernel_rfl) (by kernel_rfl) (fun _ _ _ h => h) (Or.inl ⟨by rfl, ?_⟩) HS ?_; rotate_left 1; (focus (intro w9 hSw; (try dsimp only at hSw); go_simp; all_goals (with_reducible rfl))); (try simp only [Act.put, List.setIfInBounds_toArray, List.set_cons_zero, List.set_cons_succ]))
    (refine wpAnyE_take (i := 1) (v := ?_) rfl (by kernel_rfl) (by kernel_rfl) (by kernel_rfl) (by kernel_rfl) (fun _ _ _ h => h) (Or.inl ⟨by rfl, ?_⟩) HS ?_; rotate_left 1; (focus (intro w9 hSw; (try dsimp only at hSw); go_simp; all_goals (with_reducible rfl))); (try simp only [Act.put, List.setIfInBounds_toArray, List.set_cons_zero, List.set_cons_succ]))
    (refine wpAnyE_take (i := 2) (v := ?_) rfl (by kernel_rfl) (by kernel_rfl) (by kernel_rfl) (by kernel_rfl) (fun _ _ _ h => h) (Or.inl ⟨by kernel_rfl, ?_⟩) HS ?_; rotate_left 1; (focus (intro w9 hSw; (try dsimp only at hSw); go_simp; all_goals (with_reducible rfl))); (try simp only [Act.put, List.setIfInBounds_toArray, List.set_cons_zero, List.set_cons_succ]))
    (refine wpAnyE_take (i := 3) (v := ?_) rfl (by kernel_rfl) (by kernel_rfl) (by kernel_rfl) (by kernel_rfl) (fun _ _ _ h => h) (Or.inl ⟨by kernel_rfl, ?_⟩) HS ?_; rotate_left 1; (focus (intro w9 hSw; (try dsimp only at hSw); go_simp; all_goals (with_reducible rfl))); (try simp only [Act.put, List.setIfInBounds_toArray, List.set_cons_zero, List.set_cons_succ]))
    (refine wpAnyE_take (i := 4) (v := ?_) rfl (by kernel_rfl) (by kernel_rfl) (by kernel_rfl) (by kernel_rfl) (fun _ _ _ h => h) (Or.inl ⟨by kernel_rfl, ?_⟩) HS ?_; rotate_left 1; (focus (intro w9 hSw; (try dsimp only at hSw); go_simp; all_goals (with_reducible rfl))); (try simp only [Act.put, List.setIfInBounds_toArray, List.set_cons_zero, List.set_cons_succ]))
    (refine wpAnyE_take (i := 5) (v := ?_) rfl (by kernel_rfl) (by kernel_rfl) (by kernel_rfl) (by kernel_rfl) (fun _ _ _ h => h) (Or.inl ⟨by kernel_rfl, ?_⟩) HS ?_; rotate_left 1; (focus (intro w9 hSw; (try dsimp only at hSw); go_simp; all_goals (with_reducible rfl))); (try simp only [Act.put, List.setIfInBounds_toArray, List.set_cons_zero, List.set_cons_succ]))
    (refine wpAnyE_take (i := 6) (v := ?_) rfl (by kernel_rfl) (by kernel_rfl) (by kernel_rfl) (by kernel_rfl) (fun _ _ _ h => h) (Or.inl ⟨by kernel_rfl, ?_⟩) HS ?_; rotate_left 1; (focus (intro w9 hSw; (try dsimp only at hSw); go_simp; all_goals (with_reducible rfl))); (try simp only [Act.put, List.setIfInBounds_toArray, List.set_cons_zero, List.set_cons_succ]))
    (refine wpAnyE_take (i := 7) (v := ?_) rfl (by kernel_rfl) (by kernel_rfl) (by kernel_rfl) (by kernel_rfl) (fun _ _ _ h => h) (Or.inl ⟨by kernel_rfl, ?_⟩) HS ?_; rotate_left 1; (focus (intro w9 hSw; (try dsimp only at hSw); go_simp; all_goals (with_reducible rfl))); (try simp only [Act.put, List.setIfInBounds_toArray, List.set_cons_zero, List.set_cons_succ]))
    (refine wpAnyE_take (i := 8) (v := ?_) rfl (by kernel_rfl) (by kernel_rfl) (by kernel_rfl) (by kernel_rfl) (fun _ _ _ h => h) (Or.inl ⟨by kernel_rfl, ?_⟩) HS ?_; rotate_left 1; (focus (intro w9 hSw; (try dsimp only at hSw); go_simp; all_goals (with_reducible rfl))); (try simp only [Act.put, List.setIfInBounds_toArray, List.set_cons_zero, List.set_cons_succ]))
    (refine wpAnyE_take (i := 9) (v := ?_) rfl (by kernel_rfl) (by kernel_rfl) (by kernel_rfl) (by kernel_rfl) (fun _ _ _ h => h) (Or.inl ⟨by kernel_rfl, ?_⟩) HS ?_; rotate_left 1; (focus (intro w9 hSw; (try dsimp only at hSw); go_simp; all_goals (with_reducible rfl))); (try simp only [Act.put, List.setIfInBounds_toArray, List.set_cons_zero, List.set_cons_succ]))
    (refine wpAnyE_take (i := 10) (v := ?_) rfl (by kernel_rfl) (by kernel_rfl) (by kernel_rfl) (by kernel_rfl) (fun _ _ _ h => h) (Or.inl ⟨by kernel_rfl, ?_⟩) HS ?_; rotate_left 1; (focus (intro w9 hSw; (try dsimp only at hSw); go_simp; all_goals (with_reducible rfl))); (try simp only [Act.put, List.setIfInBounds_toArray, List.set_cons_zero, List.set_cons_succ]))
    (refine wpAnyE_take (i := 11) (v := ?_) rfl (by kernel_rfl) (by kernel_rfl) (by kernel_rfl) (by kernel_rfl) (fun _ _ _ h => h) (Or.inl ⟨by kernel_rfl, ?_⟩) HS ?_; rotate_left 1; (focus (intro w9 hSw; (try dsimp only at hSw); go_simp; all_goals (with_reducible rfl))); (try simp only [Act.put, List.setIfInBounds_toArray, List.set_cons_zero, List.set_cons_succ]))
    (refine wpAnyE_take (i := 13) (v := ?_) rfl (by kernel_rfl) (by kernel_rfl) (by kernel_rfl) (by kernel_rfl) (fun _ _ _ h => h) (Or.inl ⟨by kernel_rfl, ?_⟩) HS ?_; rotate_left 1; (focus (intro w9 hSw; (try dsimp only at hSw); go_simp; all_goals (with_reducible rfl))); (try simp only [Act.put, List.setIfInBounds_toArray, List.set_cons_zero, List.set_cons_succ]))
    refine wpAnyE_oneG (i := 12) rfl (by kernel_rfl) (by kernel_rfl) ?_
    go_wp2_with fail
    go_at_call 28
    refine (PZ.out _ (HT.out.1.keep (((Below.refl _ _).alloc (Nat.le_refl _) _).drew)) (by simp; omega)).mono ?_
    rintro e W2 ⟨rfl, hT2, hg2⟩
    have hc2 : Chg (fun j => j = b) (w.alloc (.cells #[.int .i64 id, .int .i64 x, .int .i64 y, .int .i64 label] 32)) W2 := HCD.out.trans (Chg.ofGrown (X := fun j => j = b) hg2 (fun k hk => by injection hk with hk; exact hk.symm)) (fun k hk => .inl hk)
    have HS2 := HSS.out _ hc2
    have HT2 := Lib.hid (show Tb W2 lo q b (k + 2) L G ∧ W.grownBy W2 (some b) from ⟨hT2, grown_after (((Below.refl _ _).alloc (Nat.le_refl _) _).drew) hg2⟩)
    clear hT2 hg2 hc2
    go_wp2_with fail
    refine ⟨fun _ => HS2, ?_⟩
    refine wpAnyE_oneG (i := 14) rfl (by kernel_rfl) (by kernel_rfl) ?_
    go_wp2_with fail
    refine ⟨fun _ => HS2, ?_⟩
    refine wpAnyE_one (i := 15) rfl (by kernel_rfl) ?_
    go_wp2_with fail
    refine ⟨fun _ => HS2, ?_⟩
    refine wpAnyE_one (i := 16) rfl (by kernel_rfl) ?_
    go_wp2_with fail
    refine ⟨fun _ => HS2, ?_⟩
    refine ⟨by kernel_rfl, ?_⟩
    go_wp2_with fail
    exact HF.out w W2 (Below.refl _ _) (grown_after (show Below w.heap.size w (w.alloc (.cells #[.int .i64 id, .int .i64 x, .int .i64 y, .int .i64 label] 32)) by repeat' (first | (with_reducible exact Below.refl _ _) | (with_reducible assumption) | (with_reducible refine Later.step ?_ ?_ _) | (with_reducible refine Below.alloc ?_ ?_ _) | (with_reducible refine Below.drew ?_) | (with_reducible refine bel_drewN ?_ _) | (with_reducible refine bel_grown ?_ (by assumption) ?_ ?_) | (with_reducible refine Below.setCell ?_ ?_ _) | go_size)) (grown_trans HT.out.2.1 HT2.out.2)) W2 (k + 2) HT2.out.1 (Nat.le_refl _) (Below.refl _ _)
end Go.Proofs.YthlijfligikciaaGreat

/- The seeker of a quadtree of points: a record that is kept, put into a queue without entries: walked. No condition beyond what the table holds. -/
namespace Go.Proofs.YthlijfligikciaaGreat
open Go.RowKit Go.Maps
set_option linter.unusedSimpArgs false
set_option linter.unusedVariables false
set_option maxRecDepth 2000

theorem eql_keep (f : Fn) (c : Array Value) (w : World) : (binOp .eql 102 (.func f #[] c) .nilFunc).run Tryz.prog w = .ok (.bool false) w := by kernel_rfl
set_option maxHeartbeats 16000000 in
theorem record_first (G : Nat → Prop) (lo qt bt kt : Nat) (L : List Rl) (Pp Pc : Option Addr) (role tier id x y label z : Int) (g : Gr) (wb vb zb : Nat) (k q sq cq : Nat) (Cq : Option Addr) (px py lv : Int) (w : World) (ht : Tb w lo qt bt kt L G) (hgw : ∀ x, G x → x < w.heap.size) (hkt : kt + 1 < 1000000) (hcnt : cntB L ≤ 1048576) (hn1 : L.length ≤ 1000000) (hw : Wb w wb Pp Pc qt) (hv : Vb w vb role tier g) (hz : w.cell? ⟨zb, 0, none⟩ = some (.int .i64 z)) (hne : wb ≠ bt ∧ vb ≠ bt ∧ zb ≠ bt ∧ k ≠ bt)
    (hkeep : (seeB L role tier g x y label && (zoomT L role tier label x y == z)) = true) (h : Sk w k q sq px py lv (.func (.func 44) #[] #[.pointer (some ⟨wb, 0, none⟩), .pointer (some ⟨vb, 0, none⟩), .pointer (some ⟨zb, 0, none⟩)])) (hq : Qu w sq Cq 0 cq []) (hG : ∀ j, (j = sq ∨ gP Cq j) → G j) (hlv : 0 ≤ lv ∧ lv ≤ 16) (hf : fitsB x y = true) :
    Calls Tryz.prog 123 #[.pointer (some ⟨k, 0, none⟩), .agg #[.int .i64 id, .int .i64 x, .int .i64 y, .int .i64 label]] w fun e w' => e = .returned (.tuple #[]) ∧ ∃ C' cc', Qu w' sq C' 1 cc' [.int .u64 (farI lv (x / sd lv) (y / sd lv) px py), .int .u64 1, .int .i64 id] ∧ Tb w' lo qt bt (kt + 2) L (gU G C') ∧ Chg (fun j => j = bt ∨ j = sq ∨ gP Cq j) w w' ∧ ∀ j, gP C' j → gP Cq j ∨ w.heap.size ≤ j := by
  have hbl := ht.ltb
  have hkl := h.lt
  have PK := Lib.hid (fun (Y : World) (hY : Below w.heap.size w Y) => pkeep_any G lo qt bt kt L Pp Pc role tier id x y label z g wb vb zb Y (ht.keep hY) (fun x e => Nat.lt_of_lt_of_le (hgw x e) hY.size) hkt hcnt hn1 (hw.chg (X := fun _ => False) (Chg.of hY) (fun e => e)) (hv.chg (X := fun _ => False) (Chg.of hY) (fun e => e)) ((hY.cell (p := ⟨zb, 0, none⟩) (cell_lt hz)).trans hz) ⟨hne.1, hne.2.1, hne.2.2.1⟩)
  rw [hkeep] at PK
  unfold TabPost at PK
  have PF := Lib.hid (fun (Y : World) (hY : Chg (fun j => j = bt) w Y) => far_low k q sq px py lv _ lv (x / sd lv) (y / sd lv) Y (h.chg hY hne.2.2.2) (Int.le_refl _) (cell_ok hlv hf))
  have pof := fun (Y : World) => cof_any x y lv Y
  rw [show (lvlB lv && fitsB x y) = true by rw [hf, lvl_iff.2 hlv]; rfl] at pof
  simp only [sel, if_true] at pof
  obtain ⟨cx, hcx⟩ : ∃ c, x / sd lv = c := ⟨_, rfl⟩
  obtain ⟨cy, hcy⟩ : ∃ c, y / sd lv = c := ⟨_, rfl⟩
  rw [hcx, hcy] at pof PF ⊢
  have POf := Lib.hid pof
  have HQ := Lib.hid (And.intro hq (And.intro hG ht.gq))
  have hsb : sq ≠ bt := by have := ht.gq sq (hG sq (.inl rfl)); omega
  have hkn : k ≠ bt := hne.2.2.2
  have c3 := h.c3
  have c4 := h.c4
  have c5 := h.c5
  have hsk := Lib.hid h
  generalize farI lv cx cy px py = dd at PF ⊢
  clear pof ht hgw hcnt hn1 hw hv hz hkeep hq hG hlv hf hcx hcy hne h hkt
  have hek := eql_keep
  go_enter Tryz.func123, Tryz.ntmps123
  go_wp2_with fail
  (refine wp_region_later_tail 11 (w.heap.size + 1) (by kernel_rfl) (by kernel_rfl) (by go_size) ?_; simp only [List.take_succ_cons, List.take_zero, List.drop_succ_cons, List.drop_zero]; (repeat (go_big_quiet_step (fail))); refine wpQuiet_nil ?_; intro Xq hlXq hmXq)
  have hbq : Below w.heap.size w Xq.w := by repeat' (first | (with_reducible exact Below.refl _ _) | (with_reducible assumption) | (with_reducible refine Later.step ?_ ?_ _) | (with_reducible refine Below.alloc ?_ ?_ _) | (with_reducible refine Below.drew ?_) | (with_reducible refine bel_drewN ?_ _) | (with_reducible refine bel_grown ?_ (by assumption) ?_ ?_) | (with_reducible refine Below.setCell ?_ ?_ _) | go_size)
  go_wp2_with fail
  go_at_call 44
  refine (PK.out _ hbq).mono ?_
  rintro e W ⟨rfl, hT, hg⟩
  have hcW : Chg (fun j => j = bt) w W := (Chg.of (X := fun j => j = bt) hbq).trans (Chg.ofGrown (X := fun j => j = bt) hg (fun k hk => by injection hk with hk; exact hk.symm)) (fun k hk => .inl hk)
  have hs := hg.size
  have hkW : ∀ i, W.cell? ⟨w.heap.size, i, none⟩ = Xq.w.cell? ⟨w.heap.size, i, none⟩ := fun i => hg.cell_far ⟨w.heap.size, i, none⟩ (by show w.heap.size < _; omega) (fun e => by injection e with e; have e' : w.heap.size = bt := e; omega)
  have r0 : W.cell? ⟨w.heap.size, 0, none⟩ = some (.int .i64 id) := (hkW 0).trans (by go_simp)
  have r1 : W.cell? ⟨w.heap.size, 1, none⟩ = some (.int .i64 x) := (hkW 1).trans (by go_simp)
  have r2 : W.cell? ⟨w.heap.size, 2, none⟩ = some (.int .i64 y) := (hkW 2).trans (by go_simp)
  have k3 : W.cell? ⟨k, 3, none⟩ = some (.int .i64 lv) := (hcW.cell (p := ⟨k, 3, none⟩) hkl hkn).trans c3
  have k5 : W.cell? ⟨k, 5, none⟩ = some (.pointer (some ⟨sq, 0, none⟩)) := (hcW.cell (p := ⟨k, 5, none⟩) hkl hkn).trans c5
  have HW := Lib.hid (And.intro hT hcW)
  have hsW : w.heap.size < W.heap.size := by omega
  clear hT hg hcW hkW
  go_upto_region 2 with fail
  go_cut [4, 5] from 19 to 28 (fun p9 s9 wx => ∃ nb : Nat, p9 = .pointer (some ⟨nb, 0, none⟩) ∧ s9 = .bool true ∧ (W.heap.size ≤ nb ∧ nb < wx.heap.size) ∧ (wx.cell? ⟨nb, 0, none⟩ = some (.int .i64 lv) ∧ wx.cell? ⟨nb, 1, none⟩ = some (.int .i64 cx) ∧ wx.cell? ⟨nb, 2, none⟩ = some (.int .i64 cy)) ∧ Below W.heap.size W wx)
  case first =>
    have HSS := Lib.hid (show ∀ W', Below W.heap.size W W' → (fun w' => w'.cell? ⟨w.heap.size, 1, none⟩ = some (.int .i64 x) ∧ w'.cell? ⟨w.heap.size, 2, none⟩ = some (.int .i64 y) ∧ w'.cell? ⟨k, 3, none⟩ = some (.int .i64 lv)) W' from fun W' hb => ⟨(hb.cell (p := ⟨w.heap.size, 1, none⟩) hsW).trans r1, (hb.cell (p := ⟨w.heap.size, 2, none⟩) hsW).trans r2, (hb.cell (p := ⟨k, 3, none⟩) (by show k < _; omega)).trans k3⟩)
    refine wp_region_early (fun w' => w'.cell? ⟨w.heap.size, 1, none⟩ = some (.int .i64 x) ∧ w'.cell? ⟨w.heap.size, 2, none⟩ = some (.int .i64 y) ∧ w'.cell? ⟨k, 3, none⟩ = some (.int .i64 lv)) (fun _ => true) (by kernel_rfl) (HSS.out _ (by repeat' (first | (with_reducible exact Below.refl _ _) | (with_reducible assumption) | (with_reducible refine Later.step ?_ ?_ _) | (with_reducible refine Below.alloc ?_ ?_ _) | (with_reducible refine Below.drew ?_) | (with_reducible refine bel_drewN ?_ _) | (with_reducible refine bel_grown ?_ (by assumption) ?_ ?_) | (with_reducible refine Below.setCell ?_ ?_ _) | go_size))) (fun HS => ?_)
    (refine wpAnyE_take (i := 0) (v := ?_) rfl (by kernel_rfl) (by kernel_rfl) (by kernel_rfl) (by kernel_rfl) (fun _ _ _ h => h) (Or.inl ⟨by rfl, ?_⟩) HS ?_; rotate_left 1; (focus (intro w9 hSw; (try dsimp only at hSw); go_simp; all_goals (with_reducible rfl))); (try simp only [Act.put, List.setIfInBounds_toArray, List.set_cons_zero, List.set_cons_succ]))
    (refine wpAnyE_take (i := 1) (v := ?_) rfl (by kernel_rfl) (by kernel_rfl) (by kernel_rfl) (by kernel_rfl) (fun _ _ _ h => h) (Or.inl ⟨by rfl, ?_⟩) HS ?_; rotate_left 1; (focus (intro w9 hSw; (try dsimp only at hSw); go_simp; all_goals (with_reducible rfl))); (try simp only [Act.put, List.setIfInBounds_toArray, List.set_cons_zero, List.set_cons_succ]))
    (refine wpAnyE_take (i := 2) (v := ?_) rfl (by kernel_rfl) (by kernel_rfl) (by kernel_rfl) (by kernel_rfl) (fun _ _ _ h => h) (Or.inl ⟨by rfl, ?_⟩) HS ?_; rotate_left 1; (focus (intro w9 hSw; (try dsimp only at hSw); go_simp; all_goals (with_reducible rfl))); (try simp only [Act.put, List.setIfInBounds_toArray, List.set_cons_zero, List.set_cons_succ]))
    (refine wpAnyE_take (i := 3) (v := ?_) rfl (by kernel_rfl) (by kernel_rfl) (by kernel_rfl) (by kernel_rfl) (fun _ _ _ h => h) (Or.inl ⟨by rfl, ?_⟩) HS ?_; rotate_left 1; (focus (intro w9 hSw; (try dsimp only at hSw); go_simp; all_goals (with_reducible rfl))); (try simp only [Act.put, List.setIfInBounds_toArray, List.set_cons_zero, List.set_cons_succ]))
    (refine wpAnyE_take (i := 4) (v := ?_) rfl (by kernel_rfl) (by kernel_rfl) (by kernel_rfl) (by kernel_rfl) (fun _ _ _ h => h) (Or.inl ⟨by rfl, ?_⟩) HS ?_; rotate_left 1; (focus (intro w9 hSw; (try dsimp only at hSw); go_simp; all_goals (with_reducible rfl))); (try simp only [Act.put, List.setIfInBounds_toArray, List.set_cons_zero, List.set_cons_succ]))
    (refine wpAnyE_take (i := 5) (v := ?_) rfl (by kernel_rfl) (by kernel_rfl) (by kernel_rfl) (by kernel_rfl) (fun _ _ _ h => h) (Or.inl ⟨by rfl, ?_⟩) HS ?_; rotate_left 1; (focus (intro w9 hSw; (try dsimp only at hSw); go_simp; all_goals (with_reducible rfl))); (try simp only [Act.put, List.setIfInBounds_toArray, List.set_cons_zero, List.set_cons_succ]))
    refine wpAnyE_two (i := 6) (j := 10) rfl rfl (by kernel_rfl) ?_ ?_
    · go_wp2_with fail
      go_at_call 29
      refine (POf.out _).mono ?_
      rintro e w' ⟨rfl, hb⟩; obtain ⟨X1, rfl, hl1, hm1⟩ := later _ hb (Nat.le_refl _); clear hb; (try simp only [World.size_alloc, World.size_setCell, World.size_drew] at hm1 hl1)
      have HS := HSS.out X1.w (by repeat' (first | (with_reducible exact Below.refl _ _) | (with_reducible assumption) | (with_reducible refine Later.step ?_ ?_ _) | (with_reducible refine Below.alloc ?_ ?_ _) | (with_reducible refine Below.drew ?_) | (with_reducible refine bel_drewN ?_ _) | (with_reducible refine bel_grown ?_ (by assumption) ?_ ?_) | (with_reducible refine Below.setCell ?_ ?_ _) | go_size))
      go_wp2_with fail
      first | refine ⟨fun _ => HS, ?_⟩ | skip
      (refine wpAnyE_take (i := 7) (v := ?_) rfl (by kernel_rfl) (by kernel_rfl) (by kernel_rfl) (by kernel_rfl) (fun _ _ _ h => h) (Or.inl ⟨by rfl, ?_⟩) HS ?_; rotate_left 1; (focus (intro w9 hSw; (try dsimp only at hSw); go_simp; all_goals (with_reducible rfl))); (try simp only [Act.put, List.setIfInBounds_toArray, List.set_cons_zero, List.set_cons_succ]))
      (refine wpAnyE_take (i := 8) (v := ?_) rfl (by kernel_rfl) (by kernel_rfl) (by kernel_rfl) (by kernel_rfl) (fun _ _ _ h => h) (Or.inl ⟨by rfl, ?_⟩) HS ?_; rotate_left 1; (focus (intro w9 hSw; (try dsimp only at hSw); go_simp; all_goals (with_reducible rfl))); (try simp only [Act.put, List.setIfInBounds_toArray, List.set_cons_zero, List.set_cons_succ]))
      (refine wpAnyE_take (i := 9) (v := ?_) rfl (by kernel_rfl) (by kernel_rfl) (by kernel_rfl) (by kernel_rfl) (fun _ _ _ h => h) (Or.inl ⟨by rfl, ?_⟩) HS ?_; rotate_left 1; (focus (intro w9 hSw; (try dsimp only at hSw); go_simp; all_goals (with_reducible rfl))); (try simp only [Act.put, List.setIfInBounds_toArray, List.set_cons_zero, List.set_cons_succ]))
      refine wpAnyE_one (i := 10) rfl (by kernel_rfl) ?_
      go_wp2_with fail
      first | refine ⟨fun _ => HSS.out _ (by repeat' (first | (with_reducible exact Below.refl _ _) | (with_reducible assumption) | (with_reducible refine Later.step ?_ ?_ _) | (with_reducible refine Below.alloc ?_ ?_ _) | (with_reducible refine Below.drew ?_) | (with_reducible refine bel_drewN ?_ _) | (with_reducible refine bel_grown ?_ (by assumption) ?_ ?_) | (with_reducible refine Below.setCell ?_ ?_ _) | go_size)), ?_⟩ | skip
      refine wpAnyE_one (i := 11) rfl (by kernel_rfl) ?_
      go_wp2_with fail
      first | refine ⟨fun _ => HSS.out _ (by repeat' (first | (with_reducible exact Below.refl _ _) | (with_reducible assumption) | (with_reducible refine Later.step ?_ ?_ _) | (with_reducible refine Below.alloc ?_ ?_ _) | (with_reducible refine Below.drew ?_) | (with_reducible refine bel_drewN ?_ _) | (with_reducible refine bel_grown ?_ (by assumption) ?_ ?_) | (with_reducible refine Below.setCell ?_ ?_ _) | go_size)), ?_⟩ | skip
      refine wpAnyE_one (i := 12) rfl (by kernel_rfl) ?_
      go_wp2_with fail
      first | refine ⟨fun _ => HSS.out _ (by repeat' (first | (with_reducible exact Below.refl _ _) | (with_reducible assumption) | (with_reducible refine Later.step ?_ ?_ _) | (with_reducible refine Below.alloc ?_ ?_ _) | (with_reducible refine Below.drew ?_) | (with_reducible refine bel_drewN ?_ _) | (with_reducible refine bel_grown ?_ (by assumption) ?_ ?_) | (with_reducible refine Below.setCell ?_ ?_ _) | go_size)), ?_⟩ | skip
      refine ⟨by kernel_rfl, ?_⟩
      go_wp2_with fail
      go_meet
      exact ⟨_, rfl, rfl, ⟨by go_size, by go_size⟩, ⟨by go_simp, by go_simp, by go_simp⟩, by repeat' (first | (with_reducible exact Below.refl _ _) | (with_reducible assumption) | (with_reducible refine Later.step ?_ ?_ _) | (with_reducible refine Below.alloc ?_ ?_ _) | (with_reducible refine Below.drew ?_) | (with_reducible refine bel_drewN ?_ _) | (with_reducible refine bel_grown ?_ (by assumption) ?_ ?_) | (with_reducible refine Below.setCell ?_ ?_ _) | go_size)⟩
    · go_wp2_with fail
      have HS := HSS.out (W.drew.alloc (.cells #[.int .i64 0, .int .i64 0, .int .i64 0] 83)) (by repeat' (first | (with_reducible exact Below.refl _ _) | (with_reducible assumption) | (with_reducible refine Later.step ?_ ?_ _) | (with_reducible refine Below.alloc ?_ ?_ _) | (with_reducible refine Below.drew ?_) | (with_reducible refine bel_drewN ?_ _) | (with_reducible refine bel_grown ?_ (by assumption) ?_ ?_) | (with_reducible refine Below.setCell ?_ ?_ _) | go_size))
      first | refine ⟨fun _ => HS, ?_⟩ | skip
      refine wpAnyE_one (i := 6) rfl (by kernel_rfl) ?_
      go_wp2_with fail
      go_at_call 29
      refine (POf.out _).mono ?_
      rintro e w' ⟨rfl, hb⟩; obtain ⟨X1, rfl, hl1, hm1⟩ := later _ hb (Nat.le_refl _); clear hb; (try simp only [World.size_alloc, World.size_setCell, World.size_drew] at hm1 hl1)
      have HS := HSS.out X1.w (by repeat' (first | (with_reducible exact Below.refl _ _) | (with_reducible assumption) | (with_reducible refine Later.step ?_ ?_ _) | (with_reducible refine Below.alloc ?_ ?_ _) | (with_reducible refine Below.drew ?_) | (with_reducible refine bel_drewN ?_ _) | (with_reducible refine bel_grown ?_ (by assumption) ?_ ?_) | (with_reducible refine Below.setCell ?_ ?_ _) | go_size))
      go_wp2_with fail
      first | refine ⟨fun _ => HS, ?_⟩ | skip
      (refine wpAnyE_take (i := 7) (v := ?_) rfl (by kernel_rfl) (by kernel_rfl) (by kernel_rfl) (by kernel_rfl) (fun _ _ _ h => h) (Or.inl ⟨by rfl, ?_⟩) HS ?_; rotate_left 1; (focus (intro w9 hSw; (try dsimp only at hSw); go_simp; all_goals (with_reducible rfl))); (try simp only [Act.put, List.setIfInBounds_toArray, List.set_cons_zero, List.set_cons_succ]))
      (refine wpAnyE_take (i := 8) (v := ?_) rfl (by kernel_rfl) (by kernel_rfl) (by kernel_rfl) (by kernel_rfl) (fun _ _ _ h => h) (Or.inl ⟨by rfl, ?_⟩) HS ?_; rotate_left 1; (focus (intro w9 hSw; (try dsimp only at hSw); go_simp; all_goals (with_reducible rfl))); (try simp only [Act.put, List.setIfInBounds_toArray, List.set_cons_zero, List.set_cons_succ]))
      (refine wpAnyE_take (i := 9) (v := ?_) rfl (by kernel_rfl) (by kernel_rfl) (by kernel_rfl) (by kernel_rfl) (fun _ _ _ h => h) (Or.inl ⟨by rfl, ?_⟩) HS ?_; rotate_left 1; (focus (intro w9 hSw; (try dsimp only at hSw); go_simp; all_goals (with_reducible rfl))); (try simp only [Act.put, List.setIfInBounds_toArray, List.set_cons_zero, List.set_cons_succ]))
      refine wpAnyE_one (i := 11) rfl (by kernel_rfl) ?_
      go_wp2_with fail
      first | refine ⟨fun _ => HSS.out _ (by repeat' (first | (with_reducible exact Below.refl _ _) | (with_reducible assumption) | (with_reducible refine Later.step ?_ ?_ _) | (with_reducible refine Below.alloc ?_ ?_ _) | (with_reducible refine Below.drew ?_) | (with_reducible refine bel_drewN ?_ _) | (with_reducible refine bel_grown ?_ (by assumption) ?_ ?_) | (with_reducible refine Below.setCell ?_ ?_ _) | go_size)), ?_⟩ | skip
      refine wpAnyE_one (i := 12) rfl (by kernel_rfl) ?_
      go_wp2_with fail
      first | refine ⟨fun _ => HSS.out _ (by repeat' (first | (with_reducible exact Below.refl _ _) | (with_reducible assumption) | (with_reducible refine Later.step ?_ ?_ _) | (with_reducible refine Below.alloc ?_ ?_ _) | (with_reducible refine Below.drew ?_) | (with_reducible refine bel_drewN ?_ _) | (with_reducible refine bel_grown ?_ (by assumption) ?_ ?_) | (with_reducible refine Below.setCell ?_ ?_ _) | go_size)), ?_⟩ | skip
      refine ⟨by kernel_rfl, ?_⟩
      go_wp2_with fail
      go_meet
      exact ⟨_, rfl, rfl, ⟨by go_size, by go_size⟩, ⟨by go_simp, by go_simp, by go_simp⟩, by repeat' (first | (with_reducible exact Below.refl _ _) | (with_reducible assumption) | (with_reducible refine Later.step ?_ ?_ _) | (with_reducible refine Below.alloc ?_ ?_ _) | (with_reducible refine Below.drew ?_) | (with_reducible refine bel_drewN ?_ _) | (with_reducible refine bel_grown ?_ (by assumption) ?_ ?_) | (with_reducible refine Below.setCell ?_ ?_ _) | go_size)⟩
  case rest =>
    obtain ⟨nb, rfl, rfl, ⟨hn1, hn2⟩, ⟨a0, a1, a2⟩, hb⟩ := hcut
    have hsc := hb.size
    have b0 : wc.cell? ⟨w.heap.size, 0, none⟩ = some (.int .i64 id) := (hb.cell (p := ⟨w.heap.size, 0, none⟩) hsW).trans r0
    have b5 : wc.cell? ⟨k, 5, none⟩ = some (.pointer (some ⟨sq, 0, none⟩)) := (hb.cell (p := ⟨k, 5, none⟩) (by show k < _; omega)).trans k5
    have PF2 := Lib.hid (fun (Y : World) (hY : Below wc.heap.size wc Y) => PF.out Y (HW.out.2.trans (Chg.of (X := fun j => j = bt) (hb.trans (hY.mono hsc))) (fun k hk => .inl hk)))
    have HB := Lib.hid hb
    have hsw : w.heap.size < wc.heap.size := by omega
    have hkc : k < wc.heap.size := by omega
    clear hb r0 r1 r2 k3 k5 c3 c4 c5 PF
    go_wp2_with fail
    (refine wp_region_later_tail 10 (wc.heap.size) (by kernel_rfl) (by kernel_rfl) (by go_size) ?_; simp only [List.take_succ_cons, List.take_zero, List.drop_succ_cons, List.drop_zero]; (repeat (go_big_quiet_step ((first | (go_at_call 121; exact Later.call _ (Nat.le_trans (by go_size) (Later.is _).size) (PF2.out _ (by repeat' (first | (with_reducible exact Below.refl _ _) | (with_reducible assumption) | (with_reducible refine Later.step ?_ ?_ _) | (with_reducible refine Below.alloc ?_ ?_ _) | (with_reducible refine Below.drew ?_) | (with_reducible refine bel_drewN ?_ _) | (with_reducible refine bel_grown ?_ (by assumption) ?_ ?_) | (with_reducible refine Below.setCell ?_ ?_ _) | go_size)))))))); refine wpQuiet_nil ?_; intro Xr hlXr hmXr)
    have hbr : Below wc.heap.size wc Xr.w := by repeat' (first | (with_reducible exact Below.refl _ _) | (with_reducible assumption) | (with_reducible refine Later.step ?_ ?_ _) | (with_reducible refine Below.alloc ?_ ?_ _) | (with_reducible refine Below.drew ?_) | (with_reducible refine bel_drewN ?_ _) | (with_reducible refine bel_grown ?_ (by assumption) ?_ ?_) | (with_reducible refine Below.setCell ?_ ?_ _) | go_size)
    go_wp2_with fail
    go_at_call 86
    have hWr : Below W.heap.size W Xr.w := HB.out.trans (hbr.mono hsc)
    have hqr : Qu Xr.w sq Cq 0 cq [] := (HQ.out.1.chg HW.out.2 hsb (fun k hk e => by have := HQ.out.2.2 k (HQ.out.2.1 k (.inr hk)); have e' : k = bt := e; omega)).keep hWr
    refine (qpush_none sq cq Cq dd 1 id _ hqr).mono ?_
    rintro e w2 ⟨rfl, C', cq', hq2, hc2, hC2⟩
    have hsr := hWr.size
    have hcW2 : Chg (fun j => j = sq ∨ gP Cq j) W w2 := (Chg.of (X := fun j => j = sq ∨ gP Cq j) hWr).trans hc2 (fun k hk => .inl hk)
    have HE := Lib.hid (show Qu w2 sq C' 1 cq' _ ∧ Tb w2 lo qt bt (kt + 2) L (gU G C') ∧ Chg (fun j => j = bt ∨ j = sq ∨ gP Cq j) w w2 ∧ ∀ j, gP C' j → gP Cq j ∨ w.heap.size ≤ j from ⟨hq2, HW.out.1.step (fun j _ hj hjs => hcW2.block j hjs (fun e => hj (HQ.out.2.1 j e))) hcW2.size (fun j hj => hj.elim .inl (fun e => (hC2 j e).elim (fun e => .inl (HQ.out.2.1 j (.inr e))) (fun e => .inr (by omega)))), (HW.out.2.mono (X' := fun j => j = bt ∨ j = sq ∨ gP Cq j) (fun k hk => .inl (.inl hk))).trans hcW2 (fun k hk => .inl (.inr hk)), fun j hj => (hC2 j hj).elim .inl (fun e => .inr (by omega))⟩)
    clear hq2 hc2 hC2 hqr hWr hcW2
    go_wp2_with fail
    exact bodyPost_end (v := .tuple #[]) (by first | rfl | kernel_rfl) rfl ⟨rfl, C', cq', HE.out⟩
end Go.Proofs.YthlijfligikciaaGreat

/- The seeker of a quadtree of points with one leaf and one record: open: walked. No condition beyond what the table holds. -/
namespace Go.Proofs.YthlijfligikciaaGreat
open Go.RowKit Go.Maps
set_option linter.unusedSimpArgs false
set_option linter.unusedVariables false
set_option maxRecDepth 2000

/-- What a record that waits leaves. -/
def RecPost (G : Nat → Prop) (lo qt bt kt : Nat) (L : List Rl) (sq : Nat) (Cq : Option Addr) (dd id : Int) (w : World) (e : Ending) (w' : World) : Prop :=
  e = .returned (.tuple #[]) ∧ ∃ C' cc', Qu w' sq C' 1 cc' [.int .u64 dd, .int .u64 1, .int .i64 id] ∧ Tb w' lo qt bt (kt + 2) L (gU G C') ∧ Chg (fun j => j = bt ∨ j = sq ∨ gP Cq j) w w' ∧ ∀ j, gP C' j → gP Cq j ∨ w.heap.size ≤ j
set_option maxHeartbeats 16000000 in
theorem open_first (G : Nat → Prop) (lo qt bt kt : Nat) (L : List Rl) (Pp Pc : Option Addr) (role tier id x y label z : Int) (g : Gr) (wb vb zb : Nat) (k q s sq cc cq cd bd : Nat) (C Cq D : Option Addr) (px py lv : Int) (w : World) (ht : Tb w lo qt bt kt L G) (hgw : ∀ x, G x → x < w.heap.size) (hkt : kt + 1 < 1000000) (hcnt : cntB L ≤ 1048576) (hn1 : L.length ≤ 1000000) (hw : Wb w wb Pp Pc qt) (hv : Vb w vb role tier g) (hz : w.cell? ⟨zb, 0, none⟩ = some (.int .i64 z)) (hne : wb ≠ bt ∧ vb ≠ bt ∧ zb ≠ bt ∧ k ≠ bt)
    (hkeep : (seeB L role tier g x y label && (zoomT L role tier label x y == z)) = true) (h : Sk w k q sq px py lv (.func (.func 44) #[] #[.pointer (some ⟨wb, 0, none⟩), .pointer (some ⟨vb, 0, none⟩), .pointer (some ⟨zb, 0, none⟩)])) (hq : Qu w sq Cq 0 cq []) (hG : ∀ j, (j = sq ∨ gP Cq j) → G j) (hlv : 0 ≤ lv ∧ lv ≤ 16) (hf : fitsB x y = true) (hp : Pt1 w s q C cc 1 (.slice D 1 cd)) (hD : w.ownsRow bd 32 4 (.slice D 1 cd) 1 [.int .i64 id, .int .i64 x, .int .i64 y, .int .i64 label]) :
    Calls Tryz.prog 90 #[.pointer (some ⟨k, 0, none⟩), .int .i64 0] w (RecPost G lo qt bt kt L sq Cq (farI lv (x / sd lv) (y / sd lv) px py) id w) := by
  have PR := Lib.hid (fun (Y : World) (hY : Below w.heap.size w Y) => record_first G lo qt bt kt L Pp Pc role tier id x y label z g wb vb zb k q sq cq Cq px py lv Y (ht.keep hY) (fun x e => Nat.lt_of_lt_of_le (hgw x e) hY.size) hkt hcnt hn1 (hw.chg (X := fun _ => False) (Chg.of hY) (fun e => e)) (hv.chg (X := fun _ => False) (Chg.of hY) (fun e => e)) ((hY.cell (p := ⟨zb, 0, none⟩) (cell_lt hz)).trans hz) hne hkeep (h.chg (X := fun _ => False) (Chg.of hY) (fun e => e)) (hq.keep hY) hG hlv hf)
  have hkl := h.lt
  have hql := hp.lt
  have c0 := h.c0
  have q1 := hp.c1
  obtain ⟨gn, cap, hv9, hlo9, hgl⟩ := hp.own.form (by omega)
  have hC : C = some ⟨gn, 0, none⟩ := by injection hv9
  subst hC
  have hown := hp.own
  unfold nodeV at hown
  have d0 := hown.cells (g := gn) rfl 0 _ rfl
  have d1 := hown.cells (g := gn) rfl 1 _ rfl
  have d2 := hown.cells (g := gn) rfl 2 _ rfl
  have d3 := hown.cells (g := gn) rfl 3 _ rfl
  have d4 := hown.cells (g := gn) rfl 4 _ rfl
  have d5 := hown.cells (g := gn) rfl 5 _ rfl
  have d6 := hown.cells (g := gn) rfl 6 _ rfl
  have d7 : w.cell? ((⟨gn, 0, none⟩ : Addr).add 7) = some (.int .i64 1) := hown.cells (g := gn) rfl 7 _ rfl
  have d8 := hown.cells (g := gn) rfl 8 _ rfl
  have d9 := hown.cells (g := gn) rfl 9 _ rfl
  rw [Addr.add_lit] at d0 d1 d2 d3 d4 d5 d6 d7 d8 d9
  simp only [Nat.zero_add] at d0 d1 d2 d3 d4 d5 d6 d7 d8 d9
  obtain ⟨gd, capd, hvd, hlod, hgdl⟩ := hD.form (by omega)
  have hDD : D = some ⟨gd, 0, none⟩ := by injection hvd
  subst hDD
  have r0 := hD.cells (g := gd) rfl 0 _ rfl
  have r1 := hD.cells (g := gd) rfl 1 _ rfl
  have r2 := hD.cells (g := gd) rfl 2 _ rfl
  have r3 := hD.cells (g := gd) rfl 3 _ rfl
  rw [Addr.add_lit] at r0 r1 r2 r3
  simp only [Nat.zero_add] at r0 r1 r2 r3
  have HF := Lib.hid (show ∀ w1 w2 w3, Below w.heap.size w w1 → RecPost G lo qt bt kt L sq Cq (farI lv (x / sd lv) (y / sd lv) px py) id w1 (.returned (.tuple #[])) w2 → Below w2.heap.size w2 w3 → RecPost G lo qt bt kt L sq Cq (farI lv (x / sd lv) (y / sd lv) px py) id w (.returned (.tuple #[])) w3 from
    fun w1 w2 w3 h1 ⟨_, C', cc', hq2, hT2, hc2, hC2⟩ h3 => ⟨rfl, C', cc', hq2.keep h3, hT2.keep h3, ((Chg.of (X := fun j => j = bt ∨ j = sq ∨ gP Cq j) h1).trans hc2 (fun k hk => .inl hk)).trans (Chg.of (X := fun _ => False) h3) (fun k hk => hk.elim), fun j hj => (hC2 j hj).elim .inl (fun e => .inr (Nat.le_trans h1.size e))⟩)
  have PR2 := Lib.hid (fun (Y : World) (hY : Below w.heap.size w Y) => (show Calls Tryz.prog 123 #[.pointer (some ⟨k, 0, none⟩), .agg #[.int .i64 id, .int .i64 x, .int .i64 y, .int .i64 label]] Y (RecPost G lo qt bt kt L sq Cq (farI lv (x / sd lv) (y / sd lv) px py) id Y) from PR.out Y hY))
  have HRP := Lib.hid (show ∀ e w1 w2, RecPost G lo qt bt kt L sq Cq (farI lv (x / sd lv) (y / sd lv) px py) id w1 e w2 → e = .returned (.tuple #[]) ∧ w1.heap.size ≤ w2.heap.size from fun e w1 w2 ⟨h1, C', cc', _, _, hc, _⟩ => ⟨h1, hc.size⟩)
  have hnn := hne.2.2.2
  have hbl := ht.ltb
  have HSt := Lib.hid (show ∀ w1 w2, Below w.heap.size w w1 → RecPost G lo qt bt kt L sq Cq (farI lv (x / sd lv) (y / sd lv) px py) id w1 (.returned (.tuple #[])) w2 → ∀ j i, w.heap.size ≤ j → j < w1.heap.size → w2.cell? ⟨j, i, none⟩ = w1.cell? ⟨j, i, none⟩ from fun w1 w2 hb ⟨_, C', cc', _, _, hc, _⟩ j i h1 h2 => hc.cell (p := ⟨j, i, none⟩) h2 (fun e => by
    rcases e with e | e | e
    · have e' : j = bt := e; omega
    · have e' : j = sq := e; have := hgw sq (hG sq (.inl rfl)); omega
    · have := hgw j (hG j (.inr e)); omega))
  generalize farI lv (x / sd lv) (y / sd lv) px py = dd at HF PR2 HRP HSt ⊢
  clear PR ht hgw hcnt hn1 hw hv hz hkeep hq hG hlv hf hne h hkt hp hown hD hv9 hvd
  go_enter Tryz.func90, Tryz.ntmps90
  go_wp2_with fail
  go_loopw [22] (fun i wr => ∃ j : Nat, j ≤ 1 ∧ i = .int .i64 j ∧ Hid ((j = 0 → wr = w.alloc (.cells #[.int .i64 0, .int .i64 0, .int .i64 0, .int .i64 (-1), .int .i64 (-1), .int .i64 (-1), .int .i64 (-1), .int .i64 1, .bool false, .slice (some ⟨gd, 0, none⟩) 1 cd] 186)) ∧ (j = 1 → RecPost G lo qt bt kt L sq Cq dd id w (.returned (.tuple #[])) wr ∧ wr.cell? ⟨w.heap.size, 8, none⟩ = some (.bool false)))) (fun i _ => 1 - (intOf i).toNat)
  case atStart => exact ⟨0, by decide, rfl, ⟨fun _ => rfl, fun e => by cases e⟩⟩
  case round =>
    obtain ⟨j, hj, rfl, hrel⟩ := hrel
    match j, hj with
    | 0, _ =>
      obtain rfl := hrel.out.1 rfl
      clear hrel hj
      go_wp2_with fail
      go_at_call 123
      refine (PR2.out _ (by repeat' (first | (with_reducible exact Below.refl _ _) | (with_reducible assumption) | (with_reducible refine Later.step ?_ ?_ _) | (with_reducible refine Below.alloc ?_ ?_ _) | (with_reducible refine Below.drew ?_) | (with_reducible refine bel_drewN ?_ _) | (with_reducible refine bel_grown ?_ (by assumption) ?_ ?_) | (with_reducible refine Below.setCell ?_ ?_ _) | go_size))).mono ?_
      intro e w2 hrp
      obtain ⟨rfl, hs2⟩ := HRP.out _ _ _ hrp
      have HE := Lib.hid (show RecPost G lo qt bt kt L sq Cq dd id w (.returned (.tuple #[])) w2 ∧ w2.cell? ⟨w.heap.size, 8, none⟩ = some (.bool false) from ⟨HF.out _ _ _ (by repeat' (first | (with_reducible exact Below.refl _ _) | (with_reducible assumption) | (with_reducible refine Later.step ?_ ?_ _) | (with_reducible refine Below.alloc ?_ ?_ _) | (with_reducible refine Below.drew ?_) | (with_reducible refine bel_drewN ?_ _) | (with_reducible refine bel_grown ?_ (by assumption) ?_ ?_) | (with_reducible refine Below.setCell ?_ ?_ _) | go_size)) hrp (Below.refl _ _), (HSt.out _ _ (by repeat' (first | (with_reducible exact Below.refl _ _) | (with_reducible assumption) | (with_reducible refine Later.step ?_ ?_ _) | (with_reducible refine Below.alloc ?_ ?_ _) | (with_reducible refine Below.drew ?_) | (with_reducible refine bel_drewN ?_ _) | (with_reducible refine bel_grown ?_ (by assumption) ?_ ?_) | (with_reducible refine Below.setCell ?_ ?_ _) | go_size)) hrp w.heap.size 8 (Nat.le_refl _) (by simp; omega)).trans (by go_simp)⟩)
      clear hrp
      go_wp2_with fail
      go_roundw
      case rel => exact ⟨1, by decide, by go_num, ⟨fun e => (by cases e), fun _ => HE.out⟩⟩
      case measure => show 1 - 1 < 1 - 0; decide
    | 1, _ =>
      have HE := Lib.hid (hrel.out.2 rfl)
      have z8 := HE.out.2
      clear hrel
      go_wp2_with fail
      exact bodyPost_end (v := .tuple #[]) (by first | rfl | kernel_rfl) rfl HE.out.1
end Go.Proofs.YthlijfligikciaaGreat
