/- Several texts of one proof, joined: The geometry layer's further functions, walked: each answers its plain function and leaves elder memory alone. No condition. | The seeker of a quadtree of points: far, node, record, at one record: walked. No condition. -/
import Derived.Test.YthlijfligikciaaGreatZ01
import Derived.Test.YthlijfligikciaaGreatZ20
/- The geometry layer's further functions, walked: each answers its plain function and leaves elder memory alone. No condition. -/
namespace Go.Proofs.YthlijfligikciaaGreat
open Go.RowKit
set_option linter.unusedSimpArgs false

set_option maxHeartbeats 2000000 in
theorem nearest_any (a b c d x y : Int) (w : World) :
    Calls Tryz.prog 92 #[.agg #[.int .i64 a, .int .i64 b, .int .i64 c, .int .i64 d], .agg #[.int .i64 x, .int .i64 y]] w fun e w' => e = .returned (.agg #[.int .i64 (sel (rightB a b c d && fitsB x y) (clampI x a c)), .int .i64 (sel (rightB a b c d && fitsB x y) (clampI y b d))]) ∧ Below w.heap.size w w' := by
  by_cases h : rightB a b c d = true ∧ fitsB x y = true
  · obtain ⟨h1, h2⟩ := h
    go_enter Tryz.func92, Tryz.ntmps92
    go_wp2_with (first
      | (go_at_call 32; refine (right_any _ _ _ _ _).mono ?_; rintro e w' ⟨rfl, hb⟩; obtain ⟨X1, rfl, hl1, hm1⟩ := later (w.heap.size + 3) hb (by first | exact Nat.le_refl _ | go_size); clear hb; (try simp only [World.size_alloc, World.size_setCell, World.size_drew] at hm1))
      | (go_at_call 10; refine (fits_any _ _ _).mono ?_; rintro e w' ⟨rfl, hb⟩; obtain ⟨X2, rfl, hl2, hm2⟩ := later (w.heap.size + 3) hb (by first | exact Nat.le_refl _ | go_size); clear hb; (try simp only [World.size_alloc, World.size_setCell, World.size_drew] at hm2)))
    (refine wp_region_later_tail 15 (w.heap.size + 3) (by kernel_rfl) (by kernel_rfl) (by go_size) ?_; simp only [List.take_succ_cons, List.take_zero, List.drop_succ_cons, List.drop_zero]; (repeat (go_big_quiet_step ((first | (go_at_call 125; exact Later.call _ (Nat.le_trans (by go_size) (Later.is _).size) (clamp_any _ _ _ _)))))); refine wpQuiet_nil ?_; intro Xq hlq hmq)
    go_wp2
    refine bodyPost_ret (by simp only [results, Tryz.results92]; go_simp; all_goals simp_all [sel]) rfl ⟨rfl, ?_⟩
    repeat' (first | (with_reducible exact Below.refl _ _) | (with_reducible assumption) | (with_reducible refine Later.step ?_ ?_ _) | (with_reducible refine Below.alloc ?_ ?_ _) | (with_reducible refine Below.drew ?_) | (with_reducible refine Below.setCell ?_ ?_ _) | go_size)
  · have hv : (rightB a b c d && fitsB x y) = false := by simpa using h
    have hd : (!rightB a b c d || !fitsB x y) = true := by revert h; cases rightB a b c d <;> cases fitsB x y <;> simp
    clear h
    go_enter Tryz.func92, Tryz.ntmps92
    go_wp2_with (first
      | (go_at_call 32; refine (right_any _ _ _ _ _).mono ?_; rintro e w' ⟨rfl, hb⟩; obtain ⟨X1, rfl, hl1, hm1⟩ := later (w.heap.size + 3) hb (by first | exact Nat.le_refl _ | go_size); clear hb; (try simp only [World.size_alloc, World.size_setCell, World.size_drew] at hm1))
      | (go_at_call 10; refine (fits_any _ _ _).mono ?_; rintro e w' ⟨rfl, hb⟩; obtain ⟨X2, rfl, hl2, hm2⟩ := later (w.heap.size + 3) hb (by first | exact Nat.le_refl _ | go_size); clear hb; (try simp only [World.size_alloc, World.size_setCell, World.size_drew] at hm2)))
    all_goals first
      | (exfalso; simp_all; done)
      | (refine bodyPost_ret (by simp only [results, Tryz.results92]; go_simp; all_goals simp_all [sel]) rfl ⟨rfl, ?_⟩; repeat' (first | (with_reducible exact Below.refl _ _) | (with_reducible assumption) | (with_reducible refine Later.step ?_ ?_ _) | (with_reducible refine Below.alloc ?_ ?_ _) | (with_reducible refine Below.drew ?_) | (with_reducible refine Below.setCell ?_ ?_ _) | go_size))
set_option maxHeartbeats 2000000 in
theorem dist_any (a b c d x y : Int) (w : World) :
    Calls Tryz.prog 46 #[.agg #[.int .i64 a, .int .i64 b, .int .i64 c, .int .i64 d], .agg #[.int .i64 x, .int .i64 y]] w fun e w' => e = .returned (.int .u64 (distI a b c d x y)) ∧ Below w.heap.size w w' := by
  by_cases h : rightB a b c d = true ∧ fitsB x y = true
  · obtain ⟨h1, h2⟩ := h
    have hn : ∀ w, Calls Tryz.prog 92 #[.agg #[.int .i64 a, .int .i64 b, .int .i64 c, .int .i64 d], .agg #[.int .i64 x, .int .i64 y]] w fun e w' => e = .returned (.agg #[.int .i64 (clampI x a c), .int .i64 (clampI y b d)]) ∧ Below w.heap.size w w' := by
      intro w
      have := nearest_any a b c d x y w
      rwa [h1, h2, Bool.and_self, sel_true, sel_true] at this
    have hN := Lib.hid hn
    clear hn
    go_enter Tryz.func46, Tryz.ntmps46
    go_wp2_with (first
      | (go_at_call 32; refine (right_any _ _ _ _ _).mono ?_; rintro e w' ⟨rfl, hb⟩; obtain ⟨X1, rfl, hl1, hm1⟩ := later (w.heap.size + 2) hb (by first | exact Nat.le_refl _ | go_size); clear hb; (try simp only [World.size_alloc, World.size_setCell, World.size_drew] at hm1))
      | (go_at_call 10; refine (fits_any _ _ _).mono ?_; rintro e w' ⟨rfl, hb⟩; obtain ⟨X2, rfl, hl2, hm2⟩ := later (w.heap.size + 2) hb (by first | exact Nat.le_refl _ | go_size); clear hb; (try simp only [World.size_alloc, World.size_setCell, World.size_drew] at hm2)))
    (refine wp_region_later (w.heap.size + 2) (by kernel_rfl) (by kernel_rfl) (by go_size) ?_; (repeat (go_big_quiet_step ((first | (go_at_call 92; exact Later.call _ (Nat.le_trans (by go_size) (Later.is _).size) (hN.out _)) | (go_at_call 91; exact Later.call _ (Nat.le_trans (by go_size) (Later.is _).size) (apart_any _ _ _ _ _)))))); refine wpQuiet_nil ?_; intro Xq hlq hmq)
    go_wp2
    go_ret
    exact ⟨ret_i (dist_apart h1 h2), by repeat' (first | (with_reducible exact Below.refl _ _) | (with_reducible assumption) | (with_reducible refine Later.step ?_ ?_ _) | (with_reducible refine Below.alloc ?_ ?_ _) | (with_reducible refine Below.drew ?_) | (with_reducible refine Below.setCell ?_ ?_ _) | go_size)⟩
  · have hv : distI a b c d x y = 0 := by unfold distI; rw [if_neg (by simpa using h)]
    have hd : (!rightB a b c d || !fitsB x y) = true := by revert h; cases rightB a b c d <;> cases fitsB x y <;> simp
    clear h
    go_enter Tryz.func46, Tryz.ntmps46
    go_wp2_with (first
      | (go_at_call 32; refine (right_any _ _ _ _ _).mono ?_; rintro e w' ⟨rfl, hb⟩; obtain ⟨X1, rfl, hl1, hm1⟩ := later (w.heap.size + 2) hb (by first | exact Nat.le_refl _ | go_size); clear hb; (try simp only [World.size_alloc, World.size_setCell, World.size_drew] at hm1))
      | (go_at_call 10; refine (fits_any _ _ _).mono ?_; rintro e w' ⟨rfl, hb⟩; obtain ⟨X2, rfl, hl2, hm2⟩ := later (w.heap.size + 2) hb (by first | exact Nat.le_refl _ | go_size); clear hb; (try simp only [World.size_alloc, World.size_setCell, World.size_drew] at hm2)))
    all_goals first
      | (exfalso; simp_all; done)
      | (go_ret; exact ⟨ret_i hv.symm, by repeat' (first | (with_reducible exact Below.refl _ _) | (with_reducible assumption) | (with_reducible refine Later.step ?_ ?_ _) | (with_reducible refine Below.alloc ?_ ?_ _) | (with_reducible refine Below.drew ?_) | (with_reducible refine Below.setCell ?_ ?_ _) | go_size)⟩)
end Go.Proofs.YthlijfligikciaaGreat

/- The seeker of a quadtree of points: far, node, record, at one record: walked. No condition. -/
namespace Go.Proofs.YthlijfligikciaaGreat
open Go.RowKit Go.Maps
set_option linter.unusedSimpArgs false
set_option linter.unusedVariables false
set_option maxRecDepth 2000

/-- A seeker at a block. -/
structure Sk (w : World) (k q sq : Nat) (px py lv : Int) (K : Value) : Prop where
  c0 : w.cell? ⟨k, 0, none⟩ = some (.pointer (some ⟨q, 0, none⟩))
  c1 : w.cell? ⟨k, 1, none⟩ = some (.int .i64 px)
  c2 : w.cell? ⟨k, 2, none⟩ = some (.int .i64 py)
  c3 : w.cell? ⟨k, 3, none⟩ = some (.int .i64 lv)
  c4 : w.cell? ⟨k, 4, none⟩ = some K
  c5 : w.cell? ⟨k, 5, none⟩ = some (.pointer (some ⟨sq, 0, none⟩))
theorem Sk.lt {w : World} {k q sq : Nat} {px py lv : Int} {K : Value} (h : Sk w k q sq px py lv K) : k < w.heap.size := cell_lt h.c0
theorem Sk.chg {X : Nat → Prop} {w w' : World} {k q sq : Nat} {px py lv : Int} {K : Value} (h : Sk w k q sq px py lv K) (hc : Chg X w w') (h1 : ¬ X k) : Sk w' k q sq px py lv K :=
  ⟨(hc.cell (p := ⟨k, 0, none⟩) h.lt h1).trans h.c0, (hc.cell (p := ⟨k, 1, none⟩) h.lt h1).trans h.c1, (hc.cell (p := ⟨k, 2, none⟩) h.lt h1).trans h.c2, (hc.cell (p := ⟨k, 3, none⟩) h.lt h1).trans h.c3, (hc.cell (p := ⟨k, 4, none⟩) h.lt h1).trans h.c4, (hc.cell (p := ⟨k, 5, none⟩) h.lt h1).trans h.c5⟩
/-- How far a point is from a cell's box. -/
def farI (l x y px py : Int) : Int := distI (x * sd l) (y * sd l) (x * sd l + sd l - 1) (y * sd l + sd l - 1) px py
set_option maxHeartbeats 4000000 in
theorem far_low (k q sq : Nat) (px py lv : Int) (K : Value) (l x y : Int) (w : World) (h : Sk w k q sq px py lv K) (hl : l ≤ lv) (hr : crightB l x y = true) :
    Calls Tryz.prog 121 #[.pointer (some ⟨k, 0, none⟩), .agg #[.int .i64 l, .int .i64 x, .int .i64 y]] w fun e w' => e = .returned (.int .u64 (farI l x y px py)) ∧ Below w.heap.size w w' := by
  have hlt := h.lt
  obtain ⟨c0, c1, c2, c3, c4, c5⟩ := h
  have hd : decide (lv < l) = false := decide_eq_false (by omega)
  have pbx := fun (Y : World) => box_any l x y Y
  rw [hr] at pbx
  simp only [sel, if_true] at pbx
  unfold farI
  obtain ⟨x0, hx0⟩ : ∃ c, x * sd l = c := ⟨_, rfl⟩
  obtain ⟨y0, hy0⟩ : ∃ c, y * sd l = c := ⟨_, rfl⟩
  rw [hx0, hy0] at pbx ⊢
  obtain ⟨x1, hx1⟩ : ∃ c, x0 + sd l - 1 = c := ⟨_, rfl⟩
  obtain ⟨y1, hy1⟩ : ∃ c, y0 + sd l - 1 = c := ⟨_, rfl⟩
  rw [hx1, hy1] at pbx ⊢
  have PBx := Lib.hid pbx
  have PD := Lib.hid (fun (Y : World) => dist_any x0 y0 x1 y1 px py Y)
  clear pbx hx0 hy0 hx1 hy1 hr hl
  generalize distI x0 y0 x1 y1 px py = dd at PD ⊢
  go_enter Tryz.func121, Tryz.ntmps121
  go_wp2_with fail
  (refine wp_region_later (w.heap.size + 1) (by kernel_rfl) (by kernel_rfl) (by go_size) ?_; (repeat (go_big_quiet_step (fail))); refine wpQuiet_nil ?_; intro Xq hlXq hmXq)
  go_wp2_with (first
    | (go_at_call 30; refine (PBx.out _).mono ?_; rintro e w' ⟨rfl, hb⟩; obtain ⟨X1, rfl, hl1, hm1⟩ := later _ hb (Nat.le_refl _); clear hb; (try simp only [World.size_alloc, World.size_setCell, World.size_drew] at hm1 hl1)))
  (refine wp_region_later (X1.w.heap.size + 1) (by kernel_rfl) (by kernel_rfl) (by go_size) ?_; (repeat (go_big_quiet_step ((first | (go_at_call 46; exact Later.call _ (Nat.le_trans (by go_size) (Later.is _).size) (PD.out _)))))); refine wpQuiet_nil ?_; intro Xr hlXr hmXr)
  go_wp2_with fail
  go_ret
  exact ⟨rfl, by repeat' (first | (with_reducible exact Below.refl _ _) | (with_reducible assumption) | (with_reducible refine Later.step ?_ ?_ _) | (with_reducible refine Below.alloc ?_ ?_ _) | (with_reducible refine Below.drew ?_) | (with_reducible refine bel_drewN ?_ _) | (with_reducible refine bel_grown ?_ (by assumption) ?_ ?_) | (with_reducible refine Below.setCell ?_ ?_ _) | go_size)⟩
set_option maxHeartbeats 8000000 in
theorem node_first (k q s sq cc cq n cd : Nat) (C Cq D : Option Addr) (K : Value) (px py lv : Int) (w : World) (h : Sk w k q sq px py lv K) (ht : Pt1 w s q C cc 1 (.slice D n cd)) (hq : Qu w sq Cq 0 cq []) (hl : 0 ≤ lv) :
    Calls Tryz.prog 88 #[.pointer (some ⟨k, 0, none⟩), .int .i64 0] w fun e w' => e = .returned (.tuple #[]) ∧ ∃ C' cc', Qu w' sq C' 1 cc' [.int .u64 (farI 0 0 0 px py), .int .u64 0, .int .i64 0] ∧ Chg (fun j => j = sq ∨ gP Cq j) w w' ∧ ∀ j, gP C' j → gP Cq j ∨ w.heap.size ≤ j := by
  have PF := Lib.hid (fun (Y : World) (hY : Below w.heap.size w Y) => far_low k q sq px py lv K 0 0 0 Y (h.chg (X := fun _ => False) (Chg.of hY) (fun e => e)) hl (by decide))
  have HQ := Lib.hid hq
  have hkl := h.lt
  have hql := ht.lt
  have c0 := h.c0
  have c5 := h.c5
  have q1 := ht.c1
  obtain ⟨g, cap, hv, hlo, hgl⟩ := ht.own.form (by omega)
  have hC : C = some ⟨g, 0, none⟩ := by injection hv
  subst hC
  have hown := ht.own
  unfold nodeV at hown
  have d0 := hown.cells (g := g) rfl 0 _ rfl
  have d1 := hown.cells (g := g) rfl 1 _ rfl
  have d2 := hown.cells (g := g) rfl 2 _ rfl
  have d3 := hown.cells (g := g) rfl 3 _ rfl
  have d4 := hown.cells (g := g) rfl 4 _ rfl
  have d5 := hown.cells (g := g) rfl 5 _ rfl
  have d6 := hown.cells (g := g) rfl 6 _ rfl
  have d7 := hown.cells (g := g) rfl 7 _ rfl
  have d8 := hown.cells (g := g) rfl 8 _ rfl
  have d9 := hown.cells (g := g) rfl 9 _ rfl
  rw [Addr.add_lit] at d0 d1 d2 d3 d4 d5 d6 d7 d8 d9
  simp only [Nat.zero_add] at d0 d1 d2 d3 d4 d5 d6 d7 d8 d9
  have d7 : w.cell? ⟨g, 7, none⟩ = some (.int .i64 1) := d7
  clear h ht hq hown hv hl
  generalize farI 0 0 0 px py = dd at PF ⊢
  go_enter Tryz.func88, Tryz.ntmps88
  go_wp2_with fail
  (refine wp_region_later_tail 10 (w.heap.size + 1) (by kernel_rfl) (by kernel_rfl) (by go_size) ?_; simp only [List.take_succ_cons, List.take_zero, List.drop_succ_cons, List.drop_zero]; (repeat (go_big_quiet_step ((first | (go_at_call 121; exact Later.call _ (Nat.le_trans (by go_size) (Later.is _).size) (PF.out _ (by repeat' (first | (with_reducible exact Below.refl _ _) | (with_reducible assumption) | (with_reducible refine Later.step ?_ ?_ _) | (with_reducible refine Below.alloc ?_ ?_ _) | (with_reducible refine Below.drew ?_) | (with_reducible refine bel_drewN ?_ _) | (with_reducible refine bel_grown ?_ (by assumption) ?_ ?_) | (with_reducible refine Below.setCell ?_ ?_ _) | go_size)))))))); refine wpQuiet_nil ?_; intro Xq hlXq hmXq)
  have hbq : Below w.heap.size w Xq.w := by repeat' (first | (with_reducible exact Below.refl _ _) | (with_reducible assumption) | (with_reducible refine Later.step ?_ ?_ _) | (with_reducible refine Below.alloc ?_ ?_ _) | (with_reducible refine Below.drew ?_) | (with_reducible refine bel_drewN ?_ _) | (with_reducible refine bel_grown ?_ (by assumption) ?_ ?_) | (with_reducible refine Below.setCell ?_ ?_ _) | go_size)
  go_wp2_with fail
  go_at_call 86
  refine (qpush_none sq cq Cq dd 0 0 _ (HQ.out.keep hbq)).mono ?_
  rintro e w2 ⟨rfl, C', cq', hq, hc, hC⟩
  have HE := Lib.hid (show Qu w2 sq C' 1 cq' _ ∧ Chg (fun j => j = sq ∨ gP Cq j) w w2 ∧ ∀ j, gP C' j → gP Cq j ∨ w.heap.size ≤ j from ⟨hq, (Chg.of (X := fun j => j = sq ∨ gP Cq j) hbq).trans hc (fun k hk => .inl hk), fun j hj => (hC j hj).elim .inl (fun h9 => .inr (Nat.le_trans hbq.size h9))⟩)
  clear hq hc hC
  go_wp2_with fail
  exact bodyPost_end (v := .tuple #[]) (by first | rfl | kernel_rfl) rfl ⟨rfl, C', cq', HE.out⟩
end Go.Proofs.YthlijfligikciaaGreat
