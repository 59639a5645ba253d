/- Several texts of one proof, joined: A quadtree of points with one leaf: the first record put in: walked. No condition. | The library's heap over the queue's entries, at no or one entry: walked. No condition. | A queue of no or one entry: New, Push, Pop, Drain: walked. No condition. -/
import Derived.Test.YthlijfligikciaaGreatZ19
import Derived.Test.YthlijfligikciaaGreatZ14
import Derived.Handy
/- A quadtree of points with one leaf: the first record put in: walked. No condition. -/
namespace Go.Proofs.YthlijfligikciaaGreat
open Go.RowKit Go.Maps
set_option linter.unusedSimpArgs false
set_option linter.unusedVariables false
set_option maxRecDepth 2000

/-- An own row where all but blocks that are not its own stands. -/
theorem own_chg {X : Nat → Prop} {w w' : World} {base n size : Nat} {e : TypeId} {v : Value} {xs : List Value} (h : w.ownsRow base e size v n xs) (hc : Chg X w w') (h2 : ∀ k, v.ownBlock = some k → ¬ X k) : w'.ownsRow base e size v n xs := by
  refine ⟨h.1, ?_⟩
  rcases h.2 with hn | ⟨g, cap, cur, hv, hbase, hg, rest⟩
  · exact .inl hn
  · refine .inr ⟨g, cap, cur, hv, hbase, (hc.block g (Array.getElem?_eq_some_iff.1 hg).1 (h2 g ?_)).trans hg, rest⟩
    subst hv
    rfl
theorem M1.chg {X : Nat → Prop} {w w' : World} {b n : Nat} {S : Int → Option Value} (h : M1 w b n S) (hc : Chg X w w') (h2 : ¬ X b) : M1 w' b n S := h.same (hc.block b h.lt h2)
theorem Pt1.chg {X : Nat → Prop} {w w' : World} {s q cc many : Nat} {C : Option Addr} {l : Value} (h : Pt1 w s q C cc many l) (hc : Chg X w w') (h1 : ¬ X q) (h2 : ∀ k, gP C k → ¬ X k) : Pt1 w' s q C cc many l :=
  ⟨Nat.lt_of_lt_of_le h.lt hc.size, h.ls, (hc.cell (p := ⟨q, 0, none⟩) h.lt h1).trans h.c0, (hc.cell (p := ⟨q, 1, none⟩) h.lt h1).trans h.c1, (hc.cell (p := ⟨q, 2, none⟩) h.lt h1).trans h.c2, (hc.cell (p := ⟨q, 3, none⟩) h.lt h1).trans h.c3, own_chg h.own hc (fun k hk => h2 k (by rw [gOf_own] at hk; exact hk))⟩
theorem Pt1.keep {w w' : World} {s q cc many : Nat} {C : Option Addr} {l : Value} (h : Pt1 w s q C cc many l) (hb : Below w.heap.size w w') : Pt1 w' s q C cc many l := h.chg (X := fun _ => False) (Chg.of hb) (fun e => e) (fun _ _ e => e)
theorem Pt1.far {w : World} {s q cc many : Nat} {C : Option Addr} {l : Value} (h : Pt1 w s q C cc many l) : ∀ k, gP C k → q < k ∧ k < w.heap.size := fun k hk => by
  have h1 := h.own.lt k (by rw [gOf_own]; exact hk)
  exact ⟨by omega, h1.2⟩
theorem neq_ptree (q : Nat) (w : World) : (binOp .neq 34 (.pointer (some ⟨q, 0, none⟩)) (.pointer none)).run Tryz.prog w = .ok (.bool true) w := by kernel_rfl
theorem pmade_any (q n cc : Nat) (C : Option Addr) (w : World) (h : w.cell? ⟨q, 1, none⟩ = some (.slice C n cc)) (hn : 0 < n) : Calls Tryz.prog 58 #[.pointer (some ⟨q, 0, none⟩)] w fun e w' => e = .returned (.bool true) ∧ Below w.heap.size w w' := by
  have hd : decide ((0 : Int) < (n : Int)) = true := decide_eq_true (by omega)
  go_enter Tryz.func58, Tryz.ntmps58
  go_wp2
  go_ret
  exact ⟨rfl, by repeat' (first | (with_reducible exact Below.refl _ _) | (with_reducible assumption) | (with_reducible refine Later.step ?_ ?_ _) | (with_reducible refine Below.alloc ?_ ?_ _) | (with_reducible refine Below.drew ?_) | (with_reducible refine Below.setCell ?_ ?_ _) | go_size)⟩
set_option maxHeartbeats 16000000 in
theorem pput_first (s q cc : Nat) (C : Option Addr) (id x y l : Int) (w : World) (h : Pt1 w s q C cc 0 (.slice none 0 0)) :
    Calls Tryz.prog 59 #[.pointer (some ⟨q, 0, none⟩), .int .i64 0, .agg #[.int .i64 id, .int .i64 x, .int .i64 y, .int .i64 l]] w fun e w' => e = .returned (.tuple #[]) ∧ ∃ D cd, Pt1 w' s q C cc 1 (.slice D 1 cd) ∧ w'.ownsRow w.heap.size 32 4 (.slice D 1 cd) 1 [.int .i64 id, .int .i64 x, .int .i64 y, .int .i64 l] ∧ Chg (gP C) w w' := by
  obtain ⟨i0, hi, hz0, hz1, hz2⟩ := info_parts (show (Tryz.prog.info? 32).map (fun i => (i.zero, i.size, i.bytes)) = some (some (.agg #[.int .i64 0, .int .i64 0, .int .i64 0, .int .i64 0]), 4, 32) by kernel_rfl)
  have H := Lib.hid h
  obtain ⟨hlt, hls, c0, c1, c2, c3, hown⟩ := h
  obtain ⟨g, cap, hv, hlo, hgl⟩ := hown.form (by omega)
  have hC : C = some ⟨g, 0, none⟩ := by injection hv
  subst hC
  unfold nodeV at hown
  have d0 := hown.cells (g := g) rfl 0 _ rfl
  have d7 := hown.cells (g := g) rfl 7 _ rfl
  have d8 := hown.cells (g := g) rfl 8 _ rfl
  have d9 := hown.cells (g := g) rfl 9 _ rfl
  rw [Addr.add_lit] at d0 d7 d8 d9
  simp only [Nat.zero_add] at d0 d7 d8 d9
  have f7 := hown.frozenAt 7
  have f9 := hown.frozenAt 9
  clear hown hv
  go_enter Tryz.func59, Tryz.ntmps59
  go_wp2_with fail
  go_loopw [1] (fun a wr => a = .int .i64 0 ∧ wr = w.alloc (.cells #[.int .i64 id, .int .i64 x, .int .i64 y, .int .i64 l] 32)) (fun _ _ => 0)
  case atStart => exact ⟨rfl, rfl⟩
  case round =>
    obtain ⟨rfl, rfl⟩ := hrel
    go_wp2_with fail
    have hbV : Below w.heap.size (w.setCell ⟨g, 7, none⟩ (.int .i64 1)) ((w.setCell ⟨g, 7, none⟩ (.int .i64 1)).alloc (.cells #[.int .i64 id, .int .i64 x, .int .i64 y, .int .i64 l] 32)).drew := ((Below.refl w.heap.size _).alloc (by rw [World.size_setCell]; exact Nat.le_refl _) _).drew
    have HS : (fun w' => w'.cell? ⟨g, 9, none⟩ = some (.slice none 0 0) ∧ w'.cell? ⟨w.heap.size, 0, none⟩ = some (.int .i64 id) ∧ w'.cell? ⟨w.heap.size, 1, none⟩ = some (.int .i64 x) ∧ w'.cell? ⟨w.heap.size, 2, none⟩ = some (.int .i64 y) ∧ w'.cell? ⟨w.heap.size, 3, none⟩ = some (.int .i64 l)) ((w.setCell ⟨g, 7, none⟩ (.int .i64 1)).alloc (.cells #[.int .i64 id, .int .i64 x, .int .i64 y, .int .i64 l] 32)).drew := ⟨by go_simp, by go_simp, by go_simp, by go_simp, by go_simp⟩
    refine wp_region_early (fun w' => w'.cell? ⟨g, 9, none⟩ = some (.slice none 0 0) ∧ w'.cell? ⟨w.heap.size, 0, none⟩ = some (.int .i64 id) ∧ w'.cell? ⟨w.heap.size, 1, none⟩ = some (.int .i64 x) ∧ w'.cell? ⟨w.heap.size, 2, none⟩ = some (.int .i64 y) ∧ w'.cell? ⟨w.heap.size, 3, none⟩ = some (.int .i64 l)) (fun j => decide (j < 8)) (by kernel_rfl) HS (fun HS => ?_)
    (refine wpAnyE_take (i := 0) (v := ?_) rfl (by kernel_rfl) (by kernel_rfl) (by kernel_rfl) (by kernel_rfl) (fun _ _ _ h => h) (Or.inl ⟨by rfl, ?_⟩) HS ?_; rotate_left 1; (focus (intro w9 hSw; (try dsimp only at hSw); go_simp; all_goals (with_reducible rfl))); (try simp only [Act.put, List.setIfInBounds_toArray, List.set_cons_zero, List.set_cons_succ]))
    (refine wpAnyE_take (i := 1) (v := ?_) rfl (by kernel_rfl) (by kernel_rfl) (by kernel_rfl) (by kernel_rfl) (fun _ _ _ h => h) (Or.inl ⟨by rfl, ?_⟩) HS ?_; rotate_left 1; (focus (intro w9 hSw; (try dsimp only at hSw); go_simp; all_goals (with_reducible rfl))); (try simp only [Act.put, List.setIfInBounds_toArray, List.set_cons_zero, List.set_cons_succ]))
    (refine wpAnyE_take (i := 2) (v := ?_) rfl (by kernel_rfl) (by kernel_rfl) (by kernel_rfl) (by kernel_rfl) (fun _ _ _ h => h) (Or.inl ⟨by rfl, ?_⟩) HS ?_; rotate_left 1; (focus (intro w9 hSw; (try dsimp only at hSw); go_simp; all_goals (with_reducible rfl))); (try simp only [Act.put, List.setIfInBounds_toArray, List.set_cons_zero, List.set_cons_succ]))
    (refine wpAnyE_take (i := 3) (v := ?_) rfl (by kernel_rfl) (by kernel_rfl) (by kernel_rfl) (by kernel_rfl) (fun _ _ _ h => h) (Or.inl ⟨by rfl, ?_⟩) HS ?_; rotate_left 1; (focus (intro w9 hSw; (try dsimp only at hSw); go_simp; all_goals (with_reducible rfl))); (try simp only [Act.put, List.setIfInBounds_toArray, List.set_cons_zero, List.set_cons_succ]))
    (refine wpAnyE_take (i := 4) (v := ?_) rfl (by kernel_rfl) (by kernel_rfl) (by kernel_rfl) (by kernel_rfl) (fun _ _ _ h => h) (Or.inl ⟨by rfl, ?_⟩) HS ?_; rotate_left 1; (focus (intro w9 hSw; (try dsimp only at hSw); go_simp; all_goals (with_reducible rfl))); (try simp only [Act.put, List.setIfInBounds_toArray, List.set_cons_zero, List.set_cons_succ]))
    (refine wpAnyE_take (i := 5) (v := ?_) rfl (by kernel_rfl) (by kernel_rfl) (by kernel_rfl) (by kernel_rfl) (fun _ _ _ h => h) (Or.inl ⟨by rfl, ?_⟩) HS ?_; rotate_left 1; (focus (intro w9 hSw; (try dsimp only at hSw); go_simp; all_goals (with_reducible rfl))); (try simp only [Act.put, List.setIfInBounds_toArray, List.set_cons_zero, List.set_cons_succ]))
    refine wpAnyE_one (i := 6) rfl (by kernel_rfl) ?_
    go_wp2_with fail
    have HS : (fun w' => w'.cell? ⟨g, 9, none⟩ = some (.slice none 0 0) ∧ w'.cell? ⟨w.heap.size, 0, none⟩ = some (.int .i64 id) ∧ w'.cell? ⟨w.heap.size, 1, none⟩ = some (.int .i64 x) ∧ w'.cell? ⟨w.heap.size, 2, none⟩ = some (.int .i64 y) ∧ w'.cell? ⟨w.heap.size, 3, none⟩ = some (.int .i64 l)) (((w.setCell ⟨g, 7, none⟩ (.int .i64 1)).alloc (.cells #[.int .i64 id, .int .i64 x, .int .i64 y, .int .i64 l] 32)).drew.alloc (.cells #[.int .i64 id, .int .i64 x, .int .i64 y, .int .i64 l] 32)) := ⟨by go_simp, by go_simp, by go_simp, by go_simp, by go_simp⟩
    first | refine ⟨fun _ => HS, ?_⟩ | skip
    refine wpAnyE_one (i := 7) rfl (by kernel_rfl) ?_
    have hb2 : Below w.heap.size (w.setCell ⟨g, 7, none⟩ (.int .i64 1)) (((w.setCell ⟨g, 7, none⟩ (.int .i64 1)).alloc (.cells #[.int .i64 id, .int .i64 x, .int .i64 y, .int .i64 l] 32)).drew.alloc (.cells #[.int .i64 id, .int .i64 x, .int .i64 y, .int .i64 l] 32)) := hbV.alloc (by simp) _
    refine wpList_append_own_at _ rfl _ _ 53 rfl w.heap.size 32 i0 (.agg #[.int .i64 0, .int .i64 0, .int .i64 0, .int .i64 0]) 4 32 Tryz.underlying53 hi hz0 hz1 hz2 rfl (by decide) (.slice none 0 0) 0 _ (by rfl) (World.ownsRow_nil _ _ _ _) ⟨w.heap.size + 1, 0, none⟩ 1 1 [.int .i64 id, .int .i64 x, .int .i64 y, .int .i64 l] (by rfl) (by rfl) (by
      have h9 := cells_four_new ((w.setCell ⟨g, 7, none⟩ (.int .i64 1)).alloc (.cells #[.int .i64 id, .int .i64 x, .int .i64 y, .int .i64 l] 32)).drew (.int .i64 id) (.int .i64 x) (.int .i64 y) (.int .i64 l) 32
      have e9 : ((w.setCell ⟨g, 7, none⟩ (.int .i64 1)).alloc (.cells #[.int .i64 id, .int .i64 x, .int .i64 y, .int .i64 l] 32)).drew.heap.size = w.heap.size + 1 := by simp
      rw [e9] at h9
      exact h9) (by intro u hu; simp at hu; rcases hu with rfl | rfl | rfl | rfl <;> rfl) (by unfold maxLen; omega) (by omega) (by simp; omega) ?_
    intro v3 w3 hown3 hgrow3 _ hat3
    obtain ⟨A3, k3, rfl⟩ := own_formN hown3
    have hb3 : Below w.heap.size (w.setCell ⟨g, 7, none⟩ (.int .i64 1)) w3 := Below.grown hb2 hgrow3 (by simp; omega) (fun k hk => by cases hk)
    have q3 : ∀ p : Addr, p.block < w.heap.size + 2 → w3.cell? p = (((w.setCell ⟨g, 7, none⟩ (.int .i64 1)).alloc (.cells #[.int .i64 id, .int .i64 x, .int .i64 y, .int .i64 l] 32)).drew.alloc (.cells #[.int .i64 id, .int .i64 x, .int .i64 y, .int .i64 l] 32)).cell? p := fun p hp => hgrow3.cell_far p (by simp; omega) (fun e => by cases e)
    have HS3 : (fun w' => w'.cell? ⟨g, 9, none⟩ = some (.slice none 0 0) ∧ w'.cell? ⟨w.heap.size, 0, none⟩ = some (.int .i64 id) ∧ w'.cell? ⟨w.heap.size, 1, none⟩ = some (.int .i64 x) ∧ w'.cell? ⟨w.heap.size, 2, none⟩ = some (.int .i64 y) ∧ w'.cell? ⟨w.heap.size, 3, none⟩ = some (.int .i64 l)) w3 := ⟨(q3 ⟨g, 9, none⟩ (by show g < _; omega)).trans (by go_simp), (q3 ⟨w.heap.size, 0, none⟩ (by show w.heap.size < _; omega)).trans (by go_simp), (q3 ⟨w.heap.size, 1, none⟩ (by show w.heap.size < _; omega)).trans (by go_simp), (q3 ⟨w.heap.size, 2, none⟩ (by show w.heap.size < _; omega)).trans (by go_simp), (q3 ⟨w.heap.size, 3, none⟩ (by show w.heap.size < _; omega)).trans (by go_simp)⟩
    refine ⟨fun _ => HS3, ?_⟩
    have z9 : w3.frozen? ⟨g, 9, none⟩ = false := (hb3.frozen (p := ⟨g, 9, none⟩) hgl).trans (by go_simp)
    have o1 := (H.out.own.stored 7 (.int .i64 1)).1
    have o2 := (show (w.setCell ⟨g, 7, none⟩ (.int .i64 1)).ownsRow (q + 1) 186 10 (.slice (some ⟨g, 0, none⟩) 1 cc) 1 (nodeV 1 (.slice none 0 0)) by
      exact o1)
    have o3 := (own_keep o2 (by rw [World.size_setCell]; exact hb3)).stored 9 (.slice A3 1 k3)
    have o4 := (show (w3.setCell ⟨g, 9, none⟩ (.slice A3 1 k3)).ownsRow (q + 1) 186 10 (.slice (some ⟨g, 0, none⟩) 1 cc) 1 (nodeV 1 (.slice A3 1 k3)) by
      exact o3.1)
    have hc4 : Chg (gP (some ⟨g, 0, none⟩)) w (w3.setCell ⟨g, 9, none⟩ (.slice A3 1 k3)) := (((Chg.refl (X := gP (some ⟨g, 0, none⟩))).set (p := ⟨g, 7, none⟩) (.inl rfl) (.int .i64 1)).trans (Chg.of (X := gP (some ⟨g, 0, none⟩)) (by rw [World.size_setCell]; exact hb3)) (fun k hk => .inl hk)).set (p := ⟨g, 9, none⟩) (.inl rfl) (.slice A3 1 k3)
    have r4 := own_set hown3 (p := ⟨g, 9, none⟩) hgl (.slice A3 1 k3)
    have HE := Lib.hid (And.intro o4 (And.intro hc4 r4))
    have hs3 := hgrow3.size
    simp only [World.size_alloc, World.size_drew, World.size_setCell] at hs3
    have qq0 : w3.cell? ⟨q, 0, none⟩ = some (.int .i64 3) := (q3 ⟨q, 0, none⟩ (by show q < _; omega)).trans (by go_simp)
    have hgq : g ≠ q := by omega
    have x3 : w3.cell? ⟨g, 9, none⟩ = some (.slice none 0 0) := HS3.1
    clear hown3 hgrow3 q3 HS HS3 hat3 hb2 hb3 hbV o1 o2 o3 o4 hc4 r4
    refine wpAnyE_rest (k := 8) rfl (by kernel_rfl) (fun j hj => by simp; omega) ?_
    simp only [List.drop_succ_cons, List.drop_zero]
    go_wp2_with fail
    have x9 : (w3.setCell ⟨g, 9, none⟩ (.slice A3 1 k3)).cell? ⟨g, 9, none⟩ = some (.slice A3 1 k3) := by go_simp
    have x0 : (w3.setCell ⟨g, 9, none⟩ (.slice A3 1 k3)).cell? ⟨q, 0, none⟩ = some (.int .i64 3) := by go_simp
    have hz4 : w.heap.size + 2 ≤ (w3.setCell ⟨g, 9, none⟩ (.slice A3 1 k3)).heap.size := by rw [World.size_setCell]; exact hs3
    generalize (w3.setCell ⟨g, 9, none⟩ (.slice A3 1 k3)) = w5 at HE x9 x0 hz4 ⊢
    clear z9 qq0 x3
    have e1 : w5.cell? ⟨q, 1, none⟩ = some (.slice (some ⟨g, 0, none⟩) 1 cc) := (HE.out.2.1.cell (p := ⟨q, 1, none⟩) hlt (fun e => by unfold gP gOf at e; injection e with e; exact hgq e)).trans c1
    have e2 : w5.cell? ⟨q, 2, none⟩ = some (.slice none 0 0) := (HE.out.2.1.cell (p := ⟨q, 2, none⟩) hlt (fun e => by unfold gP gOf at e; injection e with e; exact hgq e)).trans c2
    have e3 : w5.cell? ⟨q, 3, none⟩ = some (.map (some s)) := (HE.out.2.1.cell (p := ⟨q, 3, none⟩) hlt (fun e => by unfold gP gOf at e; injection e with e; exact hgq e)).trans c3
    have HP := Lib.hid (show Pt1 w5 s q (some ⟨g, 0, none⟩) cc 1 (.slice A3 1 k3) from ⟨by omega, hls, x0, e1, e2, e3, HE.out.1⟩)
    clear e1 e2 e3
    (refine wp_region_later (w5.heap.size) (by kernel_rfl) (by kernel_rfl) (by go_size) ?_; (repeat (go_big_quiet_step (fail))); refine wpQuiet_nil ?_; intro Xq hlXq hmXq)
    have HQ := Lib.hid (show Below w5.heap.size w5 Xq.w by repeat' (first | (with_reducible exact Below.refl _ _) | (with_reducible assumption) | (with_reducible refine Later.step ?_ ?_ _) | (with_reducible refine Below.alloc ?_ ?_ _) | (with_reducible refine Below.drew ?_) | (with_reducible refine bel_drewN ?_ _) | (with_reducible refine bel_grown ?_ (by assumption) ?_ ?_) | (with_reducible refine Below.setCell ?_ ?_ _) | go_size))
    go_wp2_with fail
    exact bodyPost_end (v := .tuple #[]) (by first | rfl | kernel_rfl) rfl ⟨rfl, A3, k3, HP.out.keep HQ.out, own_keep HE.out.2.2 HQ.out, HE.out.2.1.trans (Chg.of (X := gP (some ⟨g, 0, none⟩)) HQ.out) (fun k hk => .inl hk)⟩
theorem zero_rec (w : World) : (zeroValue 32).run Tryz.prog w = .ok (.agg #[.int .i64 0, .int .i64 0, .int .i64 0, .int .i64 0]) w := by kernel_rfl
set_option maxHeartbeats 16000000 in
theorem pinsert_first (s q cc : Nat) (C : Option Addr) (id x y l : Int) (w : World) (h : Pt1 w s q C cc 0 (.slice none 0 0)) (hm : M1 w s 0 (fun _ => none)) (hid : wf64 id) (hf : fitsB x y = true) :
    Calls Tryz.prog 21 #[.pointer (some ⟨q, 0, none⟩), .agg #[.int .i64 id, .int .i64 x, .int .i64 y, .int .i64 l]] w fun e w' => e = .returned (.int .i64 0) ∧ ∃ D cd, Pt1 w' s q C cc 1 (.slice D 1 cd) ∧ w'.ownsRow w.heap.size 32 4 (.slice D 1 cd) 1 [.int .i64 id, .int .i64 x, .int .i64 y, .int .i64 l] ∧ M1 w' s 1 (fun k => if k = id then some (.agg #[.int .i64 id, .int .i64 x, .int .i64 y, .int .i64 l]) else none) ∧ Chg (fun j => j = s ∨ gP C j) w w' := by
  have PM := Lib.hid (fun (Y : World) (hY : Below w.heap.size w Y) => pmade_any q 1 cc C Y ((hY.cell (p := ⟨q, 1, none⟩) h.lt).trans h.c1) (by decide))
  have pf := fun (Y : World) => fits_any x y Y
  rw [hf] at pf
  have PF := Lib.hid pf
  have H := Lib.hid (And.intro h hm)
  have hql := h.lt
  have hls := h.ls
  have c3 := h.c3
  have hlk := fun (W : World) (hW : W.heap[s]? = w.heap[s]?) => (hm.same hW).lookOk (mt := 110) Tryz.underlying110 (zero_rec W) hid
  simp only [Option.getD_none, Option.isSome_none] at hlk
  obtain ⟨om, hom⟩ : ∃ o, w.heap[s]? = o := ⟨_, rfl⟩
  rw [hom] at hlk
  clear pf hf h hm
  go_enter Tryz.func21, Tryz.ntmps21
  go_wp2_with (first
    | (go_at_call 58; refine (PM.out _ (by repeat' (first | (with_reducible exact Below.refl _ _) | (with_reducible assumption) | (with_reducible refine Later.step ?_ ?_ _) | (with_reducible refine Below.alloc ?_ ?_ _) | (with_reducible refine Below.drew ?_) | (with_reducible refine bel_drewN ?_ _) | (with_reducible refine bel_grown ?_ (by assumption) ?_ ?_) | (with_reducible refine Below.setCell ?_ ?_ _) | go_size))).mono ?_; rintro e w' ⟨rfl, hb⟩; obtain ⟨X1, rfl, hl1, hm1⟩ := later _ hb (Nat.le_refl _); clear hb; (try simp only [World.size_alloc, World.size_setCell, World.size_drew] at hm1 hl1))
    | (go_at_call 10; refine (PF.out _).mono ?_; rintro e w' ⟨rfl, hb⟩; obtain ⟨X2, rfl, hl2, hm2⟩ := later _ hb (Nat.le_refl _); clear hb; (try simp only [World.size_alloc, World.size_setCell, World.size_drew] at hm2 hl2)))
  have hb2 : Below w.heap.size w X2.w := by repeat' (first | (with_reducible exact Below.refl _ _) | (with_reducible assumption) | (with_reducible refine Later.step ?_ ?_ _) | (with_reducible refine Below.alloc ?_ ?_ _) | (with_reducible refine Below.drew ?_) | (with_reducible refine bel_drewN ?_ _) | (with_reducible refine bel_grown ?_ (by assumption) ?_ ?_) | (with_reducible refine Below.setCell ?_ ?_ _) | go_size)
  have hs2 : w.heap.size + 1 ≤ X2.w.heap.size := by go_size
  have HS : (fun w' => w'.heap[s]? = om ∧ w'.cell? ⟨q, 3, none⟩ = some (.map (some s)) ∧ w'.cell? ⟨w.heap.size, 0, none⟩ = some (.int .i64 id)) X2.w.drew := ⟨(hb2.drew.block _ (by omega)).trans hom, by go_simp, by go_simp⟩
  have HS1 : (fun w' => w'.heap[s]? = om ∧ w'.cell? ⟨q, 3, none⟩ = some (.map (some s)) ∧ w'.cell? ⟨w.heap.size, 0, none⟩ = some (.int .i64 id)) (X2.w.drew.alloc (.cells #[.int .i64 0, .int .i64 0, .int .i64 0, .int .i64 0] 32)) := ⟨((hb2.drew.alloc (by simp; omega) _).block _ (by omega)).trans hom, by go_simp, by go_simp⟩
  refine wp_region_early (fun w' => w'.heap[s]? = om ∧ w'.cell? ⟨q, 3, none⟩ = some (.map (some s)) ∧ w'.cell? ⟨w.heap.size, 0, none⟩ = some (.int .i64 id)) (fun _ => true) (by kernel_rfl) HS (fun HS => ?_)
  (refine wpAnyE_take (i := 0) (v := ?_) rfl (by kernel_rfl) (by kernel_rfl) (by kernel_rfl) (by kernel_rfl) (fun _ _ _ h => h) (Or.inl ⟨by rfl, ?_⟩) HS ?_; rotate_left 1; (focus (intro w9 hSw; (try dsimp only at hSw); go_simp; all_goals (with_reducible rfl))); (try simp only [Act.put, List.setIfInBounds_toArray, List.set_cons_zero, List.set_cons_succ]))
  (refine wpAnyE_take (i := 1) (v := ?_) rfl (by kernel_rfl) (by kernel_rfl) (by kernel_rfl) (by kernel_rfl) (fun _ _ _ h => h) (Or.inl ⟨by rfl, ?_⟩) HS ?_; rotate_left 1; (focus (intro w9 hSw; (try dsimp only at hSw); go_simp; all_goals (with_reducible rfl))); (try simp only [Act.put, List.setIfInBounds_toArray, List.set_cons_zero, List.set_cons_succ]))
  (refine wpAnyE_take (i := 2) (v := ?_) rfl (by kernel_rfl) (by kernel_rfl) (by kernel_rfl) (by kernel_rfl) (fun _ _ _ h => h) (Or.inl ⟨by rfl, ?_⟩) HS ?_; rotate_left 1; (focus (intro w9 hSw; (try dsimp only at hSw); go_simp; all_goals (with_reducible rfl))); (try simp only [Act.put, List.setIfInBounds_toArray, List.set_cons_zero, List.set_cons_succ]))
  (refine wpAnyE_take (i := 3) (v := ?_) rfl (by kernel_rfl) (by kernel_rfl) (by kernel_rfl) (by kernel_rfl) (fun _ _ _ h => h) (Or.inl ⟨by rfl, ?_⟩) HS ?_; rotate_left 1; (focus (intro w9 hSw; (try dsimp only at hSw); go_simp; all_goals (with_reducible rfl))); (try simp only [Act.put, List.setIfInBounds_toArray, List.set_cons_zero, List.set_cons_succ]))
  (refine wpAnyE_take (i := 4) (v := ?_) rfl (by kernel_rfl) (by kernel_rfl) (by kernel_rfl) (by kernel_rfl) (fun _ _ _ h => h) (Or.inl ⟨by rfl, ?_⟩) HS ?_; rotate_left 1; (focus (intro w9 hSw; (try dsimp only at hSw); go_simp; all_goals (with_reducible rfl))); (try simp only [Act.put, List.setIfInBounds_toArray, List.set_cons_zero, List.set_cons_succ]))
  (refine wpAnyE_take (i := 5) (v := ?_) rfl (by kernel_rfl) (by kernel_rfl) (by kernel_rfl) (by kernel_rfl) (fun _ _ _ h => h) (Or.inl ⟨by rfl, ?_⟩) HS ?_; rotate_left 1; (focus (intro w9 hSw; (try dsimp only at hSw); go_simp; all_goals (with_reducible rfl))); (try simp only [Act.put, List.setIfInBounds_toArray, List.set_cons_zero, List.set_cons_succ]))
  (refine wpAnyE_take (i := 6) (v := ?_) rfl (by kernel_rfl) (by kernel_rfl) (by kernel_rfl) (by kernel_rfl) (fun _ _ _ h => h) (Or.inl ⟨by rfl, ?_⟩) HS ?_; rotate_left 1; (focus (intro w9 hSw; (try dsimp only at hSw); go_simp; all_goals (with_reducible rfl))); (try simp only [Act.put, List.setIfInBounds_toArray, List.set_cons_zero, List.set_cons_succ]))
  (refine wpAnyE_take (i := 7) (v := ?_) rfl (by kernel_rfl) (by kernel_rfl) (by kernel_rfl) (by kernel_rfl) (fun _ _ _ h => h) (Or.inl ⟨by rfl, ?_⟩) HS ?_; rotate_left 1; (focus (intro w9 hSw; (try dsimp only at hSw); go_simp; all_goals (with_reducible rfl))); (try simp only [Act.put, List.setIfInBounds_toArray, List.set_cons_zero, List.set_cons_succ]))
  (refine wpAnyE_take (i := 8) (v := ?_) rfl (by kernel_rfl) (by kernel_rfl) (by kernel_rfl) (by kernel_rfl) (fun _ _ _ h => h) (Or.inl ⟨by rfl, ?_⟩) HS ?_; rotate_left 1; (focus (intro w9 hSw; (try dsimp only at hSw); go_simp; all_goals (with_reducible rfl))); (try simp only [Act.put, List.setIfInBounds_toArray, List.set_cons_zero, List.set_cons_succ]))
  (refine wpAnyE_take (i := 9) (v := ?_) rfl (by kernel_rfl) (by kernel_rfl) (by kernel_rfl) (by kernel_rfl) (fun _ _ _ h => h) (Or.inl ⟨by rfl, ?_⟩) HS ?_; rotate_left 1; (focus (intro w9 hSw; (try dsimp only at hSw); go_simp; all_goals (with_reducible rfl))); (try simp only [Act.put, List.setIfInBounds_toArray, List.set_cons_zero, List.set_cons_succ]))
  refine wpAnyE_one (i := 10) rfl (by kernel_rfl) ?_
  go_wp2_with fail
  refine ⟨HS1.1, ?_⟩
  refine wpAnyE_one (i := 11) rfl (by kernel_rfl) ?_
  go_wp2_with fail
  first | refine ⟨fun _ => HS1, ?_⟩ | refine ⟨HS1.1, ?_⟩
  refine wpAnyE_one (i := 12) rfl (by kernel_rfl) ?_
  go_wp2_with fail
  first | refine ⟨fun _ => HS1, ?_⟩ | refine ⟨HS1.1, ?_⟩
  refine ⟨by kernel_rfl, ?_⟩
  have HO := Lib.hid hom
  clear hom hlk HS HS1
  go_wp2_with fail
  (refine wp_region_later_tail 7 (w.heap.size + 1) (by kernel_rfl) (by kernel_rfl) (by go_size) ?_; simp only [List.take_succ_cons, List.take_zero, List.drop_succ_cons, List.drop_zero]; (repeat (go_big_quiet_step (fail))); refine wpQuiet_nil ?_; intro Xq hlXq hmXq)
  have hbq : Below w.heap.size w Xq.w := by repeat' (first | (with_reducible exact Below.refl _ _) | (with_reducible assumption) | (with_reducible refine Later.step ?_ ?_ _) | (with_reducible refine Below.alloc ?_ ?_ _) | (with_reducible refine Below.drew ?_) | (with_reducible refine bel_drewN ?_ _) | (with_reducible refine bel_grown ?_ (by assumption) ?_ ?_) | (with_reducible refine Below.setCell ?_ ?_ _) | go_size)
  obtain ⟨w9, hput, hM9, hg9⟩ := (H.out.2.same (hbq.block _ (by omega))).put (by decide) (mt := 110) Tryz.underlying110 hid (.agg #[.int .i64 id, .int .i64 x, .int .i64 y, .int .i64 l])
  have hc9 : Chg (fun j => j = s) w w9 := (Chg.of (X := fun j => j = s) hbq).trans (Chg.ofGrown (X := fun j => j = s) hg9 (fun k hk => by injection hk with hk; exact hk.symm)) (fun k hk => .inl hk)
  have hs9 := hg9.size
  have hsq : w.heap.size + 1 ≤ Xq.w.heap.size := hlXq
  have hb9 : ∀ i, w9.cell? ⟨w.heap.size, i, none⟩ = Xq.w.cell? ⟨w.heap.size, i, none⟩ := fun i => hg9.cell_far ⟨w.heap.size, i, none⟩ (by show w.heap.size < _; omega) (fun e => by injection e with e; have e' : w.heap.size = s := e; omega)
  have b0 : w9.cell? ⟨w.heap.size, 0, none⟩ = some (.int .i64 id) := (hb9 0).trans (by go_simp)
  have b1 : w9.cell? ⟨w.heap.size, 1, none⟩ = some (.int .i64 x) := (hb9 1).trans (by go_simp)
  have b2 : w9.cell? ⟨w.heap.size, 2, none⟩ = some (.int .i64 y) := (hb9 2).trans (by go_simp)
  have b3 : w9.cell? ⟨w.heap.size, 3, none⟩ = some (.int .i64 l) := (hb9 3).trans (by go_simp)
  have HP := Lib.hid (show Pt1 w9 s q C cc 0 (.slice none 0 0) ∧ M1 w9 s 1 _ ∧ Chg (fun j => j = s) w w9 from ⟨H.out.1.chg hc9 (by show ¬ q = s; omega) (fun k hk e => by have := H.out.1.far k hk; have e' : k = s := e; omega), hM9, hc9⟩)
  clear hM9 hg9 hc9 hb9
  go_wp2_with fail
  go_at_call 59
  refine (pput_first s q cc C id x y l _ HP.out.1).mono ?_
  rintro e w5 ⟨rfl, D, cd, hP, hR, hc⟩
  have HE := Lib.hid (show Pt1 w5 s q C cc 1 (.slice D 1 cd) ∧ w5.ownsRow w.heap.size 32 4 (.slice D 1 cd) 1 [.int .i64 id, .int .i64 x, .int .i64 y, .int .i64 l] ∧ M1 w5 s 1 _ ∧ Chg (fun j => j = s ∨ gP C j) w w5 from ⟨hP, own_base hR (by omega), HP.out.2.1.chg hc (fun e => by have := HP.out.1.far s e; omega), (HP.out.2.2.mono (X' := fun j => j = s ∨ gP C j) (fun k hk => .inl (.inl hk))).trans hc (fun k hk => .inl (.inr hk))⟩)
  clear hP hR hc
  go_wp2_with fail
  go_ret
  exact ⟨rfl, D, cd, HE.out⟩
end Go.Proofs.YthlijfligikciaaGreat

/- The library's heap over the queue's entries, at no or one entry: walked. No condition. -/
namespace Go.Proofs.YthlijfligikciaaGreat
open Go.RowKit Go.Maps
set_option linter.unusedSimpArgs false
set_option linter.unusedVariables false
set_option maxRecDepth 2000

theorem hup_zero (v : Value) (w : World) : Calls Tryz.prog 151 #[v, .int .i64 0] w fun e w' => e = .returned (.tuple #[]) ∧ Below w.heap.size w w' := by
  go_enter Tryz.func151, Tryz.ntmps151
  go_wp2_with fail
  go_loopw [1] (fun j wr => j = .int .i64 0 ∧ Below w.heap.size w wr) (fun _ _ => 0)
  case atStart => exact ⟨rfl, Below.refl _ _⟩
  case round =>
    obtain ⟨rfl, hb⟩ := hrel
    obtain ⟨X, rfl⟩ : ∃ X : Later w.heap.size w, wr = X.w := ⟨⟨wr, hb⟩, rfl⟩
    go_wp2_with fail
    first | exact bodyPost_end (v := .tuple #[]) (by first | rfl | kernel_rfl) rfl ⟨rfl, hb⟩ | trace_state
theorem hdown_zero (v : Value) (w : World) : Calls Tryz.prog 152 #[v, .int .i64 0, .int .i64 0] w fun e w' => e = .returned (.bool false) ∧ Below w.heap.size w w' := by
  go_enter Tryz.func152, Tryz.ntmps152
  go_wp2_with fail
  go_loopw [7] (fun j wr => j = .int .i64 0 ∧ Below w.heap.size w wr) (fun _ _ => 0)
  case atStart => exact ⟨rfl, Below.refl _ _⟩
  case round =>
    obtain ⟨rfl, hb⟩ := hrel
    obtain ⟨X, rfl⟩ : ∃ X : Later w.heap.size w, wr = X.w := ⟨⟨wr, hb⟩, rfl⟩
    go_wp2_with fail
    first | (go_ret; exact ⟨rfl, hb⟩) | trace_state
set_option maxHeartbeats 8000000 in
theorem hpush_none (s cc : Nat) (C : Option Addr) (k t i : Int) (w : World) (h : Qu w s C 0 cc []) :
    Calls Tryz.prog 119 #[.iface 221 (.pointer (some ⟨s, 0, none⟩)), .iface 165 (.agg #[.int .u64 k, .int .u64 t, .int .i64 i])] w fun e w' => e = .returned (.tuple #[]) ∧ ∃ C' cc', Qu w' s C' 1 cc' [.int .u64 k, .int .u64 t, .int .i64 i] ∧ Chg (fun j => j = s ∨ gP C j) w w' ∧ ∀ j, gP C' j → gP C j ∨ w.heap.size ≤ j := by
  have PU := Lib.hid (fun (v : Value) (Y : World) => hup_zero v Y)
  have PP := Lib.hid (tpush_any s 0 cc C [] k t i w h (by omega))
  go_enter Tryz.func119, Tryz.ntmps119
  go_wp2_with fail
  refine PP.out.mono ?_
  rintro e w1 ⟨rfl, C', cc', hq, hc, hC⟩
  have PL := Lib.hid (tlen_any s 1 cc' C' _ w1 hq)
  have HQ := Lib.hid (And.intro hq (And.intro hc hC))
  clear hq hc hC
  go_wp2_with fail
  refine PL.out.mono ?_
  rintro e w2 ⟨rfl, hb2⟩
  go_wp2_with fail
  go_at_call 151
  refine (PU.out _ _).mono ?_
  rintro e w3 ⟨rfl, hb3⟩
  go_wp2_with fail
  have hb : Below w1.heap.size w1 w3 := hb2.trans (hb3.mono hb2.size)
  exact bodyPost_end (v := .tuple #[]) (by first | rfl | kernel_rfl) rfl ⟨rfl, C', cc', HQ.out.1.keep hb, HQ.out.2.1.trans (Chg.of (X := fun _ => False) hb) (fun k hk => hk.elim), HQ.out.2.2⟩
set_option maxHeartbeats 8000000 in
theorem hpop_one (s cc : Nat) (C : Option Addr) (k t i : Int) (w : World) (h : Qu w s C 1 cc [.int .u64 k, .int .u64 t, .int .i64 i]) :
    Calls Tryz.prog 122 #[.iface 221 (.pointer (some ⟨s, 0, none⟩))] w fun e w' => e = .returned (.iface 165 (.agg #[.int .u64 k, .int .u64 t, .int .i64 i])) ∧ Qu w' s C 0 cc [] ∧ Chg (fun j => j = s ∨ gP C j) w w' := by
  have PD := Lib.hid (fun (v : Value) (Y : World) => hdown_zero v Y)
  have PL := Lib.hid (tlen_any s 1 cc C _ w h)
  have H := Lib.hid h
  clear h
  go_enter Tryz.func122, Tryz.ntmps122
  go_wp2_with fail
  refine PL.out.mono ?_
  rintro e w1 ⟨rfl, hb1⟩
  have PS := Lib.hid (tswap_one s cc C k t i w1 (H.out.keep hb1))
  go_wp2_with fail
  refine PS.out.mono ?_
  rintro e w2 ⟨rfl, hq2, hc2⟩
  have HQ2 := Lib.hid (And.intro hq2 hc2)
  clear hq2 hc2
  go_wp2_with fail
  go_at_call 152
  refine (PD.out _ _).mono ?_
  rintro e w3 ⟨rfl, hb3⟩
  have PP := Lib.hid (tpop_one s cc C k t i w3 (HQ2.out.1.keep hb3))
  go_wp2_with fail
  refine PP.out.mono ?_
  rintro e w4 ⟨rfl, hq4, hc4⟩
  have HE := Lib.hid (show Qu w4 s C 0 cc [] ∧ Chg (fun j => j = s ∨ gP C j) w w4 from ⟨hq4, ((((Chg.of (X := fun j => j = s ∨ gP C j) hb1).trans HQ2.out.2 (fun k hk => .inl (.inr hk))).trans (Chg.of (X := fun _ => False) hb3) (fun k hk => hk.elim)).trans hc4 (fun k hk => .inl (.inl hk)))⟩)
  clear hq4 hc4
  go_wp2_with fail
  go_ret
  exact ⟨rfl, HE.out.1, HE.out.2⟩
end Go.Proofs.YthlijfligikciaaGreat

/- A queue of no or one entry: New, Push, Pop, Drain: walked. No condition. -/
namespace Go.Proofs.YthlijfligikciaaGreat
open Go.RowKit Go.Maps
set_option linter.unusedSimpArgs false
set_option linter.unusedVariables false
set_option maxRecDepth 2000

theorem Qu.set {w : World} {s n cc : Nat} {C : Option Addr} {xs : List Value} (h : Qu w s C n cc xs) {p : Addr} (h1 : p.block ≠ s) (h2 : ¬ gP C p.block) (u : Value) : Qu (w.setCell p u) s C n cc xs :=
  ⟨(World.cell?_of_block (a := ⟨s, 0, none⟩) (Below.heap_setCell w p u s (fun e => h1 e.symm))).trans h.c0, (World.frozen?_of_block (a := ⟨s, 0, none⟩) (Below.heap_setCell w p u s (fun e => h1 e.symm))).trans h.fz, own_setO h.own (fun k hk e => h2 (by rw [gOf_own] at hk; rw [e]; exact hk)) u⟩
theorem Qu.alloc {w : World} {s n cc : Nat} {C : Option Addr} {xs : List Value} (h : Qu w s C n cc xs) (o : Obj) : Qu (w.alloc o) s C n cc xs := h.keep ((Below.refl _ _).alloc (Nat.le_refl _) _)
theorem Qu.drew {w : World} {s n cc : Nat} {C : Option Addr} {xs : List Value} (h : Qu w s C n cc xs) : Qu w.drew s C n cc xs := h.keep (Below.drew (Below.refl _ _))
/-- A queue where all but blocks that are not its own stands. -/
theorem Qu.chg {w w' : World} {X : Nat → Prop} {s n cc : Nat} {C : Option Addr} {xs : List Value} (h : Qu w s C n cc xs) (hc : Chg X w w') (h1 : ¬ X s) (h2 : ∀ k, gP C k → ¬ X k) : Qu w' s C n cc xs :=
  ⟨(hc.cell (p := ⟨s, 0, none⟩) h.lt h1).trans h.c0, (hc.frozen (p := ⟨s, 0, none⟩) h.lt h1).trans h.fz, by
    refine ⟨h.own.1, ?_⟩
    rcases h.own.2 with hn | ⟨g, cap, cur, hv, hbase, hg, rest⟩
    · exact .inl hn
    · refine .inr ⟨g, cap, cur, hv, hbase, (hc.block g (Array.getElem?_eq_some_iff.1 hg).1 (h2 g ?_)).trans hg, rest⟩
      injection hv with hv
      subst hv
      rfl⟩
theorem qnew_any (w : World) : Calls Tryz.prog 81 #[] w fun e w' => e = .returned (.pointer (some ⟨w.heap.size, 0, none⟩)) ∧ Qu w' w.heap.size none 0 0 [] ∧ Below w.heap.size w w' := by
  go_enter Tryz.func81, Tryz.ntmps81
  go_wp2
  go_ret
  exact ⟨rfl, ⟨by go_simp, by go_simp, World.ownsRow_nil _ _ _ _⟩, by repeat' (first | (with_reducible exact Below.refl _ _) | (with_reducible assumption) | (with_reducible refine Later.step ?_ ?_ _) | (with_reducible refine Below.alloc ?_ ?_ _) | (with_reducible refine Below.drew ?_) | (with_reducible refine Below.setCell ?_ ?_ _) | go_size)⟩
set_option maxHeartbeats 8000000 in
theorem qpush_none (s cc : Nat) (C : Option Addr) (k t i : Int) (w : World) (h : Qu w s C 0 cc []) :
    Calls Tryz.prog 86 #[.pointer (some ⟨s, 0, none⟩), .agg #[.int .u64 k, .int .u64 t, .int .i64 i]] w fun e w' => e = .returned (.bool true) ∧ ∃ C' cc', Qu w' s C' 1 cc' [.int .u64 k, .int .u64 t, .int .i64 i] ∧ Chg (fun j => j = s ∨ gP C j) w w' ∧ ∀ j, gP C' j → gP C j ∨ w.heap.size ≤ j := by
  have PH := Lib.hid (fun (Y : World) (hY : Below w.heap.size w Y) => hpush_none s cc C k t i Y (h.keep hY))
  clear h
  go_enter Tryz.func86, Tryz.ntmps86
  go_wp2_with fail
  (refine wp_region_later_tail 6 (w.heap.size + 1) (by kernel_rfl) (by kernel_rfl) (by go_size) ?_; simp only [List.take_succ_cons, List.take_zero, List.drop_succ_cons, List.drop_zero]; (repeat (go_big_quiet_step (fail))); refine wpQuiet_nil ?_; intro Xq hlXq hmXq)
  have hbq : Below w.heap.size w Xq.w := by repeat' (first | (with_reducible exact Below.refl _ _) | (with_reducible assumption) | (with_reducible refine Later.step ?_ ?_ _) | (with_reducible refine Below.alloc ?_ ?_ _) | (with_reducible refine Below.drew ?_) | (with_reducible refine bel_drewN ?_ _) | (with_reducible refine bel_grown ?_ (by assumption) ?_ ?_) | (with_reducible refine Below.setCell ?_ ?_ _) | go_size)
  go_wp2_with fail
  go_at_call 119
  refine (PH.out _ hbq).mono ?_
  rintro e w1 ⟨rfl, C', cc', hq, hc, hC⟩
  have HQ := Lib.hid (show Qu w1 s C' 1 cc' _ ∧ Chg (fun j => j = s ∨ gP C j) w w1 ∧ ∀ j, gP C' j → gP C j ∨ w.heap.size ≤ j from ⟨hq, (Chg.of (X := fun j => j = s ∨ gP C j) hbq).trans hc (fun k hk => .inl hk), fun j hj => (hC j hj).elim .inl (fun h9 => .inr (Nat.le_trans hbq.size h9))⟩)
  clear hq hc hC
  go_wp2_with fail
  go_ret
  exact ⟨rfl, C', cc', HQ.out⟩
set_option maxHeartbeats 8000000 in
theorem qpop_one (s cc : Nat) (C : Option Addr) (k t i : Int) (w : World) (h : Qu w s C 1 cc [.int .u64 k, .int .u64 t, .int .i64 i]) :
    Calls Tryz.prog 89 #[.pointer (some ⟨s, 0, none⟩)] w fun e w' => e = .returned (.tuple #[.agg #[.int .u64 k, .int .u64 t, .int .i64 i], .bool true]) ∧ Qu w' s C 0 cc [] ∧ Chg (fun j => j = s ∨ gP C j) w w' := by
  have H := Lib.hid h
  have c0 := h.c0
  have hs := h.lt
  have hrow := h.rowlt
  have has := assert_entry
  clear h
  go_enter Tryz.func89, Tryz.ntmps89
  go_wp2_with fail
  have PH := Lib.hid (hpop_one s cc C k t i (w.alloc (.cells #[.int .u64 0, .int .u64 0, .int .i64 0] 165)) (H.out.keep ((Below.refl _ _).alloc (Nat.le_refl _) _)))
  refine PH.out.mono ?_
  rintro e w4 ⟨rfl, hq4, hc4⟩
  have hn : ¬ (w.heap.size = s ∨ gP C w.heap.size) := fun e => e.elim (fun e => by omega) (fun e => by have := hrow _ e; omega)
  have hz4 := hc4.size
  simp only [World.size_alloc] at hz4
  have e0 : w4.cell? ⟨w.heap.size, 0, none⟩ = some (.int .u64 0) := (hc4.cell (p := ⟨w.heap.size, 0, none⟩) (by simp) hn).trans (by go_simp)
  have e1 : w4.cell? ⟨w.heap.size, 1, none⟩ = some (.int .u64 0) := (hc4.cell (p := ⟨w.heap.size, 1, none⟩) (by simp) hn).trans (by go_simp)
  have e2 : w4.cell? ⟨w.heap.size, 2, none⟩ = some (.int .i64 0) := (hc4.cell (p := ⟨w.heap.size, 2, none⟩) (by simp) hn).trans (by go_simp)
  have f0 : w4.frozen? ⟨w.heap.size, 0, none⟩ = false := (hc4.frozen (p := ⟨w.heap.size, 0, none⟩) (by simp) hn).trans (by go_simp)
  have f1 : w4.frozen? ⟨w.heap.size, 1, none⟩ = false := (hc4.frozen (p := ⟨w.heap.size, 1, none⟩) (by simp) hn).trans (by go_simp)
  have f2 : w4.frozen? ⟨w.heap.size, 2, none⟩ = false := (hc4.frozen (p := ⟨w.heap.size, 2, none⟩) (by simp) hn).trans (by go_simp)
  have HQ := Lib.hid (show Qu w4 s C 0 cc [] ∧ Chg (fun j => j = s ∨ gP C j) w w4 from ⟨hq4, (Chg.of (X := fun j => j = s ∨ gP C j) ((Below.refl w.heap.size w).alloc (Nat.le_refl _) _)).trans hc4 (fun k hk => .inl hk)⟩)
  clear hq4 hc4 hrow
  go_wp2_with fail
  have HE := Lib.hid (show Qu ((((w4.alloc (.cells #[.int .u64 k, .int .u64 t, .int .i64 i] 165)).setCell ⟨w.heap.size, 0, none⟩ (.int .u64 k)).setCell ⟨w.heap.size, 1, none⟩ (.int .u64 t)).setCell ⟨w.heap.size, 2, none⟩ (.int .i64 i)) s C 0 cc [] ∧ Chg (fun j => j = s ∨ gP C j) w ((((w4.alloc (.cells #[.int .u64 k, .int .u64 t, .int .i64 i] 165)).setCell ⟨w.heap.size, 0, none⟩ (.int .u64 k)).setCell ⟨w.heap.size, 1, none⟩ (.int .u64 t)).setCell ⟨w.heap.size, 2, none⟩ (.int .i64 i)) from
    ⟨(((HQ.out.1.alloc _).set (p := ⟨w.heap.size, 0, none⟩) (fun e => hn (.inl e)) (fun e => hn (.inr e)) _).set (p := ⟨w.heap.size, 1, none⟩) (fun e => hn (.inl e)) (fun e => hn (.inr e)) _).set (p := ⟨w.heap.size, 2, none⟩) (fun e => hn (.inl e)) (fun e => hn (.inr e)) _, (((HQ.out.2.alloc _).set (p := ⟨w.heap.size, 0, none⟩) (.inr (Nat.le_refl _)) _).set (p := ⟨w.heap.size, 1, none⟩) (.inr (Nat.le_refl _)) _).set (p := ⟨w.heap.size, 2, none⟩) (.inr (Nat.le_refl _)) _⟩)
  refine bodyPost_ret (by simp only [results, Tryz.results89]; go_simp; all_goals (first | rfl | simp [sel])) rfl ⟨rfl, HE.out⟩
set_option maxHeartbeats 8000000 in
theorem qtaken_one (s cc : Nat) (C : Option Addr) (k t i : Int) (w : World) (h : Qu w s C 1 cc [.int .u64 k, .int .u64 t, .int .i64 i]) :
    Calls Tryz.prog 120 #[.pointer (some ⟨s, 0, none⟩), .int .i64 1, .func (.func 89) #[] #[]] w fun e w' => ∃ A ca, e = .returned (.slice A 1 ca) ∧ w'.ownsRow w.heap.size 165 3 (.slice A 1 ca) 1 [.int .u64 k, .int .u64 t, .int .i64 i] ∧ Chg (fun j => j = s ∨ gP C j) w w' := by
  obtain ⟨i0, hi, hz0, hz1, hz2⟩ := info_parts (show (Tryz.prog.info? 165).map (fun i => (i.zero, i.size, i.bytes)) = some (some (.agg #[.int .u64 0, .int .u64 0, .int .i64 0]), 3, 24) by kernel_rfl)
  have PP := Lib.hid (qpop_one s cc C k t i w h)
  clear h
  go_enter Tryz.func120, Tryz.ntmps120
  go_wp2_with fail
  go_loopw [7] (fun l wr => ∃ n : Nat, n ≤ 1 ∧ Hid ((n = 0 → l = .slice none 0 0 ∧ wr = w) ∧ (n = 1 → ∃ A ca, l = .slice A 1 ca ∧ wr.ownsRow w.heap.size 165 3 (.slice A 1 ca) 1 [.int .u64 k, .int .u64 t, .int .i64 i] ∧ Chg (fun j => j = s ∨ gP C j) w wr))) (fun l _ => match l with | .slice _ n _ => 1 - n | _ => 0)
  case atStart => exact ⟨0, by decide, ⟨fun _ => ⟨rfl, rfl⟩, fun e => by cases e⟩⟩
  case round =>
    obtain ⟨n, hn, hrel⟩ := hrel
    match n, hn with
    | 0, _ =>
      obtain ⟨rfl, rfl⟩ := hrel.out.1 rfl
      clear hrel hn
      go_wp2_with fail
      refine PP.out.mono ?_
      rintro e w2 ⟨rfl, hq2, hc2⟩
      have HQ := Lib.hid hc2
      have hs2 := hc2.size
      clear hq2 hc2
      have h9 := cells_abc_new (w2.alloc (.cells #[.int .u64 k, .int .u64 t, .int .i64 i] 165)) (.int .u64 k) (.int .u64 t) (.int .i64 i) 165
      rw [show (w2.alloc (.cells #[.int .u64 k, .int .u64 t, .int .i64 i] 165)).heap.size = w2.heap.size + 1 by simp] at h9
      have H9 := Lib.hid h9
      clear h9
      go_wp2_with (at_builtin; refine wpList_append_own_at _ rfl _ _ 166 rfl wr.heap.size 165 i0 (.agg #[.int .u64 0, .int .u64 0, .int .i64 0]) 3 24 Tryz.underlying166 hi hz0 hz1 hz2 rfl (by decide) (.slice none 0 0) 0 _ (by rfl) (World.ownsRow_nil _ _ _ _) ⟨w2.heap.size + 1, 0, none⟩ 1 1 [.int .u64 k, .int .u64 t, .int .i64 i] (by rfl) (by rfl) (H9.out) (by intro u hu; simp at hu; rcases hu with rfl | rfl | rfl <;> rfl) (by unfold maxLen; omega) (by omega) (by simp; omega) ?_)
      intro v3 w3 hown3 hgrow3 _ _
      obtain ⟨A3, k3, rfl⟩ := own_formN hown3
      have HE := Lib.hid (show w3.ownsRow wr.heap.size 165 3 (.slice A3 1 k3) 1 [.int .u64 k, .int .u64 t, .int .i64 i] ∧ Chg (fun j => j = s ∨ gP C j) wr w3 from ⟨hown3, ((HQ.out.alloc _).alloc _).trans (Chg.ofGrown (X := fun _ => False) hgrow3 (fun k hk => by cases hk)) (fun k hk => hk.elim)⟩)
      clear hown3 hgrow3
      go_wp2_with fail
      go_roundw
      case rel => exact ⟨1, by decide, ⟨fun e => (by cases e), fun _ => ⟨A3, k3, rfl, HE.out⟩⟩⟩
      case measure => show 1 - 1 < 1 - 0; decide
    | 1, _ =>
      obtain ⟨A, ca, rfl, hown, hc⟩ := hrel.out.2 rfl
      have HE := Lib.hid (And.intro hown hc)
      clear hrel hown hc
      go_wp2_with fail
      go_ret
      exact ⟨A, ca, rfl, HE.out⟩
theorem qdrain_one (s cc : Nat) (C : Option Addr) (k t i : Int) (w : World) (h : Qu w s C 1 cc [.int .u64 k, .int .u64 t, .int .i64 i]) :
    Calls Tryz.prog 87 #[.pointer (some ⟨s, 0, none⟩), .int .i64 1] w fun e w' => ∃ A ca, e = .returned (.slice A 1 ca) ∧ w'.ownsRow w.heap.size 165 3 (.slice A 1 ca) 1 [.int .u64 k, .int .u64 t, .int .i64 i] ∧ Chg (fun j => j = s ∨ gP C j) w w' := by
  have PT := Lib.hid (qtaken_one s cc C k t i w h)
  clear h
  go_enter Tryz.func87, Tryz.ntmps87
  go_wp2_with fail
  refine PT.out.mono ?_
  rintro e w2 ⟨A, ca, rfl, hown, hc⟩
  have HE := Lib.hid (And.intro hown hc)
  clear hown hc
  go_wp2_with fail
  go_ret
  exact ⟨A, ca, rfl, HE.out⟩
end Go.Proofs.YthlijfligikciaaGreat
