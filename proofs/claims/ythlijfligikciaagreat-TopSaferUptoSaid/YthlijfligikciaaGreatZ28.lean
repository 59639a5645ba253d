/- The fixed calls (paraventtop.seen) answer yes: walked. No condition. -/
import Derived.Test.YthlijfligikciaaGreatZ26
import Derived.Test.YthlijfligikciaaGreatZ27
namespace Go.Proofs.YthlijfligikciaaGreat
open Go.RowKit Go.Maps
set_option linter.unusedSimpArgs false
set_option linter.unusedVariables false
set_option maxRecDepth 4000

/-- The fixed rule. -/
def r15 : Rl := ⟨4, 255, 0, 7, 255, [⟨0, 0, 65535, 65535⟩], 15⟩
theorem mine15 {l : Nat} (h : l < 8) : mineR [r15] 0 0 l = [r15] := by
  have hb : forR r15 0 0 l = true := by
    match l, h with
    | 0, _ | 1, _ | 2, _ | 3, _ | 4, _ | 5, _ | 6, _ | 7, _ => decide
  have hf : List.filter (fun r => forR r 0 0 l) [r15] = [r15] := by
    simp only [List.filter, hb]
  exact hf
theorem zoom15 (x y : Int) : zoomF [r15] x y = 15 ∨ zoomF [r15] x y = 0 := by
  unfold zoomF foldZ
  simp only [List.foldl_cons, List.foldl_nil]
  unfold stepZ
  cases hasL r15.boxes x y with
  | true => left; decide
  | false => right; decide
theorem lev15 : ∀ xs, xs.Pairwise (· < ·) → LevL [r15] 0 0 8 xs → xs = [15] := fun xs hp hl => by
  have h15 : (15 : Int) ∈ xs := (hl 15).2 ⟨by decide, 0, by decide, 0, 0, by
    have := mine15 (l := 0) (by decide)
    rw [show ((0 : Nat) : Int) = 0 from rfl] at this ⊢
    rw [this]
    decide⟩
  have hall : ∀ z ∈ xs, z = 15 := fun z hz => by
    obtain ⟨h0, l, hl8, x, y, he⟩ := (hl z).1 hz
    rw [mine15 hl8] at he
    rcases zoom15 x y with h | h
    · rw [← he, h]
    · exact absurd (he.symm.trans h) h0
  match xs, hp, h15, hall with
  | [], _, h, _ => cases h
  | [a], _, _, h => rw [h a (by simp)]
  | a :: b :: r, hp, _, h =>
    have h1 := h a (by simp)
    have h2 := h b (by simp)
    have := (List.pairwise_cons.1 hp).1 b (by simp)
    omega
set_option maxHeartbeats 16000000 in
theorem seen_ok : SeenOk := fun w => by
  have PW := Lib.hid (fun (A : Option Addr) (P : Nat → Option Addr × Nat) (rb : Nat) (Y : World) (h : Rls Y Y.heap.size A [r15] P) (hPn : (P 0).1 ≠ none) (r0 : Y.cell? ⟨rb, 0, none⟩ = some (.int .i64 4)) (r1 : Y.cell? ⟨rb, 1, none⟩ = some (.int .i64 7)) (r2 : Y.cell? ⟨rb, 2, none⟩ = some (.int .i64 0)) (r3 : Y.cell? ⟨rb, 3, none⟩ = some (.int .i64 0)) => world_rec 1 1 1 rb A [r15] P 4 7 0 0 Y h rfl (by decide) (by decide) (fun i hi he => by match i, hi with | 0, _ => exact absurd he hPn) (by decide) (by decide) r0 r1 r2 r3 (by unfold wf64; decide) (by decide))
  have PG := Lib.hid (fun (Y : World) => wide_any Y)
  unfold wideG at PG
  go_enter Tryz.func5, Tryz.ntmps5
  go_wp2_with fail
  have hR : Rls (((w.alloc (.cells #[.int .i64 0, .int .i64 0, .int .i64 65535, .int .i64 65535] 24)).alloc (.cells #[.int .i64 4, .int .i64 255, .int .i64 0, .int .i64 7, .int .i64 255, .slice (some ⟨w.heap.size, 0, none⟩) 1 1, .int .i64 15] 65)).alloc (.cells #[.int .i64 4, .int .i64 7, .int .i64 0, .int .i64 0] 32)) ((((w.alloc (.cells #[.int .i64 0, .int .i64 0, .int .i64 65535, .int .i64 65535] 24)).alloc (.cells #[.int .i64 4, .int .i64 255, .int .i64 0, .int .i64 7, .int .i64 255, .slice (some ⟨w.heap.size, 0, none⟩) 1 1, .int .i64 15] 65)).alloc (.cells #[.int .i64 4, .int .i64 7, .int .i64 0, .int .i64 0] 32))).heap.size (some ⟨w.heap.size + 1, 0, none⟩) [r15] (fun _ => (some ⟨w.heap.size, 0, none⟩, 1)) := by
    refine ⟨fun _ => ⟨w.heap.size + 1, 0, rfl, by simp, fun i hi => ?_⟩, fun i hi => ?_, fun i hi => ?_⟩
    · match i, hi with
      | 0, _ => exact ⟨by go_simp; rfl, by go_simp; rfl, by go_simp; rfl, by go_simp; rfl, by go_simp; rfl, by go_simp; rfl, by go_simp; rfl⟩
    · match i, hi with
      | 0, _ =>
        refine fun _ => ⟨w.heap.size, 0, rfl, by simp; omega, fun i hi j hj => ?_⟩
        match i, hi with
        | 0, _ =>
          match j, hj with
          | 0, _ => go_simp; rfl
          | 1, _ => go_simp; rfl
          | 2, _ => go_simp; rfl
          | 3, _ => go_simp; rfl
    · match i, hi with
      | 0, _ => exact ⟨Nat.le_refl 1, by show (1 : Nat) ≤ 9223372036854775807; decide⟩
  refine (PW.out _ _ (w.heap.size + 1 + 1) _ hR (by simp) (by go_simp) (by go_simp) (by go_simp) (by go_simp)).mono ?_
  rintro e w' ⟨hb, q, qc, lo, qt, bt, s, C, cc, D, cd, bd, rfl, hT, hp, hr, hm, hqb, hbt⟩
  have hbw : Below w.heap.size w w' := (((Below.refl w.heap.size w).alloc (Nat.le_refl _) _).alloc (by simp) _ |>.alloc (by simp; omega) _).trans (hb.mono (by simp; omega))
  simp only [World.size_alloc] at hbt
  obtain ⟨X1, rfl⟩ : ∃ X : Later w.heap.size w, w' = X.w := ⟨⟨w', hbw⟩, rfl⟩
  have hs1 := hbw.size
  have HT := Lib.hid (And.intro hT (And.intro hp (And.intro hr (And.intro hm hqb))))
  clear hb hR hT hp hr hm hqb hbw
  go_wp2_with fail
  have hbtl := HT.out.1.ltb
  have HSS := Lib.hid (show ∀ W', Chg (fun j => j = bt) (X1.w.alloc (.cells #[.pointer (some ⟨q, 0, none⟩), .pointer (some ⟨qc, 0, none⟩), .pointer (some ⟨qt, 0, none⟩)] 38)) W' → (fun w' => w'.cell? ⟨X1.w.heap.size, 0, none⟩ = some (.pointer (some ⟨q, 0, none⟩)) ∧ w'.cell? ⟨X1.w.heap.size, 1, none⟩ = some (.pointer (some ⟨qc, 0, none⟩)) ∧ w'.cell? ⟨X1.w.heap.size, 2, none⟩ = some (.pointer (some ⟨qt, 0, none⟩))) W' from fun W' hc => by
    have hz : (X1.w.alloc (.cells #[.pointer (some ⟨q, 0, none⟩), .pointer (some ⟨qc, 0, none⟩), .pointer (some ⟨qt, 0, none⟩)] 38)).heap.size = X1.w.heap.size + 1 := by simp
    exact ⟨(hc.cell (p := ⟨X1.w.heap.size, 0, none⟩) (by rw [hz]; show X1.w.heap.size < _; omega) (by show ¬ X1.w.heap.size = bt; omega)).trans (by go_simp), (hc.cell (p := ⟨X1.w.heap.size, 1, none⟩) (by rw [hz]; show X1.w.heap.size < _; omega) (by show ¬ X1.w.heap.size = bt; omega)).trans (by go_simp), (hc.cell (p := ⟨X1.w.heap.size, 2, none⟩) (by rw [hz]; show X1.w.heap.size < _; omega) (by show ¬ X1.w.heap.size = bt; omega)).trans (by go_simp)⟩)
  have hcd : Chg (fun j => j = bt) (X1.w.alloc (.cells #[.pointer (some ⟨q, 0, none⟩), .pointer (some ⟨qc, 0, none⟩), .pointer (some ⟨qt, 0, none⟩)] 38)) (X1.w.alloc (.cells #[.pointer (some ⟨q, 0, none⟩), .pointer (some ⟨qc, 0, none⟩), .pointer (some ⟨qt, 0, none⟩)] 38)).drew := Chg.of (Below.drew (Below.refl _ _))
  have HS := HSS.out _ hcd
  refine wp_region_early (fun w' => w'.cell? ⟨X1.w.heap.size, 0, none⟩ = some (.pointer (some ⟨q, 0, none⟩)) ∧ w'.cell? ⟨X1.w.heap.size, 1, none⟩ = some (.pointer (some ⟨qc, 0, none⟩)) ∧ w'.cell? ⟨X1.w.heap.size, 2, none⟩ = some (.pointer (some ⟨qt, 0, none⟩))) (fun _ => true) (by kernel_rfl) HS (fun HS => ?_)
  (refine wpAnyE_take (i := 0) (v := ?_) rfl (by kernel_rfl) (by kernel_rfl) (by kernel_rfl) (by kernel_rfl) (fun _ _ _ h => h) (Or.inl ⟨by rfl, ?_⟩) HS ?_; rotate_left 1; (focus (intro w9 hSw; (try dsimp only at hSw); go_simp; all_goals (with_reducible rfl))); (try simp only [Act.put, List.setIfInBounds_toArray, List.set_cons_zero, List.set_cons_succ]))
  (refine wpAnyE_take (i := 3) (v := ?_) rfl (by kernel_rfl) (by kernel_rfl) (by kernel_rfl) (by kernel_rfl) (fun _ _ _ h => h) (Or.inl ⟨by rfl, ?_⟩) HS ?_; rotate_left 1; (focus (intro w9 hSw; (try dsimp only at hSw); go_simp; all_goals (with_reducible rfl))); (try simp only [Act.put, List.setIfInBounds_toArray, List.set_cons_zero, List.set_cons_succ]))
  refine wpAnyE_one (i := 1) rfl (by kernel_rfl) ?_
  go_wp2_with fail
  go_at_call 17
  refine (PG.out _).mono ?_
  rintro e Xq ⟨rfl, hbg⟩
  have hbq : Below X1.w.heap.size X1.w Xq := ((Below.refl X1.w.heap.size X1.w).alloc (Nat.le_refl _) (.cells #[.pointer (some ⟨q, 0, none⟩), .pointer (some ⟨qc, 0, none⟩), .pointer (some ⟨qt, 0, none⟩)] 38)).trans (((Below.drew (Below.refl (X1.w.alloc (.cells #[.pointer (some ⟨q, 0, none⟩), .pointer (some ⟨qc, 0, none⟩), .pointer (some ⟨qt, 0, none⟩)] 38)).heap.size _)).trans hbg).mono (by simp))
  have hcq : Chg (fun j => j = bt) (X1.w.alloc (.cells #[.pointer (some ⟨q, 0, none⟩), .pointer (some ⟨qc, 0, none⟩), .pointer (some ⟨qt, 0, none⟩)] 38)) Xq := hcd.trans (Chg.of (X := fun j => j = bt) hbg) (fun j hj => .inl hj)
  have HS := HSS.out _ hcq
  have HQ := Lib.hid (And.intro hbq hcq)
  clear hbg hbq hcq hcd
  go_wp2_with fail
  first | refine ⟨fun _ => HS, ?_⟩ | skip
  (refine wpAnyE_take (i := 2) (v := ?_) rfl (by kernel_rfl) (by kernel_rfl) (by kernel_rfl) (by kernel_rfl) (fun _ _ _ h => h) (Or.inl ⟨by rfl, ?_⟩) HS ?_; rotate_left 1; (focus (intro w9 hSw; (try dsimp only at hSw); go_simp; all_goals (with_reducible rfl))); (try simp only [Act.put, List.setIfInBounds_toArray, List.set_cons_zero, List.set_cons_succ]))
  refine wpAnyE_one (i := 4) rfl (by kernel_rfl) ?_
  have PN := Lib.hid (near_first lo qt bt 0 [r15] 0 0 4 7 0 0 15 wideG q qc s cc cd bd C D 6 0 15 Xq (HT.out.1.keep HQ.out.1) (by decide) (by decide) (by decide) (by decide) (by decide) (by decide) (by decide) (by decide) (by decide) (by decide) (HT.out.2.1.keep HQ.out.1) (own_keep HT.out.2.2.1 HQ.out.1) (HT.out.2.2.2.1.chg (X := fun _ => False) (Chg.of HQ.out.1) (fun e => e)) (by unfold wf64; decide) HT.out.2.2.2.2 lev15 (by decide))
  unfold wideG at PN
  go_wp2_with fail
  refine PN.out.mono ?_
  rintro e w4 ⟨A, ca, x0, y0, x1, y1, ⟨hx0, hy0, hx1, hy1⟩, rfl, hown, hc⟩
  obtain rfl : x0 = 6 := hx0.trans (by decide)
  obtain rfl : y0 = 0 := hy0.trans (by decide)
  obtain rfl : x1 = 7 := hx1.trans (by decide)
  obtain rfl : y1 = 1 := hy1.trans (by decide)
  have HS := HSS.out _ (HQ.out.2.trans hc (fun j hj => .inl hj))
  have hb4 : Below w.heap.size w w4 := X1.is.trans ((HQ.out.1.mono hs1).trans (hc.below (fun j hj => by have e' : j = bt := hj; omega) (by have := HQ.out.1.size; omega)))
  have HN := Lib.hid (And.intro hown hb4)
  clear hx0 hy0 hx1 hy1 hown hc hb4
  go_wp2_with fail
  first | refine ⟨fun _ => HS, ?_⟩ | skip
  (refine wpAnyE_take (i := 5) (v := ?_) rfl (by kernel_rfl) (by kernel_rfl) (by kernel_rfl) (by kernel_rfl) (fun _ _ _ h => h) (Or.inl ⟨by rfl, ?_⟩) HS ?_; rotate_left 1; (focus (intro w9 hSw; (try dsimp only at hSw); go_simp; all_goals (with_reducible rfl))); (try simp only [Act.put, List.setIfInBounds_toArray, List.set_cons_zero, List.set_cons_succ]))
  (refine wpAnyE_take (i := 6) (v := ?_) rfl (by kernel_rfl) (by kernel_rfl) (by kernel_rfl) (by kernel_rfl) (fun _ _ _ h => h) (Or.inl ⟨by rfl, ?_⟩) HS ?_; rotate_left 1; (focus (intro w9 hSw; (try dsimp only at hSw); go_simp; all_goals (with_reducible rfl))); (try simp only [Act.put, List.setIfInBounds_toArray, List.set_cons_zero, List.set_cons_succ]))
  (refine wpAnyE_take (i := 7) (v := ?_) rfl (by kernel_rfl) (by kernel_rfl) (by kernel_rfl) (by kernel_rfl) (fun _ _ _ h => h) (Or.inl ⟨by rfl, ?_⟩) HS ?_; rotate_left 1; (focus (intro w9 hSw; (try dsimp only at hSw); go_simp; all_goals (with_reducible rfl))); (try simp only [Act.put, List.setIfInBounds_toArray, List.set_cons_zero, List.set_cons_succ]))
  refine wpAnyE_one (i := 8) rfl (by kernel_rfl) ?_
  go_wp2_with fail
  first | refine ⟨fun _ => HS, ?_⟩ | skip
  refine wpAnyE_one (i := 9) rfl (by kernel_rfl) ?_
  go_wp2_with fail
  first | refine ⟨fun _ => HS, ?_⟩ | skip
  refine ⟨by kernel_rfl, ?_⟩
  go_wp2_with fail
  have hown5 := HN.out.1.alloc (.cells #[.int .i64 4, .int .i64 15, .int .i64 6, .int .i64 0, .int .i64 7, .int .i64 1] 48)
  obtain ⟨g, cap, hv, hlo, hgl⟩ := hown5.form (by omega)
  have hA : A = some ⟨g, 0, none⟩ := by injection hv
  subst hA
  have e0 := hown5.cells (g := g) rfl 0 _ rfl
  have e1 := hown5.cells (g := g) rfl 1 _ rfl
  have e2 := hown5.cells (g := g) rfl 2 _ rfl
  have e3 := hown5.cells (g := g) rfl 3 _ rfl
  have e4 := hown5.cells (g := g) rfl 4 _ rfl
  have e5 := hown5.cells (g := g) rfl 5 _ rfl
  rw [Addr.add_lit] at e0 e1 e2 e3 e4 e5
  have n1 : Sns (w4.alloc (.cells #[.int .i64 4, .int .i64 15, .int .i64 6, .int .i64 0, .int .i64 7, .int .i64 1] 48)) (w4.alloc (.cells #[.int .i64 4, .int .i64 15, .int .i64 6, .int .i64 0, .int .i64 7, .int .i64 1] 48)).heap.size (some ⟨g, 0, none⟩) [⟨4, 15, 6, 0, 7, 1⟩] := fun _ => ⟨g, 0, rfl, hgl, fun i hi => by
    match i, hi with
    | 0, _ => exact ⟨e0, e1, e2, e3, e4, e5⟩⟩
  have n2 : Sns (w4.alloc (.cells #[.int .i64 4, .int .i64 15, .int .i64 6, .int .i64 0, .int .i64 7, .int .i64 1] 48)) (w4.alloc (.cells #[.int .i64 4, .int .i64 15, .int .i64 6, .int .i64 0, .int .i64 7, .int .i64 1] 48)).heap.size (some ⟨w4.heap.size, 0, none⟩) [⟨4, 15, 6, 0, 7, 1⟩] := fun _ => ⟨w4.heap.size, 0, rfl, by simp, fun i hi => by
    match i, hi with
    | 0, _ => exact ⟨by go_simp, by go_simp, by go_simp, by go_simp, by go_simp, by go_simp⟩⟩
  have PS := same_any 1 1 ca 1 _ _ _ _ _ n1 n2 rfl rfl (by decide)
  rw [decide_eq_true (rfl : ([⟨4, 15, 6, 0, 7, 1⟩] : List Sn) = [⟨4, 15, 6, 0, 7, 1⟩])] at PS
  have HPS := Lib.hid PS
  have hb5 : Below w.heap.size w (w4.alloc (.cells #[.int .i64 4, .int .i64 15, .int .i64 6, .int .i64 0, .int .i64 7, .int .i64 1] 48)) := HN.out.2.alloc HN.out.2.size _
  have HB5 := Lib.hid hb5
  clear PS n1 n2 e0 e1 e2 e3 e4 e5 hown5 hv hb5
  refine HPS.out.mono ?_
  rintro e w6 ⟨rfl, hb6⟩
  have hb7 := HB5.out.trans (hb6.mono HB5.out.size)
  have H7 := Lib.hid hb7
  clear hb6 hb7
  go_wp2_with fail
  go_ret
  exact ⟨rfl, H7.out⟩
end Go.Proofs.YthlijfligikciaaGreat
