/- Tickets that came in: the program's From walked. No condition beyond what the row of tickets reads as. -/
import Derived.Test.YtjfgjlklbepnjaaTkW
import Derived.Test.YtjfgjlklbepnjaaTkV
namespace Go.Proofs.Ytjfgjlklbepnjaa
open Go.RowKit
set_option linter.unusedSimpArgs false
set_option linter.unusedVariables false
set_option maxRecDepth 4000

def FromPost (w : World) (L : List Tk) (e : Ending) (w' : World) : Prop :=
  ((AllT L ∧ ∃ q A' c', e = .returned (.tuple #[.pointer (some ⟨q, 0, none⟩), .int .i64 0]) ∧ w.heap.size ≤ q ∧ GTab w' q A' c' L) ∨ (¬ AllT L ∧ e = .returned (.tuple #[.pointer none, .int .i64 1]))) ∧ Below w.heap.size w w'
set_option maxHeartbeats 16000000 in
theorem from_any (n c : Nat) (C : Option Addr) (L : List Tk) (w : World) (h : Tks w w.heap.size C L) (hn : L.length = n) (hu : U64 L) :
    Calls Try.prog 30 #[.slice C n c] w (FromPost w L) := by
  obtain ⟨i0, hi, hz0, hz1, hz2⟩ := info_parts (show (Try.prog.info? 73).map (fun i => (i.zero, i.size, i.bytes)) = some (some (.agg #[.int .u64 (t0.s : Nat), .int .u64 (t0.p : Nat), .int .i64 t0.g.ops, .int .i64 t0.g.zoom, .int .i64 t0.g.a, .int .i64 t0.g.b, .int .i64 t0.g.c, .int .i64 t0.g.d, .bool t0.g.void, .int .i64 t0.g.til]), 10, 80) by kernel_rfl)
  have HT := Lib.hid h
  have HN := Lib.hid hn
  have HU := Lib.hid hu
  have P1 := Lib.hid at_any
  clear h hn hu
  by_cases h8 : 8 < n
  · go_enter Try.func30, Try.ntmps30
    go_wp2_with (first
      | (go_at_call 10; refine (tnew_any _).mono ?_; rintro e w1 ⟨rfl, hT, hb⟩; obtain ⟨X1, rfl⟩ : ∃ Z : Later w.heap.size w, w1 = Z.w := ⟨⟨w1, hb⟩, rfl⟩; clear hT hb))
    refine bodyPost_ret (by simp only [results, Try.results30]; go_simp; all_goals (first | rfl | simp [sel])) rfl ⟨.inr ⟨fun h => ?_, rfl⟩, ?_⟩
    · have := h.2; rw [HN.out] at this; omega
    · repeat' (first | (with_reducible exact Below.refl _ _) | (with_reducible assumption) | (with_reducible refine Later.step ?_ ?_ _) | (with_reducible refine Below.alloc ?_ ?_ _) | (with_reducible refine Below.drew ?_) | (with_reducible refine bel_drewN ?_ _) | (with_reducible refine bel_grown ?_ (by assumption) ?_ ?_) | (with_reducible refine Below.setCell ?_ ?_ _) | go_size)
  · have hn8 : n ≤ 8 := by omega
    go_enter Try.func30, Try.ntmps30
    go_wp2_with fail
    refine (tnew_any _).mono ?_
    rintro e w1 ⟨rfl, hT, hb⟩
    have HT1 := Lib.hid hT
    have hql := hT.tab.lt
    obtain ⟨X1, rfl⟩ : ∃ Z : Later w.heap.size w, w1 = Z.w := ⟨⟨w1, hb⟩, rfl⟩
    clear hT hb
    go_wp2_with fail
    go_loopw [13] (fun i wr => ∃ (k : Nat), i = .int .i64 k ∧ k ≤ n ∧ w.heap.size < wr.heap.size ∧ Hid (∃ A' c', GTab wr w.heap.size A' c' (L.take k)) ∧ Below w.heap.size w wr) (fun i _ => n - (intOf i).toNat)
    case atStart => exact ⟨0, rfl, by omega, by omega, ⟨none, 0, HT1.out⟩, by repeat' (first | (with_reducible exact Below.refl _ _) | (with_reducible assumption) | (with_reducible refine Later.step ?_ ?_ _) | (with_reducible refine Below.alloc ?_ ?_ _) | (with_reducible refine Below.drew ?_) | (with_reducible refine bel_drewN ?_ _) | (with_reducible refine bel_grown ?_ (by assumption) ?_ ?_) | (with_reducible refine Below.setCell ?_ ?_ _) | go_size)⟩
    case round =>
      obtain ⟨k, rfl, hk, hqs, hG, hbel⟩ := hrel
      obtain ⟨X, rfl⟩ : ∃ X : Later w.heap.size w, wr = X.w := ⟨⟨wr, hbel⟩, rfl⟩
      clear hbel
      by_cases hlt : k < n
      · obtain ⟨b, o, hA, hB, c0, d1, c2, c3, c4, c5, c6, c7, c8, c9⟩ := tks_at HT.out (i := k) (by rw [HN.out]; exact hlt)
        subst hA
        obtain ⟨A', c', hGT⟩ := hG.out
        have hux : (L.getD k t0).s < 18446744073709551616 ∧ (L.getD k t0).p < 18446744073709551616 := HU.out.at k
        obtain ⟨x, hx⟩ : ∃ x, L.getD k t0 = x := ⟨_, rfl⟩
        rw [hx] at c0 d1 c2 c3 c4 c5 c6 c7 c8 c9 hux
        obtain ⟨M, hM⟩ : ∃ M, L.take k = M := ⟨_, rfl⟩
        have hMk : M.length = k := by rw [← hM, List.length_take, HN.out]; omega
        have HM := Lib.hid (show L.take k = M ∧ M.length = k ∧ L.take (k + 1) = M ++ [x] from ⟨hM, hMk, by rw [take_snoc (by rw [HN.out]; exact hlt), hx, hM]⟩)
        rw [hM] at hGT
        have HG := Lib.hid hGT
        have hok : okT M x = !(decide (x.s = 0) || (findT M x.s).isSome || (decide (0 < x.p) && !(findT M x.p).isSome) || !rightG x.g) := rfl
        have p1 := fun (Y : World) (hY : Below X.w.heap.size X.w Y) => at_any w.heap.size c' A' M x.s Y (HG.out.keep hY).tab (by have := HG.out.len; omega) HG.out.u64 hux.1
        have p2 := fun (Y : World) (hY : Below X.w.heap.size X.w Y) => at_any w.heap.size c' A' M x.p Y (HG.out.keep hY).tab (by have := HG.out.len; omega) HG.out.u64 hux.2
        have p3 := tright_any x.g
        have hd1 := @idx_none M x.s
        have hd2 := @idx_none M x.p
        obtain ⟨i1, hi1⟩ : ∃ i1, idxT M x.s = i1 := ⟨_, rfl⟩
        obtain ⟨i2, hi2⟩ : ∃ i2, idxT M x.p = i2 := ⟨_, rfl⟩
        rw [hi1] at p1 hd1
        rw [hi2] at p2 hd2
        obtain ⟨e1, he1⟩ : ∃ e1, (findT M x.s).isSome = e1 := ⟨_, rfl⟩
        obtain ⟨e2, he2⟩ : ∃ e2, (findT M x.p).isSome = e2 := ⟨_, rfl⟩
        obtain ⟨r, hr⟩ : ∃ r, rightG x.g = r := ⟨_, rfl⟩
        have hj1 : decide (0 ≤ i1) = e1 := by
          rw [← he1, Bool.eq_iff_iff, decide_eq_true_eq, Option.isSome_iff_ne_none, ne_eq, ← hd1]; omega
        have hj2 : decide (i2 < 0) = !e2 := by
          rw [← he2, Bool.eq_iff_iff, decide_eq_true_eq, hd2]; simp
        rw [hr] at p3
        rw [he1, he2, hr] at hok
        obtain ⟨z, hz⟩ : ∃ z, ((x.s : Int) == 0) = z := ⟨_, rfl⟩
        obtain ⟨pb, hp2⟩ : ∃ pb, decide (0 < x.p) = pb := ⟨_, rfl⟩
        have hz2 : decide (x.s = 0) = z := by rw [← hz]; by_cases h0 : x.s = 0 <;> simp [h0]
        have hp3 : ((x.p : Int) != 0) = pb := by rw [← hp2, Bool.eq_iff_iff]; simp; omega
        rw [hz2, hp2] at hok
        have HOK2 := Lib.hid hok
        have HRF := Lib.hid (show okT M x = false → ¬ AllT L from fun h ha => by
          have h1 := good_at ha.1 (i := k) (by rw [HN.out]; exact hlt)
          rw [hx, hM] at h1
          rw [ok_iff.2 h1.2] at h
          cases h)
        have HNX := Lib.hid (show okT M x = true → GoodT (L.take (k + 1)) from fun h => by
          have h1 := ok_iff.1 h
          rw [HM.out.2.2]
          exact .snoc HG.out.good h1.1 h1.2.1 h1.2.2.1 h1.2.2.2)
        have PA := Lib.hid p1
        have PB := Lib.hid p2
        have PC := Lib.hid p3
        have HUX := Lib.hid hux
        clear p1 p2 p3 hok hd1 hd2 hi1 hi2 he1 he2 hr hz2 hp2 hux hGT hM hx hMk hG
        by_cases hokb : okT M x = true
        · have HOKB := Lib.hid hokb
          have hall : r = true ∧ z = false ∧ e1 = false ∧ (pb = false ∨ e2 = true) := by
            have h9 := HOK2.out
            rw [hokb] at h9
            revert h9
            cases r <;> cases z <;> cases e1 <;> cases pb <;> cases e2 <;> simp
          obtain ⟨rfl, rfl, rfl, hpe⟩ := hall
          clear hokb
          cases pb with
          | false =>
            clear hpe
            go_wp2_with (first
                        | (go_at_call 27; refine (PC.out _).mono ?_; rintro e w' ⟨rfl, hb⟩; obtain ⟨X3, rfl, hl3, hm3⟩ := later _ hb (Nat.le_refl _); clear hb; (try simp only [World.size_alloc, World.size_setCell, World.size_drew] at hm3 hl3))
                        | (go_at_call 34; with_reducible refine (PA.out _ ?_).mono ?_; (focus (repeat' (first | (with_reducible exact Below.refl _ _) | (with_reducible assumption) | (with_reducible refine Later.step ?_ ?_ _) | (with_reducible refine Below.alloc ?_ ?_ _) | (with_reducible refine Below.drew ?_) | (with_reducible refine bel_drewN ?_ _) | (with_reducible refine bel_grown ?_ (by assumption) ?_ ?_) | (with_reducible refine Below.setCell ?_ ?_ _) | go_size))); rintro e w' ⟨rfl, hb⟩; obtain ⟨X4, rfl, hl4, hm4⟩ := later _ hb (Nat.le_refl _); clear hb; (try simp only [World.size_alloc, World.size_setCell, World.size_drew] at hm4 hl4))
                        | (go_at_call 34; with_reducible refine (PB.out _ ?_).mono ?_; (focus (repeat' (first | (with_reducible exact Below.refl _ _) | (with_reducible assumption) | (with_reducible refine Later.step ?_ ?_ _) | (with_reducible refine Below.alloc ?_ ?_ _) | (with_reducible refine Below.drew ?_) | (with_reducible refine bel_drewN ?_ _) | (with_reducible refine bel_grown ?_ (by assumption) ?_ ?_) | (with_reducible refine Below.setCell ?_ ?_ _) | go_size))); rintro e w' ⟨rfl, hb⟩; obtain ⟨X5, rfl, hl5, hm5⟩ := later _ hb (Nat.le_refl _); clear hb; (try simp only [World.size_alloc, World.size_setCell, World.size_drew] at hm5 hl5)))
            have hbX : Below X.w.heap.size X.w X4.w := by repeat' (first | (with_reducible exact Below.refl _ _) | (with_reducible assumption) | (with_reducible refine Later.step ?_ ?_ _) | (with_reducible refine Below.alloc ?_ ?_ _) | (with_reducible refine Below.drew ?_) | (with_reducible refine bel_drewN ?_ _) | (with_reducible refine bel_grown ?_ (by assumption) ?_ ?_) | (with_reducible refine Below.setCell ?_ ?_ _) | go_size)
            have HGX := Lib.hid (HG.out.keep hbX)
            have hsx := hbX.size
            have cq0 := HGX.out.tab.cell
            rw [HM.out.2.1] at cq0
            have cq : X4.w.cell? ⟨w.heap.size, 0, none⟩ = some (.slice A' k c') := cq0
            have cz : X4.w.frozen? ⟨w.heap.size, 0, none⟩ = false := HGX.out.tab.fz
            have b0 : X4.w.cell? ⟨X.w.heap.size, 0, none⟩ = some (.int .u64 (x.s : Nat)) := by go_simp
            have b1 : X4.w.cell? ⟨X.w.heap.size, 1, none⟩ = some (.int .u64 (x.p : Nat)) := by go_simp
            have b2 : X4.w.cell? ⟨X.w.heap.size, 2, none⟩ = some (.int .i64 x.g.ops) := by go_simp
            have b3 : X4.w.cell? ⟨X.w.heap.size, 3, none⟩ = some (.int .i64 x.g.zoom) := by go_simp
            have b4 : X4.w.cell? ⟨X.w.heap.size, 4, none⟩ = some (.int .i64 x.g.a) := by go_simp
            have b5 : X4.w.cell? ⟨X.w.heap.size, 5, none⟩ = some (.int .i64 x.g.b) := by go_simp
            have b6 : X4.w.cell? ⟨X.w.heap.size, 6, none⟩ = some (.int .i64 x.g.c) := by go_simp
            have b7 : X4.w.cell? ⟨X.w.heap.size, 7, none⟩ = some (.int .i64 x.g.d) := by go_simp
            have b8 : X4.w.cell? ⟨X.w.heap.size, 8, none⟩ = some (.bool x.g.void) := by go_simp
            have b9 : X4.w.cell? ⟨X.w.heap.size, 9, none⟩ = some (.int .i64 x.g.til) := by go_simp
            have hbl : X.w.heap.size < X4.w.heap.size := by go_size
            have hown := HGX.out.tab.own
            rw [HM.out.2.1] at hown
            have hne : (Value.slice A' k c').ownBlock ≠ some X.w.heap.size := fun e => by
              have h9 := HG.out.tab.own
              rw [HM.out.2.1] at h9
              have := (h9.lt _ e).2
              omega
            have hnq : (Value.slice A' k c').ownBlock ≠ some w.heap.size := fun e => by
              have := (hown.lt _ e).1
              omega
            have HOW := Lib.hid hown
            clear hown cq0
            have hfz : ∀ o, (X4.w.alloc o).frozen? ⟨w.heap.size, 0, none⟩ = false := fun o => (((Below.refl X4.w.heap.size X4.w).alloc (Nat.le_refl _) o).frozen (p := ⟨w.heap.size, 0, none⟩) (by simp; omega)).trans cz
            refine wp_region_early (fun w' => w'.cell? ⟨w.heap.size, 0, none⟩ = some (.slice A' k c') ∧ w'.cell? ⟨X.w.heap.size, 0, none⟩ = some (.int .u64 (x.s : Nat)) ∧ w'.cell? ⟨X.w.heap.size, 1, none⟩ = some (.int .u64 (x.p : Nat)) ∧ w'.cell? ⟨X.w.heap.size, 2, none⟩ = some (.int .i64 x.g.ops) ∧ w'.cell? ⟨X.w.heap.size, 3, none⟩ = some (.int .i64 x.g.zoom) ∧ w'.cell? ⟨X.w.heap.size, 4, none⟩ = some (.int .i64 x.g.a) ∧ w'.cell? ⟨X.w.heap.size, 5, none⟩ = some (.int .i64 x.g.b) ∧ w'.cell? ⟨X.w.heap.size, 6, none⟩ = some (.int .i64 x.g.c) ∧ w'.cell? ⟨X.w.heap.size, 7, none⟩ = some (.int .i64 x.g.d) ∧ w'.cell? ⟨X.w.heap.size, 8, none⟩ = some (.bool x.g.void) ∧ w'.cell? ⟨X.w.heap.size, 9, none⟩ = some (.int .i64 x.g.til)) (fun j => decide (j < 8)) (by kernel_rfl) (by go_keep) (fun HS => ?_)
            (refine wpAnyE_take (i := 0) (v := ?_) rfl (by kernel_rfl) (by kernel_rfl) (by kernel_rfl) (by kernel_rfl) (fun _ _ _ h => h) (Or.inl ⟨by rfl, ?_⟩) HS ?_; rotate_left 1; (focus (intro w9 hSw; (try dsimp only at hSw); go_simp; all_goals (with_reducible rfl))); (try simp only [Act.put, List.setIfInBounds_toArray, List.set_cons_zero, List.set_cons_succ]))
            (refine wpAnyE_take (i := 1) (v := ?_) rfl (by kernel_rfl) (by kernel_rfl) (by kernel_rfl) (by kernel_rfl) (fun _ _ _ h => h) (Or.inl ⟨by rfl, ?_⟩) HS ?_; rotate_left 1; (focus (intro w9 hSw; (try dsimp only at hSw); go_simp; all_goals (with_reducible rfl))); (try simp only [Act.put, List.setIfInBounds_toArray, List.set_cons_zero, List.set_cons_succ]))
            (refine wpAnyE_take (i := 2) (v := ?_) rfl (by kernel_rfl) (by kernel_rfl) (by kernel_rfl) (by kernel_rfl) (fun _ _ _ h => h) (Or.inl ⟨by rfl, ?_⟩) HS ?_; rotate_left 1; (focus (intro w9 hSw; (try dsimp only at hSw); go_simp; all_goals (with_reducible rfl))); (try simp only [Act.put, List.setIfInBounds_toArray, List.set_cons_zero, List.set_cons_succ]))
            (refine wpAnyE_take (i := 3) (v := ?_) rfl (by kernel_rfl) (by kernel_rfl) (by kernel_rfl) (by kernel_rfl) (fun _ _ _ h => h) (Or.inl ⟨by rfl, ?_⟩) HS ?_; rotate_left 1; (focus (intro w9 hSw; (try dsimp only at hSw); go_simp; all_goals (with_reducible rfl))); (try simp only [Act.put, List.setIfInBounds_toArray, List.set_cons_zero, List.set_cons_succ]))
            (refine wpAnyE_take (i := 4) (v := ?_) rfl (by kernel_rfl) (by kernel_rfl) (by kernel_rfl) (by kernel_rfl) (fun _ _ _ h => h) (Or.inl ⟨by rfl, ?_⟩) HS ?_; rotate_left 1; (focus (intro w9 hSw; (try dsimp only at hSw); go_simp; all_goals (with_reducible rfl))); (try simp only [Act.put, List.setIfInBounds_toArray, List.set_cons_zero, List.set_cons_succ]))
            (refine wpAnyE_take (i := 5) (v := ?_) rfl (by kernel_rfl) (by kernel_rfl) (by kernel_rfl) (by kernel_rfl) (fun _ _ _ h => h) (Or.inl ⟨by rfl, ?_⟩) HS ?_; rotate_left 1; (focus (intro w9 hSw; (try dsimp only at hSw); go_simp; all_goals (with_reducible rfl))); (try simp only [Act.put, List.setIfInBounds_toArray, List.set_cons_zero, List.set_cons_succ]))
            refine wpAnyE_one (i := 6) rfl (by kernel_rfl) ?_
            go_wp2
            refine ⟨fun _ => by go_keep, ?_⟩
            refine wpAnyE_one (i := 7) rfl (by kernel_rfl) ?_
            refine wpList_append_lies _ rfl _ _ _ rfl (w.heap.size + 1) 73 i0 (.agg #[.int .u64 (t0.s : Nat), .int .u64 (t0.p : Nat), .int .i64 t0.g.ops, .int .i64 t0.g.zoom, .int .i64 t0.g.a, .int .i64 t0.g.b, .int .i64 t0.g.c, .int .i64 t0.g.d, .bool t0.g.void, .int .i64 t0.g.til]) 10 80 Try.underlying66 hi hz0 hz1 hz2 rfl (by omega) (.slice A' k c') k _ (by rfl) ((HOW.out.alloc _).drew) ⟨X4.w.heap.size, 0, none⟩ 1 1 [.int .u64 (x.s : Nat), .int .u64 (x.p : Nat), .int .i64 x.g.ops, .int .i64 x.g.zoom, .int .i64 x.g.a, .int .i64 x.g.b, .int .i64 x.g.c, .int .i64 x.g.d, .bool x.g.void, .int .i64 x.g.til] (by rfl) (by rfl) (World.news_of_block (cs := #[.int .u64 (x.s : Nat), .int .u64 (x.p : Nat), .int .i64 x.g.ops, .int .i64 x.g.zoom, .int .i64 x.g.a, .int .i64 x.g.b, .int .i64 x.g.c, .int .i64 x.g.d, .bool x.g.void, .int .i64 x.g.til]) (t := 73) (fr := (0, 0)) (heap_alloc_new X4.w _)) (by simp [Value.oneCell']) (by omega) (by unfold maxLen; omega) (by omega) (by simp; omega) (X4.w.heap.size + 1) (by simp) ?_
            intro gg cap w5 hown5 hgrow5 hat5 hlt5
            have y5 : w5.frozen? ⟨w.heap.size, 0, none⟩ = false := (hgrow5.frozen_far _ (by simp; omega) (Ne.symm hnq)).trans (hfz _)
            have d5 : w5.cell? ⟨w.heap.size, 0, none⟩ = some (.slice A' k c') := (hgrow5.cell_far _ (by simp; omega) (Ne.symm hnq)).trans (by go_keep)
            refine ⟨fun _ => ⟨d5, (hgrow5.cell_far _ (by simp; omega) (Ne.symm hne)).trans (by go_keep), (hgrow5.cell_far _ (by simp; omega) (Ne.symm hne)).trans (by go_keep), (hgrow5.cell_far _ (by simp; omega) (Ne.symm hne)).trans (by go_keep), (hgrow5.cell_far _ (by simp; omega) (Ne.symm hne)).trans (by go_keep), (hgrow5.cell_far _ (by simp; omega) (Ne.symm hne)).trans (by go_keep), (hgrow5.cell_far _ (by simp; omega) (Ne.symm hne)).trans (by go_keep), (hgrow5.cell_far _ (by simp; omega) (Ne.symm hne)).trans (by go_keep), (hgrow5.cell_far _ (by simp; omega) (Ne.symm hne)).trans (by go_keep), (hgrow5.cell_far _ (by simp; omega) (Ne.symm hne)).trans (by go_keep), (hgrow5.cell_far _ (by simp; omega) (Ne.symm hne)).trans (by go_keep)⟩, ?_⟩
            have HE := Lib.hid (tab_app (k := x) HGX.out.tab HM.out.2.1 (Below.drew (Below.alloc (Below.refl _ _) (Nat.le_refl _) _)) hgrow5 hown5 hat5 (by omega))
            have hb6 := (X.is.trans (hbX.mono (by omega))).trans ((HE.out.2.elder HGX.out.tab).mono (Nat.le_refl _))
            have hs6 := HE.out.2.size
            clear hgrow5 hown5 hat5
            refine wpAnyE_rest (k := 8) rfl (by kernel_rfl) (fun j hj => by simp; omega) ?_
            simp only [List.drop_succ_cons, List.drop_zero]
            go_wp2
            go_roundw
            case rel => exact ⟨k + 1, by go_num, by omega, by omega, ⟨_, _, by rw [HM.out.2.2]; exact ⟨HE.out.1, by rw [← HM.out.2.2]; exact HNX.out HOKB.out, by rw [List.length_append, HM.out.2.1]; simp; omega, u64_snoc HG.out.u64 HUX.out.1 HUX.out.2⟩⟩, hb6⟩
            case measure => simp [intOf]; omega
          | true =>
            obtain rfl : e2 = true := by rcases hpe with h | h; cases h; exact h
            clear hpe
            go_wp2_with (first
                        | (go_at_call 27; refine (PC.out _).mono ?_; rintro e w' ⟨rfl, hb⟩; obtain ⟨X3, rfl, hl3, hm3⟩ := later _ hb (Nat.le_refl _); clear hb; (try simp only [World.size_alloc, World.size_setCell, World.size_drew] at hm3 hl3))
                        | (go_at_call 34; with_reducible refine (PA.out _ ?_).mono ?_; (focus (repeat' (first | (with_reducible exact Below.refl _ _) | (with_reducible assumption) | (with_reducible refine Later.step ?_ ?_ _) | (with_reducible refine Below.alloc ?_ ?_ _) | (with_reducible refine Below.drew ?_) | (with_reducible refine bel_drewN ?_ _) | (with_reducible refine bel_grown ?_ (by assumption) ?_ ?_) | (with_reducible refine Below.setCell ?_ ?_ _) | go_size))); rintro e w' ⟨rfl, hb⟩; obtain ⟨X4, rfl, hl4, hm4⟩ := later _ hb (Nat.le_refl _); clear hb; (try simp only [World.size_alloc, World.size_setCell, World.size_drew] at hm4 hl4))
                        | (go_at_call 34; with_reducible refine (PB.out _ ?_).mono ?_; (focus (repeat' (first | (with_reducible exact Below.refl _ _) | (with_reducible assumption) | (with_reducible refine Later.step ?_ ?_ _) | (with_reducible refine Below.alloc ?_ ?_ _) | (with_reducible refine Below.drew ?_) | (with_reducible refine bel_drewN ?_ _) | (with_reducible refine bel_grown ?_ (by assumption) ?_ ?_) | (with_reducible refine Below.setCell ?_ ?_ _) | go_size))); rintro e w' ⟨rfl, hb⟩; obtain ⟨X5, rfl, hl5, hm5⟩ := later _ hb (Nat.le_refl _); clear hb; (try simp only [World.size_alloc, World.size_setCell, World.size_drew] at hm5 hl5)))
            have hbX : Below X.w.heap.size X.w X5.w := by repeat' (first | (with_reducible exact Below.refl _ _) | (with_reducible assumption) | (with_reducible refine Later.step ?_ ?_ _) | (with_reducible refine Below.alloc ?_ ?_ _) | (with_reducible refine Below.drew ?_) | (with_reducible refine bel_drewN ?_ _) | (with_reducible refine bel_grown ?_ (by assumption) ?_ ?_) | (with_reducible refine Below.setCell ?_ ?_ _) | go_size)
            have HGX := Lib.hid (HG.out.keep hbX)
            have hsx := hbX.size
            have cq0 := HGX.out.tab.cell
            rw [HM.out.2.1] at cq0
            have cq : X5.w.cell? ⟨w.heap.size, 0, none⟩ = some (.slice A' k c') := cq0
            have cz : X5.w.frozen? ⟨w.heap.size, 0, none⟩ = false := HGX.out.tab.fz
            have b0 : X5.w.cell? ⟨X.w.heap.size, 0, none⟩ = some (.int .u64 (x.s : Nat)) := by go_simp
            have b1 : X5.w.cell? ⟨X.w.heap.size, 1, none⟩ = some (.int .u64 (x.p : Nat)) := by go_simp
            have b2 : X5.w.cell? ⟨X.w.heap.size, 2, none⟩ = some (.int .i64 x.g.ops) := by go_simp
            have b3 : X5.w.cell? ⟨X.w.heap.size, 3, none⟩ = some (.int .i64 x.g.zoom) := by go_simp
            have b4 : X5.w.cell? ⟨X.w.heap.size, 4, none⟩ = some (.int .i64 x.g.a) := by go_simp
            have b5 : X5.w.cell? ⟨X.w.heap.size, 5, none⟩ = some (.int .i64 x.g.b) := by go_simp
            have b6 : X5.w.cell? ⟨X.w.heap.size, 6, none⟩ = some (.int .i64 x.g.c) := by go_simp
            have b7 : X5.w.cell? ⟨X.w.heap.size, 7, none⟩ = some (.int .i64 x.g.d) := by go_simp
            have b8 : X5.w.cell? ⟨X.w.heap.size, 8, none⟩ = some (.bool x.g.void) := by go_simp
            have b9 : X5.w.cell? ⟨X.w.heap.size, 9, none⟩ = some (.int .i64 x.g.til) := by go_simp
            have hbl : X.w.heap.size < X5.w.heap.size := by go_size
            have hown := HGX.out.tab.own
            rw [HM.out.2.1] at hown
            have hne : (Value.slice A' k c').ownBlock ≠ some X.w.heap.size := fun e => by
              have h9 := HG.out.tab.own
              rw [HM.out.2.1] at h9
              have := (h9.lt _ e).2
              omega
            have hnq : (Value.slice A' k c').ownBlock ≠ some w.heap.size := fun e => by
              have := (hown.lt _ e).1
              omega
            have HOW := Lib.hid hown
            clear hown cq0
            have hfz : ∀ o, (X5.w.alloc o).frozen? ⟨w.heap.size, 0, none⟩ = false := fun o => (((Below.refl X5.w.heap.size X5.w).alloc (Nat.le_refl _) o).frozen (p := ⟨w.heap.size, 0, none⟩) (by simp; omega)).trans cz
            refine wp_region_early (fun w' => w'.cell? ⟨w.heap.size, 0, none⟩ = some (.slice A' k c') ∧ w'.cell? ⟨X.w.heap.size, 0, none⟩ = some (.int .u64 (x.s : Nat)) ∧ w'.cell? ⟨X.w.heap.size, 1, none⟩ = some (.int .u64 (x.p : Nat)) ∧ w'.cell? ⟨X.w.heap.size, 2, none⟩ = some (.int .i64 x.g.ops) ∧ w'.cell? ⟨X.w.heap.size, 3, none⟩ = some (.int .i64 x.g.zoom) ∧ w'.cell? ⟨X.w.heap.size, 4, none⟩ = some (.int .i64 x.g.a) ∧ w'.cell? ⟨X.w.heap.size, 5, none⟩ = some (.int .i64 x.g.b) ∧ w'.cell? ⟨X.w.heap.size, 6, none⟩ = some (.int .i64 x.g.c) ∧ w'.cell? ⟨X.w.heap.size, 7, none⟩ = some (.int .i64 x.g.d) ∧ w'.cell? ⟨X.w.heap.size, 8, none⟩ = some (.bool x.g.void) ∧ w'.cell? ⟨X.w.heap.size, 9, none⟩ = some (.int .i64 x.g.til)) (fun j => decide (j < 8)) (by kernel_rfl) (by go_keep) (fun HS => ?_)
            (refine wpAnyE_take (i := 0) (v := ?_) rfl (by kernel_rfl) (by kernel_rfl) (by kernel_rfl) (by kernel_rfl) (fun _ _ _ h => h) (Or.inl ⟨by rfl, ?_⟩) HS ?_; rotate_left 1; (focus (intro w9 hSw; (try dsimp only at hSw); go_simp; all_goals (with_reducible rfl))); (try simp only [Act.put, List.setIfInBounds_toArray, List.set_cons_zero, List.set_cons_succ]))
            (refine wpAnyE_take (i := 1) (v := ?_) rfl (by kernel_rfl) (by kernel_rfl) (by kernel_rfl) (by kernel_rfl) (fun _ _ _ h => h) (Or.inl ⟨by rfl, ?_⟩) HS ?_; rotate_left 1; (focus (intro w9 hSw; (try dsimp only at hSw); go_simp; all_goals (with_reducible rfl))); (try simp only [Act.put, List.setIfInBounds_toArray, List.set_cons_zero, List.set_cons_succ]))
            (refine wpAnyE_take (i := 2) (v := ?_) rfl (by kernel_rfl) (by kernel_rfl) (by kernel_rfl) (by kernel_rfl) (fun _ _ _ h => h) (Or.inl ⟨by rfl, ?_⟩) HS ?_; rotate_left 1; (focus (intro w9 hSw; (try dsimp only at hSw); go_simp; all_goals (with_reducible rfl))); (try simp only [Act.put, List.setIfInBounds_toArray, List.set_cons_zero, List.set_cons_succ]))
            (refine wpAnyE_take (i := 3) (v := ?_) rfl (by kernel_rfl) (by kernel_rfl) (by kernel_rfl) (by kernel_rfl) (fun _ _ _ h => h) (Or.inl ⟨by rfl, ?_⟩) HS ?_; rotate_left 1; (focus (intro w9 hSw; (try dsimp only at hSw); go_simp; all_goals (with_reducible rfl))); (try simp only [Act.put, List.setIfInBounds_toArray, List.set_cons_zero, List.set_cons_succ]))
            (refine wpAnyE_take (i := 4) (v := ?_) rfl (by kernel_rfl) (by kernel_rfl) (by kernel_rfl) (by kernel_rfl) (fun _ _ _ h => h) (Or.inl ⟨by rfl, ?_⟩) HS ?_; rotate_left 1; (focus (intro w9 hSw; (try dsimp only at hSw); go_simp; all_goals (with_reducible rfl))); (try simp only [Act.put, List.setIfInBounds_toArray, List.set_cons_zero, List.set_cons_succ]))
            (refine wpAnyE_take (i := 5) (v := ?_) rfl (by kernel_rfl) (by kernel_rfl) (by kernel_rfl) (by kernel_rfl) (fun _ _ _ h => h) (Or.inl ⟨by rfl, ?_⟩) HS ?_; rotate_left 1; (focus (intro w9 hSw; (try dsimp only at hSw); go_simp; all_goals (with_reducible rfl))); (try simp only [Act.put, List.setIfInBounds_toArray, List.set_cons_zero, List.set_cons_succ]))
            refine wpAnyE_one (i := 6) rfl (by kernel_rfl) ?_
            go_wp2
            refine ⟨fun _ => by go_keep, ?_⟩
            refine wpAnyE_one (i := 7) rfl (by kernel_rfl) ?_
            refine wpList_append_lies _ rfl _ _ _ rfl (w.heap.size + 1) 73 i0 (.agg #[.int .u64 (t0.s : Nat), .int .u64 (t0.p : Nat), .int .i64 t0.g.ops, .int .i64 t0.g.zoom, .int .i64 t0.g.a, .int .i64 t0.g.b, .int .i64 t0.g.c, .int .i64 t0.g.d, .bool t0.g.void, .int .i64 t0.g.til]) 10 80 Try.underlying66 hi hz0 hz1 hz2 rfl (by omega) (.slice A' k c') k _ (by rfl) ((HOW.out.alloc _).drew) ⟨X5.w.heap.size, 0, none⟩ 1 1 [.int .u64 (x.s : Nat), .int .u64 (x.p : Nat), .int .i64 x.g.ops, .int .i64 x.g.zoom, .int .i64 x.g.a, .int .i64 x.g.b, .int .i64 x.g.c, .int .i64 x.g.d, .bool x.g.void, .int .i64 x.g.til] (by rfl) (by rfl) (World.news_of_block (cs := #[.int .u64 (x.s : Nat), .int .u64 (x.p : Nat), .int .i64 x.g.ops, .int .i64 x.g.zoom, .int .i64 x.g.a, .int .i64 x.g.b, .int .i64 x.g.c, .int .i64 x.g.d, .bool x.g.void, .int .i64 x.g.til]) (t := 73) (fr := (0, 0)) (heap_alloc_new X5.w _)) (by simp [Value.oneCell']) (by omega) (by unfold maxLen; omega) (by omega) (by simp; omega) (X5.w.heap.size + 1) (by simp) ?_
            intro gg cap w5 hown5 hgrow5 hat5 hlt5
            have y5 : w5.frozen? ⟨w.heap.size, 0, none⟩ = false := (hgrow5.frozen_far _ (by simp; omega) (Ne.symm hnq)).trans (hfz _)
            have d5 : w5.cell? ⟨w.heap.size, 0, none⟩ = some (.slice A' k c') := (hgrow5.cell_far _ (by simp; omega) (Ne.symm hnq)).trans (by go_keep)
            refine ⟨fun _ => ⟨d5, (hgrow5.cell_far _ (by simp; omega) (Ne.symm hne)).trans (by go_keep), (hgrow5.cell_far _ (by simp; omega) (Ne.symm hne)).trans (by go_keep), (hgrow5.cell_far _ (by simp; omega) (Ne.symm hne)).trans (by go_keep), (hgrow5.cell_far _ (by simp; omega) (Ne.symm hne)).trans (by go_keep), (hgrow5.cell_far _ (by simp; omega) (Ne.symm hne)).trans (by go_keep), (hgrow5.cell_far _ (by simp; omega) (Ne.symm hne)).trans (by go_keep), (hgrow5.cell_far _ (by simp; omega) (Ne.symm hne)).trans (by go_keep), (hgrow5.cell_far _ (by simp; omega) (Ne.symm hne)).trans (by go_keep), (hgrow5.cell_far _ (by simp; omega) (Ne.symm hne)).trans (by go_keep), (hgrow5.cell_far _ (by simp; omega) (Ne.symm hne)).trans (by go_keep)⟩, ?_⟩
            have HE := Lib.hid (tab_app (k := x) HGX.out.tab HM.out.2.1 (Below.drew (Below.alloc (Below.refl _ _) (Nat.le_refl _) _)) hgrow5 hown5 hat5 (by omega))
            have hb6 := (X.is.trans (hbX.mono (by omega))).trans ((HE.out.2.elder HGX.out.tab).mono (Nat.le_refl _))
            have hs6 := HE.out.2.size
            clear hgrow5 hown5 hat5
            refine wpAnyE_rest (k := 8) rfl (by kernel_rfl) (fun j hj => by simp; omega) ?_
            simp only [List.drop_succ_cons, List.drop_zero]
            go_wp2
            go_roundw
            case rel => exact ⟨k + 1, by go_num, by omega, by omega, ⟨_, _, by rw [HM.out.2.2]; exact ⟨HE.out.1, by rw [← HM.out.2.2]; exact HNX.out HOKB.out, by rw [List.length_append, HM.out.2.1]; simp; omega, u64_snoc HG.out.u64 HUX.out.1 HUX.out.2⟩⟩, hb6⟩
            case measure => simp [intOf]; omega
        · have HF := Lib.hid (HRF.out (by simpa using hokb))
          have HOKF := Lib.hid (by simpa using hokb : okT M x = false)
          clear hokb
          cases r <;> cases z <;> cases e1 <;> cases pb <;> cases e2
          all_goals
            first
              | (exact absurd (HOK2.out.symm.trans HOKF.out) (by decide))
              | (go_wp2_with (first
                   | (go_at_call 27; refine (PC.out _).mono ?_; rintro e w' ⟨rfl, hb⟩; obtain ⟨X3, rfl, hl3, hm3⟩ := later _ hb (Nat.le_refl _); clear hb; (try simp only [World.size_alloc, World.size_setCell, World.size_drew] at hm3 hl3))
                   | (go_at_call 34; with_reducible refine (PA.out _ ?_).mono ?_; (focus (repeat' (first | (with_reducible exact Below.refl _ _) | (with_reducible assumption) | (with_reducible refine Later.step ?_ ?_ _) | (with_reducible refine Below.alloc ?_ ?_ _) | (with_reducible refine Below.drew ?_) | (with_reducible refine bel_drewN ?_ _) | (with_reducible refine bel_grown ?_ (by assumption) ?_ ?_) | (with_reducible refine Below.setCell ?_ ?_ _) | go_size))); rintro e w' ⟨rfl, hb⟩; obtain ⟨X4, rfl, hl4, hm4⟩ := later _ hb (Nat.le_refl _); clear hb; (try simp only [World.size_alloc, World.size_setCell, World.size_drew] at hm4 hl4))
                   | (go_at_call 34; with_reducible refine (PB.out _ ?_).mono ?_; (focus (repeat' (first | (with_reducible exact Below.refl _ _) | (with_reducible assumption) | (with_reducible refine Later.step ?_ ?_ _) | (with_reducible refine Below.alloc ?_ ?_ _) | (with_reducible refine Below.drew ?_) | (with_reducible refine bel_drewN ?_ _) | (with_reducible refine bel_grown ?_ (by assumption) ?_ ?_) | (with_reducible refine Below.setCell ?_ ?_ _) | go_size))); rintro e w' ⟨rfl, hb⟩; obtain ⟨X5, rfl, hl5, hm5⟩ := later _ hb (Nat.le_refl _); clear hb; (try simp only [World.size_alloc, World.size_setCell, World.size_drew] at hm5 hl5)))
                 refine bodyPost_ret (by simp only [results, Try.results30]; go_simp; all_goals (first | rfl | simp [sel])) rfl ⟨.inr ⟨HF.out, rfl⟩, ?_⟩
                 repeat' (first | (with_reducible exact Below.refl _ _) | (with_reducible assumption) | (with_reducible refine Later.step ?_ ?_ _) | (with_reducible refine Below.alloc ?_ ?_ _) | (with_reducible refine Below.drew ?_) | (with_reducible refine bel_drewN ?_ _) | (with_reducible refine bel_grown ?_ (by assumption) ?_ ?_) | (with_reducible refine Below.setCell ?_ ?_ _) | go_size))
      · obtain rfl : k = n := by omega
        obtain ⟨A', c', hGT⟩ := hG.out
        have HG := Lib.hid hGT
        have HAL := Lib.hid (show AllT L ∧ L.take k = L from by
          have e : L.take k = L := by rw [← HN.out, List.take_length]
          rw [e] at hGT
          exact ⟨⟨hGT.good, hGT.len⟩, e⟩)
        clear hGT hG
        go_wp2_with fail
        refine bodyPost_ret (by simp only [results, Try.results30]; go_simp; all_goals (first | rfl | simp [sel])) rfl ⟨.inl ⟨HAL.out.1, _, A', c', rfl, Nat.le_refl _, ?_⟩, by repeat' (first | (with_reducible exact Below.refl _ _) | (with_reducible assumption) | (with_reducible refine Later.step ?_ ?_ _) | (with_reducible refine Below.alloc ?_ ?_ _) | (with_reducible refine Below.drew ?_) | (with_reducible refine bel_drewN ?_ _) | (with_reducible refine bel_grown ?_ (by assumption) ?_ ?_) | (with_reducible refine Below.setCell ?_ ?_ _) | go_size)⟩
        have h9 := HG.out
        rw [HAL.out.2] at h9
        exact h9.keep (by repeat' (first | (with_reducible exact Below.refl _ _) | (with_reducible assumption) | (with_reducible refine Later.step ?_ ?_ _) | (with_reducible refine Below.alloc ?_ ?_ _) | (with_reducible refine Below.drew ?_) | (with_reducible refine bel_drewN ?_ _) | (with_reducible refine bel_grown ?_ (by assumption) ?_ ?_) | (with_reducible refine Below.setCell ?_ ?_ _) | go_size))
end Go.Proofs.Ytjfgjlklbepnjaa
