/- Tickets in a row: the document's functions Find, Grants, under, Same walked. No condition beyond what the row reads as. -/
import Derived.Test.YtjfgjlklbepnjaaTkR
import Derived.BigQuiet
namespace Go.Proofs.Ytjfgjlklbepnjaa
open Go.RowKit
set_option linter.unusedSimpArgs false
set_option linter.unusedVariables false
set_option maxRecDepth 2000

/-- One ticket of a row. -/
theorem tks_at {w : World} {B i : Nat} {C : Option Addr} {L : List Tk} (h : Tks w B C L) (hi : i < L.length) : ∃ b o, C = some ⟨b, o, none⟩ ∧ b < B ∧ w.cell? ⟨b, o + i * 10, none⟩ = some (.int .u64 ((L.getD i t0).s : Nat)) ∧ w.cell? ⟨b, o + i * 10 + 1, none⟩ = some (.int .u64 ((L.getD i t0).p : Nat)) ∧ w.cell? ⟨b, o + i * 10 + 2, none⟩ = some (.int .i64 (L.getD i t0).g.ops) ∧ w.cell? ⟨b, o + i * 10 + 3, none⟩ = some (.int .i64 (L.getD i t0).g.zoom) ∧ w.cell? ⟨b, o + i * 10 + 4, none⟩ = some (.int .i64 (L.getD i t0).g.a) ∧ w.cell? ⟨b, o + i * 10 + 5, none⟩ = some (.int .i64 (L.getD i t0).g.b) ∧ w.cell? ⟨b, o + i * 10 + 6, none⟩ = some (.int .i64 (L.getD i t0).g.c) ∧ w.cell? ⟨b, o + i * 10 + 7, none⟩ = some (.int .i64 (L.getD i t0).g.d) ∧ w.cell? ⟨b, o + i * 10 + 8, none⟩ = some (.bool (L.getD i t0).g.void) ∧ w.cell? ⟨b, o + i * 10 + 9, none⟩ = some (.int .i64 (L.getD i t0).g.til) := by
  obtain ⟨b, o, hA, hb, hc⟩ := h (by omega)
  have hk := hc i hi
  exact ⟨b, o, hA, hb, hk 0 (by decide), hk 1 (by decide), hk 2 (by decide), hk 3 (by decide), hk 4 (by decide), hk 5 (by decide), hk 6 (by decide), hk 7 (by decide), hk 8 (by decide), hk 9 (by decide)⟩
section
variable {w : World} {b : Nat} {F : Nat → Value}
theorem fz_ten (h : CellsAt w b 10 F) : w.frozen? ⟨b, 0, none⟩ = false ∧ w.frozen? ⟨b, 1, none⟩ = false ∧ w.frozen? ⟨b, 2, none⟩ = false ∧ w.frozen? ⟨b, 3, none⟩ = false ∧ w.frozen? ⟨b, 4, none⟩ = false ∧ w.frozen? ⟨b, 5, none⟩ = false ∧ w.frozen? ⟨b, 6, none⟩ = false ∧ w.frozen? ⟨b, 7, none⟩ = false ∧ w.frozen? ⟨b, 8, none⟩ = false ∧ w.frozen? ⟨b, 9, none⟩ = false :=
  ⟨(h.2 0 (by decide)).2, (h.2 1 (by decide)).2, (h.2 2 (by decide)).2, (h.2 3 (by decide)).2, (h.2 4 (by decide)).2, (h.2 5 (by decide)).2, (h.2 6 (by decide)).2, (h.2 7 (by decide)).2, (h.2 8 (by decide)).2, (h.2 9 (by decide)).2⟩
theorem fz_eight (h : CellsAt w b 8 F) : w.frozen? ⟨b, 0, none⟩ = false ∧ w.frozen? ⟨b, 1, none⟩ = false ∧ w.frozen? ⟨b, 2, none⟩ = false ∧ w.frozen? ⟨b, 3, none⟩ = false ∧ w.frozen? ⟨b, 4, none⟩ = false ∧ w.frozen? ⟨b, 5, none⟩ = false ∧ w.frozen? ⟨b, 6, none⟩ = false ∧ w.frozen? ⟨b, 7, none⟩ = false :=
  ⟨(h.2 0 (by decide)).2, (h.2 1 (by decide)).2, (h.2 2 (by decide)).2, (h.2 3 (by decide)).2, (h.2 4 (by decide)).2, (h.2 5 (by decide)).2, (h.2 6 (by decide)).2, (h.2 7 (by decide)).2⟩
theorem cv_eight (h : CellsAt w b 8 F) : w.cell? ⟨b, 0, none⟩ = some (F 0) ∧ w.cell? ⟨b, 1, none⟩ = some (F 1) ∧ w.cell? ⟨b, 2, none⟩ = some (F 2) ∧ w.cell? ⟨b, 3, none⟩ = some (F 3) ∧ w.cell? ⟨b, 4, none⟩ = some (F 4) ∧ w.cell? ⟨b, 5, none⟩ = some (F 5) ∧ w.cell? ⟨b, 6, none⟩ = some (F 6) ∧ w.cell? ⟨b, 7, none⟩ = some (F 7) :=
  ⟨(h.2 0 (by decide)).1, (h.2 1 (by decide)).1, (h.2 2 (by decide)).1, (h.2 3 (by decide)).1, (h.2 4 (by decide)).1, (h.2 5 (by decide)).1, (h.2 6 (by decide)).1, (h.2 7 (by decide)).1⟩
end
/-- The ticket that is found; one that is none. -/
def fndT (L : List Tk) (s : Nat) : Tk := (findT L s).getD t0
theorem find_at {L : List Tk} {k s : Nat} (h : k < L.length) (hall : ∀ j, j < k → (L.getD j t0).s ≠ s) (he : (L.getD k t0).s = s) (h0 : s ≠ 0) : findT L s = some (L.getD k t0) := by
  unfold findT
  rw [if_neg h0, List.find?_eq_some_iff_getElem]
  refine ⟨by simpa using he, k, h, (getD_lt h).symm, fun j hj => ?_⟩
  have := hall j hj
  rw [getD_lt (by omega)] at this
  simpa using this
theorem find_no {L : List Tk} {s : Nat} (hall : ∀ j, j < L.length → (L.getD j t0).s ≠ s) : findT L s = none := by
  unfold findT
  split
  · rfl
  · rw [List.find?_eq_none]
    intro k hk
    obtain ⟨i, hi, rfl⟩ := List.mem_iff_getElem.1 hk
    have := hall i hi
    rw [getD_lt hi] at this
    simpa using this
set_option maxHeartbeats 8000000 in
theorem kfind_any (n c : Nat) (C : Option Addr) (L : List Tk) (s : Nat) (w : World) (h : Tks w w.heap.size C L) (hn : L.length = n) (hn1 : n ≤ 1000000000) :
    Calls Try.prog 12 #[.slice C n c, .int .u64 (s : Nat)] w fun e w' => e = .returned (.tuple #[.agg #[.int .u64 ((fndT L s).s : Nat), .int .u64 ((fndT L s).p : Nat), .int .i64 ((fndT L s).g).ops, .int .i64 ((fndT L s).g).zoom, .int .i64 ((fndT L s).g).a, .int .i64 ((fndT L s).g).b, .int .i64 ((fndT L s).g).c, .int .i64 ((fndT L s).g).d, .bool ((fndT L s).g).void, .int .i64 ((fndT L s).g).til], .bool (findT L s).isSome]) ∧ Below w.heap.size w w' := by
  have HA := Lib.hid h
  have HN := Lib.hid hn
  clear h hn
  unfold fndT
  obtain ⟨R, hR⟩ : ∃ R, findT L s = R := ⟨_, rfl⟩
  rw [hR]
  have HR := Lib.hid hR
  clear hR
  by_cases hz : s = 0
  · subst hz
    obtain rfl : R = none := by rw [← HR.out]; exact find_zero L
    go_enter Try.func12, Try.ntmps12
    go_wp2
    go_loop [6] (fun i => ∃ k : Nat, k = 0 ∧ i = .int .i64 k) (fun i => 1)
    case atStart => exact ⟨0, rfl, rfl⟩
    case round =>
      obtain ⟨k, rfl, rfl⟩ := hrel
      have hcase : 0 < n ∨ n = 0 := by omega
      rcases hcase with h | h
      all_goals
        go_wp2
        refine bodyPost_ret (by simp only [results, Try.results12]; go_simp; all_goals (first | rfl | simp [sel, t0, g0])) rfl ⟨rfl, ?_⟩
        repeat' (first | (with_reducible exact Below.refl _ _) | (with_reducible assumption) | (with_reducible refine Later.step ?_ ?_ _) | (with_reducible refine Below.alloc ?_ ?_ _) | (with_reducible refine Below.drew ?_) | (with_reducible refine Below.setCell ?_ ?_ _) | go_size)
  · have hs0 : (0 : Int) < (s : Int) := by omega
    go_enter Try.func12, Try.ntmps12
    go_wp2
    go_loop [6] (fun i => ∃ k : Nat, (k ≤ n ∧ Hid (∀ j, j < k → (L.getD j t0).s ≠ s)) ∧ i = .int .i64 k) (fun i => n - (intOf i).toNat)
    case atStart => exact ⟨0, ⟨Nat.zero_le _, fun j hj => absurd hj (by omega)⟩, rfl⟩
    case round =>
      obtain ⟨k, ⟨hk, hall⟩, rfl⟩ := hrel
      by_cases hlt : k < n
      · obtain ⟨b, o, hA, hB, c0, c1, c2, c3, c4, c5, c6, c7, c8, c9⟩ := tks_at HA.out (i := k) (by rw [HN.out]; exact hlt)
        subst hA
        have hat : (L.getD k t0).s = s → R = some (L.getD k t0) := fun he => by rw [← HR.out]; exact find_at (by rw [HN.out]; exact hlt) hall.out he hz
        have hnx : (L.getD k t0).s ≠ s → ∀ j, j < k + 1 → (L.getD j t0).s ≠ s := fun he j hj => by
          rcases Nat.lt_or_eq_of_le (Nat.le_of_lt_succ hj) with h | rfl
          · exact hall.out j h
          · exact he
        obtain ⟨x, hx⟩ : ∃ x, L.getD k t0 = x := ⟨_, rfl⟩
        rw [hx] at c0 c1 c2 c3 c4 c5 c6 c7 c8 c9 hat hnx
        by_cases he : x.s = s
        · obtain rfl : R = some x := hat he
          rw [he] at c0
          have HE := Lib.hid he
          clear hat hnx hx he
          go_wp2
          refine bodyPost_ret (by simp only [results, Try.results12]; go_simp; all_goals (first | rfl | simp [sel, HE.out])) rfl ⟨rfl, ?_⟩
          repeat' (first | (with_reducible exact Below.refl _ _) | (with_reducible assumption) | (with_reducible refine Later.step ?_ ?_ _) | (with_reducible refine Below.alloc ?_ ?_ _) | (with_reducible refine Below.drew ?_) | (with_reducible refine Below.setCell ?_ ?_ _) | go_size)
        · have he' : ((x.s : Int) == (s : Int)) = false := by rw [beq_eq_false_iff_ne]; omega
          have HNX := Lib.hid (hnx he)
          have HX := Lib.hid hx
          clear hat hnx hx he
          go_wp2
          go_round
          case rel => exact ⟨k + 1, ⟨by omega, HNX.out⟩, by go_num⟩
          case measure => simp [intOf]; omega
      · obtain rfl : k = n := by omega
        obtain rfl : R = none := by rw [← HR.out]; exact find_no (by rw [HN.out]; exact hall.out)
        go_wp2
        refine bodyPost_ret (by simp only [results, Try.results12]; go_simp; all_goals (first | rfl | simp [sel, t0, g0])) rfl ⟨rfl, ?_⟩
        repeat' (first | (with_reducible exact Below.refl _ _) | (with_reducible assumption) | (with_reducible refine Later.step ?_ ?_ _) | (with_reducible refine Below.alloc ?_ ?_ _) | (with_reducible refine Below.drew ?_) | (with_reducible refine Below.setCell ?_ ?_ _) | go_size)
set_option maxHeartbeats 8000000 in
theorem kgrants_any (n c : Nat) (C : Option Addr) (L : List Tk) (k : Tk) (w : World) (h : Tks w w.heap.size C L) (hn : L.length = n) (hn1 : n ≤ 1000000000) (hg : GoodT L) (hr : rightG k.g = true) :
    Calls Try.prog 19 #[.slice C n c, .agg #[.int .u64 (k.s : Nat), .int .u64 (k.p : Nat), .int .i64 k.g.ops, .int .i64 k.g.zoom, .int .i64 k.g.a, .int .i64 k.g.b, .int .i64 k.g.c, .int .i64 k.g.d, .bool k.g.void, .int .i64 k.g.til]] w fun e w' => e = .returned (.agg #[.int .i64 (grantsT L k).ops, .int .i64 (grantsT L k).zoom, .int .i64 (grantsT L k).a, .int .i64 (grantsT L k).b, .int .i64 (grantsT L k).c, .int .i64 (grantsT L k).d, .bool (grantsT L k).void, .int .i64 (grantsT L k).til]) ∧ Below w.heap.size w w' := by
  have P1 := Lib.hid (fun (s : Nat) (Y : World) (hY : Below w.heap.size w Y) => kfind_any n c C L s Y ((h.keep hY).more hY.size) hn hn1)
  obtain ⟨R, hR⟩ : ∃ R, grantsT L k = R := ⟨_, rfl⟩
  have HR := Lib.hid (show climb L n k.g k.p = R by rw [← hR, ← hn]; rfl)
  rw [hR]
  have HG := Lib.hid hg
  have HK := Lib.hid hr
  clear h hn hg hr hR
  go_enter Try.func19, Try.ntmps19
  go_wp2_with fail
  refine (P1.out _ _ (by repeat' (first | (with_reducible exact Below.refl _ _) | (with_reducible assumption) | (with_reducible refine Later.step ?_ ?_ _) | (with_reducible refine Below.alloc ?_ ?_ _) | (with_reducible refine Below.drew ?_) | (with_reducible refine bel_drewN ?_ _) | (with_reducible refine bel_grown ?_ (by assumption) ?_ ?_) | (with_reducible refine Below.setCell ?_ ?_ _) | go_size))).mono ?_
  rintro e w' ⟨rfl, hb⟩; obtain ⟨X1, rfl, hl1, hm1⟩ := later _ hb (Nat.le_refl _); clear hb; (try simp only [World.size_alloc, World.size_setCell, World.size_drew] at hm1 hl1)
  go_wp2_with fail
  go_loopw [7, 8] (fun ok i wr => ∃ (m p : Nat) (G : Gr), m ≤ n ∧ i = .int .i64 m ∧ ok = .bool (findT L p).isSome ∧ Hid (climb L (n - m) G p = R ∧ rightG G = true) ∧ CellsAt wr X1.w.heap.size 10 (tkC (fndT L p)) ∧ CellsAt wr (w.heap.size + 2) 8 (grC G) ∧ HasC wr (w.heap.size + 1) 8 ∧ Below w.heap.size w wr ∧ X1.w.heap.size < wr.heap.size) (fun _ i _ => n - (intOf i).toNat)
  case atStart =>
    refine ⟨0, k.p, k.g, by omega, rfl, rfl, ⟨by rw [Nat.sub_zero]; exact HR.out, HK.out⟩, ?_, ?_, ?_, by repeat' (first | (with_reducible exact Below.refl _ _) | (with_reducible assumption) | (with_reducible refine Later.step ?_ ?_ _) | (with_reducible refine Below.alloc ?_ ?_ _) | (with_reducible refine Below.drew ?_) | (with_reducible refine bel_drewN ?_ _) | (with_reducible refine bel_grown ?_ (by assumption) ?_ ?_) | (with_reducible refine Below.setCell ?_ ?_ _) | go_size), by simp⟩
    all_goals repeat' (first | (with_reducible assumption) | (with_reducible exact HasC.of (by assumption)) | (with_reducible refine grc_set ?_) | (with_reducible refine tkc_set ?_) | (with_reducible refine grc_new ?_; focus (simp; done)) | (with_reducible refine tkc_new ?_; focus (simp; done)) | (with_reducible refine hasC_new rfl ?_; focus (simp; done)) | (with_reducible refine CellsAt.alloc ?_ _) | (with_reducible refine CellsAt.other ?_ ?_ _) | (with_reducible refine CellsAt.later _ ?_) | (with_reducible refine CellsAt.drew ?_) | (with_reducible refine HasC.drew ?_) | (with_reducible refine HasC.alloc ?_ _) | (with_reducible refine HasC.other ?_ ?_ _) | (with_reducible refine HasC.later _ ?_) | (focus (dsimp only; omega)))
  case round =>
    obtain ⟨m, p, G, hm, rfl, rfl, hH, hK, hG, ⟨F, hC⟩, hb, hs⟩ := hrel
    obtain ⟨g0, g1, g2, g3, g4, g5, g6, g7⟩ := grc_get hG
    obtain ⟨gz0, gz1, gz2, gz3, gz4, gz5, gz6, gz7⟩ := fz_eight hG
    obtain ⟨kz0, kz1, kz2, kz3, kz4, kz5, kz6, kz7, kz8, kz9⟩ := fz_ten hK
    obtain ⟨cz0, cz1, cz2, cz3, cz4, cz5, cz6, cz7⟩ := fz_eight hC
    obtain ⟨cv0, cv1, cv2, cv3, cv4, cv5, cv6, cv7⟩ := cv_eight hC
    have HKC := Lib.hid (show CellsAt wr X1.w.heap.size 10 (tkC (fndT L p)) ∧ CellsAt wr (w.heap.size + 2) 8 (grC G) ∧ HasC wr (w.heap.size + 1) 8 from ⟨hK, hG, HasC.of hC⟩)
    cases hf : findT L p with
    | none =>
      obtain rfl : R = G := by rw [← hH.out.1, climb_none hf]
      clear hK hG hC hf
      obtain ⟨X, rfl⟩ : ∃ X : Later w.heap.size w, wr = X.w := ⟨⟨wr, hb⟩, rfl⟩
      clear hb
      have hcase : m < n ∨ m = n := by omega
      rcases hcase with h | h
      all_goals
        go_wp2
        refine bodyPost_ret (by simp only [results, Try.results19]; go_simp; all_goals (first | rfl | simp [sel, t0, g0])) rfl ⟨rfl, ?_⟩
        repeat' (first | (with_reducible exact Below.refl _ _) | (with_reducible assumption) | (with_reducible refine Later.step ?_ ?_ _) | (with_reducible refine Below.alloc ?_ ?_ _) | (with_reducible refine Below.drew ?_) | (with_reducible refine bel_drewN ?_ _) | (with_reducible refine bel_grown ?_ (by assumption) ?_ ?_) | (with_reducible refine Below.setCell ?_ ?_ _) | go_size)
    | some x =>
      rw [show fndT L p = x by unfold fndT; rw [hf]; rfl] at hK HKC
      obtain ⟨k0, k1, k2, k3, k4, k5, k6, k7, k8, k9⟩ := tkc_get hK
      by_cases hlt : m < n
      · have hmem := find_mem hf
        have hrx := (HG.out.mem x hmem.1).2.2
        have P3 := Lib.hid (fun Y => kmeet_any G x.g Y hH.out.2 hrx)
        have HNX := Lib.hid (show climb L (n - (m + 1)) (meetG G x.g) x.p = R ∧ rightG (meetG G x.g) = true from ⟨by rw [← hH.out.1, show n - m = (n - (m + 1)) + 1 by omega, climb_some hf], right_meet hH.out.2 hrx⟩)
        obtain ⟨M, hM⟩ : ∃ M, meetG G x.g = M := ⟨_, rfl⟩
        rw [hM] at P3 HNX
        clear hmem hrx hM hK hG hC hf
        obtain ⟨X, rfl⟩ : ∃ X : Later w.heap.size w, wr = X.w := ⟨⟨wr, hb⟩, rfl⟩
        clear hb
        go_wp2_with (first
          | (go_at_call 29; refine (P3.out _).mono ?_; rintro e w' ⟨rfl, hb⟩; obtain ⟨X2, rfl, hl2, hm2⟩ := later _ hb (Nat.le_refl _); clear hb; (try simp only [World.size_alloc, World.size_setCell, World.size_drew] at hm2 hl2))
          | (go_at_call 12; refine (P1.out _ _ (by repeat' (first | (with_reducible exact Below.refl _ _) | (with_reducible assumption) | (with_reducible refine Later.step ?_ ?_ _) | (with_reducible refine Below.alloc ?_ ?_ _) | (with_reducible refine Below.drew ?_) | (with_reducible refine bel_drewN ?_ _) | (with_reducible refine bel_grown ?_ (by assumption) ?_ ?_) | (with_reducible refine Below.setCell ?_ ?_ _) | go_size))).mono ?_; rintro e w' ⟨rfl, hb⟩; obtain ⟨X3, rfl, hl3, hm3⟩ := later _ hb (Nat.le_refl _); clear hb; (try simp only [World.size_alloc, World.size_setCell, World.size_drew] at hm3 hl3)))
        go_roundw
        case rel =>
          obtain ⟨hK, hG, hC⟩ := HKC.out
          refine ⟨m + 1, x.p, M, by omega, by go_num, rfl, HNX.out, ?_, ?_, ?_, by repeat' (first | (with_reducible exact Below.refl _ _) | (with_reducible assumption) | (with_reducible refine Later.step ?_ ?_ _) | (with_reducible refine Below.alloc ?_ ?_ _) | (with_reducible refine Below.drew ?_) | (with_reducible refine bel_drewN ?_ _) | (with_reducible refine bel_grown ?_ (by assumption) ?_ ?_) | (with_reducible refine Below.setCell ?_ ?_ _) | go_size), by go_size⟩
          all_goals repeat' (first | (with_reducible assumption) | (with_reducible exact HasC.of (by assumption)) | (with_reducible refine grc_set ?_) | (with_reducible refine tkc_set ?_) | (with_reducible refine grc_new ?_; focus (simp; done)) | (with_reducible refine tkc_new ?_; focus (simp; done)) | (with_reducible refine hasC_new rfl ?_; focus (simp; done)) | (with_reducible refine CellsAt.alloc ?_ _) | (with_reducible refine CellsAt.other ?_ ?_ _) | (with_reducible refine CellsAt.later _ ?_) | (with_reducible refine CellsAt.drew ?_) | (with_reducible refine HasC.drew ?_) | (with_reducible refine HasC.alloc ?_ _) | (with_reducible refine HasC.other ?_ ?_ _) | (with_reducible refine HasC.later _ ?_) | (focus (dsimp only; omega)))
        case measure => simp [intOf]; omega
      · obtain rfl : m = n := by omega
        obtain rfl : R = G := by rw [← hH.out.1, Nat.sub_self]; rfl
        clear hK hG hC hf
        obtain ⟨X, rfl⟩ : ∃ X : Later w.heap.size w, wr = X.w := ⟨⟨wr, hb⟩, rfl⟩
        clear hb
        go_wp2
        refine bodyPost_ret (by simp only [results, Try.results19]; go_simp; all_goals (first | rfl | simp [sel, t0, g0])) rfl ⟨rfl, ?_⟩
        repeat' (first | (with_reducible exact Below.refl _ _) | (with_reducible assumption) | (with_reducible refine Later.step ?_ ?_ _) | (with_reducible refine Below.alloc ?_ ?_ _) | (with_reducible refine Below.drew ?_) | (with_reducible refine bel_drewN ?_ _) | (with_reducible refine bel_grown ?_ (by assumption) ?_ ?_) | (with_reducible refine Below.setCell ?_ ?_ _) | go_size)
set_option maxHeartbeats 8000000 in
theorem kunder_any (n c : Nat) (C : Option Addr) (L : List Tk) (k : Tk) (s : Nat) (w : World) (h : Tks w w.heap.size C L) (hn : L.length = n) (hn1 : n ≤ 1000000000) :
    Calls Try.prog 38 #[.slice C n c, .agg #[.int .u64 (k.s : Nat), .int .u64 (k.p : Nat), .int .i64 k.g.ops, .int .i64 k.g.zoom, .int .i64 k.g.a, .int .i64 k.g.b, .int .i64 k.g.c, .int .i64 k.g.d, .bool k.g.void, .int .i64 k.g.til], .int .u64 (s : Nat)] w fun e w' => e = .returned (.bool (undT L s k)) ∧ Below w.heap.size w w' := by
  have P1 := Lib.hid (fun (s : Nat) (Y : World) (hY : Below w.heap.size w Y) => kfind_any n c C L s Y ((h.keep hY).more hY.size) hn hn1)
  obtain ⟨R, hR⟩ : ∃ R, undT L s k = R := ⟨_, rfl⟩
  have HR := Lib.hid (show underT L s (n + 1) k = R by rw [← hR, ← hn]; rfl)
  rw [hR]
  clear h hn hR
  go_enter Try.func38, Try.ntmps38
  go_wp2_with fail
  go_loopw [7, 8] (fun ok i wr => ∃ (m : Nat) (d : Bool) (K : Tk), m ≤ n + 1 ∧ i = .int .i64 m ∧ ok = .bool d ∧ Hid (if d = true then underT L s (n + 1 - m) K = R else R = false) ∧ CellsAt wr w.heap.size 10 (tkC K) ∧ Below w.heap.size w wr ∧ w.heap.size + 1 ≤ wr.heap.size) (fun _ i _ => n + 1 - (intOf i).toNat)
  case atStart =>
    refine ⟨0, true, k, by omega, rfl, rfl, HR.out, ?_, by repeat' (first | (with_reducible exact Below.refl _ _) | (with_reducible assumption) | (with_reducible refine Later.step ?_ ?_ _) | (with_reducible refine Below.alloc ?_ ?_ _) | (with_reducible refine Below.drew ?_) | (with_reducible refine bel_drewN ?_ _) | (with_reducible refine bel_grown ?_ (by assumption) ?_ ?_) | (with_reducible refine Below.setCell ?_ ?_ _) | go_size), by simp⟩
    repeat' (first | (with_reducible assumption) | (with_reducible exact HasC.of (by assumption)) | (with_reducible refine grc_set ?_) | (with_reducible refine tkc_set ?_) | (with_reducible refine grc_new ?_; focus (simp; done)) | (with_reducible refine tkc_new ?_; focus (simp; done)) | (with_reducible refine hasC_new rfl ?_; focus (simp; done)) | (with_reducible refine CellsAt.alloc ?_ _) | (with_reducible refine CellsAt.other ?_ ?_ _) | (with_reducible refine CellsAt.later _ ?_) | (with_reducible refine CellsAt.drew ?_) | (with_reducible refine HasC.drew ?_) | (with_reducible refine HasC.alloc ?_ _) | (with_reducible refine HasC.other ?_ ?_ _) | (with_reducible refine HasC.later _ ?_) | (focus (dsimp only; omega)))
  case round =>
    obtain ⟨m, d, K, hm, rfl, rfl, hH, hK, hb, hs⟩ := hrel
    obtain ⟨kz0, kz1, kz2, kz3, kz4, kz5, kz6, kz7, kz8, kz9⟩ := fz_ten hK
    obtain ⟨k0, k1, k2, k3, k4, k5, k6, k7, k8, k9⟩ := tkc_get hK
    have HKC := Lib.hid hK
    clear hK
    obtain ⟨X, rfl⟩ : ∃ X : Later w.heap.size w, wr = X.w := ⟨⟨wr, hb⟩, rfl⟩
    clear hb
    cases d with
    | false =>
      obtain rfl : R = false := hH.out
      have hcase : m ≤ n ∨ m = n + 1 := by omega
      rcases hcase with h | h
      all_goals
        go_wp2
        go_ret
        exact ⟨rfl, by repeat' (first | (with_reducible exact Below.refl _ _) | (with_reducible assumption) | (with_reducible refine Later.step ?_ ?_ _) | (with_reducible refine Below.alloc ?_ ?_ _) | (with_reducible refine Below.drew ?_) | (with_reducible refine bel_drewN ?_ _) | (with_reducible refine bel_grown ?_ (by assumption) ?_ ?_) | (with_reducible refine Below.setCell ?_ ?_ _) | go_size)⟩
    | true =>
      have hu : underT L s (n + 1 - m) K = R := hH.out
      by_cases hlt : m ≤ n
      · rw [show n + 1 - m = (n + 1 - (m + 1)) + 1 by omega] at hu
        by_cases he : K.s = s
        · obtain rfl : R = true := by rw [← hu, under_is he]
          have he' : ((K.s : Int) == (s : Int)) = true := by simp [he]
          clear hu he
          go_wp2
          go_ret
          exact ⟨rfl, by repeat' (first | (with_reducible exact Below.refl _ _) | (with_reducible assumption) | (with_reducible refine Later.step ?_ ?_ _) | (with_reducible refine Below.alloc ?_ ?_ _) | (with_reducible refine Below.drew ?_) | (with_reducible refine bel_drewN ?_ _) | (with_reducible refine bel_grown ?_ (by assumption) ?_ ?_) | (with_reducible refine Below.setCell ?_ ?_ _) | go_size)⟩
        · have he' : ((K.s : Int) == (s : Int)) = false := by rw [beq_eq_false_iff_ne]; omega
          have HNX := Lib.hid (show if (findT L K.p).isSome = true then underT L s (n + 1 - (m + 1)) (fndT L K.p) = R else R = false by
            cases hf : findT L K.p with
            | none => rw [under_none he hf] at hu; exact hu.symm
            | some x => rw [under_some he hf] at hu; unfold fndT; rw [hf]; exact hu)
          clear hu he
          go_wp2_with (first
            | (go_at_call 12; refine (P1.out _ _ (by repeat' (first | (with_reducible exact Below.refl _ _) | (with_reducible assumption) | (with_reducible refine Later.step ?_ ?_ _) | (with_reducible refine Below.alloc ?_ ?_ _) | (with_reducible refine Below.drew ?_) | (with_reducible refine bel_drewN ?_ _) | (with_reducible refine bel_grown ?_ (by assumption) ?_ ?_) | (with_reducible refine Below.setCell ?_ ?_ _) | go_size))).mono ?_; rintro e w' ⟨rfl, hb⟩; obtain ⟨X3, rfl, hl3, hm3⟩ := later _ hb (Nat.le_refl _); clear hb; (try simp only [World.size_alloc, World.size_setCell, World.size_drew] at hm3 hl3)))
          go_roundw
          case rel =>
            have hK := HKC.out
            refine ⟨m + 1, _, fndT L K.p, by omega, by go_num, rfl, HNX.out, ?_, by repeat' (first | (with_reducible exact Below.refl _ _) | (with_reducible assumption) | (with_reducible refine Later.step ?_ ?_ _) | (with_reducible refine Below.alloc ?_ ?_ _) | (with_reducible refine Below.drew ?_) | (with_reducible refine bel_drewN ?_ _) | (with_reducible refine bel_grown ?_ (by assumption) ?_ ?_) | (with_reducible refine Below.setCell ?_ ?_ _) | go_size), by go_size⟩
            repeat' (first | (with_reducible assumption) | (with_reducible exact HasC.of (by assumption)) | (with_reducible refine grc_set ?_) | (with_reducible refine tkc_set ?_) | (with_reducible refine grc_new ?_; focus (simp; done)) | (with_reducible refine tkc_new ?_; focus (simp; done)) | (with_reducible refine hasC_new rfl ?_; focus (simp; done)) | (with_reducible refine CellsAt.alloc ?_ _) | (with_reducible refine CellsAt.other ?_ ?_ _) | (with_reducible refine CellsAt.later _ ?_) | (with_reducible refine CellsAt.drew ?_) | (with_reducible refine HasC.drew ?_) | (with_reducible refine HasC.alloc ?_ _) | (with_reducible refine HasC.other ?_ ?_ _) | (with_reducible refine HasC.later _ ?_) | (focus (dsimp only; omega)))
          case measure => simp [intOf]; omega
      · obtain rfl : m = n + 1 := by omega
        obtain rfl : R = false := by rw [← hu, Nat.sub_self]; rfl
        clear hu
        go_wp2
        go_ret
        exact ⟨rfl, by repeat' (first | (with_reducible exact Below.refl _ _) | (with_reducible assumption) | (with_reducible refine Later.step ?_ ?_ _) | (with_reducible refine Below.alloc ?_ ?_ _) | (with_reducible refine Below.drew ?_) | (with_reducible refine bel_drewN ?_ _) | (with_reducible refine bel_grown ?_ (by assumption) ?_ ?_) | (with_reducible refine Below.setCell ?_ ?_ _) | go_size)⟩
instance : DecidableEq Tk := fun a b => decidable_of_iff (eqT a b = true) eqT_iff
set_option maxHeartbeats 8000000 in
theorem same_any (n1 n2 c1 c2 : Nat) (C1 C2 : Option Addr) (L M : List Tk) (w : World) (h1 : Tks w w.heap.size C1 L) (h2 : Tks w w.heap.size C2 M) (hn1 : L.length = n1) (hn2 : M.length = n2) (hb : n1 ≤ 1000000000) :
    Calls Try.prog 20 #[.slice C1 n1 c1, .slice C2 n2 c2] w fun e w' => e = .returned (.bool (decide (L = M))) ∧ Below w.heap.size w w' := by
  by_cases hne : n1 = n2
  · subst hne
    have HA := Lib.hid h1
    have HB := Lib.hid h2
    have HN := Lib.hid (show L.length = n1 ∧ M.length = n1 from ⟨hn1, hn2⟩)
    clear h1 h2 hn1 hn2
    obtain ⟨R, hR⟩ : ∃ R, decide (L = M) = R := ⟨_, rfl⟩
    have HR := Lib.hid hR
    rw [hR]
    clear hR
    go_enter Try.func20, Try.ntmps20
    go_wp2
    go_loopw [5] (fun i wr => ∃ k : Nat, (k ≤ n1 ∧ Hid (∀ j, j < k → L.getD j t0 = M.getD j t0)) ∧ i = .int .i64 k ∧ Below w.heap.size w wr) (fun i _ => n1 - (intOf i).toNat)
    case atStart => exact ⟨0, ⟨Nat.zero_le _, fun j hj => absurd hj (by omega)⟩, rfl, by repeat' (first | (with_reducible exact Below.refl _ _) | (with_reducible assumption) | (with_reducible refine Later.step ?_ ?_ _) | (with_reducible refine Below.alloc ?_ ?_ _) | (with_reducible refine Below.drew ?_) | (with_reducible refine Below.setCell ?_ ?_ _) | go_size)⟩
    case round =>
      obtain ⟨k, ⟨hk, hall⟩, rfl, hb⟩ := hrel
      obtain ⟨X, rfl⟩ : ∃ X : Later w.heap.size w, wr = X.w := ⟨⟨wr, hb⟩, rfl⟩
      clear hb
      by_cases hlt : k < n1
      · obtain ⟨b, o, hA, hB, c0, d1, c2, c3, c4, c5, c6, c7, c8, c9⟩ := tks_at HA.out (i := k) (by rw [HN.out.1]; exact hlt)
        obtain ⟨b', o', hA', hB', d0, e1, d2, d3, d4, d5, d6, d7, d8, d9⟩ := tks_at HB.out (i := k) (by rw [HN.out.2]; exact hlt)
        subst hA hA'
        obtain ⟨x, hx⟩ : ∃ x, L.getD k t0 = x := ⟨_, rfl⟩
        obtain ⟨y, hy⟩ : ∃ y, M.getD k t0 = y := ⟨_, rfl⟩
        have hno : x ≠ y → R = false := fun he => by
          rw [← HR.out, decide_eq_false_iff_not]
          rintro rfl
          exact he (by rw [← hx, ← hy])
        have hnx : x = y → ∀ j, j < k + 1 → L.getD j t0 = M.getD j t0 := fun he j hj => by
          rcases Nat.lt_or_eq_of_le (Nat.le_of_lt_succ hj) with h | rfl
          · exact hall.out j h
          · rw [hx, hy, he]
        rw [hx] at c0 d1 c2 c3 c4 c5 c6 c7 c8 c9
        rw [hy] at d0 e1 d2 d3 d4 d5 d6 d7 d8 d9
        have heq := eqT_iff (g := x) (h := y)
        have HQ := neq_ticket x y
        obtain ⟨d, hd⟩ : ∃ d, eqT x y = d := ⟨_, rfl⟩
        rw [hd] at heq HQ
        cases d with
        | true =>
          have HNX := Lib.hid (hnx (heq.1 rfl))
          clear hno hnx hx hy heq hd
          go_wp2
          go_quiet (fail)
          go_wp2
          go_roundw
          case rel => exact ⟨k + 1, ⟨by omega, HNX.out⟩, by go_num, by repeat' (first | (with_reducible exact Below.refl _ _) | (with_reducible assumption) | (with_reducible refine Later.step ?_ ?_ _) | (with_reducible refine Below.alloc ?_ ?_ _) | (with_reducible refine Below.drew ?_) | (with_reducible refine bel_drewN ?_ _) | (with_reducible refine bel_grown ?_ (by assumption) ?_ ?_) | (with_reducible refine Below.setCell ?_ ?_ _) | go_size)⟩
          case measure => simp [intOf]; omega
        | false =>
          obtain rfl : R = false := hno (fun he => by have := heq.2 he; cases this)
          clear hno hnx hx hy heq hd
          go_wp2
          go_quiet (fail)
          go_wp2
          go_ret
          exact ⟨rfl, by repeat' (first | (with_reducible exact Below.refl _ _) | (with_reducible assumption) | (with_reducible refine Later.step ?_ ?_ _) | (with_reducible refine Below.alloc ?_ ?_ _) | (with_reducible refine Below.drew ?_) | (with_reducible refine bel_drewN ?_ _) | (with_reducible refine bel_grown ?_ (by assumption) ?_ ?_) | (with_reducible refine Below.setCell ?_ ?_ _) | go_size)⟩
      · obtain rfl : k = n1 := by omega
        obtain rfl : R = true := by
          rw [← HR.out, decide_eq_true_eq]
          refine List.ext_getElem (by rw [HN.out.1, HN.out.2]) fun i hi1 hi2 => ?_
          have := hall.out i (by rw [← HN.out.1]; exact hi1)
          rwa [getD_lt hi1, getD_lt hi2] at this
        go_wp2
        go_ret
        exact ⟨rfl, by repeat' (first | (with_reducible exact Below.refl _ _) | (with_reducible assumption) | (with_reducible refine Later.step ?_ ?_ _) | (with_reducible refine Below.alloc ?_ ?_ _) | (with_reducible refine Below.drew ?_) | (with_reducible refine bel_drewN ?_ _) | (with_reducible refine bel_grown ?_ (by assumption) ?_ ?_) | (with_reducible refine Below.setCell ?_ ?_ _) | go_size)⟩
  · have hR : decide (L = M) = false := by
      rw [decide_eq_false_iff_not]
      rintro rfl
      exact hne (hn1.symm.trans hn2)
    rw [hR]
    have hne' : ((n1 : Int) == (n2 : Int)) = false := by rw [beq_eq_false_iff_ne]; omega
    clear h1 h2 hn1 hn2 hR hne
    go_enter Try.func20, Try.ntmps20
    go_wp2
    go_ret
    exact ⟨rfl, by repeat' (first | (with_reducible exact Below.refl _ _) | (with_reducible assumption) | (with_reducible refine Later.step ?_ ?_ _) | (with_reducible refine Below.alloc ?_ ?_ _) | (with_reducible refine Below.drew ?_) | (with_reducible refine Below.setCell ?_ ?_ _) | go_size)⟩
end Go.Proofs.Ytjfgjlklbepnjaa
