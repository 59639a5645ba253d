/- What a ticket grants is narrower: the statement walked. No condition beyond what the row of operations reads as. -/
import Derived.Test.YtjfgjlklbepnjaaTkN
namespace Go.Proofs.Ytjfgjlklbepnjaa
open Go.RowKit
set_option linter.unusedSimpArgs false
set_option linter.unusedVariables false
set_option maxRecDepth 4000

theorem tks_in {w : World} {B i b o : Nat} {L : List Tk} (h : Tks w B (some ⟨b, o, none⟩) L) (hi : i < L.length) : b < B ∧ w.cell? ⟨b, o + i * 10, none⟩ = some (.int .u64 ((L.getD i t0).s : Nat)) ∧ w.cell? ⟨b, o + i * 10 + 1, none⟩ = some (.int .u64 ((L.getD i t0).p : Nat)) ∧ w.cell? ⟨b, o + i * 10 + 2, none⟩ = some (.int .i64 (L.getD i t0).g.ops) ∧ w.cell? ⟨b, o + i * 10 + 3, none⟩ = some (.int .i64 (L.getD i t0).g.zoom) ∧ w.cell? ⟨b, o + i * 10 + 4, none⟩ = some (.int .i64 (L.getD i t0).g.a) ∧ w.cell? ⟨b, o + i * 10 + 5, none⟩ = some (.int .i64 (L.getD i t0).g.b) ∧ w.cell? ⟨b, o + i * 10 + 6, none⟩ = some (.int .i64 (L.getD i t0).g.c) ∧ w.cell? ⟨b, o + i * 10 + 7, none⟩ = some (.int .i64 (L.getD i t0).g.d) ∧ w.cell? ⟨b, o + i * 10 + 8, none⟩ = some (.bool (L.getD i t0).g.void) ∧ w.cell? ⟨b, o + i * 10 + 9, none⟩ = some (.int .i64 (L.getD i t0).g.til) := by
  obtain ⟨b', o', e, h2⟩ := tks_at h hi
  injection e with e
  injection e with e1 e2
  subst e1 e2
  exact h2
/-- A ticket that is there, asked for. -/
theorem live_is {M : List Tk} {now : Int} {x : Tk} {s : Nat} (q c : Nat) (A : Option Addr) (w : World) (h : GTab w q A c M) (hl : leftT M now = M) (hx : findT M s = some x) (hs : s < 18446744073709551616) :
    Calls Try.prog 18 #[.pointer (some ⟨q, 0, none⟩), .int .u64 (s : Nat), .int .i64 now] w (MPost w q A (.tuple #[.agg #[.int .i64 (grantsT M x).ops, .int .i64 (grantsT M x).zoom, .int .i64 (grantsT M x).a, .int .i64 (grantsT M x).b, .int .i64 (grantsT M x).c, .int .i64 (grantsT M x).d, .bool (grantsT M x).void, .int .i64 (grantsT M x).til], .bool true]) M) := by
  have h9 := live_any q c A M s now w h hs
  rw [hl, show liveG M s = grantsT M x by unfold liveG; rw [hx], hx] at h9
  exact h9
theorem CellsAt.upto {w w' : World} {b n B : Nat} {F : Nat → Value} (h : CellsAt w b n F) (hb : Below B w w') (hlt : b < B) : CellsAt w' b n F :=
  ⟨Nat.lt_of_lt_of_le h.1 hb.size, fun j hj => ⟨(hb.cell (p := ⟨b, j, none⟩) hlt).trans (h.2 j hj).1, (hb.frozen (p := ⟨b, j, none⟩) hlt).trans (h.2 j hj).2⟩⟩
set_option maxHeartbeats 16000000 in
theorem narrows_law (A : Option Addr) (n c : Nat) (L : List OpT) (now : Int) (w : World) (h : L.length = n ∧ n ≤ 9223372036854775807 ∧ Ops w w.heap.size A L ∧ U64o L) (hw : (Lit.int .i64 now).wf = true) :
    Calls Try.prog 7 #[.slice A n c, .int .i64 now] w fun e w' => e = .returned (.bool true) ∧ Below w.heap.size w w' := by
  have P0 := Lib.hid (fun (Y : World) (hY : Below w.heap.size w Y) => played_any n c A L Y ((h.2.2.1.keep hY).more hY.size) h.1 h.2.1 h.2.2.2)
  obtain ⟨T, hT⟩ : ∃ T, playT L = T := ⟨_, rfl⟩
  rw [hT] at P0
  have PK := Lib.hid tknown_any
  clear h hw hT
  go_enter Try.func7, Try.ntmps7
  go_wp2_with fail
  refine (P0.out _ (by repeat' (first | (with_reducible exact Below.refl _ _) | (with_reducible assumption) | (with_reducible refine Later.step ?_ ?_ _) | (with_reducible refine Below.alloc ?_ ?_ _) | (with_reducible refine Below.drew ?_) | (with_reducible refine bel_drewN ?_ _) | (with_reducible refine bel_grown ?_ (by assumption) ?_ ?_) | (with_reducible refine Below.setCell ?_ ?_ _) | go_size))).mono ?_
  rintro e w1 ⟨⟨q, A1, c1, rfl, hq, hG⟩, hb⟩
  have HG1 := Lib.hid hG
  obtain ⟨X1, rfl⟩ : ∃ Z : Later w.heap.size w, w1 = Z.w := ⟨⟨w1, hb⟩, rfl⟩
  clear hG hb
  go_wp2_with fail
  refine (tickets_any q c1 A1 T now _ (HG1.out.keep (by repeat' (first | (with_reducible exact Below.refl _ _) | (with_reducible assumption) | (with_reducible refine Later.step ?_ ?_ _) | (with_reducible refine Below.alloc ?_ ?_ _) | (with_reducible refine Below.drew ?_) | (with_reducible refine bel_drewN ?_ _) | (with_reducible refine bel_grown ?_ (by assumption) ?_ ?_) | (with_reducible refine Below.setCell ?_ ?_ _) | go_size)))).mono ?_
  rintro e w2 ⟨C, cc, A2, c2, rfl, hRow, hnew, hG2, hto⟩
  have hb2 : Below w.heap.size w w2 := X1.is.trans ((hto.elder HG1.out.tab).mono hq)
  have HGOOD := Lib.hid (show GoodT (leftT T now) ∧ leftT (leftT T now) now = leftT T now ∧ (leftT T now).length ≤ 8 ∧ U64 (leftT T now) ∧ ∀ k ∈ leftT T now, now ≤ (grantsT (leftT T now) k).til from ⟨hG2.good, left_left HG1.out.good now, hG2.len, hG2.u64, fun k hk => left_til HG1.out.good hk⟩)
  obtain ⟨M, hM⟩ : ∃ M, leftT T now = M := ⟨_, rfl⟩
  rw [hM] at hRow hG2 HGOOD hnew ⊢
  obtain ⟨m, hm⟩ : ∃ m, M.length = m := ⟨_, rfl⟩
  rw [hm]
  have HMM := Lib.hid hm
  have hm8 : m ≤ 8 := by rw [← hm]; exact HGOOD.out.2.2.1
  have HG2 := Lib.hid hG2
  have HROW := Lib.hid hRow
  have hql := hG2.tab.lt
  obtain ⟨X2, rfl⟩ : ∃ Z : Later w.heap.size w, w2 = Z.w := ⟨⟨w2, hb2⟩, rfl⟩
  clear hRow hnew hG2 hto hb2 hm hM
  go_wp2_with fail
  go_loopw [7] (fun i wr => ∃ (k : Nat), i = .int .i64 k ∧ k ≤ m ∧ q < wr.heap.size ∧ Hid (∃ A' c', GTab wr q A' c' M ∧ Row wr q A' C M) ∧ Below w.heap.size w wr) (fun i _ => m - (intOf i).toNat)
  case atStart => exact ⟨0, rfl, by omega, hql, ⟨A2, c2, HG2.out, HROW.out⟩, by repeat' (first | (with_reducible exact Below.refl _ _) | (with_reducible assumption) | (with_reducible refine Later.step ?_ ?_ _) | (with_reducible refine Below.alloc ?_ ?_ _) | (with_reducible refine Below.drew ?_) | (with_reducible refine bel_drewN ?_ _) | (with_reducible refine bel_grown ?_ (by assumption) ?_ ?_) | (with_reducible refine Below.setCell ?_ ?_ _) | go_size)⟩
  case round =>
    obtain ⟨k, rfl, hk, hqs, hG, hbel⟩ := hrel
    obtain ⟨X, rfl⟩ : ∃ X : Later w.heap.size w, wr = X.w := ⟨⟨wr, hbel⟩, rfl⟩
    clear hbel
    by_cases hlt : k < m
    · obtain ⟨A', c', hG', hR'⟩ := hG.out
      have HG := Lib.hid hG'
      have HR := Lib.hid hR'
      have hkM : k < M.length := by rw [HMM.out]; exact hlt
      obtain ⟨b, o, hC, hB, c0, d1, c2, c3, c4, c5, c6, c7, c8, c9⟩ := tks_at hR'.1 hkM
      subst hC
      have hmem : M.getD k t0 ∈ M := by rw [getD_lt hkM]; exact List.getElem_mem _
      obtain ⟨x, hx⟩ : ∃ x, M.getD k t0 = x := ⟨_, rfl⟩
      have HX := Lib.hid hx
      rw [hx] at c0 d1 c2 c3 c4 c5 c6 c7 c8 c9 hmem
      have hfx := HGOOD.out.1.find x hmem
      have P1 := Lib.hid (fun (A' : Option Addr) (c' : Nat) (Y : World) (hY : GTab Y q A' c' M) => live_is (now := now) q c' A' Y hY HGOOD.out.2.1 hfx (HGOOD.out.2.2.2.1 x hmem).1)
      have p2 := narrow_any (grantsT M x) x.g
      rw [grants_narrow HGOOD.out.1 hmem] at p2
      have P2 := Lib.hid p2
      have htil : decide ((grantsT M x).til < now) = false := decide_eq_false (by have := HGOOD.out.2.2.2.2 x hmem; omega)
      by_cases hp : x.p = 0
      · have hp0 : ((x.p : Int) == 0) = true := by simp [hp]
        generalize grantsT M x = G at *
        clear hG' hR' hx hmem hfx p2 hp
        go_wp2_with fail
        refine (P1.out _ _ _ (HG.out.keep (by repeat' (first | (with_reducible exact Below.refl _ _) | (with_reducible assumption) | (with_reducible refine Later.step ?_ ?_ _) | (with_reducible refine Below.alloc ?_ ?_ _) | (with_reducible refine Below.drew ?_) | (with_reducible refine bel_drewN ?_ _) | (with_reducible refine bel_grown ?_ (by assumption) ?_ ?_) | (with_reducible refine Below.setCell ?_ ?_ _) | go_size)))).mono ?_
        rintro e w3 ⟨rfl, A3, c3', hG3, hto⟩
        have hR3 := HR.out.to hto
        have hb3 : Below w.heap.size w w3 := X.is.trans ((hto.elder HG.out.tab).mono hq)
        obtain ⟨hB3, e0, e1, e2, e3, e4, e5, e6, e7, e8, e9⟩ := tks_in hR3.1 (by rw [HMM.out]; exact hlt : k < M.length)
        rw [HX.out] at e0 e1 e2 e3 e4 e5 e6 e7 e8 e9
        have HG3 := Lib.hid hG3
        have HR3 := Lib.hid hR3
        have hq3 := hG3.tab.lt
        obtain ⟨X3, rfl⟩ : ∃ Z : Later w.heap.size w, w3 = Z.w := ⟨⟨w3, hb3⟩, rfl⟩
        clear hR3 hb3 hG3 hto
        go_wp2_with fail
        (refine wp_region_later (X3.w.heap.size + 1) (by kernel_rfl) (by kernel_rfl) (by go_size) ?_; (repeat (go_big_quiet_step ((first | (go_at_call 25; exact Later.call _ (Nat.le_trans (by go_size) (Later.is _).size) (P2.out _)))))); refine wpQuiet_nil ?_; intro Xq hlq hmq)
        go_wp2_with fail
        go_roundw
        case rel => exact ⟨k + 1, by go_num, by omega, by go_size, ⟨A3, c3', HG3.out.keep (by repeat' (first | (with_reducible exact Below.refl _ _) | (with_reducible assumption) | (with_reducible refine Later.step ?_ ?_ _) | (with_reducible refine Below.alloc ?_ ?_ _) | (with_reducible refine Below.drew ?_) | (with_reducible refine bel_drewN ?_ _) | (with_reducible refine bel_grown ?_ (by assumption) ?_ ?_) | (with_reducible refine Below.setCell ?_ ?_ _) | go_size)), HR3.out.keep (by repeat' (first | (with_reducible exact Below.refl _ _) | (with_reducible assumption) | (with_reducible refine Later.step ?_ ?_ _) | (with_reducible refine Below.alloc ?_ ?_ _) | (with_reducible refine Below.drew ?_) | (with_reducible refine bel_drewN ?_ _) | (with_reducible refine bel_grown ?_ (by assumption) ?_ ?_) | (with_reducible refine Below.setCell ?_ ?_ _) | go_size))⟩, by repeat' (first | (with_reducible exact Below.refl _ _) | (with_reducible assumption) | (with_reducible refine Later.step ?_ ?_ _) | (with_reducible refine Below.alloc ?_ ?_ _) | (with_reducible refine Below.drew ?_) | (with_reducible refine bel_drewN ?_ _) | (with_reducible refine bel_grown ?_ (by assumption) ?_ ?_) | (with_reducible refine Below.setCell ?_ ?_ _) | go_size)⟩
        case measure => simp [intOf]; omega
      · have hp0 : ((x.p : Int) == 0) = false := by rw [beq_eq_false_iff_ne]; omega
        obtain ⟨y, hy⟩ := ((HGOOD.out.1.mem x hmem).2.1).resolve_left hp
        have P3 := Lib.hid (fun (A' : Option Addr) (c' : Nat) (Y : World) (hY : GTab Y q A' c' M) => live_is (now := now) q c' A' Y hY HGOOD.out.2.1 hy (HGOOD.out.2.2.2.1 x hmem).2)
        have p4 := narrow_any (grantsT M x) (grantsT M y)
        rw [grants_narrow_up HGOOD.out.1 hmem hy] at p4
        have P4 := Lib.hid p4
        generalize grantsT M x = G at *
        generalize grantsT M y = G' at *
        clear hG' hR' hx hmem hfx p2 hp p4 hy
        go_wp2_with fail
        refine (P1.out _ _ _ (HG.out.keep (by repeat' (first | (with_reducible exact Below.refl _ _) | (with_reducible assumption) | (with_reducible refine Later.step ?_ ?_ _) | (with_reducible refine Below.alloc ?_ ?_ _) | (with_reducible refine Below.drew ?_) | (with_reducible refine bel_drewN ?_ _) | (with_reducible refine bel_grown ?_ (by assumption) ?_ ?_) | (with_reducible refine Below.setCell ?_ ?_ _) | go_size)))).mono ?_
        rintro e w3 ⟨rfl, A3, c3', hG3, hto⟩
        have hR3 := HR.out.to hto
        have hb3 : Below w.heap.size w w3 := X.is.trans ((hto.elder HG.out.tab).mono hq)
        obtain ⟨hB3, e0, e1, e2, e3, e4, e5, e6, e7, e8, e9⟩ := tks_in hR3.1 (by rw [HMM.out]; exact hlt : k < M.length)
        rw [HX.out] at e0 e1 e2 e3 e4 e5 e6 e7 e8 e9
        have HG3 := Lib.hid hG3
        have HR3 := Lib.hid hR3
        have hq3 := hG3.tab.lt
        obtain ⟨X3, rfl⟩ : ∃ Z : Later w.heap.size w, w3 = Z.w := ⟨⟨w3, hb3⟩, rfl⟩
        clear hR3 hb3 hG3 hto
        go_wp2_with fail
        (refine wp_region_later (X3.w.heap.size + 1) (by kernel_rfl) (by kernel_rfl) (by go_size) ?_; (repeat (go_big_quiet_step ((first | (go_at_call 25; exact Later.call _ (Nat.le_trans (by go_size) (Later.is _).size) (P2.out _)))))); refine wpQuiet_nil ?_; intro Xq hlq hmq)
        go_wp2_with fail
        have hg : CellsAt Xq.w X3.w.heap.size 8 (grC G) := (grc_new (w := X3.w) (g := G) (t := 30) rfl).upto Xq.is (by omega)
        have hbq : Below X3.w.heap.size X3.w Xq.w := by repeat' (first | (with_reducible exact Below.refl _ _) | (with_reducible assumption) | (with_reducible refine Later.step ?_ ?_ _) | (with_reducible refine Below.alloc ?_ ?_ _) | (with_reducible refine Below.drew ?_) | (with_reducible refine bel_drewN ?_ _) | (with_reducible refine bel_grown ?_ (by assumption) ?_ ?_) | (with_reducible refine Below.setCell ?_ ?_ _) | go_size)
        have hfar : Far q A3 X3.w.heap.size := HG3.out.tab.far (Nat.le_refl _)
        refine (P3.out _ _ _ (HG3.out.keep hbq)).mono ?_
        rintro e w4 ⟨rfl, A4, c4', hG4, hto4⟩
        have hg4 := hg.to hto4 hfar
        have hg4l := hg4.1
        obtain ⟨j0, j1, j2, j3, j4, j5, j6, j7⟩ := grc_get hg4
        have hR4 := (HR3.out.keep hbq).to hto4
        have hb4 : Below w.heap.size w w4 := (X3.is.trans (hbq.mono (by omega))).trans ((hto4.elder (HG3.out.keep hbq).tab).mono hq)
        have HG4 := Lib.hid hG4
        have HR4 := Lib.hid hR4
        have hq4 := hG4.tab.lt
        obtain ⟨X4, rfl⟩ : ∃ Z : Later w.heap.size w, w4 = Z.w := ⟨⟨w4, hb4⟩, rfl⟩
        clear hR4 hb4 hG4 hto4 hg hg4 hfar hbq
        go_wp2_with fail
        refine (P4.out _).mono ?_
        rintro e w' ⟨rfl, hb⟩; obtain ⟨X5, rfl, hl5, hm5⟩ := later _ hb (Nat.le_refl _); clear hb; (try simp only [World.size_alloc, World.size_setCell, World.size_drew] at hm5 hl5)
        go_wp2_with fail
        go_roundw
        case rel => exact ⟨k + 1, by go_num, by omega, by go_size, ⟨A4, c4', HG4.out.keep (by repeat' (first | (with_reducible exact Below.refl _ _) | (with_reducible assumption) | (with_reducible refine Later.step ?_ ?_ _) | (with_reducible refine Below.alloc ?_ ?_ _) | (with_reducible refine Below.drew ?_) | (with_reducible refine bel_drewN ?_ _) | (with_reducible refine bel_grown ?_ (by assumption) ?_ ?_) | (with_reducible refine Below.setCell ?_ ?_ _) | go_size)), HR4.out.keep (by repeat' (first | (with_reducible exact Below.refl _ _) | (with_reducible assumption) | (with_reducible refine Later.step ?_ ?_ _) | (with_reducible refine Below.alloc ?_ ?_ _) | (with_reducible refine Below.drew ?_) | (with_reducible refine bel_drewN ?_ _) | (with_reducible refine bel_grown ?_ (by assumption) ?_ ?_) | (with_reducible refine Below.setCell ?_ ?_ _) | go_size))⟩, by repeat' (first | (with_reducible exact Below.refl _ _) | (with_reducible assumption) | (with_reducible refine Later.step ?_ ?_ _) | (with_reducible refine Below.alloc ?_ ?_ _) | (with_reducible refine Below.drew ?_) | (with_reducible refine bel_drewN ?_ _) | (with_reducible refine bel_grown ?_ (by assumption) ?_ ?_) | (with_reducible refine Below.setCell ?_ ?_ _) | go_size)⟩
        case measure => simp [intOf]; omega
    · obtain rfl : k = m := by omega
      go_wp2_with (first | (go_at_call 23; refine (PK.out _).mono ?_; rintro e w' ⟨rfl, hb⟩; obtain ⟨X9, rfl, hl9, hm9⟩ := later _ hb (Nat.le_refl _); clear hb; (try simp only [World.size_alloc, World.size_setCell, World.size_drew] at hm9 hl9)))
      go_ret
      exact ⟨rfl, by repeat' (first | (with_reducible exact Below.refl _ _) | (with_reducible assumption) | (with_reducible refine Later.step ?_ ?_ _) | (with_reducible refine Below.alloc ?_ ?_ _) | (with_reducible refine Below.drew ?_) | (with_reducible refine bel_drewN ?_ _) | (with_reducible refine bel_grown ?_ (by assumption) ?_ ?_) | (with_reducible refine Below.setCell ?_ ?_ _) | go_size)⟩
end Go.Proofs.Ytjfgjlklbepnjaa
