/- Where a ticket stands, and what it grants: the functions walked. No condition beyond what the table reads as. -/
import Derived.Test.YtjfgjlklbepnjaaTkB
namespace Go.Proofs.Ytjfgjlklbepnjaa
open Go.RowKit
set_option linter.unusedSimpArgs false
set_option linter.unusedVariables false
set_option maxRecDepth 2000

set_option maxHeartbeats 4000000 in
theorem at_any (q c : Nat) (A : Option Addr) (T : List Tk) (s : Nat) (w : World) (h : Tab w q A c T) (hn : T.length ≤ 100) (hu : U64 T) (hs : s < 18446744073709551616) :
    Calls Try.prog 34 #[.pointer (some ⟨q, 0, none⟩), .int .u64 (s : Nat)] w fun e w' => e = .returned (.int .i64 (idxT T s)) ∧ Below w.heap.size w w' := by
  have P1 := Lib.hid (fun (Y : World) (hY : Below w.heap.size w Y) => listed_any q c A T Y (h.keep hY) hn)
  have P2 := Lib.hid (fun (C : Option Addr) (cc : Nat) (Y : World) (hr : Reads .u64 Y Y.heap.size C T.length (fun j => ((T.getD j t0).s : Nat))) => find_any C T.length cc (fun j => (T.getD j t0).s) s Y hr (fun j => (hu.at j).1) hs (by omega))
  have e1 : idxT T s = fstI (fun j => (T.getD j t0).s) s T.length := rfl
  rw [e1]
  obtain ⟨r, hr⟩ : ∃ r, fstI (fun j => (T.getD j t0).s) s T.length = r := ⟨_, rfl⟩
  rw [hr] at P2 ⊢
  clear h hn hu hr e1
  go_enter Try.func34, Try.ntmps34
  go_wp2_with fail
  refine (P1.out _ (Below.refl _ _)).mono ?_
  rintro e w1 ⟨⟨C, cc, rfl, hr⟩, hb⟩
  have HR := Lib.hid hr
  obtain ⟨X1, rfl, hl1, hm1⟩ := later _ hb (Nat.le_refl _)
  clear hb hr
  go_wp2_with (first
    | (go_at_call 51; refine (P2.out _ _ _ HR.out).mono ?_; rintro e w' ⟨rfl, hb⟩; obtain ⟨X2, rfl, hl2, hm2⟩ := later _ hb (Nat.le_refl _); clear hb; (try simp only [World.size_alloc, World.size_setCell, World.size_drew] at hm2 hl2)))
  go_ret
  exact ⟨rfl, by repeat' (first | (with_reducible exact Below.refl _ _) | (with_reducible assumption) | (with_reducible refine Later.step ?_ ?_ _) | (with_reducible refine Below.alloc ?_ ?_ _) | (with_reducible refine Below.drew ?_) | (with_reducible refine bel_drewN ?_ _) | (with_reducible refine bel_grown ?_ (by assumption) ?_ ?_) | (with_reducible refine Below.setCell ?_ ?_ _) | go_size)⟩
section
variable {w : World} {b : Nat} {g : Gr} {k : Tk}
theorem grc_get (h : CellsAt w b 8 (grC g)) : w.cell? ⟨b, 0, none⟩ = some (.int .i64 g.ops) ∧ w.cell? ⟨b, 1, none⟩ = some (.int .i64 g.zoom) ∧ w.cell? ⟨b, 2, none⟩ = some (.int .i64 g.a) ∧ w.cell? ⟨b, 3, none⟩ = some (.int .i64 g.b) ∧ w.cell? ⟨b, 4, none⟩ = some (.int .i64 g.c) ∧ w.cell? ⟨b, 5, none⟩ = some (.int .i64 g.d) ∧ w.cell? ⟨b, 6, none⟩ = some (.bool g.void) ∧ w.cell? ⟨b, 7, none⟩ = some (.int .i64 g.til) :=
  ⟨(h.2 0 (by decide)).1, (h.2 1 (by decide)).1, (h.2 2 (by decide)).1, (h.2 3 (by decide)).1, (h.2 4 (by decide)).1, (h.2 5 (by decide)).1, (h.2 6 (by decide)).1, (h.2 7 (by decide)).1⟩
theorem cells_free {n : Nat} {F : Nat → Value} (h : CellsAt w b n F) : ∀ j, j < n → w.frozen? ⟨b, j, none⟩ = false := fun j hj => (h.2 j hj).2
theorem tkc_get (h : CellsAt w b 10 (tkC k)) : w.cell? ⟨b, 0, none⟩ = some (.int .u64 (k.s : Nat)) ∧ w.cell? ⟨b, 1, none⟩ = some (.int .u64 (k.p : Nat)) ∧ w.cell? ⟨b, 2, none⟩ = some (.int .i64 k.g.ops) ∧ w.cell? ⟨b, 3, none⟩ = some (.int .i64 k.g.zoom) ∧ w.cell? ⟨b, 4, none⟩ = some (.int .i64 k.g.a) ∧ w.cell? ⟨b, 5, none⟩ = some (.int .i64 k.g.b) ∧ w.cell? ⟨b, 6, none⟩ = some (.int .i64 k.g.c) ∧ w.cell? ⟨b, 7, none⟩ = some (.int .i64 k.g.d) ∧ w.cell? ⟨b, 8, none⟩ = some (.bool k.g.void) ∧ w.cell? ⟨b, 9, none⟩ = some (.int .i64 k.g.til) :=
  ⟨(h.2 0 (by decide)).1, (h.2 1 (by decide)).1, (h.2 2 (by decide)).1, (h.2 3 (by decide)).1, (h.2 4 (by decide)).1, (h.2 5 (by decide)).1, (h.2 6 (by decide)).1, (h.2 7 (by decide)).1, (h.2 8 (by decide)).1, (h.2 9 (by decide)).1⟩
/-- A grant stored whole. -/
theorem grc_new {t : TypeId} (hb : b = w.heap.size) : CellsAt (w.alloc (Obj.cells #[.int .i64 g.ops, .int .i64 g.zoom, .int .i64 g.a, .int .i64 g.b, .int .i64 g.c, .int .i64 g.d, .bool g.void, .int .i64 g.til] t)) b 8 (grC g) := by
  subst hb
  exact CellsAt.new fun j hj => by rcases gr_at hj with rfl | rfl | rfl | rfl | rfl | rfl | rfl | rfl <;> rfl
theorem grc_set (h : HasC w b 8) : CellsAt ((((((((w.setCell ⟨b, 0, none⟩ (.int .i64 g.ops)).setCell ⟨b, 1, none⟩ (.int .i64 g.zoom)).setCell ⟨b, 2, none⟩ (.int .i64 g.a)).setCell ⟨b, 3, none⟩ (.int .i64 g.b)).setCell ⟨b, 4, none⟩ (.int .i64 g.c)).setCell ⟨b, 5, none⟩ (.int .i64 g.d)).setCell ⟨b, 6, none⟩ (.bool g.void)).setCell ⟨b, 7, none⟩ (.int .i64 g.til)) b 8 (grC g) := by
  obtain ⟨F, h⟩ := h
  refine ((((((((h.set (j := 0) (by decide) _).set (j := 1) (by decide) _).set (j := 2) (by decide) _).set (j := 3) (by decide) _).set (j := 4) (by decide) _).set (j := 5) (by decide) _).set (j := 6) (by decide) _).set (j := 7) (by decide) _).congr ?_
  intro j hj
  rcases gr_at hj with rfl | rfl | rfl | rfl | rfl | rfl | rfl | rfl <;> rfl
theorem tkc_new {t : TypeId} (hb : b = w.heap.size) : CellsAt (w.alloc (Obj.cells #[.int .u64 (k.s : Nat), .int .u64 (k.p : Nat), .int .i64 k.g.ops, .int .i64 k.g.zoom, .int .i64 k.g.a, .int .i64 k.g.b, .int .i64 k.g.c, .int .i64 k.g.d, .bool k.g.void, .int .i64 k.g.til] t)) b 10 (tkC k) := by
  subst hb
  exact CellsAt.new fun j hj => by rcases tk_at hj with rfl | rfl | rfl | rfl | rfl | rfl | rfl | rfl | rfl | rfl <;> rfl
theorem tkc_set (h : HasC w b 10) : CellsAt ((((((((((w.setCell ⟨b, 0, none⟩ (.int .u64 (k.s : Nat))).setCell ⟨b, 1, none⟩ (.int .u64 (k.p : Nat))).setCell ⟨b, 2, none⟩ (.int .i64 k.g.ops)).setCell ⟨b, 3, none⟩ (.int .i64 k.g.zoom)).setCell ⟨b, 4, none⟩ (.int .i64 k.g.a)).setCell ⟨b, 5, none⟩ (.int .i64 k.g.b)).setCell ⟨b, 6, none⟩ (.int .i64 k.g.c)).setCell ⟨b, 7, none⟩ (.int .i64 k.g.d)).setCell ⟨b, 8, none⟩ (.bool k.g.void)).setCell ⟨b, 9, none⟩ (.int .i64 k.g.til)) b 10 (tkC k) := by
  obtain ⟨F, h⟩ := h
  refine ((((((((((h.set (j := 0) (by decide) _).set (j := 1) (by decide) _).set (j := 2) (by decide) _).set (j := 3) (by decide) _).set (j := 4) (by decide) _).set (j := 5) (by decide) _).set (j := 6) (by decide) _).set (j := 7) (by decide) _).set (j := 8) (by decide) _).set (j := 9) (by decide) _).congr ?_
  intro j hj
  rcases tk_at hj with rfl | rfl | rfl | rfl | rfl | rfl | rfl | rfl | rfl | rfl <;> rfl
end
set_option maxHeartbeats 8000000 in
theorem grants_any (q c : Nat) (A : Option Addr) (T : List Tk) (k : Tk) (w : World) (h : Tab w q A c T) (hn : T.length ≤ 100) (hu : U64 T) (hg : GoodT T) (hk : k.p < 18446744073709551616) (hr : rightG k.g = true) :
    Calls Try.prog 39 #[.pointer (some ⟨q, 0, none⟩), .agg #[.int .u64 (k.s : Nat), .int .u64 (k.p : Nat), .int .i64 k.g.ops, .int .i64 k.g.zoom, .int .i64 k.g.a, .int .i64 k.g.b, .int .i64 k.g.c, .int .i64 k.g.d, .bool k.g.void, .int .i64 k.g.til]] w fun e w' => e = .returned (.agg #[.int .i64 (grantsT T k).ops, .int .i64 (grantsT T k).zoom, .int .i64 (grantsT T k).a, .int .i64 (grantsT T k).b, .int .i64 (grantsT T k).c, .int .i64 (grantsT T k).d, .bool (grantsT T k).void, .int .i64 (grantsT T k).til]) ∧ Below w.heap.size w w' := by
  have HT := Lib.hid h
  have hc := h.cell
  have hq := h.lt
  have P1 := Lib.hid (fun (s : Nat) (Y : World) (hY : Below w.heap.size w Y) (hs : s < 18446744073709551616) => at_any q c A T s Y (h.keep hY) hn hu hs)
  obtain ⟨R, hR⟩ : ∃ R, grantsT T k = R := ⟨_, rfl⟩
  have HR := Lib.hid (show climb T T.length k.g k.p = R from hR)
  obtain ⟨n, hnn⟩ : ∃ n, T.length = n := ⟨_, rfl⟩
  rw [hnn] at hc hn
  rw [hR]
  have HN := Lib.hid hnn
  have HU := Lib.hid hu
  have HG := Lib.hid hg
  have HK := Lib.hid (show k.p < 18446744073709551616 ∧ rightG k.g = true from ⟨hk, hr⟩)
  clear h hu hg hk hr hR hnn
  go_enter Try.func39, Try.ntmps39
  go_wp2_with fail
  go_loopw [14] (fun i wr => ∃ (m : Nat) (K : Tk) (G : Gr), m ≤ n ∧ i = .int .i64 m ∧ Hid (climb T (n - m) G K.p = R ∧ K.p < 18446744073709551616 ∧ rightG G = true) ∧ CellsAt wr w.heap.size 10 (tkC K) ∧ CellsAt wr (w.heap.size + 2) 8 (grC G) ∧ HasC wr (w.heap.size + 1) 8 ∧ Below w.heap.size w wr ∧ w.heap.size + 3 ≤ wr.heap.size) (fun i _ => n - (intOf i).toNat)
  case atStart =>
    refine ⟨0, k, k.g, by omega, rfl, ⟨by rw [Nat.sub_zero, ← HN.out]; exact HR.out, HK.out⟩, ?_, ?_, ?_, by repeat' (first | (with_reducible exact Below.refl _ _) | (with_reducible assumption) | (with_reducible refine Later.step ?_ ?_ _) | (with_reducible refine Below.alloc ?_ ?_ _) | (with_reducible refine Below.drew ?_) | (with_reducible refine Below.setCell ?_ ?_ _) | go_size), by simp⟩
    all_goals repeat' (first | (with_reducible assumption) | (with_reducible exact HasC.of (by assumption)) | (with_reducible refine grc_set ?_) | (with_reducible refine tkc_set ?_) | (with_reducible refine grc_new ?_; focus (simp; done)) | (with_reducible refine tkc_new ?_; focus (simp; done)) | (with_reducible refine hasC_new rfl ?_; focus (simp; done)) | (with_reducible refine CellsAt.alloc ?_ _) | (with_reducible refine CellsAt.other ?_ ?_ _) | (with_reducible refine CellsAt.later _ ?_) | (with_reducible refine CellsAt.drew ?_) | (with_reducible refine HasC.drew ?_) | (with_reducible refine HasC.alloc ?_ _) | (with_reducible refine HasC.other ?_ ?_ _) | (with_reducible refine HasC.later _ ?_) | (focus (dsimp only; omega)))
  case round =>
    obtain ⟨m, K, G, hm, rfl, hH, hK, hG, hC, hb, hs⟩ := hrel
    obtain ⟨k0, k1, k2, k3, k4, k5, k6, k7, k8, k9⟩ := tkc_get hK
    obtain ⟨g0, g1, g2, g3, g4, g5, g6, g7⟩ := grc_get hG
    have hkz := cells_free hK
    have hgz := cells_free hG
    obtain ⟨F, hC⟩ := hC
    have hcz := cells_free hC
    have hcv := fun j (hj : j < 8) => (hC.2 j hj).1
    have kz0 := hkz 0 (by decide)
    have kz1 := hkz 1 (by decide)
    have kz2 := hkz 2 (by decide)
    have kz3 := hkz 3 (by decide)
    have kz4 := hkz 4 (by decide)
    have kz5 := hkz 5 (by decide)
    have kz6 := hkz 6 (by decide)
    have kz7 := hkz 7 (by decide)
    have kz8 := hkz 8 (by decide)
    have kz9 := hkz 9 (by decide)
    have gz0 := hgz 0 (by decide)
    have gz1 := hgz 1 (by decide)
    have gz2 := hgz 2 (by decide)
    have gz3 := hgz 3 (by decide)
    have gz4 := hgz 4 (by decide)
    have gz5 := hgz 5 (by decide)
    have gz6 := hgz 6 (by decide)
    have gz7 := hgz 7 (by decide)
    have cz0 := hcz 0 (by decide)
    have cv0 := hcv 0 (by decide)
    have cz1 := hcz 1 (by decide)
    have cv1 := hcv 1 (by decide)
    have cz2 := hcz 2 (by decide)
    have cv2 := hcv 2 (by decide)
    have cz3 := hcz 3 (by decide)
    have cv3 := hcv 3 (by decide)
    have cz4 := hcz 4 (by decide)
    have cv4 := hcv 4 (by decide)
    have cz5 := hcz 5 (by decide)
    have cv5 := hcv 5 (by decide)
    have cz6 := hcz 6 (by decide)
    have cv6 := hcv 6 (by decide)
    have cz7 := hcz 7 (by decide)
    have cv7 := hcv 7 (by decide)
    have HKC := Lib.hid (show CellsAt wr w.heap.size 10 (tkC K) ∧ CellsAt wr (w.heap.size + 2) 8 (grC G) ∧ HasC wr (w.heap.size + 1) 8 from ⟨hK, hG, HasC.of hC⟩)
    clear hkz hgz hcz hcv hK hG hC
    obtain ⟨X, rfl⟩ : ∃ X : Later w.heap.size w, wr = X.w := ⟨⟨wr, hb⟩, rfl⟩
    clear hb
    by_cases hlt : m < n
    · rcases Int.lt_or_le (idxT T K.p) 0 with hneg | hpos
      · have hRG : R = G := by
          rw [← hH.out.1, climb_none (idx_none.1 hneg)]
        subst hRG
        have p2 := P1.out K.p
        obtain ⟨r, hr⟩ : ∃ r, idxT T K.p = r := ⟨_, rfl⟩
        rw [hr] at hneg p2
        have hr0 : decide (r < 0) = true := decide_eq_true hneg
        have P2 := Lib.hid p2
        clear p2 hr hneg
        go_wp2_with (first
          | (go_at_call 34; refine (P2.out _ (by repeat' (first | (with_reducible exact Below.refl _ _) | (with_reducible assumption) | (with_reducible refine Later.step ?_ ?_ _) | (with_reducible refine Below.alloc ?_ ?_ _) | (with_reducible refine Below.drew ?_) | (with_reducible refine bel_drewN ?_ _) | (with_reducible refine bel_grown ?_ (by assumption) ?_ ?_) | (with_reducible refine Below.setCell ?_ ?_ _) | go_size)) hH.out.2.1).mono ?_; rintro e w' ⟨rfl, hb⟩; obtain ⟨X1, rfl, hl1, hm1⟩ := later _ hb (Nat.le_refl _); clear hb; (try simp only [World.size_alloc, World.size_setCell, World.size_drew] at hm1 hl1)))
        refine bodyPost_ret (by simp only [results, Try.results39]; go_simp; all_goals (first | rfl | simp [sel])) rfl ⟨rfl, ?_⟩
        repeat' (first | (with_reducible exact Below.refl _ _) | (with_reducible assumption) | (with_reducible refine Later.step ?_ ?_ _) | (with_reducible refine Below.alloc ?_ ?_ _) | (with_reducible refine Below.drew ?_) | (with_reducible refine bel_drewN ?_ _) | (with_reducible refine bel_grown ?_ (by assumption) ?_ ?_) | (with_reducible refine Below.setCell ?_ ?_ _) | go_size)
      · obtain ⟨hi1, hi2⟩ := idx_some hpos
        obtain ⟨i, hi⟩ : ∃ i : Nat, idxT T K.p = (i : Int) := ⟨(idxT T K.p).toNat, by omega⟩
        rw [show (idxT T K.p).toNat = i by omega] at hi1 hi2
        have hT := HT.out.tks
        obtain ⟨b, o, hA, hbl, hc9⟩ := hT (by omega)
        have hck := hc9 i hi1
        subst hA
        have hmem := find_mem hi2
        obtain ⟨x, hx⟩ : ∃ x, T.getD i t0 = x := ⟨_, rfl⟩
        rw [hx] at hi2 hck hmem
        have hrx := (HG.out.mem x hmem.1).2.2
        have hpx := (HU.out x hmem.1).2
        have c0 := hck 0 (by decide)
        have c1 := hck 1 (by decide)
        have c2 := hck 2 (by decide)
        have c3 := hck 3 (by decide)
        have c4 := hck 4 (by decide)
        have c5 := hck 5 (by decide)
        have c6 := hck 6 (by decide)
        have c7 := hck 7 (by decide)
        have c8 := hck 8 (by decide)
        have c9 := hck 9 (by decide)
        simp only [tkC, List.getD_cons_zero, List.getD_cons_succ, Nat.add_zero] at c0 c1 c2 c3 c4 c5 c6 c7 c8 c9
        have P3 := Lib.hid (fun Y => tmeet_any G x.g Y hH.out.2.2 hrx)
        have HNX := Lib.hid (show climb T (n - (m + 1)) (meetG G x.g) x.p = R ∧ x.p < 18446744073709551616 ∧ rightG (meetG G x.g) = true from ⟨by rw [← hH.out.1, show n - m = (n - (m + 1)) + 1 by omega, climb_some hi2], hpx, right_meet hH.out.2.2 hrx⟩)
        obtain ⟨M, hM⟩ : ∃ M, meetG G x.g = M := ⟨_, rfl⟩
        rw [hM] at P3 HNX
        have p2 := P1.out K.p
        rw [hi] at p2
        have P2 := Lib.hid p2
        have hi3 : i < n := by rw [← HN.out]; exact hi1
        have hr0 : decide ((i : Int) < 0) = false := decide_eq_false (by omega)
        clear p2 hi hpos hi1 hi2 hT hc9 hck hmem hrx hpx hx hM
        go_wp2_with (first
          | (go_at_call 34; refine (P2.out _ (by repeat' (first | (with_reducible exact Below.refl _ _) | (with_reducible assumption) | (with_reducible refine Later.step ?_ ?_ _) | (with_reducible refine Below.alloc ?_ ?_ _) | (with_reducible refine Below.drew ?_) | (with_reducible refine bel_drewN ?_ _) | (with_reducible refine bel_grown ?_ (by assumption) ?_ ?_) | (with_reducible refine Below.setCell ?_ ?_ _) | go_size)) hH.out.2.1).mono ?_; rintro e w' ⟨rfl, hb⟩; obtain ⟨X1, rfl, hl1, hm1⟩ := later _ hb (Nat.le_refl _); clear hb; (try simp only [World.size_alloc, World.size_setCell, World.size_drew] at hm1 hl1))
          | (go_at_call 41; refine (P3.out _).mono ?_; rintro e w' ⟨rfl, hb⟩; obtain ⟨X2, rfl, hl2, hm2⟩ := later _ hb (Nat.le_refl _); clear hb; (try simp only [World.size_alloc, World.size_setCell, World.size_drew] at hm2 hl2)))
        go_roundw
        case rel =>
          obtain ⟨hK, hG, hC⟩ := HKC.out
          refine ⟨m + 1, x, M, by omega, by go_num, HNX.out, ?_, ?_, ?_, by repeat' (first | (with_reducible exact Below.refl _ _) | (with_reducible assumption) | (with_reducible refine Later.step ?_ ?_ _) | (with_reducible refine Below.alloc ?_ ?_ _) | (with_reducible refine Below.drew ?_) | (with_reducible refine bel_drewN ?_ _) | (with_reducible refine bel_grown ?_ (by assumption) ?_ ?_) | (with_reducible refine Below.setCell ?_ ?_ _) | go_size), by go_size⟩
          all_goals repeat' (first | (with_reducible assumption) | (with_reducible exact HasC.of (by assumption)) | (with_reducible refine grc_set ?_) | (with_reducible refine tkc_set ?_) | (with_reducible refine grc_new ?_; focus (simp; done)) | (with_reducible refine tkc_new ?_; focus (simp; done)) | (with_reducible refine hasC_new rfl ?_; focus (simp; done)) | (with_reducible refine CellsAt.alloc ?_ _) | (with_reducible refine CellsAt.other ?_ ?_ _) | (with_reducible refine CellsAt.later _ ?_) | (with_reducible refine CellsAt.drew ?_) | (with_reducible refine HasC.drew ?_) | (with_reducible refine HasC.alloc ?_ _) | (with_reducible refine HasC.other ?_ ?_ _) | (with_reducible refine HasC.later _ ?_) | (focus (dsimp only; omega)))
        case measure => simp [intOf]; omega
    · obtain rfl : m = n := by omega
      have hRG : R = G := by rw [← hH.out.1, Nat.sub_self]; rfl
      subst hRG
      go_wp2
      refine bodyPost_ret (by simp only [results, Try.results39]; go_simp; all_goals (first | rfl | simp [sel])) rfl ⟨rfl, ?_⟩
      repeat' (first | (with_reducible exact Below.refl _ _) | (with_reducible assumption) | (with_reducible refine Later.step ?_ ?_ _) | (with_reducible refine Below.alloc ?_ ?_ _) | (with_reducible refine Below.drew ?_) | (with_reducible refine bel_drewN ?_ _) | (with_reducible refine bel_grown ?_ (by assumption) ?_ ?_) | (with_reducible refine Below.setCell ?_ ?_ _) | go_size)
end Go.Proofs.Ytjfgjlklbepnjaa
