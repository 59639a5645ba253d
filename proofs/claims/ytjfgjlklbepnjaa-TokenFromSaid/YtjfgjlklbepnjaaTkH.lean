/- Live, Tickets, Len: walked. No condition beyond what the table reads as. -/
import Derived.Test.YtjfgjlklbepnjaaTkG
namespace Go.Proofs.Ytjfgjlklbepnjaa
open Go.RowKit
set_option linter.unusedSimpArgs false
set_option linter.unusedVariables false
set_option maxRecDepth 2000

def liveG (M : List Tk) (s : Nat) : Gr := match findT M s with
  | none => zeroG
  | some k => grantsT M k
set_option maxHeartbeats 8000000 in
theorem live_any (q c : Nat) (A : Option Addr) (T : List Tk) (s : Nat) (now : Int) (w : World) (h : GTab w q A c T) (hs : s < 18446744073709551616) :
    Calls Try.prog 18 #[.pointer (some ⟨q, 0, none⟩), .int .u64 (s : Nat), .int .i64 now] w (MPost w q A (.tuple #[.agg #[.int .i64 (liveG (leftT T now) s).ops, .int .i64 (liveG (leftT T now) s).zoom, .int .i64 (liveG (leftT T now) s).a, .int .i64 (liveG (leftT T now) s).b, .int .i64 (liveG (leftT T now) s).c, .int .i64 (liveG (leftT T now) s).d, .bool (liveG (leftT T now) s).void, .int .i64 (liveG (leftT T now) s).til], .bool (findT (leftT T now) s).isSome]) (leftT T now)) := by
  have HT := Lib.hid h
  have hq := h.tab.lt
  have P1 := Lib.hid (fun (Y : World) (hY : Below w.heap.size w Y) => sweep_any q c A T now Y (h.tab.keep hY) (by have := h.len; omega) h.u64 h.good)
  have P3 := Lib.hid (fun (A' : Option Addr) (c' : Nat) (Y : World) (hY : Tab Y q A' c' (leftT T now)) => at_any q c' A' (leftT T now) s Y hY (by have := left_len T now; have := h.len; omega) (u64_filter h.u64 _) hs)
  have HL := Lib.hid (show GoodT (leftT T now) ∧ (leftT T now).length ≤ 8 ∧ U64 (leftT T now) from ⟨left_good h.good now, Nat.le_trans (left_len T now) h.len, u64_filter h.u64 _⟩)
  obtain ⟨L, hL⟩ : ∃ L, leftT T now = L := ⟨_, rfl⟩
  rw [hL] at P1 P3 HL ⊢
  clear h hL
  rcases Int.lt_or_le (idxT L s) 0 with hneg | hpos
  · have hn := idx_none.1 hneg
    have e1 : liveG L s = zeroG := by unfold liveG; rw [hn]
    have e2 : (findT L s).isSome = false := by rw [hn]; rfl
    rw [e1, e2]
    unfold zeroG
    obtain ⟨r, hr⟩ : ∃ r, idxT L s = r := ⟨_, rfl⟩
    rw [hr] at hneg P3
    have hr0 : decide (r < 0) = true := decide_eq_true hneg
    clear hneg hn e1 e2 hr
    go_enter Try.func18, Try.ntmps18
    go_wp2_with fail
    refine (P1.out _ (by repeat' (first | (with_reducible exact Below.refl _ _) | (with_reducible assumption) | (with_reducible refine Later.step ?_ ?_ _) | (with_reducible refine Below.alloc ?_ ?_ _) | (with_reducible refine Below.drew ?_) | (with_reducible refine bel_drewN ?_ _) | (with_reducible refine bel_grown ?_ (by assumption) ?_ ?_) | (with_reducible refine Below.setCell ?_ ?_ _) | go_size))).mono ?_
    rintro e w1 ⟨rfl, A1, c1, ht, hto⟩
    have hfar : Far q A w.heap.size := HT.out.tab.far (Nat.le_refl _)
    have hg := CellsAt.to (grc_new (w := w) (g := g0) (t := 30) rfl) hto hfar
    obtain ⟨r0, r1, r2, r3, r4, r5, r6, r7⟩ := grc_get hg
    have hzf := cells_free hg
    have z0 := hzf 0 (by decide)
    have z1 := hzf 1 (by decide)
    have z2 := hzf 2 (by decide)
    have z3 := hzf 3 (by decide)
    have z4 := hzf 4 (by decide)
    have z5 := hzf 5 (by decide)
    have z6 := hzf 6 (by decide)
    have z7 := hzf 7 (by decide)
    have hgl := hg.1
    simp only [g0] at r0 r1 r2 r3 r4 r5 r6 r7
    have HTO := Lib.hid ((TabTo.below (A := A) (q := q) (show Below w.heap.size w (w.alloc (Obj.cells #[.int .i64 g0.ops, .int .i64 g0.zoom, .int .i64 g0.a, .int .i64 g0.b, .int .i64 g0.c, .int .i64 g0.d, .bool g0.void, .int .i64 g0.til] 30)) by repeat' (first | (with_reducible exact Below.refl _ _) | (with_reducible assumption) | (with_reducible refine Later.step ?_ ?_ _) | (with_reducible refine Below.alloc ?_ ?_ _) | (with_reducible refine Below.drew ?_) | (with_reducible refine Below.setCell ?_ ?_ _) | go_size))).trans hto)
    have HFA := Lib.hid (hfar.to hto (by simp))
    have HT1 := Lib.hid ht
    have hs1 := hto.size
    have hb := HTO.out.elder HT.out.tab
    obtain ⟨X1, rfl⟩ : ∃ Z : Later q w, w1 = Z.w := ⟨⟨w1, hb⟩, rfl⟩
    clear ht hto hg hb hfar hzf
    go_wp2_with (first
      | (go_at_call 34; refine (P3.out _ _ _ HT1.out).mono ?_; rintro e w' ⟨rfl, hb⟩; obtain ⟨X2, rfl, hl2, hm2⟩ := later _ hb (Nat.le_refl _); clear hb; (try simp only [World.size_alloc, World.size_setCell, World.size_drew] at hm2 hl2)))
    have hb2 : Below X1.w.heap.size X1.w X2.w := by repeat' (first | (with_reducible exact Below.refl _ _) | (with_reducible assumption) | (with_reducible refine Later.step ?_ ?_ _) | (with_reducible refine Below.alloc ?_ ?_ _) | (with_reducible refine Below.drew ?_) | (with_reducible refine bel_drewN ?_ _) | (with_reducible refine bel_grown ?_ (by assumption) ?_ ?_) | (with_reducible refine Below.setCell ?_ ?_ _) | go_size)
    refine bodyPost_ret (by simp only [results, Try.results18]; go_simp; all_goals (first | rfl | simp [sel])) rfl ⟨rfl, A1, c1, ?_, ?_⟩
    · repeat' (first | (with_reducible refine GTab.put ?_ HFA.out _) | exact ⟨HT1.out.keep hb2, HL.out.1, HL.out.2.1, HL.out.2.2⟩)
    · repeat' (first | (with_reducible refine TabTo.put ?_ (Nat.le_refl _) _) | exact HTO.out.trans (TabTo.below hb2))
  · have hi := idx_some hpos
    have hmem := find_mem hi.2
    obtain ⟨r, hr⟩ : ∃ r : Nat, idxT L s = (r : Int) := ⟨(idxT L s).toNat, by omega⟩
    rw [show (idxT L s).toNat = r by omega] at hi hmem
    have e1 : liveG L s = grantsT L (L.getD r t0) := by unfold liveG; rw [hi.2]
    have e2 : (findT L s).isSome = true := by rw [hi.2]; rfl
    rw [e1, e2]
    rw [hr] at P3
    obtain ⟨x, hx⟩ : ∃ x, L.getD r t0 = x := ⟨_, rfl⟩
    rw [hx] at hmem
    have P4 := Lib.hid (fun (A' : Option Addr) (c' : Nat) (Y : World) (hY : Tab Y q A' c' L) => grants_any q c' A' L x Y hY (by have := HL.out.2.1; omega) HL.out.2.2 HL.out.1 (HL.out.2.2 x hmem.1).2 (HL.out.1.mem x hmem.1).2.2)
    have hr0 : decide ((r : Int) < 0) = false := decide_eq_false (by omega)
    obtain ⟨n, hn⟩ : ∃ n, L.length = n := ⟨_, rfl⟩
    have hrn : r < n := by rw [← hn]; exact hi.1
    have HN := Lib.hid hn
    have HX := Lib.hid hx
    rw [hx]
    obtain ⟨G, hG⟩ : ∃ G, grantsT L x = G := ⟨_, rfl⟩
    rw [hG] at P4 ⊢
    clear hpos hi e1 e2 hr hmem hx hn hG
    go_enter Try.func18, Try.ntmps18
    go_wp2_with fail
    refine (P1.out _ (by repeat' (first | (with_reducible exact Below.refl _ _) | (with_reducible assumption) | (with_reducible refine Later.step ?_ ?_ _) | (with_reducible refine Below.alloc ?_ ?_ _) | (with_reducible refine Below.drew ?_) | (with_reducible refine bel_drewN ?_ _) | (with_reducible refine bel_grown ?_ (by assumption) ?_ ?_) | (with_reducible refine Below.setCell ?_ ?_ _) | go_size))).mono ?_
    rintro e w1 ⟨rfl, A1, c1, ht, hto⟩
    have hfar : Far q A w.heap.size := HT.out.tab.far (Nat.le_refl _)
    have hg := CellsAt.to (grc_new (w := w) (g := g0) (t := 30) rfl) hto hfar
    obtain ⟨r0, r1, r2, r3, r4, r5, r6, r7⟩ := grc_get hg
    have hzf := cells_free hg
    have z0 := hzf 0 (by decide)
    have z1 := hzf 1 (by decide)
    have z2 := hzf 2 (by decide)
    have z3 := hzf 3 (by decide)
    have z4 := hzf 4 (by decide)
    have z5 := hzf 5 (by decide)
    have z6 := hzf 6 (by decide)
    have z7 := hzf 7 (by decide)
    have hgl := hg.1
    simp only [g0] at r0 r1 r2 r3 r4 r5 r6 r7
    have HTO := Lib.hid ((TabTo.below (A := A) (q := q) (show Below w.heap.size w (w.alloc (Obj.cells #[.int .i64 g0.ops, .int .i64 g0.zoom, .int .i64 g0.a, .int .i64 g0.b, .int .i64 g0.c, .int .i64 g0.d, .bool g0.void, .int .i64 g0.til] 30)) by repeat' (first | (with_reducible exact Below.refl _ _) | (with_reducible assumption) | (with_reducible refine Later.step ?_ ?_ _) | (with_reducible refine Below.alloc ?_ ?_ _) | (with_reducible refine Below.drew ?_) | (with_reducible refine Below.setCell ?_ ?_ _) | go_size))).trans hto)
    have HFA := Lib.hid (hfar.to hto (by simp))
    have HT1 := Lib.hid ht
    have hs1 := hto.size
    have hb := HTO.out.elder HT.out.tab
    have hcq := ht.cell
    have hql := ht.lt
    rw [HN.out] at hcq
    obtain ⟨b, o, hA, hbl, hc9⟩ := ht.tks (by rw [HN.out]; omega)
    have hck := hc9 r (by rw [HN.out]; exact hrn)
    rw [HX.out] at hck
    have c0 := hck 0 (by decide)
    have d1 := hck 1 (by decide)
    have c2 := hck 2 (by decide)
    have c3 := hck 3 (by decide)
    have c4 := hck 4 (by decide)
    have c5 := hck 5 (by decide)
    have c6 := hck 6 (by decide)
    have c7 := hck 7 (by decide)
    have c8 := hck 8 (by decide)
    have c9 := hck 9 (by decide)
    simp only [tkC, List.getD_cons_zero, List.getD_cons_succ, Nat.add_zero] at c0 d1 c2 c3 c4 c5 c6 c7 c8 c9
    rw [hA] at hcq
    obtain ⟨X1, rfl⟩ : ∃ Z : Later q w, w1 = Z.w := ⟨⟨w1, hb⟩, rfl⟩
    clear ht hto hg hb hfar hzf hc9 hck
    go_wp2_with (first
      | (go_at_call 34; refine (P3.out _ _ _ HT1.out).mono ?_; rintro e w' ⟨rfl, hb⟩; obtain ⟨X2, rfl, hl2, hm2⟩ := later _ hb (Nat.le_refl _); clear hb; (try simp only [World.size_alloc, World.size_setCell, World.size_drew] at hm2 hl2))
      | (go_at_call 39; refine (P4.out _ _ _ (HT1.out.keep (by repeat' (first | (with_reducible exact Below.refl _ _) | (with_reducible assumption) | (with_reducible refine Later.step ?_ ?_ _) | (with_reducible refine Below.alloc ?_ ?_ _) | (with_reducible refine Below.drew ?_) | (with_reducible refine bel_drewN ?_ _) | (with_reducible refine bel_grown ?_ (by assumption) ?_ ?_) | (with_reducible refine Below.setCell ?_ ?_ _) | go_size)))).mono ?_; rintro e w' ⟨rfl, hb⟩; obtain ⟨X4, rfl, hl4, hm4⟩ := later _ hb (Nat.le_refl _); clear hb; (try simp only [World.size_alloc, World.size_setCell, World.size_drew] at hm4 hl4)))
    have hb2 : Below X1.w.heap.size X1.w X4.w := by repeat' (first | (with_reducible exact Below.refl _ _) | (with_reducible assumption) | (with_reducible refine Later.step ?_ ?_ _) | (with_reducible refine Below.alloc ?_ ?_ _) | (with_reducible refine Below.drew ?_) | (with_reducible refine bel_drewN ?_ _) | (with_reducible refine bel_grown ?_ (by assumption) ?_ ?_) | (with_reducible refine Below.setCell ?_ ?_ _) | go_size)
    refine bodyPost_ret (by simp only [results, Try.results18]; go_simp; all_goals (first | rfl | simp [sel])) rfl ⟨rfl, A1, c1, ?_, ?_⟩
    · repeat' (first | (with_reducible refine GTab.put ?_ HFA.out _) | exact ⟨HT1.out.keep hb2, HL.out.1, HL.out.2.1, HL.out.2.2⟩)
    · repeat' (first | (with_reducible refine TabTo.put ?_ (Nat.le_refl _) _) | exact HTO.out.trans (TabTo.below hb2))
/-- What Tickets leaves: a row of its own, the table swept. -/
def TksPost (w : World) (q : Nat) (A : Option Addr) (M : List Tk) (e : Ending) (w' : World) : Prop :=
  ∃ C cc A' c', e = .returned (.slice C M.length cc) ∧ Row w' q A' C M ∧ (0 < M.length → ∀ a, C = some a → w.heap.size ≤ a.block) ∧ GTab w' q A' c' M ∧ TabTo w q A w' A'
set_option maxHeartbeats 8000000 in
theorem tickets_any (q c : Nat) (A : Option Addr) (T : List Tk) (now : Int) (w : World) (h : GTab w q A c T) :
    Calls Try.prog 21 #[.pointer (some ⟨q, 0, none⟩), .int .i64 now] w (TksPost w q A (leftT T now)) := by
  obtain ⟨i0, hi, hz0, hz1, hz2⟩ := info_parts (show (Try.prog.info? 35).map (fun i => (i.zero, i.size, i.bytes)) = some (some (.agg #[.int .u64 (t0.s : Nat), .int .u64 (t0.p : Nat), .int .i64 t0.g.ops, .int .i64 t0.g.zoom, .int .i64 t0.g.a, .int .i64 t0.g.b, .int .i64 t0.g.c, .int .i64 t0.g.d, .bool t0.g.void, .int .i64 t0.g.til]), 10, 80) by kernel_rfl)
  have HT := Lib.hid h
  have hq := h.tab.lt
  have P1 := Lib.hid (fun (Y : World) (hY : Below w.heap.size w Y) => sweep_any q c A T now Y (h.tab.keep hY) (by have := h.len; omega) h.u64 h.good)
  have HL := Lib.hid (show GoodT (leftT T now) ∧ (leftT T now).length ≤ 8 ∧ U64 (leftT T now) from ⟨left_good h.good now, Nat.le_trans (left_len T now) h.len, u64_filter h.u64 _⟩)
  obtain ⟨L, hL⟩ : ∃ L, leftT T now = L := ⟨_, rfl⟩
  rw [hL] at P1 HL ⊢
  obtain ⟨n, hn⟩ : ∃ n, L.length = n := ⟨_, rfl⟩
  have HN := Lib.hid hn
  have hn8 : n ≤ 8 := by rw [← hn]; exact HL.out.2.1
  have HPost := Lib.hid (show ∀ (C : Option Addr) (cc : Nat) (w' : World) (A' : Option Addr) (c' : Nat), Row w' q A' C L → (0 < L.length → ∀ a, C = some a → w.heap.size ≤ a.block) → GTab w' q A' c' L → TabTo w q A w' A' → TksPost w q A L (.returned (.slice C n cc)) w' from fun C cc w' A' c' h1 h2 h3 h4 => ⟨C, cc, A', c', by rw [hn], h1, h2, h3, h4⟩)
  clear h hL hn
  go_enter Try.func21, Try.ntmps21
  go_wp2_with fail
  refine (P1.out _ (by repeat' (first | (with_reducible exact Below.refl _ _) | (with_reducible assumption) | (with_reducible refine Later.step ?_ ?_ _) | (with_reducible refine Below.alloc ?_ ?_ _) | (with_reducible refine Below.drew ?_) | (with_reducible refine bel_drewN ?_ _) | (with_reducible refine bel_grown ?_ (by assumption) ?_ ?_) | (with_reducible refine Below.setCell ?_ ?_ _) | go_size))).mono ?_
  rintro e w1 ⟨rfl, A1, c1, ht, hto⟩
  have HTO := Lib.hid hto
  have HT1 := Lib.hid ht
  have hs1 := hto.size
  have hb := HTO.out.elder HT.out.tab
  have hcq := ht.cell
  have hql := ht.lt
  rw [HN.out] at hcq
  obtain ⟨X1, rfl⟩ : ∃ Z : Later q w, w1 = Z.w := ⟨⟨w1, hb⟩, rfl⟩
  clear ht hto hb
  go_wp2_with fail
  go_loopw [5, 18] (fun al i wr => ∃ (k : Nat) (C : Option Addr) (cc : Nat), (k ≤ n ∧ Hid (wr.ownsRow X1.w.heap.size 35 10 (.slice C k cc) k (tkV (L.take k)))) ∧ al = .slice C k cc ∧ i = .int .i64 k ∧ Below X1.w.heap.size X1.w wr ∧ X1.w.heap.size ≤ wr.heap.size) (fun _ i _ => n - (intOf i).toNat)
  case atStart => exact ⟨0, none, 0, ⟨Nat.zero_le _, World.ownsRow_nil _ _ _ _⟩, rfl, rfl, Below.refl _ _, Nat.le_refl _⟩
  case round =>
    obtain ⟨k, C, cc, ⟨hk, hown⟩, rfl, rfl, hbel, hsz⟩ := hrel
    obtain ⟨X, rfl⟩ : ∃ X : Later X1.w.heap.size X1.w, wr = X.w := ⟨⟨wr, hbel⟩, rfl⟩
    clear hbel
    by_cases hlt : k < n
    · obtain ⟨b, o, hA, hB, hc9⟩ := HT1.out.tks (by rw [HN.out]; omega)
      subst hA
      have hck := hc9 k (by rw [HN.out]; exact hlt)
      have hsn := take_snoc (L := L) (i := k) (by rw [HN.out]; exact hlt)
      obtain ⟨x, hx⟩ : ∃ x, L.getD k t0 = x := ⟨_, rfl⟩
      rw [hx] at hck hsn
      have c0 := hck 0 (by decide)
      have d1 := hck 1 (by decide)
      have c2 := hck 2 (by decide)
      have c3 := hck 3 (by decide)
      have c4 := hck 4 (by decide)
      have c5 := hck 5 (by decide)
      have c6 := hck 6 (by decide)
      have c7 := hck 7 (by decide)
      have c8 := hck 8 (by decide)
      have c9 := hck 9 (by decide)
      simp only [tkC, List.getD_cons_zero, List.getD_cons_succ, Nat.add_zero] at c0 d1 c2 c3 c4 c5 c6 c7 c8 c9
      have HSN := Lib.hid hsn
      clear hc9 hck hx hsn
      go_wp2_with (at_builtin; refine wpList_append_own_at _ rfl _ _ 25 rfl X1.w.heap.size 35 i0 (.agg #[.int .u64 (t0.s : Nat), .int .u64 (t0.p : Nat), .int .i64 t0.g.ops, .int .i64 t0.g.zoom, .int .i64 t0.g.a, .int .i64 t0.g.b, .int .i64 t0.g.c, .int .i64 t0.g.d, .bool t0.g.void, .int .i64 t0.g.til]) 10 80 Try.underlying25 hi hz0 hz1 hz2 rfl (by decide) _ _ _ rfl ((hown.out.alloc _).alloc _) ⟨X.w.heap.size + 1, 0, none⟩ 1 1 [.int .u64 (x.s : Nat), .int .u64 (x.p : Nat), .int .i64 x.g.ops, .int .i64 x.g.zoom, .int .i64 x.g.a, .int .i64 x.g.b, .int .i64 x.g.c, .int .i64 x.g.d, .bool x.g.void, .int .i64 x.g.til] rfl rfl (cells_ten_at (by simp) _ _) (tk_ones x) (by unfold maxLen; omega) (by omega) (by go_size) ?_)
      intro v1 w1 hown1 hgrow1 _ _
      obtain ⟨A1', k1, rfl⟩ := own_formT hown1
      have hb1 : Below X1.w.heap.size X1.w w1 := Below.grown (Below.alloc (Below.alloc (show Below X1.w.heap.size X1.w X.w by repeat' (first | (with_reducible exact Below.refl _ _) | (with_reducible assumption) | (with_reducible refine Later.step ?_ ?_ _) | (with_reducible refine Below.alloc ?_ ?_ _) | (with_reducible refine Below.drew ?_) | (with_reducible refine bel_drewN ?_ _) | (with_reducible refine bel_grown ?_ (by assumption) ?_ ?_) | (with_reducible refine Below.setCell ?_ ?_ _) | go_size)) (by go_size) _) (by go_size) _) hgrow1 (by go_size) (fun k hk => (hown.out.lt k hk).1)
      have HO1 := Lib.hid hown1
      clear hown1 hgrow1
      go_wp2
      go_roundw
      case rel =>
        have h9 := HO1.out
        rw [← tkV_snoc, ← HSN.out] at h9
        exact ⟨k + 1, _, _, ⟨by omega, h9⟩, rfl, by go_num, hb1, hb1.size⟩
      case measure => simp [intOf]; omega
    · obtain rfl : k = n := by omega
      have h9 := hown.out
      rw [← HN.out, List.take_length, HN.out] at h9
      have HO := Lib.hid h9
      clear h9 hown
      go_wp2
      go_ret
      have hbX := X.is
      refine HPost.out _ _ _ _ _ (row_own HO.out HN.out (by omega) (fun a e => (HT1.out.row_lt a e).2)) (fun _ a e => Nat.le_trans hs1 (own_fresh HO.out a e)) ⟨HT1.out.keep hbX, HL.out.1, HL.out.2.1, HL.out.2.2⟩ (HTO.out.trans (TabTo.below hbX))
set_option maxHeartbeats 4000000 in
theorem tlen_any (q c : Nat) (A : Option Addr) (T : List Tk) (now : Int) (w : World) (h : GTab w q A c T) :
    Calls Try.prog 22 #[.pointer (some ⟨q, 0, none⟩), .int .i64 now] w (MPost w q A (.int .i64 ((leftT T now).length : Nat)) (leftT T now)) := by
  have P1 := Lib.hid (tickets_any q c A T now w h)
  obtain ⟨L, hL⟩ : ∃ L, leftT T now = L := ⟨_, rfl⟩
  rw [hL] at P1 ⊢
  clear h hL
  obtain ⟨n, hn⟩ : ∃ n, L.length = n := ⟨_, rfl⟩
  rw [hn]
  have HN := Lib.hid hn
  clear hn
  go_enter Try.func22, Try.ntmps22
  go_wp2_with fail
  refine P1.out.mono ?_
  rintro e w1 ⟨C, cc, A1, c1, rfl, _, _, hg, hto⟩
  rw [HN.out]
  have HG := Lib.hid hg
  have HTO := Lib.hid hto
  clear hg hto
  go_wp2
  go_ret
  exact ⟨rfl, A1, c1, HG.out, HTO.out⟩
end Go.Proofs.Ytjfgjlklbepnjaa
