/- Revoke: walked. No condition beyond what the table reads as. -/
import Derived.Test.YtjfgjlklbepnjaaTkH
namespace Go.Proofs.Ytjfgjlklbepnjaa
open Go.RowKit
set_option linter.unusedSimpArgs false
set_option linter.unusedVariables false
set_option maxRecDepth 2000

theorem Reads.mono_ {k : IntKind} {w : World} {B B' n : Nat} {A : Option Addr} {f : Nat → Int} (h : Reads k w B A n f) (hb : B ≤ B') : Reads k w B' A n f := fun hn => by
  obtain ⟨b, o, e, hlt, hc⟩ := h hn
  exact ⟨b, o, e, Nat.lt_of_lt_of_le hlt hb, hc⟩
set_option maxHeartbeats 4000000 in
theorem sindex_any (n c : Nat) (A : Option Addr) (G : List Nat) (s : Nat) (w : World) (h : Reads .u64 w w.heap.size A n (atI G)) (hn : G.length = n) (h1 : n ≤ 1000) :
    Calls Try.prog 52 #[.slice A n c, .int .u64 (s : Nat)] w fun e w' => (∃ r : Int, e = .returned (.int .i64 r) ∧ (0 ≤ r ↔ s ∈ G)) ∧ Below w.heap.size w w' := by
  have H := Lib.hid h
  have HN := Lib.hid hn
  clear h hn
  go_enter Try.func52, Try.ntmps52
  go_wp2
  go_loopw [8] (fun i wr => ∃ k : Nat, k ≤ n ∧ i = .int .i64 k ∧ Hid (∀ j, j < k → G.getD j 0 ≠ s) ∧ Below w.heap.size w wr) (fun i _ => n - (intOf i).toNat)
  case atStart => exact ⟨0, Nat.zero_le _, rfl, fun j hj => absurd hj (by omega), Below.refl _ _⟩
  case round =>
    obtain ⟨k, hk, rfl, hall, hb⟩ := hrel
    obtain ⟨X, rfl⟩ : ∃ X : Later w.heap.size w, wr = X.w := ⟨⟨wr, hb⟩, rfl⟩
    clear hb
    by_cases hlt : k < n
    · obtain ⟨b, o, hA, hbl, hc⟩ := H.out (by omega)
      subst hA
      have h0 := hc k hlt
      simp only [atI] at h0
      obtain ⟨x, hx⟩ : ∃ x, G.getD k 0 = x := ⟨_, rfl⟩
      rw [hx] at h0
      have HX := Lib.hid hx
      clear hc hx
      by_cases he : s = x
      · have he' : ((s : Int) == (x : Int)) = true := by simp [he]
        have HE := Lib.hid he
        clear he
        go_wp2
        go_ret
        refine ⟨⟨_, rfl, ?_⟩, by repeat' (first | (with_reducible exact Below.refl _ _) | (with_reducible assumption) | (with_reducible refine Later.step ?_ ?_ _) | (with_reducible refine Below.alloc ?_ ?_ _) | (with_reducible refine Below.drew ?_) | (with_reducible refine bel_drewN ?_ _) | (with_reducible refine bel_grown ?_ (by assumption) ?_ ?_) | (with_reducible refine Below.setCell ?_ ?_ _) | go_size)⟩
        have : s ∈ G := by
          rw [HE.out, ← HX.out]
          have hk2 : k < G.length := by rw [HN.out]; exact hlt
          simp [List.getD, List.getElem?_eq_getElem hk2]
        exact ⟨fun _ => this, fun _ => by omega⟩
      · have he' : ((s : Int) == (x : Int)) = false := by simp; omega
        have HE := Lib.hid he
        clear he
        go_wp2
        go_roundw
        case rel =>
          refine ⟨k + 1, by omega, by go_num, fun j hj => ?_, by repeat' (first | (with_reducible exact Below.refl _ _) | (with_reducible assumption) | (with_reducible refine Later.step ?_ ?_ _) | (with_reducible refine Below.alloc ?_ ?_ _) | (with_reducible refine Below.drew ?_) | (with_reducible refine bel_drewN ?_ _) | (with_reducible refine bel_grown ?_ (by assumption) ?_ ?_) | (with_reducible refine Below.setCell ?_ ?_ _) | go_size)⟩
          by_cases hjk : j = k
          · subst hjk; rw [HX.out]; exact fun e => HE.out e.symm
          · exact hall.out j (by omega)
        case measure => simp [intOf]; omega
    · obtain rfl : k = n := by omega
      have hno : s ∉ G := fun hm => by
        obtain ⟨j, hj, e⟩ := List.mem_iff_getElem.1 hm
        have := hall.out j (by rw [← HN.out]; exact hj)
        simp [List.getD, List.getElem?_eq_getElem hj, e] at this
      have HNO := Lib.hid hno
      clear hno
      go_wp2
      go_ret
      exact ⟨⟨_, rfl, ⟨fun h => absurd h (by decide), fun h => absurd h HNO.out⟩⟩, by repeat' (first | (with_reducible exact Below.refl _ _) | (with_reducible assumption) | (with_reducible refine Later.step ?_ ?_ _) | (with_reducible refine Below.alloc ?_ ?_ _) | (with_reducible refine Below.drew ?_) | (with_reducible refine bel_drewN ?_ _) | (with_reducible refine bel_grown ?_ (by assumption) ?_ ?_) | (with_reducible refine Below.setCell ?_ ?_ _) | go_size)⟩
set_option maxHeartbeats 4000000 in
theorem contains_any (n c : Nat) (A : Option Addr) (G : List Nat) (s : Nat) (w : World) (h : Reads .u64 w w.heap.size A n (atI G)) (hn : G.length = n) (h1 : n ≤ 1000) :
    Calls Try.prog 35 #[.slice A n c, .int .u64 (s : Nat)] w fun e w' => e = .returned (.bool (decide (s ∈ G))) ∧ Below w.heap.size w w' := by
  have P1 := Lib.hid (sindex_any n c A G s w h hn h1)
  clear h hn
  go_enter Try.func35, Try.ntmps35
  go_wp2_with fail
  refine P1.out.mono ?_
  rintro e w1 ⟨⟨r, rfl, hr⟩, hb⟩
  have HR := Lib.hid hr
  obtain ⟨X1, rfl, hl1, hm1⟩ := later _ hb (Nat.le_refl _)
  clear hb hr
  go_wp2
  go_ret
  exact ⟨ret_b (by rw [Bool.eq_iff_iff]; simpa using HR.out), by repeat' (first | (with_reducible exact Below.refl _ _) | (with_reducible assumption) | (with_reducible refine Later.step ?_ ?_ _) | (with_reducible refine Below.alloc ?_ ?_ _) | (with_reducible refine Below.drew ?_) | (with_reducible refine bel_drewN ?_ _) | (with_reducible refine bel_grown ?_ (by assumption) ?_ ?_) | (with_reducible refine Below.setCell ?_ ?_ _) | go_size)⟩
set_option maxHeartbeats 4000000 in
theorem gone1_any (gb cc m : Nat) (C : Option Addr) (k : Tk) (G : List Nat) (w : World) (hc : w.cell? ⟨gb, 0, none⟩ = some (.slice C m cc)) (hr : Reads .u64 w w.heap.size C m (atI G)) (hm : G.length = m) (h1 : m ≤ 1000) :
    Calls Try.prog 37 #[.agg #[.int .u64 (k.s : Nat), .int .u64 (k.p : Nat), .int .i64 k.g.ops, .int .i64 k.g.zoom, .int .i64 k.g.a, .int .i64 k.g.b, .int .i64 k.g.c, .int .i64 k.g.d, .bool k.g.void, .int .i64 k.g.til], .pointer (some ⟨gb, 0, none⟩)] w fun e w' => e = .returned (.bool (decide (k.s ∈ G))) ∧ Below w.heap.size w w' := by
  have P1 := Lib.hid (fun (Y : World) (hY : Below w.heap.size w Y) => contains_any m cc C G k.s Y ((hr.keep hY).mono_ hY.size) hm h1)
  have hgl : gb < w.heap.size := by have := World.block_lt_of_cell? w _ hc; simpa using this
  obtain ⟨r, hR⟩ : ∃ r, decide (k.s ∈ G) = r := ⟨_, rfl⟩
  rw [hR] at P1 ⊢
  clear hr hm hR
  go_enter Try.func37, Try.ntmps37
  go_wp2_with (first
    | (go_at_call 35; refine (P1.out _ (by repeat' (first | (with_reducible exact Below.refl _ _) | (with_reducible assumption) | (with_reducible refine Later.step ?_ ?_ _) | (with_reducible refine Below.alloc ?_ ?_ _) | (with_reducible refine Below.drew ?_) | (with_reducible refine bel_drewN ?_ _) | (with_reducible refine bel_grown ?_ (by assumption) ?_ ?_) | (with_reducible refine Below.setCell ?_ ?_ _) | go_size))).mono ?_; rintro e w' ⟨rfl, hb⟩; obtain ⟨X1, rfl, hl1, hm1⟩ := later _ hb (Nat.le_refl _); clear hb; (try simp only [World.size_alloc, World.size_setCell, World.size_drew] at hm1 hl1)))
  go_ret
  exact ⟨rfl, by repeat' (first | (with_reducible exact Below.refl _ _) | (with_reducible assumption) | (with_reducible refine Later.step ?_ ?_ _) | (with_reducible refine Below.alloc ?_ ?_ _) | (with_reducible refine Below.drew ?_) | (with_reducible refine bel_drewN ?_ _) | (with_reducible refine bel_grown ?_ (by assumption) ?_ ?_) | (with_reducible refine Below.setCell ?_ ?_ _) | go_size)⟩
set_option maxHeartbeats 8000000 in
theorem let_gone (q c gb cc0 m0 : Nat) (A C0 : Option Addr) (T : List Tk) (G : List Nat) (w : World) (h : Tab w q A c T) (hn : T.length ≤ 100) (hm0 : G.length = m0) (hgc : w.cell? ⟨gb, 0, none⟩ = some (.slice C0 m0 cc0)) (hgr : Reads .u64 w w.heap.size C0 m0 (atI G)) (hm1 : m0 ≤ 1000) :
    Calls Try.prog 36 #[.pointer (some ⟨q, 0, none⟩), .func (.func 37) #[] #[.pointer (some ⟨gb, 0, none⟩)]] w (LetPost w q A (T.filter fun k => !decide (k.s ∈ G))) := by
  obtain ⟨i0, hi, hz0, hz1, hz2⟩ := info_parts (show (Try.prog.info? 73).map (fun i => (i.zero, i.size, i.bytes)) = some (some (.agg #[.int .u64 (t0.s : Nat), .int .u64 (t0.p : Nat), .int .i64 t0.g.ops, .int .i64 t0.g.zoom, .int .i64 t0.g.a, .int .i64 t0.g.b, .int .i64 t0.g.c, .int .i64 t0.g.d, .bool t0.g.void, .int .i64 t0.g.til]), 10, 80) by kernel_rfl)
  have HT := Lib.hid h
  have hc := h.cell
  have hq := h.lt
  have hz := h.fz
  have hgl : gb < w.heap.size := by have := World.block_lt_of_cell? w _ hgc; simpa using this
  have P1 := Lib.hid (fun (k : Tk) (hk : k ∈ T) (Y : World) (hY : Below w.heap.size w Y) => gone1_any gb cc0 m0 C0 k G Y ((hY.cell (p := ⟨gb, 0, none⟩) hgl).trans hgc) ((hgr.keep hY).mono_ hY.size) hm0 hm1)
  obtain ⟨P, hP⟩ : ∃ P : Tk → Bool, (fun k => decide (k.s ∈ G)) = P := ⟨_, rfl⟩
  have hPk : ∀ k, decide (k.s ∈ G) = P k := fun k => congrFun hP k
  rw [show (fun k => !decide (k.s ∈ G)) = fun k => !P k from by funext k; rw [hPk]]
  have P2 := Lib.hid (fun (k : Tk) (hk : k ∈ T) (Y : World) (hY : Below w.heap.size w Y) => by have h9 := P1.out k hk Y hY; rw [hPk] at h9; exact h9)
  obtain ⟨n, hnn⟩ : ∃ n, T.length = n := ⟨_, rfl⟩
  rw [hnn] at hc hn
  have HN := Lib.hid hnn
  obtain ⟨M, hM⟩ : ∃ M, (T.filter fun k => !P k) = M := ⟨_, rfl⟩
  rw [hM]
  have HM := Lib.hid hM
  clear h P1 hP hPk hnn hM hgc hgr hm0 hm1
  go_enter Try.func36, Try.ntmps36
  go_wp2
  go_loopw [4, 12] (fun al i wr => ∃ (k : Nat) (C : Option Addr) (cc m : Nat), (k ≤ n ∧ m ≤ k ∧ Hid (wr.ownsRow w.heap.size 73 10 (.slice C m cc) m (tkV ((T.take k).filter fun k => !P k)) ∧ ((T.take k).filter fun k => !P k).length = m)) ∧ al = .slice C m cc ∧ i = .int .i64 k ∧ Below w.heap.size w wr ∧ w.heap.size ≤ wr.heap.size) (fun _ i _ => n - (intOf i).toNat)
  case atStart => exact ⟨0, none, 0, 0, ⟨Nat.zero_le _, Nat.zero_le _, World.ownsRow_nil _ _ _ _, rfl⟩, rfl, rfl, Below.refl _ _, Nat.le_refl _⟩
  case round =>
    obtain ⟨k, C, cc, m, ⟨hk, hm, hown⟩, rfl, rfl, hbel, hsz⟩ := hrel
    obtain ⟨X, rfl⟩ : ∃ X : Later w.heap.size w, wr = X.w := ⟨⟨wr, hbel⟩, rfl⟩
    clear hbel
    by_cases hlt : k < n
    · obtain ⟨b, o, hA, hB, hc9⟩ := HT.out.tks (by rw [HN.out]; omega)
      subst hA
      have hck := hc9 k (by rw [HN.out]; exact hlt)
      have hsn := filter_snoc (fun k => !P k) T (k := k) (by rw [HN.out]; exact hlt)
      have hmem : T.getD k t0 ∈ T := by rw [getD_lt (by rw [HN.out]; exact hlt)]; exact List.getElem_mem _
      obtain ⟨x, hx⟩ : ∃ x, T.getD k t0 = x := ⟨_, rfl⟩
      rw [hx] at hck hsn hmem
      have c0 := hck 0 (by decide)
      have c1 := hck 1 (by decide)
      have c2 := hck 2 (by decide)
      have c3 := hck 3 (by decide)
      have c4 := hck 4 (by decide)
      have c5 := hck 5 (by decide)
      have c6 := hck 6 (by decide)
      have c7 := hck 7 (by decide)
      have c8 := hck 8 (by decide)
      have c9 := hck 9 (by decide)
      simp only [tkC, List.getD_cons_zero, List.getD_cons_succ, Nat.add_zero] at c0 c1 c2 c3 c4 c5 c6 c7 c8 c9
      have p3 := P2.out x hmem
      obtain ⟨d, hd⟩ : ∃ d, P x = d := ⟨_, rfl⟩
      rw [hd] at p3 hsn
      have P3 := Lib.hid p3
      have HSN := Lib.hid hsn
      clear hc9 hck hx hmem p3 hsn hd
      cases d with
      | true =>
        go_wp2_with (first
          | (go_at_call 37; refine (P3.out _ (by repeat' (first | (with_reducible exact Below.refl _ _) | (with_reducible assumption) | (with_reducible refine Later.step ?_ ?_ _) | (with_reducible refine Below.alloc ?_ ?_ _) | (with_reducible refine Below.drew ?_) | (with_reducible refine bel_drewN ?_ _) | (with_reducible refine bel_grown ?_ (by assumption) ?_ ?_) | (with_reducible refine Below.setCell ?_ ?_ _) | go_size))).mono ?_; rintro e w' ⟨rfl, hb⟩; obtain ⟨X1, rfl, hl1, hm1⟩ := later _ hb (Nat.le_refl _); clear hb; (try simp only [World.size_alloc, World.size_setCell, World.size_drew] at hm1 hl1)))
        go_roundw
        case rel =>
          have h9 := hown.out
          rw [show ((T.take k).filter fun k => !P k) = ((T.take (k + 1)).filter fun k => !P k) from by rw [HSN.out]; simp] at h9
          exact ⟨k + 1, _, _, m, ⟨by omega, by omega, own_keep h9.1 (by repeat' (first | (with_reducible exact Below.refl _ _) | (with_reducible assumption) | (with_reducible refine Later.step ?_ ?_ _) | (with_reducible refine Below.alloc ?_ ?_ _) | (with_reducible refine Below.drew ?_) | (with_reducible refine bel_drewN ?_ _) | (with_reducible refine bel_grown ?_ (by assumption) ?_ ?_) | (with_reducible refine Below.setCell ?_ ?_ _) | go_size)), h9.2⟩, rfl, by go_num, by repeat' (first | (with_reducible exact Below.refl _ _) | (with_reducible assumption) | (with_reducible refine Later.step ?_ ?_ _) | (with_reducible refine Below.alloc ?_ ?_ _) | (with_reducible refine Below.drew ?_) | (with_reducible refine bel_drewN ?_ _) | (with_reducible refine bel_grown ?_ (by assumption) ?_ ?_) | (with_reducible refine Below.setCell ?_ ?_ _) | go_size), by go_size⟩
        case measure => simp [intOf]; omega
      | false =>
        go_wp2_with (first
          | (go_at_call 37; refine (P3.out _ (by repeat' (first | (with_reducible exact Below.refl _ _) | (with_reducible assumption) | (with_reducible refine Later.step ?_ ?_ _) | (with_reducible refine Below.alloc ?_ ?_ _) | (with_reducible refine Below.drew ?_) | (with_reducible refine bel_drewN ?_ _) | (with_reducible refine bel_grown ?_ (by assumption) ?_ ?_) | (with_reducible refine Below.setCell ?_ ?_ _) | go_size))).mono ?_; rintro e w' ⟨rfl, hb⟩; obtain ⟨X1, rfl, hl1, hm1⟩ := later _ hb (Nat.le_refl _); clear hb; (try simp only [World.size_alloc, World.size_setCell, World.size_drew] at hm1 hl1))
          | (at_builtin; refine wpList_append_own_at _ rfl _ _ 66 rfl w.heap.size 73 i0 (.agg #[.int .u64 (t0.s : Nat), .int .u64 (t0.p : Nat), .int .i64 t0.g.ops, .int .i64 t0.g.zoom, .int .i64 t0.g.a, .int .i64 t0.g.b, .int .i64 t0.g.c, .int .i64 t0.g.d, .bool t0.g.void, .int .i64 t0.g.til]) 10 80 Try.underlying66 hi hz0 hz1 hz2 rfl (by decide) _ _ _ rfl ((own_keep hown.out.1 (show Below X.w.heap.size X.w X1.w by repeat' (first | (with_reducible exact Below.refl _ _) | (with_reducible assumption) | (with_reducible refine Later.step ?_ ?_ _) | (with_reducible refine Below.alloc ?_ ?_ _) | (with_reducible refine Below.drew ?_) | (with_reducible refine bel_drewN ?_ _) | (with_reducible refine bel_grown ?_ (by assumption) ?_ ?_) | (with_reducible refine Below.setCell ?_ ?_ _) | go_size))).alloc _) ⟨X1.w.heap.size, 0, none⟩ 1 1 [.int .u64 (x.s : Nat), .int .u64 (x.p : Nat), .int .i64 x.g.ops, .int .i64 x.g.zoom, .int .i64 x.g.a, .int .i64 x.g.b, .int .i64 x.g.c, .int .i64 x.g.d, .bool x.g.void, .int .i64 x.g.til] rfl rfl (cells_ten_new _ _ _) (tk_ones x) (by unfold maxLen; omega) (by omega) (by go_size) ?_; intro v1 w1 hown1 hgrow1 _ _; obtain ⟨A1, k1, rfl⟩ := own_formT hown1; have hb1 : Below w.heap.size w w1 := Below.grown (Below.alloc (show Below w.heap.size w X1.w by repeat' (first | (with_reducible exact Below.refl _ _) | (with_reducible assumption) | (with_reducible refine Later.step ?_ ?_ _) | (with_reducible refine Below.alloc ?_ ?_ _) | (with_reducible refine Below.drew ?_) | (with_reducible refine bel_drewN ?_ _) | (with_reducible refine bel_grown ?_ (by assumption) ?_ ?_) | (with_reducible refine Below.setCell ?_ ?_ _) | go_size)) (by go_size) _) hgrow1 (by go_size) (fun k hk => (hown.out.1.lt k hk).1); have hs1 := hgrow1.size; have HO1 := Lib.hid hown1; clear hown1 hgrow1))
        go_roundw
        case rel =>
          have h9 := HO1.out
          have h10 := hown.out.2
          have e1 : ((T.take (k + 1)).filter fun k => !P k) = ((T.take k).filter fun k => !P k) ++ [x] := by rw [HSN.out]; simp
          rw [← tkV_snoc, ← e1] at h9
          exact ⟨k + 1, _, _, m + 1, ⟨by omega, by omega, h9, by rw [e1, List.length_append, h10]; rfl⟩, rfl, by go_num, hb1, hb1.size⟩
        case measure => simp [intOf]; omega
    · obtain rfl : k = n := by omega
      have h9 := hown.out
      rw [← HN.out, List.take_length, HM.out] at h9
      obtain rfl : M.length = m := h9.2
      have HE := Lib.hid (tab_set HT.out X.is h9.1)
      clear h9 hown
      go_wp2
      go_end0
      exact ⟨rfl, _, _, HE.out⟩
/-- What is under a secret goes. -/
def revE (M : List Tk) (s : Nat) : Int := if (findT M s).isSome = true then 0 else 21
def revT (M : List Tk) (s : Nat) : List Tk := if (findT M s).isSome = true then withoutT M s else M
theorem own_lit1 {w : World} {b s : Nat} (hb : b = w.heap.size) : (w.alloc (Obj.cells #[.int .u64 ((s : Nat) : Int)] 26)).ownsRow b 26 1 (.slice (some ⟨b, 0, none⟩) 1 1) 1 (rowV .u64 1 (atI [s])) := by
  subst hb
  exact ⟨by rw [rowV_len], .inr ⟨w.heap.size, 1, _, rfl, Nat.le_refl _, heap_alloc_new _ _, Nat.le_refl _, by decide, rfl, rfl⟩⟩
/-- An own row over a store elsewhere. -/
theorem own_put {w : World} {base size n : Nat} {e : TypeId} {v : Value} {xs : List Value} (h : w.ownsRow base e size v n xs) {p : Addr} (hp : v.ownBlock ≠ some p.block) (u : Value) : (w.setCell p u).ownsRow base e size v n xs := by
  refine ⟨h.1, ?_⟩
  rcases h.2 with hn | ⟨g, cap, cur, rfl, hb, hg, rest⟩
  · exact .inl hn
  · exact .inr ⟨g, cap, cur, rfl, hb, (Below.heap_setCell w p u g (fun e => hp (by subst e; rfl))).trans hg, rest⟩
theorem CellsAt.grownO {w w' : World} {b n : Nat} {row : Option Nat} {F : Nat → Value} (h : CellsAt w b n F) (hg : w.grownBy w' row) (hq : row ≠ some b) : CellsAt w' b n F :=
  ⟨Nat.lt_of_lt_of_le h.1 hg.size, fun j hj => by
    have e := hg.block b h.1 (fun e => hq e.symm)
    exact ⟨(World.cell?_of_block (a := ⟨b, j, none⟩) e).trans (h.2 j hj).1, (World.frozen?_of_block (a := ⟨b, j, none⟩) e).trans (h.2 j hj).2⟩⟩
set_option maxHeartbeats 8000000 in
theorem revoke_any (q c : Nat) (A : Option Addr) (T : List Tk) (s : Nat) (now : Int) (w : World) (h : GTab w q A c T) (hs : s < 18446744073709551616) :
    Calls Try.prog 16 #[.pointer (some ⟨q, 0, none⟩), .int .u64 (s : Nat), .int .i64 now] w (MPost w q A (.int .i64 (revE (leftT T now) s)) (revT (leftT T now) s)) := by
  have hmf : ∀ (fn : Fn) (first cap : Array Value) (w : World), (Instr.makeFunc fn first cap).run Try.prog w = .ok (.func fn first cap) w := fun _ _ _ _ => rfl
  have HT := Lib.hid h
  have hq := h.tab.lt
  have P1 := Lib.hid (fun (Y : World) (hY : Below w.heap.size w Y) => sweep_any q c A T now Y (h.tab.keep hY) (by have := h.len; omega) h.u64 h.good)
  have P3 := Lib.hid (fun (A' : Option Addr) (c' : Nat) (Y : World) (hY : Tab Y q A' c' (leftT T now)) => at_any q c' A' (leftT T now) s Y hY (by have := left_len T now; have := h.len; omega) (u64_filter h.u64 _) hs)
  have HL := Lib.hid (show GoodT (leftT T now) ∧ (leftT T now).length ≤ 8 ∧ U64 (leftT T now) from ⟨left_good h.good now, Nat.le_trans (left_len T now) h.len, u64_filter h.u64 _⟩)
  obtain ⟨L, hL⟩ : ∃ L, leftT T now = L := ⟨_, rfl⟩
  rw [hL] at P1 P3 HL ⊢
  clear h hL
  rcases Int.lt_or_le (idxT L s) 0 with hneg | hpos
  · have hn := idx_none.1 hneg
    have e1 : revE L s = 21 := by unfold revE; rw [hn]; rfl
    have e2 : revT L s = L := by unfold revT; rw [hn]; rfl
    rw [e1, e2]
    obtain ⟨r, hr⟩ : ∃ r, idxT L s = r := ⟨_, rfl⟩
    rw [hr] at hneg P3
    have hr0 : decide (r < 0) = true := decide_eq_true hneg
    clear hneg hn e1 e2 hr
    go_enter Try.func16, Try.ntmps16
    go_wp2_with fail
    refine (P1.out _ (by repeat' (first | (with_reducible exact Below.refl _ _) | (with_reducible assumption) | (with_reducible refine Later.step ?_ ?_ _) | (with_reducible refine Below.alloc ?_ ?_ _) | (with_reducible refine Below.drew ?_) | (with_reducible refine bel_drewN ?_ _) | (with_reducible refine bel_grown ?_ (by assumption) ?_ ?_) | (with_reducible refine Below.setCell ?_ ?_ _) | go_size))).mono ?_
    rintro e w1 ⟨rfl, A1, c1, ht, hto⟩
    have HTO := Lib.hid hto
    have HT1 := Lib.hid ht
    have hs1 := hto.size
    have hb := hto.elder HT.out.tab
    obtain ⟨X1, rfl⟩ : ∃ Z : Later q w, w1 = Z.w := ⟨⟨w1, hb⟩, rfl⟩
    clear ht hto hb
    go_wp2_with (first
      | (go_at_call 34; refine (P3.out _ _ _ HT1.out).mono ?_; rintro e w' ⟨rfl, hb⟩; obtain ⟨X2, rfl, hl2, hm2⟩ := later _ hb (Nat.le_refl _); clear hb; (try simp only [World.size_alloc, World.size_setCell, World.size_drew] at hm2 hl2)))
    go_ret
    have hb2 : Below X1.w.heap.size X1.w X2.w := by repeat' (first | (with_reducible exact Below.refl _ _) | (with_reducible assumption) | (with_reducible refine Later.step ?_ ?_ _) | (with_reducible refine Below.alloc ?_ ?_ _) | (with_reducible refine Below.drew ?_) | (with_reducible refine bel_drewN ?_ _) | (with_reducible refine bel_grown ?_ (by assumption) ?_ ?_) | (with_reducible refine Below.setCell ?_ ?_ _) | go_size)
    exact ⟨rfl, A1, c1, ⟨HT1.out.keep hb2, HL.out.1, HL.out.2.1, HL.out.2.2⟩, HTO.out.trans (TabTo.below hb2)⟩
  · have hi := idx_some hpos
    have hs0 := (find_mem hi.2).2.2
    have e1 : revE L s = 0 := by unfold revE; rw [hi.2]; rfl
    have e2 : revT L s = withoutT L s := by unfold revT; rw [hi.2]; rfl
    rw [e1, e2]
    have HW := Lib.hid (show GoodT (withoutT L s) ∧ (withoutT L s).length ≤ 8 ∧ U64 (withoutT L s) from ⟨without_good HL.out.1 s, Nat.le_trans (without_len L s) HL.out.2.1, u64_filter HL.out.2.2 _⟩)
    have HGW := Lib.hid (gone_without hs0 HL.out.1)
    obtain ⟨r, hr⟩ : ∃ r, idxT L s = r := ⟨_, rfl⟩
    rw [hr] at hpos P3
    have hr0 : decide (r < 0) = false := decide_eq_false (by omega)
    obtain ⟨i0, hi1, hz0, hz1, hz2⟩ := info_parts (show (Try.prog.info? 26).map (fun i => (i.zero, i.size, i.bytes)) = some (some (.int .u64 0), 1, 8) by kernel_rfl)
    obtain ⟨n, hn⟩ : ∃ n, L.length = n := ⟨_, rfl⟩
    have HN := Lib.hid hn
    have hn8 : n ≤ 8 := by rw [← hn]; exact HL.out.2.1
    clear hpos hi hs0 e1 e2 hr hn
    go_enter Try.func16, Try.ntmps16
    go_wp2_with fail
    refine (P1.out _ (by repeat' (first | (with_reducible exact Below.refl _ _) | (with_reducible assumption) | (with_reducible refine Later.step ?_ ?_ _) | (with_reducible refine Below.alloc ?_ ?_ _) | (with_reducible refine Below.drew ?_) | (with_reducible refine bel_drewN ?_ _) | (with_reducible refine bel_grown ?_ (by assumption) ?_ ?_) | (with_reducible refine Below.setCell ?_ ?_ _) | go_size))).mono ?_
    rintro e w1 ⟨rfl, A1, c1, ht, hto⟩
    have HTO := Lib.hid hto
    have HT1 := Lib.hid ht
    have hs1 := hto.size
    have hb := hto.elder HT.out.tab
    have hcq := ht.cell
    have hql := ht.lt
    rw [HN.out] at hcq
    obtain ⟨X1, rfl⟩ : ∃ Z : Later q w, w1 = Z.w := ⟨⟨w1, hb⟩, rfl⟩
    clear ht hto hb
    go_wp2_with (first
      | (go_at_call 34; refine (P3.out _ _ _ HT1.out).mono ?_; rintro e w' ⟨rfl, hb⟩; obtain ⟨X2, rfl, hl2, hm2⟩ := later _ hb (Nat.le_refl _); clear hb; (try simp only [World.size_alloc, World.size_setCell, World.size_drew] at hm2 hl2)))
    have hb2 : Below X1.w.heap.size X1.w X2.w := X2.is
    go_loopw [26] (fun i wr => ∃ (k m cc : Nat) (C : Option Addr), k ≤ n ∧ i = .int .i64 k ∧ Hid (wr.ownsRow X2.w.heap.size 26 1 (.slice C m cc) m (rowV .u64 m (atI (goneT s (L.take k) [s]))) ∧ (goneT s (L.take k) [s]).length = m ∧ (Value.slice C m cc).ownBlock ≠ some (X2.w.heap.size + 1)) ∧ m ≤ k + 1 ∧ CellsAt wr (X2.w.heap.size + 1) 1 (fun _ => .slice C m cc) ∧ Below X2.w.heap.size X2.w wr ∧ X2.w.heap.size + 2 ≤ wr.heap.size) (fun i _ => n - (intOf i).toNat)
    case atStart =>
      refine ⟨0, 1, 1, some ⟨X2.w.heap.size, 0, none⟩, Nat.zero_le _, rfl, ⟨own_keep (own_lit1 rfl) (by repeat' (first | (with_reducible exact Below.refl _ _) | (with_reducible assumption) | (with_reducible refine Later.step ?_ ?_ _) | (with_reducible refine Below.alloc ?_ ?_ _) | (with_reducible refine Below.drew ?_) | (with_reducible refine Below.setCell ?_ ?_ _) | go_size)), rfl, by simp [Value.ownBlock]⟩, by omega, ?_, by repeat' (first | (with_reducible exact Below.refl _ _) | (with_reducible assumption) | (with_reducible refine Later.step ?_ ?_ _) | (with_reducible refine Below.alloc ?_ ?_ _) | (with_reducible refine Below.drew ?_) | (with_reducible refine Below.setCell ?_ ?_ _) | go_size), by simp⟩
      have := CellsAt.new (w := X2.w.alloc (Obj.cells #[.int .u64 (s : Nat)] 26)) (n := 1) (F := fun _ => .slice (some ⟨X2.w.heap.size, 0, none⟩) 1 1) (C := #[.slice (some ⟨X2.w.heap.size, 0, none⟩) 1 1]) (t := 72) (fun j hj => by (obtain rfl : j = 0 := (by omega)); rfl)
      simpa using this
    case round =>
      obtain ⟨k, m, cc, C, hk, rfl, hown, hm, hcell, hbel, hsz⟩ := hrel
      have hcv := (hcell.2 0 (by decide)).1
      have hcz := (hcell.2 0 (by decide)).2
      have hcl := hcell.1
      simp only at hcv
      have HCE := Lib.hid hcell
      obtain ⟨X, rfl⟩ : ∃ X : Later X2.w.heap.size X2.w, wr = X.w := ⟨⟨wr, hbel⟩, rfl⟩
      clear hbel hcell
      by_cases hlt : k < n
      · obtain ⟨b, o, hA, hB, hc9⟩ := HT1.out.tks (by rw [HN.out]; omega)
        subst hA
        have hck := hc9 k (by rw [HN.out]; exact hlt)
        have hsn := take_snoc (L := L) (i := k) (by rw [HN.out]; exact hlt)
        obtain ⟨x, hx⟩ : ∃ x, L.getD k t0 = x := ⟨_, rfl⟩
        rw [hx] at hck hsn
        have hgn := gone_snoc s (L.take k) x [s]
        rw [← hsn] at hgn
        have c0 := hck 0 (by decide)
        have d1 := hck 1 (by decide)
        have c2 := hck 2 (by decide)
        have c3 := hck 3 (by decide)
        have c4 := hck 4 (by decide)
        have c5 := hck 5 (by decide)
        have c6 := hck 6 (by decide)
        have c7 := hck 7 (by decide)
        have c8 := hck 8 (by decide)
        have c9 := hck 9 (by decide)
        simp only [tkC, List.getD_cons_zero, List.getD_cons_succ, Nat.add_zero] at c0 d1 c2 c3 c4 c5 c6 c7 c8 c9
        have P5 := Lib.hid (fun (Y : World) (hY : Below X.w.heap.size X.w Y) => contains_any m cc C (goneT s (L.take k) [s]) x.p Y (((Reads.own hown.out.1).keep hY).more hY.size) hown.out.2.1 (by omega))
        obtain ⟨G, hG⟩ : ∃ G, goneT s (L.take k) [s] = G := ⟨_, rfl⟩
        obtain ⟨G', hG'⟩ : ∃ G', goneT s (L.take (k + 1)) [s] = G' := ⟨_, rfl⟩
        rw [hG] at P5 hgn hown
        rw [hG'] at hgn
        have HG' := Lib.hid hG'
        obtain ⟨d, hd⟩ : ∃ d, decide (x.p ∈ G) = d := ⟨_, rfl⟩
        rw [hd] at P5
        cases d with
        | false =>
          rw [if_neg (by simpa using hd)] at hgn
          have HGN := Lib.hid hgn
          clear hc9 hck hx hsn hG hG' hd hgn
          go_wp2_with (first
            | (go_at_call 35; refine (P5.out _ (by repeat' (first | (with_reducible exact Below.refl _ _) | (with_reducible assumption) | (with_reducible refine Later.step ?_ ?_ _) | (with_reducible refine Below.alloc ?_ ?_ _) | (with_reducible refine Below.drew ?_) | (with_reducible refine bel_drewN ?_ _) | (with_reducible refine bel_grown ?_ (by assumption) ?_ ?_) | (with_reducible refine Below.setCell ?_ ?_ _) | go_size))).mono ?_; rintro e w' ⟨rfl, hb⟩; obtain ⟨X5, rfl, hl5, hm5⟩ := later _ hb (Nat.le_refl _); clear hb; (try simp only [World.size_alloc, World.size_setCell, World.size_drew] at hm5 hl5)))
          go_roundw
          case rel =>
            have hb5 : Below X.w.heap.size X.w X5.w := by repeat' (first | (with_reducible exact Below.refl _ _) | (with_reducible assumption) | (with_reducible refine Later.step ?_ ?_ _) | (with_reducible refine Below.alloc ?_ ?_ _) | (with_reducible refine Below.drew ?_) | (with_reducible refine bel_drewN ?_ _) | (with_reducible refine bel_grown ?_ (by assumption) ?_ ?_) | (with_reducible refine Below.setCell ?_ ?_ _) | go_size)
            refine ⟨k + 1, m, cc, C, by omega, by go_num, ?_, by omega, HCE.out.keep hb5, by repeat' (first | (with_reducible exact Below.refl _ _) | (with_reducible assumption) | (with_reducible refine Later.step ?_ ?_ _) | (with_reducible refine Below.alloc ?_ ?_ _) | (with_reducible refine Below.drew ?_) | (with_reducible refine bel_drewN ?_ _) | (with_reducible refine bel_grown ?_ (by assumption) ?_ ?_) | (with_reducible refine Below.setCell ?_ ?_ _) | go_size), by go_size⟩
            rw [HG'.out, HGN.out]
            exact ⟨own_keep hown.out.1 hb5, hown.out.2⟩
          case measure => simp [intOf]; omega
        | true =>
          rw [if_pos (by simpa using hd)] at hgn
          have HGN := Lib.hid hgn
          clear hc9 hck hx hsn hG hG' hd hgn
          go_wp2_with fail
          refine (P5.out _ (by repeat' (first | (with_reducible exact Below.refl _ _) | (with_reducible assumption) | (with_reducible refine Later.step ?_ ?_ _) | (with_reducible refine Below.alloc ?_ ?_ _) | (with_reducible refine Below.drew ?_) | (with_reducible refine bel_drewN ?_ _) | (with_reducible refine bel_grown ?_ (by assumption) ?_ ?_) | (with_reducible refine Below.setCell ?_ ?_ _) | go_size))).mono ?_
          rintro e w' ⟨rfl, hb⟩; obtain ⟨X5, rfl, hl5, hm5⟩ := later _ hb (Nat.le_refl _); clear hb; (try simp only [World.size_alloc, World.size_setCell, World.size_drew] at hm5 hl5)
          have hb5 : Below X.w.heap.size X.w X5.w := by repeat' (first | (with_reducible exact Below.refl _ _) | (with_reducible assumption) | (with_reducible refine Later.step ?_ ?_ _) | (with_reducible refine Below.alloc ?_ ?_ _) | (with_reducible refine Below.drew ?_) | (with_reducible refine bel_drewN ?_ _) | (with_reducible refine bel_grown ?_ (by assumption) ?_ ?_) | (with_reducible refine Below.setCell ?_ ?_ _) | go_size)
          have hcv5 := ((HCE.out.keep hb5).2 0 (by decide)).1
          have hcz5 := ((HCE.out.keep hb5).2 0 (by decide)).2
          simp only at hcv5
          go_wp2_with (at_builtin; refine wpList_append_own_at _ rfl _ _ 72 rfl X2.w.heap.size 26 i0 (.int .u64 0) 1 8 Try.underlying72 hi1 hz0 hz1 hz2 rfl (by decide) _ _ _ rfl ((own_keep hown.out.1 hb5).alloc _) ⟨X5.w.heap.size, 0, none⟩ 1 1 [.int .u64 (x.s : Nat)] rfl rfl (fun j u hj => by match j, hj with | 0, hj => (simp at hj; subst hj; simp [Addr.add])) (fun u hu => by simp at hu; subst hu; rfl) (by unfold maxLen; omega) (by omega) (by go_size) ?_)
          intro v5 w5 hown5 hgrow5 _ hat5
          obtain ⟨gg, cap, rfl⟩ := own_formT hown5
          have hs5 := hgrow5.size
          rw [World.size_alloc] at hs5
          have HC5 := Lib.hid (((HCE.out.keep hb5).alloc (Obj.cells #[.int .u64 (x.s : Nat)] 26)).grownO hgrow5 hown.out.2.2)
          have hv5 := (HC5.out.2 0 (by decide)).1
          have hz5 := (HC5.out.2 0 (by decide)).2
          simp only at hv5
          have hb6 : Below X2.w.heap.size X2.w w5 := Below.grown (Below.alloc (show Below X2.w.heap.size X2.w X5.w by repeat' (first | (with_reducible exact Below.refl _ _) | (with_reducible assumption) | (with_reducible refine Later.step ?_ ?_ _) | (with_reducible refine Below.alloc ?_ ?_ _) | (with_reducible refine Below.drew ?_) | (with_reducible refine bel_drewN ?_ _) | (with_reducible refine bel_grown ?_ (by assumption) ?_ ?_) | (with_reducible refine Below.setCell ?_ ?_ _) | go_size)) (by go_size) _) hgrow5 (by go_size) (fun k hk => (hown.out.1.lt k hk).1)
          have hne : (Value.slice gg (m + 1) cap).ownBlock ≠ some (X2.w.heap.size + 1) := fun e => by
            rcases hat5 with e2 | e2
            · exact hown.out.2.2 (e2.symm.trans e)
            · rw [e2] at e
              injection e with e
              omega
          have HO5 := Lib.hid hown5
          have HNE := Lib.hid hne
          obtain ⟨Y5, rfl⟩ : ∃ X : Later X2.w.heap.size X2.w, w5 = X.w := ⟨⟨w5, hb6⟩, rfl⟩
          clear hb6 hown5 hgrow5 hat5 hne
          go_wp2
          go_roundw
          case rel =>
            have h9 := own_put HO5.out (p := ⟨X2.w.heap.size + 1, 0, none⟩) HNE.out (.slice gg (m + 1) cap)
            have h8 := hown.out.2.1
            refine ⟨k + 1, m + 1, cap, gg, by omega, by go_num, ?_, by omega, (HC5.out.set (j := 0) (by decide) _).congr (fun j hj => by (obtain rfl : j = 0 := (by omega)); rfl), by repeat' (first | (with_reducible exact Below.refl _ _) | (with_reducible assumption) | (with_reducible refine Later.step ?_ ?_ _) | (with_reducible refine Below.alloc ?_ ?_ _) | (with_reducible refine Below.drew ?_) | (with_reducible refine bel_drewN ?_ _) | (with_reducible refine bel_grown ?_ (by assumption) ?_ ?_) | (with_reducible refine Below.setCell ?_ ?_ _) | go_size), by go_size⟩
            rw [HG'.out, HGN.out]
            refine ⟨?_, by rw [List.length_append, h8]; rfl, HNE.out⟩
            have e1 : rowV .u64 m (atI G) ++ [.int .u64 ((x.s : Nat) : Int)] = rowV .u64 (m + 1) (atI (G ++ [x.s])) := by
              have := rowV_app (k := .u64) (a := G) (b := [x.s])
              rw [List.length_append, h8] at this
              exact this
            rw [← e1]
            exact h9
          case measure => simp [intOf]; omega
      · obtain rfl : k = n := by omega
        have h9 := hown.out
        rw [← HN.out, List.take_length] at h9
        have P6 := Lib.hid (fun (Y : World) (hY : Below X.w.heap.size X.w Y) => let_gone q c1 (X2.w.heap.size + 1) cc m A1 C L (goneT s L [s]) Y (HT1.out.keep (show Below X1.w.heap.size X1.w Y from (hb2.trans (X.is.mono (by omega))).trans (hY.mono (by omega)))) (by rw [HN.out]; omega) h9.2.1 (((HCE.out.keep hY).2 0 (by decide)).1) (((Reads.own h9.1).keep hY).more hY.size) (by omega))
        rw [HGW.out] at P6
        clear h9 hown
        go_wp2_with fail
        refine (P6.out _ (Below.refl _ _)).mono ?_
        rintro e w7 ⟨rfl, A2, c2, ht, hto⟩
        have HE := Lib.hid (show ∃ A' c', GTab w7 q A' c' (withoutT L s) ∧ TabTo w q A w7 A' from ⟨A2, c2, ⟨ht, HW.out.1, HW.out.2.1, HW.out.2.2⟩, (HTO.out.trans (TabTo.below (hb2.trans (X.is.mono (by omega))))).trans hto⟩)
        clear ht hto
        go_wp2
        go_ret
        exact ⟨rfl, HE.out⟩
end Go.Proofs.Ytjfgjlklbepnjaa
