/- Tickets in a row: the document's Left, Without, Make walked. No condition beyond what the row reads as. -/
import Derived.Test.YtjfgjlklbepnjaaTkI
import Derived.Test.YtjfgjlklbepnjaaTkJ
namespace Go.Proofs.Ytjfgjlklbepnjaa
open Go.RowKit
set_option linter.unusedSimpArgs false
set_option linter.unusedVariables false
set_option maxRecDepth 2000

/-- A row of tickets of its own memory. -/
def NewRow (w w' : World) (C : Option Addr) (L : List Tk) : Prop := Tks w' w'.heap.size C L ∧ (0 < L.length → ∀ a, C = some a → w.heap.size ≤ a.block)
theorem newRow_own {w w' : World} {n cc : Nat} {e : TypeId} {C : Option Addr} {L : List Tk} (ho : w'.ownsRow w.heap.size e 10 (.slice C n cc) n (tkV L)) (hn : L.length = n) : NewRow w w' C L := ⟨tks_own ho hn, fun _ a e => own_fresh ho a e⟩
set_option maxHeartbeats 8000000 in
theorem kleft_any (n c : Nat) (C : Option Addr) (L : List Tk) (now : Int) (w : World) (h : Tks w w.heap.size C L) (hn : L.length = n) (hn1 : n ≤ 1000) (hg : GoodT L) :
    Calls Try.prog 11 #[.slice C n c, .int .i64 now] w fun e w' => (∃ C' cc, e = .returned (.slice C' (leftT L now).length cc) ∧ NewRow w w' C' (leftT L now)) ∧ Below w.heap.size w w' := by
  obtain ⟨i0, hi, hz0, hz1, hz2⟩ := info_parts (show (Try.prog.info? 35).map (fun i => (i.zero, i.size, i.bytes)) = some (some (.agg #[.int .u64 (t0.s : Nat), .int .u64 (t0.p : Nat), .int .i64 t0.g.ops, .int .i64 t0.g.zoom, .int .i64 t0.g.a, .int .i64 t0.g.b, .int .i64 t0.g.c, .int .i64 t0.g.d, .bool t0.g.void, .int .i64 t0.g.til]), 10, 80) by kernel_rfl)
  have P1 := Lib.hid (fun (k : Tk) (hk : k ∈ L) (Y : World) (hY : Below w.heap.size w Y) => kgrants_any n c C L k Y ((h.keep hY).more hY.size) hn (by omega) hg (hg.mem k hk).2.2)
  have HT := Lib.hid h
  have HN := Lib.hid hn
  obtain ⟨P, hP⟩ : ∃ P : Tk → Bool, (fun k => decide (now ≤ (grantsT L k).til)) = P := ⟨_, rfl⟩
  have hPk : ∀ k, (decide (now ≤ (grantsT L k).til)) = P k := fun k => congrFun hP k
  rw [show leftT L now = L.filter P from by rw [← hP]; rfl]
  have P2 := Lib.hid (fun (k : Tk) (hk : k ∈ L) => hPk k)
  obtain ⟨M, hM⟩ : ∃ M, L.filter P = M := ⟨_, rfl⟩
  rw [hM]
  have HM := Lib.hid hM
  clear h hn hP hPk hM hg
  go_enter Try.func11, Try.ntmps11
  go_wp2
  go_loopw [5, 6] (fun al i wr => ∃ (k : Nat) (D : Option Addr) (cc m : Nat), (k ≤ n ∧ m ≤ k ∧ Hid (wr.ownsRow w.heap.size 35 10 (.slice D m cc) m (tkV ((L.take k).filter P)) ∧ ((L.take k).filter P).length = m)) ∧ al = .slice D m cc ∧ i = .int .i64 k ∧ Below w.heap.size w wr ∧ w.heap.size ≤ wr.heap.size) (fun _ i _ => n - (intOf i).toNat)
  case atStart => exact ⟨0, none, 0, 0, ⟨Nat.zero_le _, Nat.zero_le _, World.ownsRow_nil _ _ _ _, rfl⟩, rfl, rfl, Below.refl _ _, Nat.le_refl _⟩
  case round =>
    obtain ⟨k, D, cc, m, ⟨hk, hm, hown⟩, rfl, rfl, hbel, hsz⟩ := hrel
    obtain ⟨X, rfl⟩ : ∃ X : Later w.heap.size w, wr = X.w := ⟨⟨wr, hbel⟩, rfl⟩
    clear hbel
    by_cases hlt : k < n
    · obtain ⟨b, o, hA, hB, c0, d1, c2, c3, c4, c5, c6, c7, c8, c9⟩ := tks_at HT.out (i := k) (by rw [HN.out]; exact hlt)
      subst hA
      have hsn := filter_snoc P L (k := k) (by rw [HN.out]; exact hlt)
      have hmem : L.getD k t0 ∈ L := by rw [getD_lt (by rw [HN.out]; exact hlt)]; exact List.getElem_mem _
      obtain ⟨x, hx⟩ : ∃ x, L.getD k t0 = x := ⟨_, rfl⟩
      rw [hx] at c0 d1 c2 c3 c4 c5 c6 c7 c8 c9 hsn hmem
      have p3 := P1.out x hmem
      have p4 := P2.out x hmem
      obtain ⟨d, hd⟩ : ∃ d, P x = d := ⟨_, rfl⟩
      rw [hd] at hsn p4
      obtain ⟨G, hG⟩ : ∃ G, grantsT L x = G := ⟨_, rfl⟩
      rw [hG] at p3 p4
      have hfld := fld_til G
      have hdd : decide (G.til ≥ now) = d := p4
      clear hG
      have P3 := Lib.hid p3
      have HSN := Lib.hid hsn
      clear hx hmem p3 hsn hd p4
      cases d with
      | false =>
        go_wp2_with (first
          | (go_at_call 19; refine (P3.out _ (by repeat' (first | (with_reducible exact Below.refl _ _) | (with_reducible assumption) | (with_reducible refine Later.step ?_ ?_ _) | (with_reducible refine Below.alloc ?_ ?_ _) | (with_reducible refine Below.drew ?_) | (with_reducible refine bel_drewN ?_ _) | (with_reducible refine bel_grown ?_ (by assumption) ?_ ?_) | (with_reducible refine Below.setCell ?_ ?_ _) | go_size))).mono ?_; rintro e w' ⟨rfl, hb⟩; obtain ⟨X1, rfl, hl1, hm1⟩ := later _ hb (Nat.le_refl _); clear hb; (try simp only [World.size_alloc, World.size_setCell, World.size_drew] at hm1 hl1)))
        go_roundw
        case rel =>
          have h9 := hown.out
          rw [show ((L.take k).filter P) = ((L.take (k + 1)).filter P) from by rw [HSN.out]; simp] at h9
          exact ⟨k + 1, _, _, m, ⟨by omega, by omega, own_keep h9.1 (by repeat' (first | (with_reducible exact Below.refl _ _) | (with_reducible assumption) | (with_reducible refine Later.step ?_ ?_ _) | (with_reducible refine Below.alloc ?_ ?_ _) | (with_reducible refine Below.drew ?_) | (with_reducible refine bel_drewN ?_ _) | (with_reducible refine bel_grown ?_ (by assumption) ?_ ?_) | (with_reducible refine Below.setCell ?_ ?_ _) | go_size)), h9.2⟩, rfl, by go_num, by repeat' (first | (with_reducible exact Below.refl _ _) | (with_reducible assumption) | (with_reducible refine Later.step ?_ ?_ _) | (with_reducible refine Below.alloc ?_ ?_ _) | (with_reducible refine Below.drew ?_) | (with_reducible refine bel_drewN ?_ _) | (with_reducible refine bel_grown ?_ (by assumption) ?_ ?_) | (with_reducible refine Below.setCell ?_ ?_ _) | go_size), by go_size⟩
        case measure => simp [intOf]; omega
      | true =>
        go_wp2_with (first
          | (go_at_call 19; refine (P3.out _ (by repeat' (first | (with_reducible exact Below.refl _ _) | (with_reducible assumption) | (with_reducible refine Later.step ?_ ?_ _) | (with_reducible refine Below.alloc ?_ ?_ _) | (with_reducible refine Below.drew ?_) | (with_reducible refine bel_drewN ?_ _) | (with_reducible refine bel_grown ?_ (by assumption) ?_ ?_) | (with_reducible refine Below.setCell ?_ ?_ _) | go_size))).mono ?_; rintro e w' ⟨rfl, hb⟩; obtain ⟨X1, rfl, hl1, hm1⟩ := later _ hb (Nat.le_refl _); clear hb; (try simp only [World.size_alloc, World.size_setCell, World.size_drew] at hm1 hl1))
          | (at_builtin; refine wpList_append_own_at _ rfl _ _ 25 rfl w.heap.size 35 i0 (.agg #[.int .u64 (t0.s : Nat), .int .u64 (t0.p : Nat), .int .i64 t0.g.ops, .int .i64 t0.g.zoom, .int .i64 t0.g.a, .int .i64 t0.g.b, .int .i64 t0.g.c, .int .i64 t0.g.d, .bool t0.g.void, .int .i64 t0.g.til]) 10 80 Try.underlying25 hi hz0 hz1 hz2 rfl (by decide) _ _ _ rfl ((own_keep hown.out.1 (show Below X.w.heap.size X.w X1.w by repeat' (first | (with_reducible exact Below.refl _ _) | (with_reducible assumption) | (with_reducible refine Later.step ?_ ?_ _) | (with_reducible refine Below.alloc ?_ ?_ _) | (with_reducible refine Below.drew ?_) | (with_reducible refine bel_drewN ?_ _) | (with_reducible refine bel_grown ?_ (by assumption) ?_ ?_) | (with_reducible refine Below.setCell ?_ ?_ _) | go_size))).alloc _) ⟨X1.w.heap.size, 0, none⟩ 1 1 [.int .u64 (x.s : Nat), .int .u64 (x.p : Nat), .int .i64 x.g.ops, .int .i64 x.g.zoom, .int .i64 x.g.a, .int .i64 x.g.b, .int .i64 x.g.c, .int .i64 x.g.d, .bool x.g.void, .int .i64 x.g.til] rfl rfl (cells_ten_new _ _ _) (tk_ones x) (by unfold maxLen; omega) (by omega) (by go_size) ?_; intro v1 w1 hown1 hgrow1 _ _; obtain ⟨A1, k1, rfl⟩ := own_formT hown1; have hb1 : Below w.heap.size w w1 := Below.grown (Below.alloc (show Below w.heap.size w X1.w by repeat' (first | (with_reducible exact Below.refl _ _) | (with_reducible assumption) | (with_reducible refine Later.step ?_ ?_ _) | (with_reducible refine Below.alloc ?_ ?_ _) | (with_reducible refine Below.drew ?_) | (with_reducible refine bel_drewN ?_ _) | (with_reducible refine bel_grown ?_ (by assumption) ?_ ?_) | (with_reducible refine Below.setCell ?_ ?_ _) | go_size)) (by go_size) _) hgrow1 (by go_size) (fun k hk => (hown.out.1.lt k hk).1); have hs1 := hgrow1.size; have HO1 := Lib.hid hown1; clear hown1 hgrow1))
        go_roundw
        case rel =>
          have h9 := HO1.out
          have h10 := hown.out.2
          have e1 : ((L.take (k + 1)).filter P) = ((L.take k).filter P) ++ [x] := by rw [HSN.out]; simp
          rw [← tkV_snoc, ← e1] at h9
          exact ⟨k + 1, _, _, m + 1, ⟨by omega, by omega, h9, by rw [e1, List.length_append, h10]; rfl⟩, rfl, by go_num, hb1, hb1.size⟩
        case measure => simp [intOf]; omega
    · obtain rfl : k = n := by omega
      have h9 := hown.out
      rw [← HN.out, List.take_length, HM.out] at h9
      obtain rfl : M.length = m := h9.2
      have HO := Lib.hid h9.1
      clear h9 hown
      go_wp2
      go_ret
      exact ⟨⟨_, _, rfl, newRow_own HO.out rfl⟩, by repeat' (first | (with_reducible exact Below.refl _ _) | (with_reducible assumption) | (with_reducible refine Later.step ?_ ?_ _) | (with_reducible refine Below.alloc ?_ ?_ _) | (with_reducible refine Below.drew ?_) | (with_reducible refine bel_drewN ?_ _) | (with_reducible refine bel_grown ?_ (by assumption) ?_ ?_) | (with_reducible refine Below.setCell ?_ ?_ _) | go_size)⟩
set_option maxHeartbeats 8000000 in
theorem kwithout_any (n c : Nat) (C : Option Addr) (L : List Tk) (s : Nat) (w : World) (h : Tks w w.heap.size C L) (hn : L.length = n) (hn1 : n ≤ 1000) :
    Calls Try.prog 17 #[.slice C n c, .int .u64 (s : Nat)] w fun e w' => (∃ C' cc, e = .returned (.slice C' (withoutT L s).length cc) ∧ NewRow w w' C' (withoutT L s)) ∧ Below w.heap.size w w' := by
  obtain ⟨i0, hi, hz0, hz1, hz2⟩ := info_parts (show (Try.prog.info? 35).map (fun i => (i.zero, i.size, i.bytes)) = some (some (.agg #[.int .u64 (t0.s : Nat), .int .u64 (t0.p : Nat), .int .i64 t0.g.ops, .int .i64 t0.g.zoom, .int .i64 t0.g.a, .int .i64 t0.g.b, .int .i64 t0.g.c, .int .i64 t0.g.d, .bool t0.g.void, .int .i64 t0.g.til]), 10, 80) by kernel_rfl)
  have P1 := Lib.hid (fun (k : Tk) (hk : k ∈ L) (Y : World) (hY : Below w.heap.size w Y) => kunder_any n c C L k s Y ((h.keep hY).more hY.size) hn (by omega))
  have HT := Lib.hid h
  have HN := Lib.hid hn
  obtain ⟨P, hP⟩ : ∃ P : Tk → Bool, (fun k => !undT L s k) = P := ⟨_, rfl⟩
  have hPk : ∀ k, (!undT L s k) = P k := fun k => congrFun hP k
  rw [show withoutT L s = L.filter P from by rw [← hP]; rfl]
  have P2 := Lib.hid (fun (k : Tk) (hk : k ∈ L) => hPk k)
  obtain ⟨M, hM⟩ : ∃ M, L.filter P = M := ⟨_, rfl⟩
  rw [hM]
  have HM := Lib.hid hM
  clear h hn hP hPk hM
  go_enter Try.func17, Try.ntmps17
  go_wp2
  go_loopw [5, 6] (fun al i wr => ∃ (k : Nat) (D : Option Addr) (cc m : Nat), (k ≤ n ∧ m ≤ k ∧ Hid (wr.ownsRow w.heap.size 35 10 (.slice D m cc) m (tkV ((L.take k).filter P)) ∧ ((L.take k).filter P).length = m)) ∧ al = .slice D m cc ∧ i = .int .i64 k ∧ Below w.heap.size w wr ∧ w.heap.size ≤ wr.heap.size) (fun _ i _ => n - (intOf i).toNat)
  case atStart => exact ⟨0, none, 0, 0, ⟨Nat.zero_le _, Nat.zero_le _, World.ownsRow_nil _ _ _ _, rfl⟩, rfl, rfl, Below.refl _ _, Nat.le_refl _⟩
  case round =>
    obtain ⟨k, D, cc, m, ⟨hk, hm, hown⟩, rfl, rfl, hbel, hsz⟩ := hrel
    obtain ⟨X, rfl⟩ : ∃ X : Later w.heap.size w, wr = X.w := ⟨⟨wr, hbel⟩, rfl⟩
    clear hbel
    by_cases hlt : k < n
    · obtain ⟨b, o, hA, hB, c0, d1, c2, c3, c4, c5, c6, c7, c8, c9⟩ := tks_at HT.out (i := k) (by rw [HN.out]; exact hlt)
      subst hA
      have hsn := filter_snoc P L (k := k) (by rw [HN.out]; exact hlt)
      have hmem : L.getD k t0 ∈ L := by rw [getD_lt (by rw [HN.out]; exact hlt)]; exact List.getElem_mem _
      obtain ⟨x, hx⟩ : ∃ x, L.getD k t0 = x := ⟨_, rfl⟩
      rw [hx] at c0 d1 c2 c3 c4 c5 c6 c7 c8 c9 hsn hmem
      have p3 := P1.out x hmem
      have p4 := P2.out x hmem
      obtain ⟨d, hd⟩ : ∃ d, P x = d := ⟨_, rfl⟩
      rw [hd] at hsn p4
      obtain ⟨u, hu⟩ : ∃ u, undT L s x = u := ⟨_, rfl⟩
      rw [hu] at p3 p4
      obtain rfl : u = !d := by rw [← p4]; simp
      clear hu
      have P3 := Lib.hid p3
      have HSN := Lib.hid hsn
      clear hx hmem p3 hsn hd p4
      cases d with
      | false =>
        go_wp2_with (first
          | (go_at_call 38; refine (P3.out _ (by repeat' (first | (with_reducible exact Below.refl _ _) | (with_reducible assumption) | (with_reducible refine Later.step ?_ ?_ _) | (with_reducible refine Below.alloc ?_ ?_ _) | (with_reducible refine Below.drew ?_) | (with_reducible refine bel_drewN ?_ _) | (with_reducible refine bel_grown ?_ (by assumption) ?_ ?_) | (with_reducible refine Below.setCell ?_ ?_ _) | go_size))).mono ?_; rintro e w' ⟨rfl, hb⟩; obtain ⟨X1, rfl, hl1, hm1⟩ := later _ hb (Nat.le_refl _); clear hb; (try simp only [World.size_alloc, World.size_setCell, World.size_drew] at hm1 hl1)))
        go_roundw
        case rel =>
          have h9 := hown.out
          rw [show ((L.take k).filter P) = ((L.take (k + 1)).filter P) from by rw [HSN.out]; simp] at h9
          exact ⟨k + 1, _, _, m, ⟨by omega, by omega, own_keep h9.1 (by repeat' (first | (with_reducible exact Below.refl _ _) | (with_reducible assumption) | (with_reducible refine Later.step ?_ ?_ _) | (with_reducible refine Below.alloc ?_ ?_ _) | (with_reducible refine Below.drew ?_) | (with_reducible refine bel_drewN ?_ _) | (with_reducible refine bel_grown ?_ (by assumption) ?_ ?_) | (with_reducible refine Below.setCell ?_ ?_ _) | go_size)), h9.2⟩, rfl, by go_num, by repeat' (first | (with_reducible exact Below.refl _ _) | (with_reducible assumption) | (with_reducible refine Later.step ?_ ?_ _) | (with_reducible refine Below.alloc ?_ ?_ _) | (with_reducible refine Below.drew ?_) | (with_reducible refine bel_drewN ?_ _) | (with_reducible refine bel_grown ?_ (by assumption) ?_ ?_) | (with_reducible refine Below.setCell ?_ ?_ _) | go_size), by go_size⟩
        case measure => simp [intOf]; omega
      | true =>
        go_wp2_with (first
          | (go_at_call 38; refine (P3.out _ (by repeat' (first | (with_reducible exact Below.refl _ _) | (with_reducible assumption) | (with_reducible refine Later.step ?_ ?_ _) | (with_reducible refine Below.alloc ?_ ?_ _) | (with_reducible refine Below.drew ?_) | (with_reducible refine bel_drewN ?_ _) | (with_reducible refine bel_grown ?_ (by assumption) ?_ ?_) | (with_reducible refine Below.setCell ?_ ?_ _) | go_size))).mono ?_; rintro e w' ⟨rfl, hb⟩; obtain ⟨X1, rfl, hl1, hm1⟩ := later _ hb (Nat.le_refl _); clear hb; (try simp only [World.size_alloc, World.size_setCell, World.size_drew] at hm1 hl1))
          | (at_builtin; refine wpList_append_own_at _ rfl _ _ 25 rfl w.heap.size 35 i0 (.agg #[.int .u64 (t0.s : Nat), .int .u64 (t0.p : Nat), .int .i64 t0.g.ops, .int .i64 t0.g.zoom, .int .i64 t0.g.a, .int .i64 t0.g.b, .int .i64 t0.g.c, .int .i64 t0.g.d, .bool t0.g.void, .int .i64 t0.g.til]) 10 80 Try.underlying25 hi hz0 hz1 hz2 rfl (by decide) _ _ _ rfl ((own_keep hown.out.1 (show Below X.w.heap.size X.w X1.w by repeat' (first | (with_reducible exact Below.refl _ _) | (with_reducible assumption) | (with_reducible refine Later.step ?_ ?_ _) | (with_reducible refine Below.alloc ?_ ?_ _) | (with_reducible refine Below.drew ?_) | (with_reducible refine bel_drewN ?_ _) | (with_reducible refine bel_grown ?_ (by assumption) ?_ ?_) | (with_reducible refine Below.setCell ?_ ?_ _) | go_size))).alloc _) ⟨X1.w.heap.size, 0, none⟩ 1 1 [.int .u64 (x.s : Nat), .int .u64 (x.p : Nat), .int .i64 x.g.ops, .int .i64 x.g.zoom, .int .i64 x.g.a, .int .i64 x.g.b, .int .i64 x.g.c, .int .i64 x.g.d, .bool x.g.void, .int .i64 x.g.til] rfl rfl (cells_ten_new _ _ _) (tk_ones x) (by unfold maxLen; omega) (by omega) (by go_size) ?_; intro v1 w1 hown1 hgrow1 _ _; obtain ⟨A1, k1, rfl⟩ := own_formT hown1; have hb1 : Below w.heap.size w w1 := Below.grown (Below.alloc (show Below w.heap.size w X1.w by repeat' (first | (with_reducible exact Below.refl _ _) | (with_reducible assumption) | (with_reducible refine Later.step ?_ ?_ _) | (with_reducible refine Below.alloc ?_ ?_ _) | (with_reducible refine Below.drew ?_) | (with_reducible refine bel_drewN ?_ _) | (with_reducible refine bel_grown ?_ (by assumption) ?_ ?_) | (with_reducible refine Below.setCell ?_ ?_ _) | go_size)) (by go_size) _) hgrow1 (by go_size) (fun k hk => (hown.out.1.lt k hk).1); have hs1 := hgrow1.size; have HO1 := Lib.hid hown1; clear hown1 hgrow1))
        go_roundw
        case rel =>
          have h9 := HO1.out
          have h10 := hown.out.2
          have e1 : ((L.take (k + 1)).filter P) = ((L.take k).filter P) ++ [x] := by rw [HSN.out]; simp
          rw [← tkV_snoc, ← e1] at h9
          exact ⟨k + 1, _, _, m + 1, ⟨by omega, by omega, h9, by rw [e1, List.length_append, h10]; rfl⟩, rfl, by go_num, hb1, hb1.size⟩
        case measure => simp [intOf]; omega
    · obtain rfl : k = n := by omega
      have h9 := hown.out
      rw [← HN.out, List.take_length, HM.out] at h9
      obtain rfl : M.length = m := h9.2
      have HO := Lib.hid h9.1
      clear h9 hown
      go_wp2
      go_ret
      exact ⟨⟨_, _, rfl, newRow_own HO.out rfl⟩, by repeat' (first | (with_reducible exact Below.refl _ _) | (with_reducible assumption) | (with_reducible refine Later.step ?_ ?_ _) | (with_reducible refine Below.alloc ?_ ?_ _) | (with_reducible refine Below.drew ?_) | (with_reducible refine bel_drewN ?_ _) | (with_reducible refine bel_grown ?_ (by assumption) ?_ ?_) | (with_reducible refine Below.setCell ?_ ?_ _) | go_size)⟩
set_option maxHeartbeats 8000000 in
theorem kmake_any (n c : Nat) (C : Option Addr) (L : List Tk) (fr draw : Nat) (g : Gr) (w : World) (h : Tks w w.heap.size C L) (hn : L.length = n) (hn1 : n ≤ 1000) :
    Calls Try.prog 14 #[.slice C n c, .int .u64 (fr : Nat), .int .u64 (draw : Nat), .agg #[.int .i64 g.ops, .int .i64 g.zoom, .int .i64 g.a, .int .i64 g.b, .int .i64 g.c, .int .i64 g.d, .bool g.void, .int .i64 g.til]] w fun e w' => (∃ C' cc, e = .returned (.tuple #[.slice C' (makeT L fr draw g).length cc, .int .i64 (makeE L draw g)]) ∧ ((C' = C ∧ makeT L fr draw g = L) ∨ NewRow w w' C' (makeT L fr draw g))) ∧ Below w.heap.size w w' := by
  have P1 := Lib.hid (fun (Y : World) (hY : Below w.heap.size w Y) => kfind_any n c C L draw Y ((h.keep hY).more hY.size) hn (by omega))
  have p2 := kright_any g
  have HT := Lib.hid h
  have HN := Lib.hid hn
  by_cases h0 : makeE L draw g = 0
  · obtain ⟨e1, e2, e3, e4⟩ := make_zero h0
    rw [e3, show fndT L draw = t0 by unfold fndT; rw [e3]; rfl] at P1
    rw [h0, show makeT L fr draw g = L ++ [⟨draw, fr, g⟩] by unfold makeT; rw [if_pos h0]]
    rw [e1] at p2
    have P2 := Lib.hid p2
    have e2' : ((draw : Int) == 0) = false := by rw [beq_eq_false_iff_ne]; omega
    have e4' : decide ((8 : Int) ≤ n) = false := decide_eq_false (by omega)
    have hn8 : n < 8 := by omega
    obtain ⟨i0, hi, hz0, hz1, hz2⟩ := info_parts (show (Try.prog.info? 35).map (fun i => (i.zero, i.size, i.bytes)) = some (some (.agg #[.int .u64 (t0.s : Nat), .int .u64 (t0.p : Nat), .int .i64 t0.g.ops, .int .i64 t0.g.zoom, .int .i64 t0.g.a, .int .i64 t0.g.b, .int .i64 t0.g.c, .int .i64 t0.g.d, .bool t0.g.void, .int .i64 t0.g.til]), 10, 80) by kernel_rfl)
    rw [List.length_append, hn]
    clear h hn p2 h0 e1 e2 e3 e4
    go_enter Try.func14, Try.ntmps14
    go_wp2_with (first
      | (go_at_call 12; refine (P1.out _ (by repeat' (first | (with_reducible exact Below.refl _ _) | (with_reducible assumption) | (with_reducible refine Later.step ?_ ?_ _) | (with_reducible refine Below.alloc ?_ ?_ _) | (with_reducible refine Below.drew ?_) | (with_reducible refine bel_drewN ?_ _) | (with_reducible refine bel_grown ?_ (by assumption) ?_ ?_) | (with_reducible refine Below.setCell ?_ ?_ _) | go_size))).mono ?_; rintro e w' ⟨rfl, hb⟩; obtain ⟨X1, rfl, hl1, hm1⟩ := later _ hb (Nat.le_refl _); clear hb; (try simp only [World.size_alloc, World.size_setCell, World.size_drew] at hm1 hl1))
      | (go_at_call 28; refine (P2.out _).mono ?_; rintro e w' ⟨rfl, hb⟩; obtain ⟨X2, rfl, hl2, hm2⟩ := later _ hb (Nat.le_refl _); clear hb; (try simp only [World.size_alloc, World.size_setCell, World.size_drew] at hm2 hl2)))
    have g0 := (by go_simp : X2.w.cell? ⟨w.heap.size, 0, none⟩ = some (.int .i64 g.ops))
    have g1 := (by go_simp : X2.w.cell? ⟨w.heap.size, 1, none⟩ = some (.int .i64 g.zoom))
    have g2 := (by go_simp : X2.w.cell? ⟨w.heap.size, 2, none⟩ = some (.int .i64 g.a))
    have g3 := (by go_simp : X2.w.cell? ⟨w.heap.size, 3, none⟩ = some (.int .i64 g.b))
    have g4 := (by go_simp : X2.w.cell? ⟨w.heap.size, 4, none⟩ = some (.int .i64 g.c))
    have g5 := (by go_simp : X2.w.cell? ⟨w.heap.size, 5, none⟩ = some (.int .i64 g.d))
    have g6 := (by go_simp : X2.w.cell? ⟨w.heap.size, 6, none⟩ = some (.bool g.void))
    have g7 := (by go_simp : X2.w.cell? ⟨w.heap.size, 7, none⟩ = some (.int .i64 g.til))
    have hbw : Below w.heap.size w X2.w := by repeat' (first | (with_reducible exact Below.refl _ _) | (with_reducible assumption) | (with_reducible refine Later.step ?_ ?_ _) | (with_reducible refine Below.alloc ?_ ?_ _) | (with_reducible refine Below.drew ?_) | (with_reducible refine bel_drewN ?_ _) | (with_reducible refine bel_grown ?_ (by assumption) ?_ ?_) | (with_reducible refine Below.setCell ?_ ?_ _) | go_size)
    have hws : w.heap.size < X2.w.heap.size := by go_size
    go_loopw [12, 13] (fun al i wr => ∃ (k : Nat) (D : Option Addr) (cc : Nat), (k ≤ n ∧ Hid (wr.ownsRow X2.w.heap.size 35 10 (.slice D k cc) k (tkV (L.take k)))) ∧ al = .slice D k cc ∧ i = .int .i64 k ∧ Below X2.w.heap.size X2.w wr ∧ X2.w.heap.size ≤ wr.heap.size) (fun _ i _ => n - (intOf i).toNat)
    case atStart => exact ⟨0, none, 0, ⟨Nat.zero_le _, World.ownsRow_nil _ _ _ _⟩, rfl, rfl, Below.refl _ _, Nat.le_refl _⟩
    case round =>
      obtain ⟨k, D, cc, ⟨hk, hown⟩, rfl, rfl, hbel, hsz⟩ := hrel
      obtain ⟨X, rfl⟩ : ∃ X : Later X2.w.heap.size X2.w, wr = X.w := ⟨⟨wr, hbel⟩, rfl⟩
      clear hbel
      by_cases hlt : k < n
      · obtain ⟨b, o, hA, hB, c0, d1, c2, c3, c4, c5, c6, c7, c8, c9⟩ := tks_at (HT.out.keep hbw) (i := k) (by rw [HN.out]; exact hlt)
        subst hA
        have hsn := take_snoc (L := L) (i := k) (by rw [HN.out]; exact hlt)
        obtain ⟨x, hx⟩ : ∃ x, L.getD k t0 = x := ⟨_, rfl⟩
        rw [hx] at c0 d1 c2 c3 c4 c5 c6 c7 c8 c9 hsn
        have HSN := Lib.hid hsn
        clear hx hsn
        go_wp2_with (at_builtin; refine wpList_append_own_at _ rfl _ _ 25 rfl X2.w.heap.size 35 i0 (.agg #[.int .u64 (t0.s : Nat), .int .u64 (t0.p : Nat), .int .i64 t0.g.ops, .int .i64 t0.g.zoom, .int .i64 t0.g.a, .int .i64 t0.g.b, .int .i64 t0.g.c, .int .i64 t0.g.d, .bool t0.g.void, .int .i64 t0.g.til]) 10 80 Try.underlying25 hi hz0 hz1 hz2 rfl (by decide) _ _ _ rfl (hown.out.alloc _) ⟨X.w.heap.size, 0, none⟩ 1 1 [.int .u64 (x.s : Nat), .int .u64 (x.p : Nat), .int .i64 x.g.ops, .int .i64 x.g.zoom, .int .i64 x.g.a, .int .i64 x.g.b, .int .i64 x.g.c, .int .i64 x.g.d, .bool x.g.void, .int .i64 x.g.til] rfl rfl (cells_ten_at (by simp) _ _) (tk_ones x) (by unfold maxLen; omega) (by omega) (by go_size) ?_)
        intro v1 w1 hown1 hgrow1 _ _
        obtain ⟨A1', k1, rfl⟩ := own_formT hown1
        have hb1 : Below X2.w.heap.size X2.w w1 := Below.grown (Below.alloc (show Below X2.w.heap.size X2.w X.w by repeat' (first | (with_reducible exact Below.refl _ _) | (with_reducible assumption) | (with_reducible refine Later.step ?_ ?_ _) | (with_reducible refine Below.alloc ?_ ?_ _) | (with_reducible refine Below.drew ?_) | (with_reducible refine bel_drewN ?_ _) | (with_reducible refine bel_grown ?_ (by assumption) ?_ ?_) | (with_reducible refine Below.setCell ?_ ?_ _) | go_size)) (by go_size) _) hgrow1 (by go_size) (fun k hk => (hown.out.lt k hk).1)
        have HO1 := Lib.hid hown1
        clear hown1 hgrow1
        go_wp2
        go_roundw
        case rel =>
          have h9 := HO1.out
          rw [← tkV_snoc, ← HSN.out] at h9
          exact ⟨k + 1, _, _, ⟨by omega, h9⟩, rfl, by go_num, hb1, hb1.size⟩
        case measure => simp [intOf]; omega
      · obtain rfl : k = n := by omega
        have h9 := hown.out
        rw [← HN.out, List.take_length, HN.out] at h9
        have HO := Lib.hid h9
        clear h9 hown
        go_wp2_with (at_builtin; refine wpList_append_own_at _ rfl _ _ 25 rfl X2.w.heap.size 35 i0 (.agg #[.int .u64 (t0.s : Nat), .int .u64 (t0.p : Nat), .int .i64 t0.g.ops, .int .i64 t0.g.zoom, .int .i64 t0.g.a, .int .i64 t0.g.b, .int .i64 t0.g.c, .int .i64 t0.g.d, .bool t0.g.void, .int .i64 t0.g.til]) 10 80 Try.underlying25 hi hz0 hz1 hz2 rfl (by decide) _ _ _ rfl (HO.out.alloc _) ⟨X.w.heap.size, 0, none⟩ 1 1 [.int .u64 (((⟨draw, fr, g⟩ : Tk)).s : Nat), .int .u64 (((⟨draw, fr, g⟩ : Tk)).p : Nat), .int .i64 (((⟨draw, fr, g⟩ : Tk)).g).ops, .int .i64 (((⟨draw, fr, g⟩ : Tk)).g).zoom, .int .i64 (((⟨draw, fr, g⟩ : Tk)).g).a, .int .i64 (((⟨draw, fr, g⟩ : Tk)).g).b, .int .i64 (((⟨draw, fr, g⟩ : Tk)).g).c, .int .i64 (((⟨draw, fr, g⟩ : Tk)).g).d, .bool (((⟨draw, fr, g⟩ : Tk)).g).void, .int .i64 (((⟨draw, fr, g⟩ : Tk)).g).til] rfl rfl (cells_ten_at (by simp) _ _) (tk_ones ⟨draw, fr, g⟩) (by unfold maxLen; omega) (by omega) (by go_size) ?_)
        intro v1 w1 hown1 hgrow1 _ _
        obtain ⟨A1', k1, rfl⟩ := own_formT hown1
        have hb1 : Below X2.w.heap.size X2.w w1 := Below.grown (Below.alloc (show Below X2.w.heap.size X2.w X.w by repeat' (first | (with_reducible exact Below.refl _ _) | (with_reducible assumption) | (with_reducible refine Later.step ?_ ?_ _) | (with_reducible refine Below.alloc ?_ ?_ _) | (with_reducible refine Below.drew ?_) | (with_reducible refine bel_drewN ?_ _) | (with_reducible refine bel_grown ?_ (by assumption) ?_ ?_) | (with_reducible refine Below.setCell ?_ ?_ _) | go_size)) (by go_size) _) hgrow1 (by go_size) (fun k hk => (HO.out.lt k hk).1)
        have HO1 := Lib.hid hown1
        have hb2 : Below w.heap.size w w1 := hbw.trans (hb1.mono (by omega))
        clear hown1 hgrow1
        go_wp2
        go_ret2
        have h9 : w1.ownsRow X2.w.heap.size 35 10 (.slice A1' (k + 1) k1) (k + 1) (tkV (L ++ [⟨draw, fr, g⟩])) := by
          rw [tkV_snoc]
          exact HO1.out
        refine ⟨⟨_, _, rfl, .inr ⟨tks_own h9 (by rw [List.length_append, HN.out]; rfl), fun _ a e => Nat.le_trans (by omega) (own_fresh h9 a e)⟩⟩, hb2⟩
  · have e1 : makeT L fr draw g = L := by unfold makeT; rw [if_neg h0]
    rw [e1, hn]
    obtain ⟨R, hR⟩ : ∃ R, makeE L draw g = R := ⟨_, rfl⟩
    rw [hR] at h0 ⊢
    unfold makeE at hR
    rw [hn] at hR
    clear h hn e1
    cases hr : rightG g with
    | false =>
      rw [hr] at p2
      rw [if_pos hr] at hR
      subst hR
      have P2 := Lib.hid p2
      clear p2 hr h0
      go_enter Try.func14, Try.ntmps14
      go_wp2_with (first
        | (go_at_call 12; refine (P1.out _ (by repeat' (first | (with_reducible exact Below.refl _ _) | (with_reducible assumption) | (with_reducible refine Later.step ?_ ?_ _) | (with_reducible refine Below.alloc ?_ ?_ _) | (with_reducible refine Below.drew ?_) | (with_reducible refine bel_drewN ?_ _) | (with_reducible refine bel_grown ?_ (by assumption) ?_ ?_) | (with_reducible refine Below.setCell ?_ ?_ _) | go_size))).mono ?_; rintro e w' ⟨rfl, hb⟩; obtain ⟨X1, rfl, hl1, hm1⟩ := later _ hb (Nat.le_refl _); clear hb; (try simp only [World.size_alloc, World.size_setCell, World.size_drew] at hm1 hl1))
        | (go_at_call 28; refine (P2.out _).mono ?_; rintro e w' ⟨rfl, hb⟩; obtain ⟨X2, rfl, hl2, hm2⟩ := later _ hb (Nat.le_refl _); clear hb; (try simp only [World.size_alloc, World.size_setCell, World.size_drew] at hm2 hl2)))
      go_ret2
      exact ⟨⟨_, _, rfl, .inl ⟨rfl, by trivial⟩⟩, by repeat' (first | (with_reducible exact Below.refl _ _) | (with_reducible assumption) | (with_reducible refine Later.step ?_ ?_ _) | (with_reducible refine Below.alloc ?_ ?_ _) | (with_reducible refine Below.drew ?_) | (with_reducible refine bel_drewN ?_ _) | (with_reducible refine bel_grown ?_ (by assumption) ?_ ?_) | (with_reducible refine Below.setCell ?_ ?_ _) | go_size)⟩
    | true =>
      rw [hr] at p2
      rw [if_neg (by rw [hr]; simp)] at hR
      have P2 := Lib.hid p2
      clear p2 hr
      by_cases hd : draw = 0
      · rw [if_pos hd] at hR
        subst hR
        have e2' : ((draw : Int) == 0) = true := by simp [hd]
        clear hd h0
        go_enter Try.func14, Try.ntmps14
        go_wp2_with (first
          | (go_at_call 12; refine (P1.out _ (by repeat' (first | (with_reducible exact Below.refl _ _) | (with_reducible assumption) | (with_reducible refine Later.step ?_ ?_ _) | (with_reducible refine Below.alloc ?_ ?_ _) | (with_reducible refine Below.drew ?_) | (with_reducible refine bel_drewN ?_ _) | (with_reducible refine bel_grown ?_ (by assumption) ?_ ?_) | (with_reducible refine Below.setCell ?_ ?_ _) | go_size))).mono ?_; rintro e w' ⟨rfl, hb⟩; obtain ⟨X1, rfl, hl1, hm1⟩ := later _ hb (Nat.le_refl _); clear hb; (try simp only [World.size_alloc, World.size_setCell, World.size_drew] at hm1 hl1))
          | (go_at_call 28; refine (P2.out _).mono ?_; rintro e w' ⟨rfl, hb⟩; obtain ⟨X2, rfl, hl2, hm2⟩ := later _ hb (Nat.le_refl _); clear hb; (try simp only [World.size_alloc, World.size_setCell, World.size_drew] at hm2 hl2)))
        go_ret2
        exact ⟨⟨_, _, rfl, .inl ⟨rfl, by trivial⟩⟩, by repeat' (first | (with_reducible exact Below.refl _ _) | (with_reducible assumption) | (with_reducible refine Later.step ?_ ?_ _) | (with_reducible refine Below.alloc ?_ ?_ _) | (with_reducible refine Below.drew ?_) | (with_reducible refine bel_drewN ?_ _) | (with_reducible refine bel_grown ?_ (by assumption) ?_ ?_) | (with_reducible refine Below.setCell ?_ ?_ _) | go_size)⟩
      · rw [if_neg hd] at hR
        have e2' : ((draw : Int) == 0) = false := by rw [beq_eq_false_iff_ne]; omega
        clear hd
        obtain ⟨f, hf⟩ : ∃ f, (findT L draw).isSome = f := ⟨_, rfl⟩
        rw [hf] at P1 hR
        clear hf
        cases f with
        | true =>
          rw [if_pos rfl] at hR
          subst hR
          clear h0
          go_enter Try.func14, Try.ntmps14
          go_wp2_with (first
            | (go_at_call 12; refine (P1.out _ (by repeat' (first | (with_reducible exact Below.refl _ _) | (with_reducible assumption) | (with_reducible refine Later.step ?_ ?_ _) | (with_reducible refine Below.alloc ?_ ?_ _) | (with_reducible refine Below.drew ?_) | (with_reducible refine bel_drewN ?_ _) | (with_reducible refine bel_grown ?_ (by assumption) ?_ ?_) | (with_reducible refine Below.setCell ?_ ?_ _) | go_size))).mono ?_; rintro e w' ⟨rfl, hb⟩; obtain ⟨X1, rfl, hl1, hm1⟩ := later _ hb (Nat.le_refl _); clear hb; (try simp only [World.size_alloc, World.size_setCell, World.size_drew] at hm1 hl1))
            | (go_at_call 28; refine (P2.out _).mono ?_; rintro e w' ⟨rfl, hb⟩; obtain ⟨X2, rfl, hl2, hm2⟩ := later _ hb (Nat.le_refl _); clear hb; (try simp only [World.size_alloc, World.size_setCell, World.size_drew] at hm2 hl2)))
          go_ret2
          exact ⟨⟨_, _, rfl, .inl ⟨rfl, by trivial⟩⟩, by repeat' (first | (with_reducible exact Below.refl _ _) | (with_reducible assumption) | (with_reducible refine Later.step ?_ ?_ _) | (with_reducible refine Below.alloc ?_ ?_ _) | (with_reducible refine Below.drew ?_) | (with_reducible refine bel_drewN ?_ _) | (with_reducible refine bel_grown ?_ (by assumption) ?_ ?_) | (with_reducible refine Below.setCell ?_ ?_ _) | go_size)⟩
        | false =>
          rw [if_neg (by simp)] at hR
          by_cases h8 : 8 ≤ n
          · rw [if_pos h8] at hR
            subst hR
            have h8' : decide ((8 : Int) ≤ n) = true := decide_eq_true (by omega)
            clear h0
            go_enter Try.func14, Try.ntmps14
            go_wp2_with (first
              | (go_at_call 12; refine (P1.out _ (by repeat' (first | (with_reducible exact Below.refl _ _) | (with_reducible assumption) | (with_reducible refine Later.step ?_ ?_ _) | (with_reducible refine Below.alloc ?_ ?_ _) | (with_reducible refine Below.drew ?_) | (with_reducible refine bel_drewN ?_ _) | (with_reducible refine bel_grown ?_ (by assumption) ?_ ?_) | (with_reducible refine Below.setCell ?_ ?_ _) | go_size))).mono ?_; rintro e w' ⟨rfl, hb⟩; obtain ⟨X1, rfl, hl1, hm1⟩ := later _ hb (Nat.le_refl _); clear hb; (try simp only [World.size_alloc, World.size_setCell, World.size_drew] at hm1 hl1))
              | (go_at_call 28; refine (P2.out _).mono ?_; rintro e w' ⟨rfl, hb⟩; obtain ⟨X2, rfl, hl2, hm2⟩ := later _ hb (Nat.le_refl _); clear hb; (try simp only [World.size_alloc, World.size_setCell, World.size_drew] at hm2 hl2)))
            go_ret2
            exact ⟨⟨_, _, rfl, .inl ⟨rfl, by trivial⟩⟩, by repeat' (first | (with_reducible exact Below.refl _ _) | (with_reducible assumption) | (with_reducible refine Later.step ?_ ?_ _) | (with_reducible refine Below.alloc ?_ ?_ _) | (with_reducible refine Below.drew ?_) | (with_reducible refine bel_drewN ?_ _) | (with_reducible refine bel_grown ?_ (by assumption) ?_ ?_) | (with_reducible refine Below.setCell ?_ ?_ _) | go_size)⟩
          · rw [if_neg h8] at hR
            exact absurd hR.symm h0
end Go.Proofs.Ytjfgjlklbepnjaa
