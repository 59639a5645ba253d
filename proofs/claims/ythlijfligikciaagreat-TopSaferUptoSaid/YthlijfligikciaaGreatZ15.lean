/- review's row of two sets of rules: walked. No condition beyond what the rows read as. -/
import Derived.Test.YthlijfligikciaaGreatZ13
import Derived.Deep.CutBlock
namespace Go.Proofs.YthlijfligikciaaGreat
open Go.RowKit Go.Maps
set_option linter.unusedSimpArgs false
set_option linter.unusedVariables false
set_option maxRecDepth 2000

/-- Somewhere ahead the zoom goes up. -/
def upTo (z1 z2 : Int → Int) (xs : List Int) (k : Nat) : Prop := ∃ i, i < k ∧ z1 (xs.getD i 0) < z2 (xs.getD i 0)
theorem up_no {z1 z2 : Int → Int} {xs : List Int} {k : Nat} (h : ¬ z1 (xs.getD k 0) < z2 (xs.getD k 0)) : upTo z1 z2 xs (k + 1) ↔ upTo z1 z2 xs k :=
  ⟨fun ⟨i, hi, hz⟩ => by
    rcases Nat.lt_or_eq_of_le (Nat.le_of_lt_succ hi) with h9 | rfl
    · exact ⟨i, h9, hz⟩
    · exact absurd hz h, fun ⟨i, hi, hz⟩ => ⟨i, by omega, hz⟩⟩
theorem up_yes {z1 z2 : Int → Int} {xs : List Int} {k : Nat} (h : z1 (xs.getD k 0) < z2 (xs.getD k 0)) : upTo z1 z2 xs (k + 1) := ⟨k, Nat.lt_succ_self k, h⟩
/-- A row's post: whether there is a run. -/
def RrowPost (z1 z2 : Int → Int) (xs : List Int) (w : World) (e : Ending) (w' : World) : Prop :=
  ∃ C cc m M, e = .returned (.slice C m cc) ∧ (M : List Bx).length = m ∧ m ≤ 65536 ∧ Bxs w' w'.heap.size C M ∧ (0 < m ↔ upTo z1 z2 xs (xs.length - 1)) ∧ Below w.heap.size w w'
set_option maxHeartbeats 16000000 in
theorem rrow_any (a b c : Int) (n1 n2 c1 c2 nx cx ny cy : Nat) (A1 A2 D F : Option Addr) (L1 L2 : List Rl) (P1 P2 : Nat → Option Addr × Nat) (xs : List Int) (y : Int) (w : World) (h1 : Rls w w.heap.size A1 L1 P1) (h2 : Rls w w.heap.size A2 L2 P2) (hn1 : L1.length = n1) (hn2 : L2.length = n2) (hm1 : n1 ≤ 1000000) (hm2 : n2 ≤ 1000000) (hb1 : ∀ i, i < n1 → (L1.getD i rl0).boxes.length ≤ 1048576) (hb2 : ∀ i, i < n2 → (L2.getD i rl0).boxes.length ≤ 1048576)
    (hx : Ints w w.heap.size D xs) (hxn : xs.length = nx) (hx1 : nx ≤ 65537) (hxr : ∀ x ∈ xs, 0 ≤ x ∧ x ≤ 65536) :
    Calls Tryz.prog 138 #[.agg #[.int .i64 a, .int .i64 b, .int .i64 c, .slice A1 n1 c1, .slice A2 n2 c2, .slice D nx cx, .slice F ny cy], .int .i64 y, .func (.func 25) #[] #[]] w (RrowPost (fun x => zoomR L1 a b c x y) (fun x => zoomR L2 a b c x y) xs w) := by
  obtain ⟨i0, hi, hz0, hz1, hz2⟩ := info_parts (show (Tryz.prog.info? 238).map (fun i => (i.zero, i.size, i.bytes)) = some (some (.agg #[.int .i64 0, .int .i64 0, .int .i64 0, .int .i64 0]), 4, 32) by kernel_rfl)
  have p1 := fun (x : Int) (Y : World) (hY : Below w.heap.size w Y) => whoZoom_any a b c n1 c1 A1 L1 P1 x y Y ((h1.keep hY).more hY.size) hn1 hm1 hb1
  have p2 := fun (x : Int) (Y : World) (hY : Below w.heap.size w Y) => whoZoom_any a b c n2 c2 A2 L2 P2 x y Y ((h2.keep hY).more hY.size) hn2 hm2 hb2
  obtain ⟨z1, hz1'⟩ : ∃ z : Int → Int, (fun x => zoomR L1 a b c x y) = z := ⟨_, rfl⟩
  obtain ⟨z2, hz2'⟩ : ∃ z : Int → Int, (fun x => zoomR L2 a b c x y) = z := ⟨_, rfl⟩
  rw [hz1', hz2']
  have e1 : ∀ x, zoomR L1 a b c x y = z1 x := fun x => congrFun hz1' x
  have e2 : ∀ x, zoomR L2 a b c x y = z2 x := fun x => congrFun hz2' x
  simp only [e1] at p1
  simp only [e2] at p2
  unfold key3 at p1 p2
  have Q1 := Lib.hid p1
  have Q2 := Lib.hid p2
  have HX := Lib.hid hx
  have HXN := Lib.hid hxn
  have HXR := Lib.hid hxr
  have HF := Lib.hid (show ∀ C cc m M w', (M : List Bx).length = m → m ≤ 65536 → Bxs w' w'.heap.size C M → (0 < m ↔ upTo z1 z2 xs (xs.length - 1)) → Below w.heap.size w w' → RrowPost z1 z2 xs w (.returned (.slice C m cc)) w' from fun C cc m M w' e1 e2 e3 e4 e5 => ⟨C, cc, m, M, rfl, e1, e2, e3, e4, e5⟩)
  generalize RrowPost z1 z2 xs w = Post at HF ⊢
  clear p1 p2 e1 e2 hz1' hz2' h1 h2 hn1 hn2 hb1 hb2 hx hxn hxr
  go_enter Tryz.func138, Tryz.ntmps138
  go_wp2_with fail
  go_loopw [7, 8] (fun al i wr => ∃ (k : Nat) (C : Option Addr) (cc m : Nat) (M : List Bx), ((k ≤ nx - 1 ∧ m ≤ k) ∧ Hid ((wr.ownsRow (w.heap.size + 1) 238 4 (.slice C m cc) m (bxV M) ∧ M.length = m) ∧ (0 < m ↔ upTo z1 z2 xs k) ∧ ∀ s ∈ M, -1 ≤ s.b ∧ s.b ≤ 65535)) ∧ al = .slice C m cc ∧ i = .int .i64 k ∧ Below (w.heap.size + 1) (w.alloc (.cells #[.int .i64 a, .int .i64 b, .int .i64 c, .slice A1 n1 c1, .slice A2 n2 c2, .slice D nx cx, .slice F ny cy] 199)) wr) (fun _ i _ => nx - (intOf i).toNat)
  case atStart => exact ⟨0, none, 0, 0, [], ⟨⟨Nat.zero_le _, Nat.le_refl _⟩, ⟨World.ownsRow_nil _ _ _ _, rfl⟩, ⟨fun h => by omega, fun ⟨i, h, _⟩ => by omega⟩, fun s hs => by cases hs⟩, rfl, rfl, Below.refl _ _⟩
  case round =>
    obtain ⟨k, C, cc, m, M, ⟨⟨hk, hmk⟩, hrel⟩, rfl, rfl, hbel⟩ := hrel
    obtain ⟨X, rfl⟩ : ∃ X : Later (w.heap.size + 1) (w.alloc (.cells #[.int .i64 a, .int .i64 b, .int .i64 c, .slice A1 n1 c1, .slice A2 n2 c2, .slice D nx cx, .slice F ny cy] 199)), wr = X.w := ⟨⟨wr, hbel⟩, rfl⟩
    have hsz : w.heap.size + 1 ≤ X.w.heap.size := by have := hbel.size; simpa using this
    have hbX : Below w.heap.size w X.w := ((Below.refl w.heap.size w).alloc (Nat.le_refl _) _).trans (hbel.mono (Nat.le_succ _))
    clear hbel
    by_cases hlt : k + 1 < nx
    · obtain ⟨bb, o, hD, hB, hc⟩ := HX.out (by rw [HXN.out]; omega)
      subst hD
      have q0 := (hbX.cell (p := ⟨bb, o + k, none⟩) hB).trans (hc k (by rw [HXN.out]; omega))
      have q1 := (hbX.cell (p := ⟨bb, o + (k + 1), none⟩) hB).trans (hc (k + 1) (by rw [HXN.out]; omega))
      have hr0 := getD_rng HXR.out k
      have hr1 := getD_rng HXR.out (k + 1)
      have hno := @up_no z1 z2 xs k
      have hyes := @up_yes z1 z2 xs k
      obtain ⟨x0, hx0⟩ : ∃ x, xs.getD k 0 = x := ⟨_, rfl⟩
      obtain ⟨x1, hx1'⟩ : ∃ x, xs.getD (k + 1) 0 = x := ⟨_, rfl⟩
      rw [hx0] at q0 hr0 hno hyes
      rw [hx1'] at q1 hr1
      have q2 : X.w.cell? ⟨bb, o + k + 1, none⟩ = some (.int .i64 x1) := by rw [show o + k + 1 = o + (k + 1) by omega]; exact q1
      have hkx : k < nx := by omega
      have HU := Lib.hid (And.intro hno hyes)
      have r1 := fun (Y : World) (hY : Below w.heap.size w Y) => Q1.out x0 Y hY
      clear hc hx0 hx1' hno hyes r1
      have hkt : decide ((k : Int) + 1 < (nx : Int)) = true := decide_eq_true (by omega)
      go_upto_region 6 with fail
      try rw [hkt]
      go_cut [10] from 27 to 51 (fun v wx => ∃ q : Nat, v = .pointer (some ⟨q, 0, none⟩) ∧ (X.w.heap.size + 1 ≤ q ∧ q < wx.heap.size) ∧ (wx.cell? ⟨q, 0, none⟩ = some (.int .i64 x0) ∧ wx.cell? ⟨q, 1, none⟩ = some (.int .i64 (x1 - 1)) ∧ wx.cell? ⟨q, 2, none⟩ = some (.int .i64 (z1 x0)) ∧ wx.cell? ⟨q, 3, none⟩ = some (.int .i64 (z2 x0))) ∧ Below (X.w.heap.size + 1) (X.w.alloc (.cells #[.int .i64 x0, .int .i64 y] 30)) wx)
      case first =>
        have w1 : IntKind.i64.wrap ((k : Int) + 1) = (k : Int) + 1 := IntWalk.i64_in _ (by omega)
        have w2 : IntKind.i64.wrap (x1 - 1) = x1 - 1 := IntWalk.i64_in _ (by omega)
        have w3 : (0 : Int) ≤ (k : Int) + 1 := by omega
        have w4 : (k : Int) + 1 < (nx : Int) := by omega
        have w5 : ((k : Int) + 1).toNat = k + 1 := by omega
        have HS : (fun w' => w'.cell? ⟨w.heap.size, 0, none⟩ = some (.int .i64 a) ∧ w'.cell? ⟨w.heap.size, 1, none⟩ = some (.int .i64 b) ∧ w'.cell? ⟨w.heap.size, 2, none⟩ = some (.int .i64 c) ∧ w'.cell? ⟨w.heap.size, 3, none⟩ = some (.slice A1 n1 c1) ∧ w'.cell? ⟨w.heap.size, 4, none⟩ = some (.slice A2 n2 c2) ∧ w'.cell? ⟨w.heap.size, 5, none⟩ = some (.slice (some ⟨bb, o, none⟩) nx cx) ∧ w'.cell? ⟨X.w.heap.size, 0, none⟩ = some (.int .i64 x0) ∧ w'.cell? ⟨X.w.heap.size, 1, none⟩ = some (.int .i64 y) ∧ w'.cell? ⟨bb, o + k, none⟩ = some (.int .i64 x0) ∧ w'.cell? ⟨bb, o + (k + 1), none⟩ = some (.int .i64 x1)) (X.w.alloc (.cells #[.int .i64 x0, .int .i64 y] 30)).drew := ⟨by first | go_simp | (rw [show o + (k + 1) = o + k + 1 by omega]; go_simp), by first | go_simp | (rw [show o + (k + 1) = o + k + 1 by omega]; go_simp), by first | go_simp | (rw [show o + (k + 1) = o + k + 1 by omega]; go_simp), by first | go_simp | (rw [show o + (k + 1) = o + k + 1 by omega]; go_simp), by first | go_simp | (rw [show o + (k + 1) = o + k + 1 by omega]; go_simp), by first | go_simp | (rw [show o + (k + 1) = o + k + 1 by omega]; go_simp), by first | go_simp | (rw [show o + (k + 1) = o + k + 1 by omega]; go_simp), by first | go_simp | (rw [show o + (k + 1) = o + k + 1 by omega]; go_simp), by first | go_simp | (rw [show o + (k + 1) = o + k + 1 by omega]; go_simp), by first | go_simp | (rw [show o + (k + 1) = o + k + 1 by omega]; go_simp)⟩
        refine wp_region_early (fun w' => w'.cell? ⟨w.heap.size, 0, none⟩ = some (.int .i64 a) ∧ w'.cell? ⟨w.heap.size, 1, none⟩ = some (.int .i64 b) ∧ w'.cell? ⟨w.heap.size, 2, none⟩ = some (.int .i64 c) ∧ w'.cell? ⟨w.heap.size, 3, none⟩ = some (.slice A1 n1 c1) ∧ w'.cell? ⟨w.heap.size, 4, none⟩ = some (.slice A2 n2 c2) ∧ w'.cell? ⟨w.heap.size, 5, none⟩ = some (.slice (some ⟨bb, o, none⟩) nx cx) ∧ w'.cell? ⟨X.w.heap.size, 0, none⟩ = some (.int .i64 x0) ∧ w'.cell? ⟨X.w.heap.size, 1, none⟩ = some (.int .i64 y) ∧ w'.cell? ⟨bb, o + k, none⟩ = some (.int .i64 x0) ∧ w'.cell? ⟨bb, o + (k + 1), none⟩ = some (.int .i64 x1)) (fun j => decide (j < 26)) (by kernel_rfl) HS (fun HS => ?_)
        (refine wpAnyE_take (i := 0) (v := ?_) rfl (by kernel_rfl) (by kernel_rfl) (by kernel_rfl) (by kernel_rfl) (fun _ _ _ h => h) (Or.inl ⟨by rfl, ?_⟩) HS ?_; rotate_left 1; (focus (intro w9 hSw; (try dsimp only at hSw); go_simp; all_goals (with_reducible rfl))); (try simp only [Act.put, List.setIfInBounds_toArray, List.set_cons_zero, List.set_cons_succ]))
        (refine wpAnyE_take (i := 1) (v := ?_) rfl (by kernel_rfl) (by kernel_rfl) (by kernel_rfl) (by kernel_rfl) (fun _ _ _ h => h) (Or.inl ⟨by rfl, ?_⟩) HS ?_; rotate_left 1; (focus (intro w9 hSw; (try dsimp only at hSw); go_simp; all_goals (with_reducible rfl))); (try simp only [Act.put, List.setIfInBounds_toArray, List.set_cons_zero, List.set_cons_succ]))
        (refine wpAnyE_take (i := 2) (v := ?_) rfl (by kernel_rfl) (by kernel_rfl) (by kernel_rfl) (by kernel_rfl) (fun _ _ _ h => h) (Or.inl ⟨by rfl, ?_⟩) HS ?_; rotate_left 1; (focus (intro w9 hSw; (try dsimp only at hSw); go_simp; all_goals (with_reducible rfl))); (try simp only [Act.put, List.setIfInBounds_toArray, List.set_cons_zero, List.set_cons_succ]))
        (refine wpAnyE_take (i := 3) (v := ?_) rfl (by kernel_rfl) (by kernel_rfl) (by kernel_rfl) (by kernel_rfl) (fun _ _ _ h => h) (Or.inl ⟨by rfl, ?_⟩) HS ?_; rotate_left 1; (focus (intro w9 hSw; (try dsimp only at hSw); go_simp; all_goals (with_reducible rfl))); (try simp only [Act.put, List.setIfInBounds_toArray, List.set_cons_zero, List.set_cons_succ]))
        (refine wpAnyE_take (i := 4) (v := ?_) rfl (by kernel_rfl) (by kernel_rfl) (by kernel_rfl) (by kernel_rfl) (fun _ _ _ h => h) (Or.inl ⟨by rfl, ?_⟩) HS ?_; rotate_left 1; (focus (intro w9 hSw; (try dsimp only at hSw); go_simp; all_goals (with_reducible rfl))); (try simp only [Act.put, List.setIfInBounds_toArray, List.set_cons_zero, List.set_cons_succ]))
        (refine wpAnyE_take (i := 5) (v := ?_) rfl (by kernel_rfl) (by kernel_rfl) (by kernel_rfl) (by kernel_rfl) (fun _ _ _ h => h) (Or.inl ⟨by rfl, ?_⟩) HS ?_; rotate_left 1; (focus (intro w9 hSw; (try dsimp only at hSw); go_simp; all_goals (with_reducible rfl))); (try simp only [Act.put, List.setIfInBounds_toArray, List.set_cons_zero, List.set_cons_succ]))
        (refine wpAnyE_take (i := 6) (v := ?_) rfl (by kernel_rfl) (by kernel_rfl) (by kernel_rfl) (by kernel_rfl) (fun _ _ _ h => h) (Or.inl ⟨by rfl, ?_⟩) HS ?_; rotate_left 1; (focus (intro w9 hSw; (try dsimp only at hSw); go_simp; all_goals (with_reducible rfl))); (try simp only [Act.put, List.setIfInBounds_toArray, List.set_cons_zero, List.set_cons_succ]))
        (refine wpAnyE_take (i := 7) (v := ?_) rfl (by kernel_rfl) (by kernel_rfl) (by kernel_rfl) (by kernel_rfl) (fun _ _ _ h => h) (Or.inl ⟨by rfl, ?_⟩) HS ?_; rotate_left 1; (focus (intro w9 hSw; (try dsimp only at hSw); go_simp; all_goals (with_reducible rfl))); (try simp only [Act.put, List.setIfInBounds_toArray, List.set_cons_zero, List.set_cons_succ]))
        (refine wpAnyE_take (i := 8) (v := ?_) rfl (by kernel_rfl) (by kernel_rfl) (by kernel_rfl) (by kernel_rfl) (fun _ _ _ h => h) (Or.inl ⟨by rfl, ?_⟩) HS ?_; rotate_left 1; (focus (intro w9 hSw; (try dsimp only at hSw); go_simp; all_goals (with_reducible rfl))); (try simp only [Act.put, List.setIfInBounds_toArray, List.set_cons_zero, List.set_cons_succ]))
        (refine wpAnyE_take (i := 9) (v := ?_) rfl (by kernel_rfl) (by kernel_rfl) (by kernel_rfl) (by kernel_rfl) (fun _ _ _ h => h) (Or.inl ⟨by rfl, ?_⟩) HS ?_; rotate_left 1; (focus (intro w9 hSw; (try dsimp only at hSw); go_simp; all_goals (with_reducible rfl))); (try simp only [Act.put, List.setIfInBounds_toArray, List.set_cons_zero, List.set_cons_succ]))
        (refine wpAnyE_take (i := 10) (v := ?_) rfl (by kernel_rfl) (by kernel_rfl) (by kernel_rfl) (by kernel_rfl) (fun _ _ _ h => h) (Or.inl ⟨by rfl, ?_⟩) HS ?_; rotate_left 1; (focus (intro w9 hSw; (try dsimp only at hSw); go_simp; all_goals (with_reducible rfl))); (try simp only [Act.put, List.setIfInBounds_toArray, List.set_cons_zero, List.set_cons_succ]))
        (refine wpAnyE_take (i := 11) (v := ?_) rfl (by kernel_rfl) (by kernel_rfl) (by kernel_rfl) (by kernel_rfl) (fun _ _ _ h => h) (Or.inl ⟨by rfl, ?_⟩) HS ?_; rotate_left 1; (focus (intro w9 hSw; (try dsimp only at hSw); go_simp; all_goals (with_reducible rfl))); (try simp only [Act.put, List.setIfInBounds_toArray, List.set_cons_zero, List.set_cons_succ]))
        (refine wpAnyE_take (i := 12) (v := ?_) rfl (by kernel_rfl) (by kernel_rfl) (by kernel_rfl) (by kernel_rfl) (fun _ _ _ h => h) (Or.inl ⟨by rfl, ?_⟩) HS ?_; rotate_left 1; (focus (intro w9 hSw; (try dsimp only at hSw); go_simp; all_goals (with_reducible rfl))); (try simp only [Act.put, List.setIfInBounds_toArray, List.set_cons_zero, List.set_cons_succ]))
        (refine wpAnyE_take (i := 13) (v := ?_) rfl (by kernel_rfl) (by kernel_rfl) (by kernel_rfl) (by kernel_rfl) (fun _ _ _ h => h) (Or.inl ⟨by rfl, ?_⟩) HS ?_; rotate_left 1; (focus (intro w9 hSw; (try dsimp only at hSw); go_simp; all_goals (with_reducible rfl))); (try simp only [Act.put, List.setIfInBounds_toArray, List.set_cons_zero, List.set_cons_succ]))
        (refine wpAnyE_take (i := 14) (v := ?_) rfl (by kernel_rfl) (by kernel_rfl) (by kernel_rfl) (by kernel_rfl) (fun _ _ _ h => h) (Or.inl ⟨by rfl, ?_⟩) HS ?_; rotate_left 1; (focus (intro w9 hSw; (try dsimp only at hSw); go_simp; all_goals (with_reducible rfl))); (try simp only [Act.put, List.setIfInBounds_toArray, List.set_cons_zero, List.set_cons_succ]))
        (refine wpAnyE_take (i := 15) (v := ?_) rfl (by kernel_rfl) (by kernel_rfl) (by kernel_rfl) (by kernel_rfl) (fun _ _ _ h => h) (Or.inl ⟨by rfl, ?_⟩) HS ?_; rotate_left 1; (focus (intro w9 hSw; (try dsimp only at hSw); go_simp; all_goals (with_reducible rfl))); (try simp only [Act.put, List.setIfInBounds_toArray, List.set_cons_zero, List.set_cons_succ]))
        (refine wpAnyE_take (i := 16) (v := ?_) rfl (by kernel_rfl) (by kernel_rfl) (by kernel_rfl) (by kernel_rfl) (fun _ _ _ h => h) (Or.inl ⟨by rfl, ?_⟩) HS ?_; rotate_left 1; (focus (intro w9 hSw; (try dsimp only at hSw); go_simp; all_goals (with_reducible rfl))); (try simp only [Act.put, List.setIfInBounds_toArray, List.set_cons_zero, List.set_cons_succ]))
        (refine wpAnyE_take (i := 18) (v := ?_) rfl (by kernel_rfl) (by kernel_rfl) (by kernel_rfl) (by kernel_rfl) (fun _ _ _ h => h) (Or.inl ⟨by rfl, ?_⟩) HS ?_; rotate_left 1; (focus (intro w9 hSw; (try dsimp only at hSw); go_simp; all_goals (with_reducible rfl))); (try simp only [Act.put, List.setIfInBounds_toArray, List.set_cons_zero, List.set_cons_succ]))
        (refine wpAnyE_take (i := 19) (v := ?_) rfl (by kernel_rfl) (by kernel_rfl) (by kernel_rfl) (by kernel_rfl) (fun _ _ _ h => h) (Or.inl ⟨by rfl, ?_⟩) HS ?_; rotate_left 1; (focus (intro w9 hSw; (try dsimp only at hSw); go_simp; all_goals (with_reducible rfl))); (try simp only [Act.put, List.setIfInBounds_toArray, List.set_cons_zero, List.set_cons_succ]))
        (refine wpAnyE_take (i := 20) (v := ?_) rfl (by kernel_rfl) (by kernel_rfl) (by kernel_rfl) (by kernel_rfl) (fun _ _ _ h => h) (Or.inl ⟨by rfl, ?_⟩) HS ?_; rotate_left 1; (focus (intro w9 hSw; (try dsimp only at hSw); go_simp; all_goals (with_reducible rfl))); (try simp only [Act.put, List.setIfInBounds_toArray, List.set_cons_zero, List.set_cons_succ]))
        (refine wpAnyE_take (i := 21) (v := ?_) rfl (by kernel_rfl) (by kernel_rfl) (by kernel_rfl) (by kernel_rfl) (fun _ _ _ h => h) (Or.inl ⟨by rfl, ?_⟩) HS ?_; rotate_left 1; (focus (intro w9 hSw; (try dsimp only at hSw); go_simp; all_goals (with_reducible rfl))); (try simp only [Act.put, List.setIfInBounds_toArray, List.set_cons_zero, List.set_cons_succ]))
        (refine wpAnyE_take (i := 22) (v := ?_) rfl (by kernel_rfl) (by kernel_rfl) (by kernel_rfl) (by kernel_rfl) (fun _ _ _ h => h) (Or.inl ⟨by rfl, ?_⟩) HS ?_; rotate_left 1; (focus (intro w9 hSw; (try dsimp only at hSw); go_simp; all_goals (with_reducible rfl))); (try simp only [Act.put, List.setIfInBounds_toArray, List.set_cons_zero, List.set_cons_succ]))
        refine wpAnyE_two (i := 17) (j := 25) rfl rfl (by kernel_rfl) ?_ ?_
        · go_wp2_with fail
          go_at_call 154
          refine (Q1.out x0 _ (by repeat' (first | (with_reducible exact Below.refl _ _) | (with_reducible assumption) | (with_reducible refine Later.step ?_ ?_ _) | (with_reducible refine Below.alloc ?_ ?_ _) | (with_reducible refine Below.drew ?_) | (with_reducible refine bel_drewN ?_ _) | (with_reducible refine bel_grown ?_ (by assumption) ?_ ?_) | (with_reducible refine Below.setCell ?_ ?_ _) | go_size))).mono ?_
          rintro e w' ⟨rfl, hb⟩; obtain ⟨X1, rfl, hl1, hm1⟩ := later _ hb (Nat.le_refl _); clear hb; (try simp only [World.size_alloc, World.size_setCell, World.size_drew] at hm1 hl1)
          have HS : (fun w' => w'.cell? ⟨w.heap.size, 0, none⟩ = some (.int .i64 a) ∧ w'.cell? ⟨w.heap.size, 1, none⟩ = some (.int .i64 b) ∧ w'.cell? ⟨w.heap.size, 2, none⟩ = some (.int .i64 c) ∧ w'.cell? ⟨w.heap.size, 3, none⟩ = some (.slice A1 n1 c1) ∧ w'.cell? ⟨w.heap.size, 4, none⟩ = some (.slice A2 n2 c2) ∧ w'.cell? ⟨w.heap.size, 5, none⟩ = some (.slice (some ⟨bb, o, none⟩) nx cx) ∧ w'.cell? ⟨X.w.heap.size, 0, none⟩ = some (.int .i64 x0) ∧ w'.cell? ⟨X.w.heap.size, 1, none⟩ = some (.int .i64 y) ∧ w'.cell? ⟨bb, o + k, none⟩ = some (.int .i64 x0) ∧ w'.cell? ⟨bb, o + (k + 1), none⟩ = some (.int .i64 x1)) X1.w := ⟨by first | go_simp | (rw [show o + (k + 1) = o + k + 1 by omega]; go_simp), by first | go_simp | (rw [show o + (k + 1) = o + k + 1 by omega]; go_simp), by first | go_simp | (rw [show o + (k + 1) = o + k + 1 by omega]; go_simp), by first | go_simp | (rw [show o + (k + 1) = o + k + 1 by omega]; go_simp), by first | go_simp | (rw [show o + (k + 1) = o + k + 1 by omega]; go_simp), by first | go_simp | (rw [show o + (k + 1) = o + k + 1 by omega]; go_simp), by first | go_simp | (rw [show o + (k + 1) = o + k + 1 by omega]; go_simp), by first | go_simp | (rw [show o + (k + 1) = o + k + 1 by omega]; go_simp), by first | go_simp | (rw [show o + (k + 1) = o + k + 1 by omega]; go_simp), by first | go_simp | (rw [show o + (k + 1) = o + k + 1 by omega]; go_simp)⟩
          go_wp2_with fail
          first | refine ⟨fun _ => HS, ?_⟩ | skip
          refine wpAnyE_two (i := 23) (j := 25) rfl rfl (by kernel_rfl) ?_ ?_
          · go_wp2_with fail
            go_at_call 154
            refine (Q2.out x0 _ (by repeat' (first | (with_reducible exact Below.refl _ _) | (with_reducible assumption) | (with_reducible refine Later.step ?_ ?_ _) | (with_reducible refine Below.alloc ?_ ?_ _) | (with_reducible refine Below.drew ?_) | (with_reducible refine bel_drewN ?_ _) | (with_reducible refine bel_grown ?_ (by assumption) ?_ ?_) | (with_reducible refine Below.setCell ?_ ?_ _) | go_size))).mono ?_
            rintro e w' ⟨rfl, hb⟩; obtain ⟨X2, rfl, hl2, hm2⟩ := later _ hb (Nat.le_refl _); clear hb; (try simp only [World.size_alloc, World.size_setCell, World.size_drew] at hm2 hl2)
            have HS : (fun w' => w'.cell? ⟨w.heap.size, 0, none⟩ = some (.int .i64 a) ∧ w'.cell? ⟨w.heap.size, 1, none⟩ = some (.int .i64 b) ∧ w'.cell? ⟨w.heap.size, 2, none⟩ = some (.int .i64 c) ∧ w'.cell? ⟨w.heap.size, 3, none⟩ = some (.slice A1 n1 c1) ∧ w'.cell? ⟨w.heap.size, 4, none⟩ = some (.slice A2 n2 c2) ∧ w'.cell? ⟨w.heap.size, 5, none⟩ = some (.slice (some ⟨bb, o, none⟩) nx cx) ∧ w'.cell? ⟨X.w.heap.size, 0, none⟩ = some (.int .i64 x0) ∧ w'.cell? ⟨X.w.heap.size, 1, none⟩ = some (.int .i64 y) ∧ w'.cell? ⟨bb, o + k, none⟩ = some (.int .i64 x0) ∧ w'.cell? ⟨bb, o + (k + 1), none⟩ = some (.int .i64 x1)) X2.w := ⟨by first | go_simp | (rw [show o + (k + 1) = o + k + 1 by omega]; go_simp), by first | go_simp | (rw [show o + (k + 1) = o + k + 1 by omega]; go_simp), by first | go_simp | (rw [show o + (k + 1) = o + k + 1 by omega]; go_simp), by first | go_simp | (rw [show o + (k + 1) = o + k + 1 by omega]; go_simp), by first | go_simp | (rw [show o + (k + 1) = o + k + 1 by omega]; go_simp), by first | go_simp | (rw [show o + (k + 1) = o + k + 1 by omega]; go_simp), by first | go_simp | (rw [show o + (k + 1) = o + k + 1 by omega]; go_simp), by first | go_simp | (rw [show o + (k + 1) = o + k + 1 by omega]; go_simp), by first | go_simp | (rw [show o + (k + 1) = o + k + 1 by omega]; go_simp), by first | go_simp | (rw [show o + (k + 1) = o + k + 1 by omega]; go_simp)⟩
            go_wp2_with fail
            first | refine ⟨fun _ => HS, ?_⟩ | skip
            (refine wpAnyE_take (i := 24) (v := ?_) rfl (by kernel_rfl) (by kernel_rfl) (by kernel_rfl) (by kernel_rfl) (fun _ _ _ h => h) (Or.inl ⟨by rfl, ?_⟩) HS ?_; rotate_left 1; (focus (intro w9 hSw; (try dsimp only at hSw); go_simp; all_goals (with_reducible rfl))); (try simp only [Act.put, List.setIfInBounds_toArray, List.set_cons_zero, List.set_cons_succ]))
            refine wpAnyE_one (i := 25) rfl (by kernel_rfl) ?_
            go_wp2_with fail
            have HS : (fun w' => w'.cell? ⟨w.heap.size, 0, none⟩ = some (.int .i64 a) ∧ w'.cell? ⟨w.heap.size, 1, none⟩ = some (.int .i64 b) ∧ w'.cell? ⟨w.heap.size, 2, none⟩ = some (.int .i64 c) ∧ w'.cell? ⟨w.heap.size, 3, none⟩ = some (.slice A1 n1 c1) ∧ w'.cell? ⟨w.heap.size, 4, none⟩ = some (.slice A2 n2 c2) ∧ w'.cell? ⟨w.heap.size, 5, none⟩ = some (.slice (some ⟨bb, o, none⟩) nx cx) ∧ w'.cell? ⟨X.w.heap.size, 0, none⟩ = some (.int .i64 x0) ∧ w'.cell? ⟨X.w.heap.size, 1, none⟩ = some (.int .i64 y) ∧ w'.cell? ⟨bb, o + k, none⟩ = some (.int .i64 x0) ∧ w'.cell? ⟨bb, o + (k + 1), none⟩ = some (.int .i64 x1)) (X2.w.alloc (.cells #[.int .i64 0, .int .i64 0, .int .i64 0, .int .i64 0] 238)) := ⟨by first | go_simp | (rw [show o + (k + 1) = o + k + 1 by omega]; go_simp), by first | go_simp | (rw [show o + (k + 1) = o + k + 1 by omega]; go_simp), by first | go_simp | (rw [show o + (k + 1) = o + k + 1 by omega]; go_simp), by first | go_simp | (rw [show o + (k + 1) = o + k + 1 by omega]; go_simp), by first | go_simp | (rw [show o + (k + 1) = o + k + 1 by omega]; go_simp), by first | go_simp | (rw [show o + (k + 1) = o + k + 1 by omega]; go_simp), by first | go_simp | (rw [show o + (k + 1) = o + k + 1 by omega]; go_simp), by first | go_simp | (rw [show o + (k + 1) = o + k + 1 by omega]; go_simp), by first | go_simp | (rw [show o + (k + 1) = o + k + 1 by omega]; go_simp), by first | go_simp | (rw [show o + (k + 1) = o + k + 1 by omega]; go_simp)⟩
            first | refine ⟨fun _ => HS, ?_⟩ | skip
            refine wpAnyE_rest (k := 26) rfl (by kernel_rfl) (fun j hj => by simp; omega) ?_
            simp only [List.drop_succ_cons, List.drop_zero]
            go_wp2_with fail
            go_meet
            exact ⟨_, rfl, ⟨by go_size, by go_size⟩, ⟨by go_simp, by go_simp, by go_simp, by go_simp⟩, by repeat' (first | (with_reducible exact Below.refl _ _) | (with_reducible assumption) | (with_reducible refine Later.step ?_ ?_ _) | (with_reducible refine Below.alloc ?_ ?_ _) | (with_reducible refine Below.drew ?_) | (with_reducible refine bel_drewN ?_ _) | (with_reducible refine bel_grown ?_ (by assumption) ?_ ?_) | (with_reducible refine Below.setCell ?_ ?_ _) | go_size)⟩
          · go_wp2_with fail
            have HS : (fun w' => w'.cell? ⟨w.heap.size, 0, none⟩ = some (.int .i64 a) ∧ w'.cell? ⟨w.heap.size, 1, none⟩ = some (.int .i64 b) ∧ w'.cell? ⟨w.heap.size, 2, none⟩ = some (.int .i64 c) ∧ w'.cell? ⟨w.heap.size, 3, none⟩ = some (.slice A1 n1 c1) ∧ w'.cell? ⟨w.heap.size, 4, none⟩ = some (.slice A2 n2 c2) ∧ w'.cell? ⟨w.heap.size, 5, none⟩ = some (.slice (some ⟨bb, o, none⟩) nx cx) ∧ w'.cell? ⟨X.w.heap.size, 0, none⟩ = some (.int .i64 x0) ∧ w'.cell? ⟨X.w.heap.size, 1, none⟩ = some (.int .i64 y) ∧ w'.cell? ⟨bb, o + k, none⟩ = some (.int .i64 x0) ∧ w'.cell? ⟨bb, o + (k + 1), none⟩ = some (.int .i64 x1)) (X1.w.alloc (.cells #[.int .i64 0, .int .i64 0, .int .i64 0, .int .i64 0] 238)) := ⟨by first | go_simp | (rw [show o + (k + 1) = o + k + 1 by omega]; go_simp), by first | go_simp | (rw [show o + (k + 1) = o + k + 1 by omega]; go_simp), by first | go_simp | (rw [show o + (k + 1) = o + k + 1 by omega]; go_simp), by first | go_simp | (rw [show o + (k + 1) = o + k + 1 by omega]; go_simp), by first | go_simp | (rw [show o + (k + 1) = o + k + 1 by omega]; go_simp), by first | go_simp | (rw [show o + (k + 1) = o + k + 1 by omega]; go_simp), by first | go_simp | (rw [show o + (k + 1) = o + k + 1 by omega]; go_simp), by first | go_simp | (rw [show o + (k + 1) = o + k + 1 by omega]; go_simp), by first | go_simp | (rw [show o + (k + 1) = o + k + 1 by omega]; go_simp), by first | go_simp | (rw [show o + (k + 1) = o + k + 1 by omega]; go_simp)⟩
            first | refine ⟨fun _ => HS, ?_⟩ | skip
            refine wpAnyE_one (i := 23) rfl (by kernel_rfl) ?_
            go_wp2_with fail
            go_at_call 154
            refine (Q2.out x0 _ (by repeat' (first | (with_reducible exact Below.refl _ _) | (with_reducible assumption) | (with_reducible refine Later.step ?_ ?_ _) | (with_reducible refine Below.alloc ?_ ?_ _) | (with_reducible refine Below.drew ?_) | (with_reducible refine bel_drewN ?_ _) | (with_reducible refine bel_grown ?_ (by assumption) ?_ ?_) | (with_reducible refine Below.setCell ?_ ?_ _) | go_size))).mono ?_
            rintro e w' ⟨rfl, hb⟩; obtain ⟨X2, rfl, hl2, hm2⟩ := later _ hb (Nat.le_refl _); clear hb; (try simp only [World.size_alloc, World.size_setCell, World.size_drew] at hm2 hl2)
            have HS : (fun w' => w'.cell? ⟨w.heap.size, 0, none⟩ = some (.int .i64 a) ∧ w'.cell? ⟨w.heap.size, 1, none⟩ = some (.int .i64 b) ∧ w'.cell? ⟨w.heap.size, 2, none⟩ = some (.int .i64 c) ∧ w'.cell? ⟨w.heap.size, 3, none⟩ = some (.slice A1 n1 c1) ∧ w'.cell? ⟨w.heap.size, 4, none⟩ = some (.slice A2 n2 c2) ∧ w'.cell? ⟨w.heap.size, 5, none⟩ = some (.slice (some ⟨bb, o, none⟩) nx cx) ∧ w'.cell? ⟨X.w.heap.size, 0, none⟩ = some (.int .i64 x0) ∧ w'.cell? ⟨X.w.heap.size, 1, none⟩ = some (.int .i64 y) ∧ w'.cell? ⟨bb, o + k, none⟩ = some (.int .i64 x0) ∧ w'.cell? ⟨bb, o + (k + 1), none⟩ = some (.int .i64 x1)) X2.w := ⟨by first | go_simp | (rw [show o + (k + 1) = o + k + 1 by omega]; go_simp), by first | go_simp | (rw [show o + (k + 1) = o + k + 1 by omega]; go_simp), by first | go_simp | (rw [show o + (k + 1) = o + k + 1 by omega]; go_simp), by first | go_simp | (rw [show o + (k + 1) = o + k + 1 by omega]; go_simp), by first | go_simp | (rw [show o + (k + 1) = o + k + 1 by omega]; go_simp), by first | go_simp | (rw [show o + (k + 1) = o + k + 1 by omega]; go_simp), by first | go_simp | (rw [show o + (k + 1) = o + k + 1 by omega]; go_simp), by first | go_simp | (rw [show o + (k + 1) = o + k + 1 by omega]; go_simp), by first | go_simp | (rw [show o + (k + 1) = o + k + 1 by omega]; go_simp), by first | go_simp | (rw [show o + (k + 1) = o + k + 1 by omega]; go_simp)⟩
            go_wp2_with fail
            first | refine ⟨fun _ => HS, ?_⟩ | skip
            (refine wpAnyE_take (i := 24) (v := ?_) rfl (by kernel_rfl) (by kernel_rfl) (by kernel_rfl) (by kernel_rfl) (fun _ _ _ h => h) (Or.inl ⟨by rfl, ?_⟩) HS ?_; rotate_left 1; (focus (intro w9 hSw; (try dsimp only at hSw); go_simp; all_goals (with_reducible rfl))); (try simp only [Act.put, List.setIfInBounds_toArray, List.set_cons_zero, List.set_cons_succ]))
            refine wpAnyE_rest (k := 26) rfl (by kernel_rfl) (fun j hj => by simp; omega) ?_
            simp only [List.drop_succ_cons, List.drop_zero]
            go_wp2_with fail
            go_meet
            exact ⟨_, rfl, ⟨by go_size, by go_size⟩, ⟨by go_simp, by go_simp, by go_simp, by go_simp⟩, by repeat' (first | (with_reducible exact Below.refl _ _) | (with_reducible assumption) | (with_reducible refine Later.step ?_ ?_ _) | (with_reducible refine Below.alloc ?_ ?_ _) | (with_reducible refine Below.drew ?_) | (with_reducible refine bel_drewN ?_ _) | (with_reducible refine bel_grown ?_ (by assumption) ?_ ?_) | (with_reducible refine Below.setCell ?_ ?_ _) | go_size)⟩
        · go_wp2_with fail
          have HS : (fun w' => w'.cell? ⟨w.heap.size, 0, none⟩ = some (.int .i64 a) ∧ w'.cell? ⟨w.heap.size, 1, none⟩ = some (.int .i64 b) ∧ w'.cell? ⟨w.heap.size, 2, none⟩ = some (.int .i64 c) ∧ w'.cell? ⟨w.heap.size, 3, none⟩ = some (.slice A1 n1 c1) ∧ w'.cell? ⟨w.heap.size, 4, none⟩ = some (.slice A2 n2 c2) ∧ w'.cell? ⟨w.heap.size, 5, none⟩ = some (.slice (some ⟨bb, o, none⟩) nx cx) ∧ w'.cell? ⟨X.w.heap.size, 0, none⟩ = some (.int .i64 x0) ∧ w'.cell? ⟨X.w.heap.size, 1, none⟩ = some (.int .i64 y) ∧ w'.cell? ⟨bb, o + k, none⟩ = some (.int .i64 x0) ∧ w'.cell? ⟨bb, o + (k + 1), none⟩ = some (.int .i64 x1)) ((X.w.alloc (.cells #[.int .i64 x0, .int .i64 y] 30)).drew.alloc (.cells #[.int .i64 0, .int .i64 0, .int .i64 0, .int .i64 0] 238)) := ⟨by first | go_simp | (rw [show o + (k + 1) = o + k + 1 by omega]; go_simp), by first | go_simp | (rw [show o + (k + 1) = o + k + 1 by omega]; go_simp), by first | go_simp | (rw [show o + (k + 1) = o + k + 1 by omega]; go_simp), by first | go_simp | (rw [show o + (k + 1) = o + k + 1 by omega]; go_simp), by first | go_simp | (rw [show o + (k + 1) = o + k + 1 by omega]; go_simp), by first | go_simp | (rw [show o + (k + 1) = o + k + 1 by omega]; go_simp), by first | go_simp | (rw [show o + (k + 1) = o + k + 1 by omega]; go_simp), by first | go_simp | (rw [show o + (k + 1) = o + k + 1 by omega]; go_simp), by first | go_simp | (rw [show o + (k + 1) = o + k + 1 by omega]; go_simp), by first | go_simp | (rw [show o + (k + 1) = o + k + 1 by omega]; go_simp)⟩
          first | refine ⟨fun _ => HS, ?_⟩ | skip
          refine wpAnyE_one (i := 17) rfl (by kernel_rfl) ?_
          go_wp2_with fail
          go_at_call 154
          refine (Q1.out x0 _ (by repeat' (first | (with_reducible exact Below.refl _ _) | (with_reducible assumption) | (with_reducible refine Later.step ?_ ?_ _) | (with_reducible refine Below.alloc ?_ ?_ _) | (with_reducible refine Below.drew ?_) | (with_reducible refine bel_drewN ?_ _) | (with_reducible refine bel_grown ?_ (by assumption) ?_ ?_) | (with_reducible refine Below.setCell ?_ ?_ _) | go_size))).mono ?_
          rintro e w' ⟨rfl, hb⟩; obtain ⟨X1, rfl, hl1, hm1⟩ := later _ hb (Nat.le_refl _); clear hb; (try simp only [World.size_alloc, World.size_setCell, World.size_drew] at hm1 hl1)
          have HS : (fun w' => w'.cell? ⟨w.heap.size, 0, none⟩ = some (.int .i64 a) ∧ w'.cell? ⟨w.heap.size, 1, none⟩ = some (.int .i64 b) ∧ w'.cell? ⟨w.heap.size, 2, none⟩ = some (.int .i64 c) ∧ w'.cell? ⟨w.heap.size, 3, none⟩ = some (.slice A1 n1 c1) ∧ w'.cell? ⟨w.heap.size, 4, none⟩ = some (.slice A2 n2 c2) ∧ w'.cell? ⟨w.heap.size, 5, none⟩ = some (.slice (some ⟨bb, o, none⟩) nx cx) ∧ w'.cell? ⟨X.w.heap.size, 0, none⟩ = some (.int .i64 x0) ∧ w'.cell? ⟨X.w.heap.size, 1, none⟩ = some (.int .i64 y) ∧ w'.cell? ⟨bb, o + k, none⟩ = some (.int .i64 x0) ∧ w'.cell? ⟨bb, o + (k + 1), none⟩ = some (.int .i64 x1)) X1.w := ⟨by first | go_simp | (rw [show o + (k + 1) = o + k + 1 by omega]; go_simp), by first | go_simp | (rw [show o + (k + 1) = o + k + 1 by omega]; go_simp), by first | go_simp | (rw [show o + (k + 1) = o + k + 1 by omega]; go_simp), by first | go_simp | (rw [show o + (k + 1) = o + k + 1 by omega]; go_simp), by first | go_simp | (rw [show o + (k + 1) = o + k + 1 by omega]; go_simp), by first | go_simp | (rw [show o + (k + 1) = o + k + 1 by omega]; go_simp), by first | go_simp | (rw [show o + (k + 1) = o + k + 1 by omega]; go_simp), by first | go_simp | (rw [show o + (k + 1) = o + k + 1 by omega]; go_simp), by first | go_simp | (rw [show o + (k + 1) = o + k + 1 by omega]; go_simp), by first | go_simp | (rw [show o + (k + 1) = o + k + 1 by omega]; go_simp)⟩
          go_wp2_with fail
          first | refine ⟨fun _ => HS, ?_⟩ | skip
          refine wpAnyE_one (i := 23) rfl (by kernel_rfl) ?_
          go_wp2_with fail
          go_at_call 154
          refine (Q2.out x0 _ (by repeat' (first | (with_reducible exact Below.refl _ _) | (with_reducible assumption) | (with_reducible refine Later.step ?_ ?_ _) | (with_reducible refine Below.alloc ?_ ?_ _) | (with_reducible refine Below.drew ?_) | (with_reducible refine bel_drewN ?_ _) | (with_reducible refine bel_grown ?_ (by assumption) ?_ ?_) | (with_reducible refine Below.setCell ?_ ?_ _) | go_size))).mono ?_
          rintro e w' ⟨rfl, hb⟩; obtain ⟨X2, rfl, hl2, hm2⟩ := later _ hb (Nat.le_refl _); clear hb; (try simp only [World.size_alloc, World.size_setCell, World.size_drew] at hm2 hl2)
          have HS : (fun w' => w'.cell? ⟨w.heap.size, 0, none⟩ = some (.int .i64 a) ∧ w'.cell? ⟨w.heap.size, 1, none⟩ = some (.int .i64 b) ∧ w'.cell? ⟨w.heap.size, 2, none⟩ = some (.int .i64 c) ∧ w'.cell? ⟨w.heap.size, 3, none⟩ = some (.slice A1 n1 c1) ∧ w'.cell? ⟨w.heap.size, 4, none⟩ = some (.slice A2 n2 c2) ∧ w'.cell? ⟨w.heap.size, 5, none⟩ = some (.slice (some ⟨bb, o, none⟩) nx cx) ∧ w'.cell? ⟨X.w.heap.size, 0, none⟩ = some (.int .i64 x0) ∧ w'.cell? ⟨X.w.heap.size, 1, none⟩ = some (.int .i64 y) ∧ w'.cell? ⟨bb, o + k, none⟩ = some (.int .i64 x0) ∧ w'.cell? ⟨bb, o + (k + 1), none⟩ = some (.int .i64 x1)) X2.w := ⟨by first | go_simp | (rw [show o + (k + 1) = o + k + 1 by omega]; go_simp), by first | go_simp | (rw [show o + (k + 1) = o + k + 1 by omega]; go_simp), by first | go_simp | (rw [show o + (k + 1) = o + k + 1 by omega]; go_simp), by first | go_simp | (rw [show o + (k + 1) = o + k + 1 by omega]; go_simp), by first | go_simp | (rw [show o + (k + 1) = o + k + 1 by omega]; go_simp), by first | go_simp | (rw [show o + (k + 1) = o + k + 1 by omega]; go_simp), by first | go_simp | (rw [show o + (k + 1) = o + k + 1 by omega]; go_simp), by first | go_simp | (rw [show o + (k + 1) = o + k + 1 by omega]; go_simp), by first | go_simp | (rw [show o + (k + 1) = o + k + 1 by omega]; go_simp), by first | go_simp | (rw [show o + (k + 1) = o + k + 1 by omega]; go_simp)⟩
          go_wp2_with fail
          first | refine ⟨fun _ => HS, ?_⟩ | skip
          (refine wpAnyE_take (i := 24) (v := ?_) rfl (by kernel_rfl) (by kernel_rfl) (by kernel_rfl) (by kernel_rfl) (fun _ _ _ h => h) (Or.inl ⟨by rfl, ?_⟩) HS ?_; rotate_left 1; (focus (intro w9 hSw; (try dsimp only at hSw); go_simp; all_goals (with_reducible rfl))); (try simp only [Act.put, List.setIfInBounds_toArray, List.set_cons_zero, List.set_cons_succ]))
          refine wpAnyE_rest (k := 26) rfl (by kernel_rfl) (fun j hj => by simp; omega) ?_
          simp only [List.drop_succ_cons, List.drop_zero]
          go_wp2_with fail
          go_meet
          exact ⟨_, rfl, ⟨by go_size, by go_size⟩, ⟨by go_simp, by go_simp, by go_simp, by go_simp⟩, by repeat' (first | (with_reducible exact Below.refl _ _) | (with_reducible assumption) | (with_reducible refine Later.step ?_ ?_ _) | (with_reducible refine Below.alloc ?_ ?_ _) | (with_reducible refine Below.drew ?_) | (with_reducible refine bel_drewN ?_ _) | (with_reducible refine bel_grown ?_ (by assumption) ?_ ?_) | (with_reducible refine Below.setCell ?_ ?_ _) | go_size)⟩
      case rest =>
        obtain ⟨q, rfl, ⟨hq1, hq2⟩, ⟨e0, e1, e2, e3⟩, hb⟩ := hcut
        obtain ⟨Y, rfl⟩ : ∃ Y : Later (X.w.heap.size + 1) (X.w.alloc (.cells #[.int .i64 x0, .int .i64 y] 30)), wc = Y.w := ⟨⟨wc, hb⟩, rfl⟩
        have hYs : X.w.heap.size + 1 ≤ Y.w.heap.size := by have := hb.size; simpa using this
        clear hb
        obtain ⟨zz1, hzz1⟩ : ∃ z, z1 x0 = z := ⟨_, rfl⟩
        obtain ⟨zz2, hzz2⟩ : ∃ z, z2 x0 = z := ⟨_, rfl⟩
        rw [hzz1, hzz2] at HU
        rw [hzz1] at e2
        rw [hzz2] at e3
        have r := fun (Z : World) => rise_any zz1 zz2 Z
        have hu1 := HU.out.1
        have hu2 := HU.out.2
        obtain ⟨d, hd⟩ : ∃ d, decide (zz1 < zz2) = d := ⟨_, rfl⟩
        rw [hd] at r
        have R := Lib.hid r
        clear r hzz1 hzz2
        cases d with
        | false =>
          have HUN := Lib.hid (hu1 (of_decide_eq_false hd))
          clear hu1 hu2 hd HU
          go_wp2_with (first
            | (go_at_call 25; with_reducible refine (R.out _).mono ?_; rintro e w' ⟨rfl, hb⟩; obtain ⟨X5, rfl, hl5, hm5⟩ := later _ hb (Nat.le_refl _); clear hb; (try simp only [World.size_alloc, World.size_setCell, World.size_drew] at hm5 hl5)))
          go_roundw
          case rel => exact ⟨k + 1, C, cc, m, M, ⟨⟨by omega, by omega⟩, ⟨own_keep hrel.out.1.1 (by repeat' (first | (with_reducible exact Below.refl _ _) | (with_reducible assumption) | (with_reducible refine Later.step ?_ ?_ _) | (with_reducible refine Below.alloc ?_ ?_ _) | (with_reducible refine Below.drew ?_) | (with_reducible refine bel_drewN ?_ _) | (with_reducible refine bel_grown ?_ (by assumption) ?_ ?_) | (with_reducible refine Below.setCell ?_ ?_ _) | go_size)), hrel.out.1.2⟩, hrel.out.2.1.trans HUN.out.symm, hrel.out.2.2⟩, rfl, by go_num, X.is.trans (by repeat' (first | (with_reducible exact Below.refl _ _) | (with_reducible assumption) | (with_reducible refine Later.step ?_ ?_ _) | (with_reducible refine Below.alloc ?_ ?_ _) | (with_reducible refine Below.drew ?_) | (with_reducible refine bel_drewN ?_ _) | (with_reducible refine bel_grown ?_ (by assumption) ?_ ?_) | (with_reducible refine Below.setCell ?_ ?_ _) | go_size))⟩
          case measure => simp [intOf]; omega
        | true =>
          have HUY := Lib.hid (hu2 (of_decide_eq_true hd))
          clear hu1 hu2 hd HU
          have hcase : M = [] ∨ ∃ M' s, M = M' ++ [s] := by
            rcases List.eq_nil_or_concat M with h | ⟨M', s, h⟩
            · exact .inl h
            · exact .inr ⟨M', s, by simpa using h⟩
          rcases hcase with rfl | ⟨M', s, rfl⟩
          · obtain rfl : m = 0 := by have := hrel.out.1.2; simpa using this.symm
            go_wp2_with (first
              | (go_at_call 25; with_reducible refine (R.out _).mono ?_; rintro e w' ⟨rfl, hb⟩; obtain ⟨X5, rfl, hl5, hm5⟩ := later _ hb (Nat.le_refl _); clear hb; (try simp only [World.size_alloc, World.size_setCell, World.size_drew] at hm5 hl5)))
            (refine wp_region_later (X5.w.heap.size) (by kernel_rfl) (by kernel_rfl) (by go_size) ?_; (repeat (go_big_quiet_step (fail))); refine wpQuiet_nil ?_; intro Xr hlXr hmXr)
            go_wp2_with (first
              | (at_builtin; refine wpList_append_own_at _ rfl _ _ 202 rfl (w.heap.size + 1) 238 i0 (.agg #[.int .i64 0, .int .i64 0, .int .i64 0, .int .i64 0]) 4 32 Tryz.underlying202 hi hz0 hz1 hz2 rfl (by decide) (.slice C 0 cc) _ _ (by rfl) ((own_keep hrel.out.1.1 (show Below X.w.heap.size X.w Xr.w by repeat' (first | (with_reducible exact Below.refl _ _) | (with_reducible assumption) | (with_reducible refine Later.step ?_ ?_ _) | (with_reducible refine Below.alloc ?_ ?_ _) | (with_reducible refine Below.drew ?_) | (with_reducible refine bel_drewN ?_ _) | (with_reducible refine bel_grown ?_ (by assumption) ?_ ?_) | (with_reducible refine Below.setCell ?_ ?_ _) | go_size))).alloc _) ⟨Xr.w.heap.size, 0, none⟩ 1 1 [.int .i64 x0, .int .i64 (x1 - 1), .int .i64 zz1, .int .i64 zz2] (by rfl) (by rfl) (cells_four_new _ _ _ _ _ _) (by intro u hu; simp at hu; rcases hu with rfl | rfl | rfl | rfl <;> rfl) (by unfold maxLen; omega) (by omega) (by simp; omega) ?_; intro v3 w3 hown3 hgrow3 _ _; obtain ⟨A3, k3, rfl⟩ := own_formN hown3; have hb3 : Below (w.heap.size + 1) (w.alloc (.cells #[.int .i64 a, .int .i64 b, .int .i64 c, .slice A1 n1 c1, .slice A2 n2 c2, .slice (some ⟨bb, o, none⟩) nx cx, .slice F ny cy] 199)) w3 := Below.grown (Below.alloc (X.is.trans (show Below (w.heap.size + 1) X.w Xr.w by repeat' (first | (with_reducible exact Below.refl _ _) | (with_reducible assumption) | (with_reducible refine Later.step ?_ ?_ _) | (with_reducible refine Below.alloc ?_ ?_ _) | (with_reducible refine Below.drew ?_) | (with_reducible refine bel_drewN ?_ _) | (with_reducible refine bel_grown ?_ (by assumption) ?_ ?_) | (with_reducible refine Below.setCell ?_ ?_ _) | go_size))) (by go_size) _) hgrow3 (by go_size) (fun kk hkk => (hrel.out.1.1.lt kk hkk).1); have HO3 := Lib.hid hown3; clear hown3 hgrow3))
            go_roundw
            case rel =>
              have h9 := HO3.out
              rw [← bxV_snoc _ (⟨x0, x1 - 1, zz1, zz2⟩ : Bx)] at h9
              exact ⟨k + 1, A3, k3, 0 + 1, [] ++ [⟨x0, x1 - 1, zz1, zz2⟩], ⟨⟨by omega, by omega⟩, ⟨h9, by rw [List.length_append, hrel.out.1.2]; rfl⟩, ⟨fun _ => HUY.out, fun _ => Nat.succ_pos _⟩, fun s hs => by rcases List.mem_append.1 hs with hs | hs; exact hrel.out.2.2 s hs; (obtain rfl := List.mem_singleton.1 hs; simp only; omega)⟩, rfl, by go_num, hb3⟩
            case measure => simp [intOf]; omega
          · obtain ⟨m', rfl⟩ : ∃ m', m = m' + 1 := ⟨M'.length, by have := hrel.out.1.2; simpa using this.symm⟩
            have hM' : M'.length = m' := by have := hrel.out.1.2; simpa using this
            obtain ⟨g, cap, hv, hbg, hlg⟩ := hrel.out.1.1.form (by omega)
            have hC : C = some ⟨g, 0, none⟩ := by injection hv
            subst hC
            clear hv
            obtain ⟨s0, s1, s2, s3⟩ := last4_cells hrel.out.1.1 hM'
            have f1 := hrel.out.1.1.frozenAt (m' * 4 + 1)
            have hsr := hrel.out.2.2 s (by simp)
            have HM' := Lib.hid hM'
            clear hM'
            obtain ⟨t1, ht1⟩ : ∃ t, (s.b + 1 == x0) = t := ⟨_, rfl⟩
            obtain ⟨t2, ht2⟩ : ∃ t, (s.c == zz1) = t := ⟨_, rfl⟩
            obtain ⟨t3, ht3⟩ : ∃ t, (s.d == zz2) = t := ⟨_, rfl⟩
            cases t1 with
            | false =>
              clear ht2 ht3
              go_wp2_with (first
                | (go_at_call 25; with_reducible refine (R.out _).mono ?_; rintro e w' ⟨rfl, hb⟩; obtain ⟨X5, rfl, hl5, hm5⟩ := later _ hb (Nat.le_refl _); clear hb; (try simp only [World.size_alloc, World.size_setCell, World.size_drew] at hm5 hl5)))
              (refine wp_region_later (X5.w.heap.size) (by kernel_rfl) (by kernel_rfl) (by go_size) ?_; (repeat (go_big_quiet_step (fail))); refine wpQuiet_nil ?_; intro Xr hlXr hmXr)
              go_wp2_with (first
                | (at_builtin; refine wpList_append_own_at _ rfl _ _ 202 rfl (w.heap.size + 1) 238 i0 (.agg #[.int .i64 0, .int .i64 0, .int .i64 0, .int .i64 0]) 4 32 Tryz.underlying202 hi hz0 hz1 hz2 rfl (by decide) (.slice (some ⟨g, 0, none⟩) (m' + 1) cc) _ _ (by rfl) ((own_keep hrel.out.1.1 (show Below X.w.heap.size X.w Xr.w by repeat' (first | (with_reducible exact Below.refl _ _) | (with_reducible assumption) | (with_reducible refine Later.step ?_ ?_ _) | (with_reducible refine Below.alloc ?_ ?_ _) | (with_reducible refine Below.drew ?_) | (with_reducible refine bel_drewN ?_ _) | (with_reducible refine bel_grown ?_ (by assumption) ?_ ?_) | (with_reducible refine Below.setCell ?_ ?_ _) | go_size))).alloc _) ⟨Xr.w.heap.size, 0, none⟩ 1 1 [.int .i64 x0, .int .i64 (x1 - 1), .int .i64 zz1, .int .i64 zz2] (by rfl) (by rfl) (cells_four_new _ _ _ _ _ _) (by intro u hu; simp at hu; rcases hu with rfl | rfl | rfl | rfl <;> rfl) (by unfold maxLen; omega) (by omega) (by simp; omega) ?_; intro v3 w3 hown3 hgrow3 _ _; obtain ⟨A3, k3, rfl⟩ := own_formN hown3; have hb3 : Below (w.heap.size + 1) (w.alloc (.cells #[.int .i64 a, .int .i64 b, .int .i64 c, .slice A1 n1 c1, .slice A2 n2 c2, .slice (some ⟨bb, o, none⟩) nx cx, .slice F ny cy] 199)) w3 := Below.grown (Below.alloc (X.is.trans (show Below (w.heap.size + 1) X.w Xr.w by repeat' (first | (with_reducible exact Below.refl _ _) | (with_reducible assumption) | (with_reducible refine Later.step ?_ ?_ _) | (with_reducible refine Below.alloc ?_ ?_ _) | (with_reducible refine Below.drew ?_) | (with_reducible refine bel_drewN ?_ _) | (with_reducible refine bel_grown ?_ (by assumption) ?_ ?_) | (with_reducible refine Below.setCell ?_ ?_ _) | go_size))) (by go_size) _) hgrow3 (by go_size) (fun kk hkk => (hrel.out.1.1.lt kk hkk).1); have HO3 := Lib.hid hown3; clear hown3 hgrow3))
              go_roundw
              case rel =>
                have h9 := HO3.out
                rw [← bxV_snoc _ (⟨x0, x1 - 1, zz1, zz2⟩ : Bx)] at h9
                exact ⟨k + 1, A3, k3, (m' + 1) + 1, (M' ++ [s]) ++ [⟨x0, x1 - 1, zz1, zz2⟩], ⟨⟨by omega, by omega⟩, ⟨h9, by rw [List.length_append, hrel.out.1.2]; rfl⟩, ⟨fun _ => HUY.out, fun _ => Nat.succ_pos _⟩, fun s hs => by rcases List.mem_append.1 hs with hs | hs; exact hrel.out.2.2 s hs; (obtain rfl := List.mem_singleton.1 hs; simp only; omega)⟩, rfl, by go_num, hb3⟩
              case measure => simp [intOf]; omega
            | true =>
            cases t2 with
            | false =>
              clear ht3
              go_wp2_with (first
                | (go_at_call 25; with_reducible refine (R.out _).mono ?_; rintro e w' ⟨rfl, hb⟩; obtain ⟨X5, rfl, hl5, hm5⟩ := later _ hb (Nat.le_refl _); clear hb; (try simp only [World.size_alloc, World.size_setCell, World.size_drew] at hm5 hl5)))
              (refine wp_region_later (X5.w.heap.size) (by kernel_rfl) (by kernel_rfl) (by go_size) ?_; (repeat (go_big_quiet_step (fail))); refine wpQuiet_nil ?_; intro Xr hlXr hmXr)
              go_wp2_with (first
                | (at_builtin; refine wpList_append_own_at _ rfl _ _ 202 rfl (w.heap.size + 1) 238 i0 (.agg #[.int .i64 0, .int .i64 0, .int .i64 0, .int .i64 0]) 4 32 Tryz.underlying202 hi hz0 hz1 hz2 rfl (by decide) (.slice (some ⟨g, 0, none⟩) (m' + 1) cc) _ _ (by rfl) ((own_keep hrel.out.1.1 (show Below X.w.heap.size X.w Xr.w by repeat' (first | (with_reducible exact Below.refl _ _) | (with_reducible assumption) | (with_reducible refine Later.step ?_ ?_ _) | (with_reducible refine Below.alloc ?_ ?_ _) | (with_reducible refine Below.drew ?_) | (with_reducible refine bel_drewN ?_ _) | (with_reducible refine bel_grown ?_ (by assumption) ?_ ?_) | (with_reducible refine Below.setCell ?_ ?_ _) | go_size))).alloc _) ⟨Xr.w.heap.size, 0, none⟩ 1 1 [.int .i64 x0, .int .i64 (x1 - 1), .int .i64 zz1, .int .i64 zz2] (by rfl) (by rfl) (cells_four_new _ _ _ _ _ _) (by intro u hu; simp at hu; rcases hu with rfl | rfl | rfl | rfl <;> rfl) (by unfold maxLen; omega) (by omega) (by simp; omega) ?_; intro v3 w3 hown3 hgrow3 _ _; obtain ⟨A3, k3, rfl⟩ := own_formN hown3; have hb3 : Below (w.heap.size + 1) (w.alloc (.cells #[.int .i64 a, .int .i64 b, .int .i64 c, .slice A1 n1 c1, .slice A2 n2 c2, .slice (some ⟨bb, o, none⟩) nx cx, .slice F ny cy] 199)) w3 := Below.grown (Below.alloc (X.is.trans (show Below (w.heap.size + 1) X.w Xr.w by repeat' (first | (with_reducible exact Below.refl _ _) | (with_reducible assumption) | (with_reducible refine Later.step ?_ ?_ _) | (with_reducible refine Below.alloc ?_ ?_ _) | (with_reducible refine Below.drew ?_) | (with_reducible refine bel_drewN ?_ _) | (with_reducible refine bel_grown ?_ (by assumption) ?_ ?_) | (with_reducible refine Below.setCell ?_ ?_ _) | go_size))) (by go_size) _) hgrow3 (by go_size) (fun kk hkk => (hrel.out.1.1.lt kk hkk).1); have HO3 := Lib.hid hown3; clear hown3 hgrow3))
              go_roundw
              case rel =>
                have h9 := HO3.out
                rw [← bxV_snoc _ (⟨x0, x1 - 1, zz1, zz2⟩ : Bx)] at h9
                exact ⟨k + 1, A3, k3, (m' + 1) + 1, (M' ++ [s]) ++ [⟨x0, x1 - 1, zz1, zz2⟩], ⟨⟨by omega, by omega⟩, ⟨h9, by rw [List.length_append, hrel.out.1.2]; rfl⟩, ⟨fun _ => HUY.out, fun _ => Nat.succ_pos _⟩, fun s hs => by rcases List.mem_append.1 hs with hs | hs; exact hrel.out.2.2 s hs; (obtain rfl := List.mem_singleton.1 hs; simp only; omega)⟩, rfl, by go_num, hb3⟩
              case measure => simp [intOf]; omega
            | true =>
            cases t3 with
            | false =>
              go_wp2_with (first
                | (go_at_call 25; with_reducible refine (R.out _).mono ?_; rintro e w' ⟨rfl, hb⟩; obtain ⟨X5, rfl, hl5, hm5⟩ := later _ hb (Nat.le_refl _); clear hb; (try simp only [World.size_alloc, World.size_setCell, World.size_drew] at hm5 hl5)))
              (refine wp_region_later (X5.w.heap.size) (by kernel_rfl) (by kernel_rfl) (by go_size) ?_; (repeat (go_big_quiet_step (fail))); refine wpQuiet_nil ?_; intro Xr hlXr hmXr)
              go_wp2_with (first
                | (at_builtin; refine wpList_append_own_at _ rfl _ _ 202 rfl (w.heap.size + 1) 238 i0 (.agg #[.int .i64 0, .int .i64 0, .int .i64 0, .int .i64 0]) 4 32 Tryz.underlying202 hi hz0 hz1 hz2 rfl (by decide) (.slice (some ⟨g, 0, none⟩) (m' + 1) cc) _ _ (by rfl) ((own_keep hrel.out.1.1 (show Below X.w.heap.size X.w Xr.w by repeat' (first | (with_reducible exact Below.refl _ _) | (with_reducible assumption) | (with_reducible refine Later.step ?_ ?_ _) | (with_reducible refine Below.alloc ?_ ?_ _) | (with_reducible refine Below.drew ?_) | (with_reducible refine bel_drewN ?_ _) | (with_reducible refine bel_grown ?_ (by assumption) ?_ ?_) | (with_reducible refine Below.setCell ?_ ?_ _) | go_size))).alloc _) ⟨Xr.w.heap.size, 0, none⟩ 1 1 [.int .i64 x0, .int .i64 (x1 - 1), .int .i64 zz1, .int .i64 zz2] (by rfl) (by rfl) (cells_four_new _ _ _ _ _ _) (by intro u hu; simp at hu; rcases hu with rfl | rfl | rfl | rfl <;> rfl) (by unfold maxLen; omega) (by omega) (by simp; omega) ?_; intro v3 w3 hown3 hgrow3 _ _; obtain ⟨A3, k3, rfl⟩ := own_formN hown3; have hb3 : Below (w.heap.size + 1) (w.alloc (.cells #[.int .i64 a, .int .i64 b, .int .i64 c, .slice A1 n1 c1, .slice A2 n2 c2, .slice (some ⟨bb, o, none⟩) nx cx, .slice F ny cy] 199)) w3 := Below.grown (Below.alloc (X.is.trans (show Below (w.heap.size + 1) X.w Xr.w by repeat' (first | (with_reducible exact Below.refl _ _) | (with_reducible assumption) | (with_reducible refine Later.step ?_ ?_ _) | (with_reducible refine Below.alloc ?_ ?_ _) | (with_reducible refine Below.drew ?_) | (with_reducible refine bel_drewN ?_ _) | (with_reducible refine bel_grown ?_ (by assumption) ?_ ?_) | (with_reducible refine Below.setCell ?_ ?_ _) | go_size))) (by go_size) _) hgrow3 (by go_size) (fun kk hkk => (hrel.out.1.1.lt kk hkk).1); have HO3 := Lib.hid hown3; clear hown3 hgrow3))
              go_roundw
              case rel =>
                have h9 := HO3.out
                rw [← bxV_snoc _ (⟨x0, x1 - 1, zz1, zz2⟩ : Bx)] at h9
                exact ⟨k + 1, A3, k3, (m' + 1) + 1, (M' ++ [s]) ++ [⟨x0, x1 - 1, zz1, zz2⟩], ⟨⟨by omega, by omega⟩, ⟨h9, by rw [List.length_append, hrel.out.1.2]; rfl⟩, ⟨fun _ => HUY.out, fun _ => Nat.succ_pos _⟩, fun s hs => by rcases List.mem_append.1 hs with hs | hs; exact hrel.out.2.2 s hs; (obtain rfl := List.mem_singleton.1 hs; simp only; omega)⟩, rfl, by go_num, hb3⟩
              case measure => simp [intOf]; omega
            | true =>
              go_wp2_with (first
                | (go_at_call 25; with_reducible refine (R.out _).mono ?_; rintro e w' ⟨rfl, hb⟩; obtain ⟨X5, rfl, hl5, hm5⟩ := later _ hb (Nat.le_refl _); clear hb; (try simp only [World.size_alloc, World.size_setCell, World.size_drew] at hm5 hl5)))
              (refine wp_region_later (X5.w.heap.size) (by kernel_rfl) (by kernel_rfl) (by go_size) ?_; (repeat (go_big_quiet_step (fail))); refine wpQuiet_nil ?_; intro Xr hlXr hmXr)
              have hbs : Below X.w.heap.size X.w Xr.w := by repeat' (first | (with_reducible exact Below.refl _ _) | (with_reducible assumption) | (with_reducible refine Later.step ?_ ?_ _) | (with_reducible refine Below.alloc ?_ ?_ _) | (with_reducible refine Below.drew ?_) | (with_reducible refine bel_drewN ?_ _) | (with_reducible refine bel_grown ?_ (by assumption) ?_ ?_) | (with_reducible refine Below.setCell ?_ ?_ _) | go_size)
              have hss := hbs.size
              have HOS := Lib.hid (last4_set (own_keep hrel.out.1.1 hbs) HM'.out (x1 - 1))
              have hbX9 : Below (w.heap.size + 1) X.w Xr.w := by repeat' (first | (with_reducible exact Below.refl _ _) | (with_reducible assumption) | (with_reducible refine Later.step ?_ ?_ _) | (with_reducible refine Below.alloc ?_ ?_ _) | (with_reducible refine Below.drew ?_) | (with_reducible refine bel_drewN ?_ _) | (with_reducible refine bel_grown ?_ (by assumption) ?_ ?_) | (with_reducible refine Below.setCell ?_ ?_ _) | go_size)
              go_wp2_with fail
              go_roundw
              case rel => exact ⟨k + 1, _, cc, m' + 1, M' ++ [⟨s.a, x1 - 1, s.c, s.d⟩], ⟨⟨by omega, by omega⟩, ⟨HOS.out, by rw [List.length_append, HM'.out]; rfl⟩, ⟨fun _ => HUY.out, fun _ => Nat.succ_pos _⟩, fun s' hs => by rcases List.mem_append.1 hs with hs | hs; exact hrel.out.2.2 s' (List.mem_append_left _ hs); (obtain rfl := List.mem_singleton.1 hs; simp only; omega)⟩, rfl, by go_num, (X.is.trans hbX9).setCell hbg _⟩
              case measure => simp [intOf]; omega
    · have hkn : k = nx - 1 := by omega
      have HB := Lib.hid (bxs_own hrel.out.1.1 hrel.out.1.2)
      have HE := Lib.hid (HF.out C cc m M X.w hrel.out.1.2 (by omega) HB.out (by rw [HXN.out, ← hkn]; exact hrel.out.2.1) hbX)
      clear hkn
      go_wp2_with fail
      exact HE.out
end Go.Proofs.YthlijfligikciaaGreat
