/- Several texts of one proof, joined: whose's callback: walked. No condition beyond what the memory holds. | review.everyone with whose's callback, whose, Rises: walked. No condition beyond what the rows read as and how many boxes there are. | review.Rises: walked: who is not told has no zoom that goes up. No condition beyond what the rows read as and how many boxes there are. -/
import Derived.Test.YthlijfligikciaaGreatZ17
/- whose's callback: walked. No condition beyond what the memory holds. -/
namespace Go.Proofs.YthlijfligikciaaGreat
open Go.RowKit Go.Maps
set_option linter.unusedSimpArgs false
set_option linter.unusedVariables false
set_option maxRecDepth 2000

/-- What the callback leaves: someone more was looked at. -/
def WhoPost (s k m : Nat) (O : List Sp) (A1 A2 : Option Addr) (c1 c2 : Nat) (L1 L2 : List Rl) (r t l : Int) (w : World) (e : Ending) (w' : World) : Prop :=
  ∃ C' cc' m' O' S' k', ∃ b : Bool, (e = .returned (.bool b) ∧ (b = true ↔ m' < 512)) ∧ (Wh w' s k' m' cc' C' O' S' A1 A2 c1 c2 L1 L2 ∧ WhInv S' L1 L2) ∧ Below s w w' ∧ (∀ x ∈ O, x ∈ O') ∧ ((⟨r, t, l⟩ : Sp) ∈ O' ∨ riseNo L1 L2 r t l) ∧ m' ≤ m + 1 ∧ k' ≤ k + 2
set_option maxHeartbeats 16000000 in
theorem whose1_any (r t l : Int) (s k m cc c1 c2 : Nat) (C A1 A2 : Option Addr) (O : List Sp) (S : Nat → Nat → Option Int) (L1 L2 : List Rl) (P1 P2 : Nat → Option Addr × Nat) (w : World) (h : Wh w s k m cc C O S A1 A2 c1 c2 L1 L2) (hI : WhInv S L1 L2) (hk : k ≤ 1000000) (hm : m ≤ 1000000) (h1 : Rls w s A1 L1 P1) (h2 : Rls w s A2 L2 P2) (hm1 : L1.length ≤ 32) (hm2 : L2.length ≤ 32) (hc1 : cntB L1 ≤ 1048576) (hc2 : cntB L2 ≤ 1048576) :
    Calls Tryz.prog 65 #[key3 r t l, .pointer (some ⟨s, 0, none⟩), .pointer (some ⟨s + 1, 0, none⟩), .pointer (some ⟨s + 6, 0, none⟩), .pointer (some ⟨s + 3, 0, none⟩), .pointer (some ⟨s + 4, 0, none⟩), .pointer (some ⟨s + 2, 0, none⟩)] w (WhoPost s k m O A1 A2 c1 c2 L1 L2 r t l w) := by
  obtain ⟨i0, hi, hz0, hz1, hz2⟩ := info_parts (show (Tryz.prog.info? 46).map (fun i => (i.zero, i.size, i.bytes)) = some (some (.agg #[.int .i64 0, .int .i64 0, .int .i64 0]), 3, 24) by kernel_rfl)
  have hbx : ∀ L : List Rl, cntB L ≤ 1048576 → ∀ i, i < L.length → (L.getD i rl0).boxes.length ≤ 1048576 := fun L hc i hi => by
    rw [getR_lt hi]
    exact Nat.le_trans (cnt_mem (List.getElem_mem hi)) hc
  have hsz := h.sz
  have q1 := fun (Y : World) (hY : Below w.heap.size w Y) => whoMask_any r t l L1.length c1 A1 L1 P1 Y (((h1.keep (hY.mono (by omega))).more (by have := hY.size; omega))) rfl hm1 (hbx L1 hc1)
  have q2 := fun (Y : World) (hY : Below w.heap.size w Y) => whoMask_any r t l L2.length c2 A2 L2 P2 Y (((h2.keep (hY.mono (by omega))).more (by have := hY.size; omega))) rfl hm2 (hbx L2 hc2)
  have PS := Lib.hid (fun (Y : World) (hY : Below s w Y) (hs : s ≤ Y.heap.size) => some_any r t l L1.length L2.length c1 c2 A1 A2 L1 L2 P1 P2 Y ((h1.keep hY).more hs) ((h2.keep hY).more hs) rfl rfl hm1 hm2 hc1 hc2)
  have hu := maskN_lt L1 r t l L1.length
  have hv := maskN_lt L2 r t l L2.length
  have hu2 : 2 ^ L1.length ≤ 2 ^ 32 := Nat.pow_le_pow_right (by decide) hm1
  have hv2 : 2 ^ L2.length ≤ 2 ^ 32 := Nat.pow_le_pow_right (by decide) hm2
  have h32 : (2 : Nat) ^ 32 = 4294967296 := by decide
  have HSame := Lib.hid (show ∀ r' t' l', riseNo L1 L2 r t l → maskN L1 r' t' l' L1.length = maskN L1 r t l L1.length → maskN L2 r' t' l' L2.length = maskN L2 r t l L2.length → riseNo L1 L2 r' t' l' from fun r' t' l' h0 e1 e2 => riseNo_same h0 e1.symm e2.symm)
  obtain ⟨u, hue⟩ : ∃ u, maskN L1 r t l L1.length = u := ⟨_, rfl⟩
  obtain ⟨v, hve⟩ : ∃ v, maskN L2 r t l L2.length = v := ⟨_, rfl⟩
  rw [hue] at q1 hu HSame
  rw [hve] at q2 hv HSame
  have HME := Lib.hid (And.intro hue hve)
  have hu9 : u < 18446744073709551616 := by omega
  have hv9 : v < 18446744073709551616 := by omega
  have Q1 := Lib.hid q1
  have Q2 := Lib.hid q2
  have HW := Lib.hid h
  have HI := Lib.hid hI
  have g0 := h.g0
  have g1 := h.g1
  have g2 := h.g2
  have g3 := h.g3
  have g4 := h.g4
  have g6 := h.g6
  have HF := Lib.hid (show ∀ C' cc' m' O' S' k' w', Wh w' s k' m' cc' C' O' S' A1 A2 c1 c2 L1 L2 → WhInv S' L1 L2 → Below s w w' → (∀ x ∈ O, x ∈ O') → ((⟨r, t, l⟩ : Sp) ∈ O' ∨ riseNo L1 L2 r t l) → m' ≤ m + 1 ∧ k' ≤ k + 2 → ∀ b : Bool, (b = true ↔ m' < 512) → WhoPost s k m O A1 A2 c1 c2 L1 L2 r t l w (.returned (.bool b)) w' from fun C' cc' m' O' S' k' w' e1 e0 e2 e3 e4 e5 b hb => ⟨C', cc', m', O', S', k', b, ⟨rfl, hb⟩, ⟨e1, e0⟩, e2, e3, e4, e5⟩)
  obtain ⟨n1, hn1⟩ : ∃ n, L1.length = n := ⟨_, rfl⟩
  obtain ⟨n2, hn2⟩ : ∃ n, L2.length = n := ⟨_, rfl⟩
  rw [hn1] at g0 Q1 PS
  rw [hn2] at g1 Q2 PS
  have HN := Lib.hid (And.intro hn1 hn2)
  generalize WhoPost s k m O A1 A2 c1 c2 L1 L2 r t l w = Post at HF ⊢
  unfold key3 at Q1 Q2 PS ⊢
  clear h hI h1 h2 hc1 hc2 hm1 hm2 hbx q1 q2 hu hv hu2 hv2 h32 hue hve hn1 hn2
  go_enter Tryz.func65, Tryz.ntmps65
  go_upto_region 1 with fail
  go_cut [9] from 10 to 16 (fun x wx => ∃ q : Nat, x = .pointer (some ⟨q, 0, none⟩) ∧ (w.heap.size + 1 ≤ q ∧ q < wx.heap.size) ∧ (wx.cell? ⟨q, 0, none⟩ = some (.int .u64 (u : Nat)) ∧ wx.cell? ⟨q, 1, none⟩ = some (.int .u64 (v : Nat))) ∧ Below (w.heap.size + 1) (w.alloc (.cells #[.int .i64 r, .int .i64 t, .int .i64 l] 46)) wx)
  case first =>
    have HS : (fun w' => w'.cell? ⟨w.heap.size, 0, none⟩ = some (.int .i64 r) ∧ w'.cell? ⟨w.heap.size, 1, none⟩ = some (.int .i64 t) ∧ w'.cell? ⟨w.heap.size, 2, none⟩ = some (.int .i64 l) ∧ w'.cell? ⟨s, 0, none⟩ = some (.slice A1 n1 c1) ∧ w'.cell? ⟨s + 1, 0, none⟩ = some (.slice A2 n2 c2)) (w.alloc (.cells #[.int .i64 r, .int .i64 t, .int .i64 l] 46)).drew := ⟨by go_simp, by go_simp, by go_simp, by go_simp, by go_simp⟩
    refine wp_region_early (fun w' => w'.cell? ⟨w.heap.size, 0, none⟩ = some (.int .i64 r) ∧ w'.cell? ⟨w.heap.size, 1, none⟩ = some (.int .i64 t) ∧ w'.cell? ⟨w.heap.size, 2, none⟩ = some (.int .i64 l) ∧ w'.cell? ⟨s, 0, none⟩ = some (.slice A1 n1 c1) ∧ w'.cell? ⟨s + 1, 0, none⟩ = some (.slice A2 n2 c2)) (fun j => decide (j < 8)) (by kernel_rfl) HS (fun HS => ?_)
    (refine wpAnyE_take (i := 0) (v := ?_) rfl (by kernel_rfl) (by kernel_rfl) (by kernel_rfl) (by kernel_rfl) (fun _ _ _ h => h) (Or.inl ⟨by rfl, ?_⟩) HS ?_; rotate_left 1; (focus (intro w9 hSw; (try dsimp only at hSw); go_simp; all_goals (with_reducible rfl))); (try simp only [Act.put, List.setIfInBounds_toArray, List.set_cons_zero, List.set_cons_succ]))
    (refine wpAnyE_take (i := 1) (v := ?_) rfl (by kernel_rfl) (by kernel_rfl) (by kernel_rfl) (by kernel_rfl) (fun _ _ _ h => h) (Or.inl ⟨by rfl, ?_⟩) HS ?_; rotate_left 1; (focus (intro w9 hSw; (try dsimp only at hSw); go_simp; all_goals (with_reducible rfl))); (try simp only [Act.put, List.setIfInBounds_toArray, List.set_cons_zero, List.set_cons_succ]))
    (refine wpAnyE_take (i := 3) (v := ?_) rfl (by kernel_rfl) (by kernel_rfl) (by kernel_rfl) (by kernel_rfl) (fun _ _ _ h => h) (Or.inl ⟨by rfl, ?_⟩) HS ?_; rotate_left 1; (focus (intro w9 hSw; (try dsimp only at hSw); go_simp; all_goals (with_reducible rfl))); (try simp only [Act.put, List.setIfInBounds_toArray, List.set_cons_zero, List.set_cons_succ]))
    (refine wpAnyE_take (i := 4) (v := ?_) rfl (by kernel_rfl) (by kernel_rfl) (by kernel_rfl) (by kernel_rfl) (fun _ _ _ h => h) (Or.inl ⟨by rfl, ?_⟩) HS ?_; rotate_left 1; (focus (intro w9 hSw; (try dsimp only at hSw); go_simp; all_goals (with_reducible rfl))); (try simp only [Act.put, List.setIfInBounds_toArray, List.set_cons_zero, List.set_cons_succ]))
    refine wpAnyE_two (i := 2) (j := 7) rfl rfl (by kernel_rfl) ?_ ?_
    · go_wp2_with fail
      go_at_call 66
      refine (Q1.out _ (by repeat' (first | (with_reducible exact Below.refl _ _) | (with_reducible assumption) | (with_reducible refine Later.step ?_ ?_ _) | (with_reducible refine Below.alloc ?_ ?_ _) | (with_reducible refine Below.drew ?_) | (with_reducible refine bel_drewN ?_ _) | (with_reducible refine bel_grown ?_ (by assumption) ?_ ?_) | (with_reducible refine Below.setCell ?_ ?_ _) | go_size))).mono ?_
      rintro e w' ⟨rfl, hb⟩; obtain ⟨X1, rfl, hl1, hm1⟩ := later _ hb (Nat.le_refl _); clear hb; (try simp only [World.size_alloc, World.size_setCell, World.size_drew] at hm1 hl1)
      have HS : (fun w' => w'.cell? ⟨w.heap.size, 0, none⟩ = some (.int .i64 r) ∧ w'.cell? ⟨w.heap.size, 1, none⟩ = some (.int .i64 t) ∧ w'.cell? ⟨w.heap.size, 2, none⟩ = some (.int .i64 l) ∧ w'.cell? ⟨s, 0, none⟩ = some (.slice A1 n1 c1) ∧ w'.cell? ⟨s + 1, 0, none⟩ = some (.slice A2 n2 c2)) X1.w := ⟨by go_simp, by go_simp, by go_simp, by go_simp, by go_simp⟩
      go_wp2_with fail
      first | refine ⟨fun _ => HS, ?_⟩ | skip
      refine wpAnyE_two (i := 5) (j := 7) rfl rfl (by kernel_rfl) ?_ ?_
      · go_wp2_with fail
        go_at_call 66
        refine (Q2.out _ (by repeat' (first | (with_reducible exact Below.refl _ _) | (with_reducible assumption) | (with_reducible refine Later.step ?_ ?_ _) | (with_reducible refine Below.alloc ?_ ?_ _) | (with_reducible refine Below.drew ?_) | (with_reducible refine bel_drewN ?_ _) | (with_reducible refine bel_grown ?_ (by assumption) ?_ ?_) | (with_reducible refine Below.setCell ?_ ?_ _) | go_size))).mono ?_
        rintro e w' ⟨rfl, hb⟩; obtain ⟨X2, rfl, hl2, hm2⟩ := later _ hb (Nat.le_refl _); clear hb; (try simp only [World.size_alloc, World.size_setCell, World.size_drew] at hm2 hl2)
        have HS : (fun w' => w'.cell? ⟨w.heap.size, 0, none⟩ = some (.int .i64 r) ∧ w'.cell? ⟨w.heap.size, 1, none⟩ = some (.int .i64 t) ∧ w'.cell? ⟨w.heap.size, 2, none⟩ = some (.int .i64 l) ∧ w'.cell? ⟨s, 0, none⟩ = some (.slice A1 n1 c1) ∧ w'.cell? ⟨s + 1, 0, none⟩ = some (.slice A2 n2 c2)) X2.w := ⟨by go_simp, by go_simp, by go_simp, by go_simp, by go_simp⟩
        go_wp2_with fail
        first | refine ⟨fun _ => HS, ?_⟩ | skip
        (refine wpAnyE_take (i := 6) (v := ?_) rfl (by kernel_rfl) (by kernel_rfl) (by kernel_rfl) (by kernel_rfl) (fun _ _ _ h => h) (Or.inl ⟨by rfl, ?_⟩) HS ?_; rotate_left 1; (focus (intro w9 hSw; (try dsimp only at hSw); go_simp; all_goals (with_reducible rfl))); (try simp only [Act.put, List.setIfInBounds_toArray, List.set_cons_zero, List.set_cons_succ]))
        refine wpAnyE_one (i := 7) rfl (by kernel_rfl) ?_
        go_wp2_with fail
        have HS : (fun w' => w'.cell? ⟨w.heap.size, 0, none⟩ = some (.int .i64 r) ∧ w'.cell? ⟨w.heap.size, 1, none⟩ = some (.int .i64 t) ∧ w'.cell? ⟨w.heap.size, 2, none⟩ = some (.int .i64 l) ∧ w'.cell? ⟨s, 0, none⟩ = some (.slice A1 n1 c1) ∧ w'.cell? ⟨s + 1, 0, none⟩ = some (.slice A2 n2 c2)) (X2.w.alloc (.cells #[.int .u64 0, .int .u64 0] 136)) := ⟨by go_simp, by go_simp, by go_simp, by go_simp, by go_simp⟩
        first | refine ⟨fun _ => HS, ?_⟩ | skip
        refine wpAnyE_rest (k := 8) rfl (by kernel_rfl) (fun j hj => by simp; omega) ?_
        simp only [List.drop_succ_cons, List.drop_zero]
        go_wp2_with fail
        go_meet
        exact ⟨_, rfl, ⟨by go_size, by go_size⟩, ⟨by go_simp, by go_simp⟩, by repeat' (first | (with_reducible exact Below.refl _ _) | (with_reducible assumption) | (with_reducible refine Later.step ?_ ?_ _) | (with_reducible refine Below.alloc ?_ ?_ _) | (with_reducible refine Below.drew ?_) | (with_reducible refine bel_drewN ?_ _) | (with_reducible refine bel_grown ?_ (by assumption) ?_ ?_) | (with_reducible refine Below.setCell ?_ ?_ _) | go_size)⟩
      · go_wp2_with fail
        have HS : (fun w' => w'.cell? ⟨w.heap.size, 0, none⟩ = some (.int .i64 r) ∧ w'.cell? ⟨w.heap.size, 1, none⟩ = some (.int .i64 t) ∧ w'.cell? ⟨w.heap.size, 2, none⟩ = some (.int .i64 l) ∧ w'.cell? ⟨s, 0, none⟩ = some (.slice A1 n1 c1) ∧ w'.cell? ⟨s + 1, 0, none⟩ = some (.slice A2 n2 c2)) (X1.w.alloc (.cells #[.int .u64 0, .int .u64 0] 136)) := ⟨by go_simp, by go_simp, by go_simp, by go_simp, by go_simp⟩
        first | refine ⟨fun _ => HS, ?_⟩ | skip
        refine wpAnyE_one (i := 5) rfl (by kernel_rfl) ?_
        go_wp2_with fail
        go_at_call 66
        refine (Q2.out _ (by repeat' (first | (with_reducible exact Below.refl _ _) | (with_reducible assumption) | (with_reducible refine Later.step ?_ ?_ _) | (with_reducible refine Below.alloc ?_ ?_ _) | (with_reducible refine Below.drew ?_) | (with_reducible refine bel_drewN ?_ _) | (with_reducible refine bel_grown ?_ (by assumption) ?_ ?_) | (with_reducible refine Below.setCell ?_ ?_ _) | go_size))).mono ?_
        rintro e w' ⟨rfl, hb⟩; obtain ⟨X2, rfl, hl2, hm2⟩ := later _ hb (Nat.le_refl _); clear hb; (try simp only [World.size_alloc, World.size_setCell, World.size_drew] at hm2 hl2)
        have HS : (fun w' => w'.cell? ⟨w.heap.size, 0, none⟩ = some (.int .i64 r) ∧ w'.cell? ⟨w.heap.size, 1, none⟩ = some (.int .i64 t) ∧ w'.cell? ⟨w.heap.size, 2, none⟩ = some (.int .i64 l) ∧ w'.cell? ⟨s, 0, none⟩ = some (.slice A1 n1 c1) ∧ w'.cell? ⟨s + 1, 0, none⟩ = some (.slice A2 n2 c2)) X2.w := ⟨by go_simp, by go_simp, by go_simp, by go_simp, by go_simp⟩
        go_wp2_with fail
        first | refine ⟨fun _ => HS, ?_⟩ | skip
        (refine wpAnyE_take (i := 6) (v := ?_) rfl (by kernel_rfl) (by kernel_rfl) (by kernel_rfl) (by kernel_rfl) (fun _ _ _ h => h) (Or.inl ⟨by rfl, ?_⟩) HS ?_; rotate_left 1; (focus (intro w9 hSw; (try dsimp only at hSw); go_simp; all_goals (with_reducible rfl))); (try simp only [Act.put, List.setIfInBounds_toArray, List.set_cons_zero, List.set_cons_succ]))
        refine wpAnyE_rest (k := 8) rfl (by kernel_rfl) (fun j hj => by simp; omega) ?_
        simp only [List.drop_succ_cons, List.drop_zero]
        go_wp2_with fail
        go_meet
        exact ⟨_, rfl, ⟨by go_size, by go_size⟩, ⟨by go_simp, by go_simp⟩, by repeat' (first | (with_reducible exact Below.refl _ _) | (with_reducible assumption) | (with_reducible refine Later.step ?_ ?_ _) | (with_reducible refine Below.alloc ?_ ?_ _) | (with_reducible refine Below.drew ?_) | (with_reducible refine bel_drewN ?_ _) | (with_reducible refine bel_grown ?_ (by assumption) ?_ ?_) | (with_reducible refine Below.setCell ?_ ?_ _) | go_size)⟩
    · go_wp2_with fail
      have HS : (fun w' => w'.cell? ⟨w.heap.size, 0, none⟩ = some (.int .i64 r) ∧ w'.cell? ⟨w.heap.size, 1, none⟩ = some (.int .i64 t) ∧ w'.cell? ⟨w.heap.size, 2, none⟩ = some (.int .i64 l) ∧ w'.cell? ⟨s, 0, none⟩ = some (.slice A1 n1 c1) ∧ w'.cell? ⟨s + 1, 0, none⟩ = some (.slice A2 n2 c2)) ((w.alloc (.cells #[.int .i64 r, .int .i64 t, .int .i64 l] 46)).drew.alloc (.cells #[.int .u64 0, .int .u64 0] 136)) := ⟨by go_simp, by go_simp, by go_simp, by go_simp, by go_simp⟩
      first | refine ⟨fun _ => HS, ?_⟩ | skip
      refine wpAnyE_one (i := 2) rfl (by kernel_rfl) ?_
      go_wp2_with fail
      go_at_call 66
      refine (Q1.out _ (by repeat' (first | (with_reducible exact Below.refl _ _) | (with_reducible assumption) | (with_reducible refine Later.step ?_ ?_ _) | (with_reducible refine Below.alloc ?_ ?_ _) | (with_reducible refine Below.drew ?_) | (with_reducible refine bel_drewN ?_ _) | (with_reducible refine bel_grown ?_ (by assumption) ?_ ?_) | (with_reducible refine Below.setCell ?_ ?_ _) | go_size))).mono ?_
      rintro e w' ⟨rfl, hb⟩; obtain ⟨X1, rfl, hl1, hm1⟩ := later _ hb (Nat.le_refl _); clear hb; (try simp only [World.size_alloc, World.size_setCell, World.size_drew] at hm1 hl1)
      have HS : (fun w' => w'.cell? ⟨w.heap.size, 0, none⟩ = some (.int .i64 r) ∧ w'.cell? ⟨w.heap.size, 1, none⟩ = some (.int .i64 t) ∧ w'.cell? ⟨w.heap.size, 2, none⟩ = some (.int .i64 l) ∧ w'.cell? ⟨s, 0, none⟩ = some (.slice A1 n1 c1) ∧ w'.cell? ⟨s + 1, 0, none⟩ = some (.slice A2 n2 c2)) X1.w := ⟨by go_simp, by go_simp, by go_simp, by go_simp, by go_simp⟩
      go_wp2_with fail
      first | refine ⟨fun _ => HS, ?_⟩ | skip
      refine wpAnyE_one (i := 5) rfl (by kernel_rfl) ?_
      go_wp2_with fail
      go_at_call 66
      refine (Q2.out _ (by repeat' (first | (with_reducible exact Below.refl _ _) | (with_reducible assumption) | (with_reducible refine Later.step ?_ ?_ _) | (with_reducible refine Below.alloc ?_ ?_ _) | (with_reducible refine Below.drew ?_) | (with_reducible refine bel_drewN ?_ _) | (with_reducible refine bel_grown ?_ (by assumption) ?_ ?_) | (with_reducible refine Below.setCell ?_ ?_ _) | go_size))).mono ?_
      rintro e w' ⟨rfl, hb⟩; obtain ⟨X2, rfl, hl2, hm2⟩ := later _ hb (Nat.le_refl _); clear hb; (try simp only [World.size_alloc, World.size_setCell, World.size_drew] at hm2 hl2)
      have HS : (fun w' => w'.cell? ⟨w.heap.size, 0, none⟩ = some (.int .i64 r) ∧ w'.cell? ⟨w.heap.size, 1, none⟩ = some (.int .i64 t) ∧ w'.cell? ⟨w.heap.size, 2, none⟩ = some (.int .i64 l) ∧ w'.cell? ⟨s, 0, none⟩ = some (.slice A1 n1 c1) ∧ w'.cell? ⟨s + 1, 0, none⟩ = some (.slice A2 n2 c2)) X2.w := ⟨by go_simp, by go_simp, by go_simp, by go_simp, by go_simp⟩
      go_wp2_with fail
      first | refine ⟨fun _ => HS, ?_⟩ | skip
      (refine wpAnyE_take (i := 6) (v := ?_) rfl (by kernel_rfl) (by kernel_rfl) (by kernel_rfl) (by kernel_rfl) (fun _ _ _ h => h) (Or.inl ⟨by rfl, ?_⟩) HS ?_; rotate_left 1; (focus (intro w9 hSw; (try dsimp only at hSw); go_simp; all_goals (with_reducible rfl))); (try simp only [Act.put, List.setIfInBounds_toArray, List.set_cons_zero, List.set_cons_succ]))
      refine wpAnyE_rest (k := 8) rfl (by kernel_rfl) (fun j hj => by simp; omega) ?_
      simp only [List.drop_succ_cons, List.drop_zero]
      go_wp2_with fail
      go_meet
      exact ⟨_, rfl, ⟨by go_size, by go_size⟩, ⟨by go_simp, by go_simp⟩, by repeat' (first | (with_reducible exact Below.refl _ _) | (with_reducible assumption) | (with_reducible refine Later.step ?_ ?_ _) | (with_reducible refine Below.alloc ?_ ?_ _) | (with_reducible refine Below.drew ?_) | (with_reducible refine bel_drewN ?_ _) | (with_reducible refine bel_grown ?_ (by assumption) ?_ ?_) | (with_reducible refine Below.setCell ?_ ?_ _) | go_size)⟩
  case rest =>
    obtain ⟨q, rfl, ⟨hq1, hq2⟩, ⟨a0, a1⟩, hb⟩ := hcut
    obtain ⟨Y, rfl⟩ : ∃ Y : Later (w.heap.size + 1) (w.alloc (.cells #[.int .i64 r, .int .i64 t, .int .i64 l] 46)), wc = Y.w := ⟨⟨wc, hb⟩, rfl⟩
    have hbY : Below w.heap.size w Y.w := ((Below.refl w.heap.size w).alloc (Nat.le_refl _) _).trans (hb.mono (Nat.le_succ _))
    have hYs : w.heap.size + 1 ≤ Y.w.heap.size := by have := hb.size; simpa using this
    have HWY := Lib.hid (HW.out.keep hbY)
    have hbs : Below s w Y.w := hbY.mono (by omega)
    have hlk := HWY.out.map.look hu9 hv9
    unfold key2 at hlk
    have w0 : Y.w.cell? ⟨w.heap.size, 0, none⟩ = some (.int .i64 r) := by go_simp
    have w1 : Y.w.cell? ⟨w.heap.size, 1, none⟩ = some (.int .i64 t) := by go_simp
    have w2 : Y.w.cell? ⟨w.heap.size, 2, none⟩ = some (.int .i64 l) := by go_simp
    have y0 := HWY.out.g0
    have y1 := HWY.out.g1
    have y2 := HWY.out.g2
    have y3 := HWY.out.g3
    have y4 := HWY.out.g4
    have y6 := HWY.out.g6
    rw [HN.out.1] at y0
    rw [HN.out.2] at y1
    have HBS := Lib.hid hbs
    clear hb hbs g0 g1 g2 g3 g4 g6 hbY
    cases hS : S u v with
    | some z =>
      have hinv := HI.out u v z hS
      rw [hS] at hlk
      simp only [Option.getD_some] at hlk
      rcases hinv with ⟨rfl, hno⟩ | rfl
      · have HE := Lib.hid (HF.out C cc m O S k Y.w HWY.out HI.out HBS.out (fun x hx => hx) (.inr (hno r t l HME.out.1 HME.out.2)) ⟨by omega, by omega⟩)
        clear hno hS
        go_wp2_with fail
        exact HE.out _ (by simp; try omega)
      · clear hS
        have b4 := HWY.out.g4
        have b6 := HWY.out.z4
        have b2 := HWY.out.g2
        go_wp2_with (at_builtin; refine wpList_append_own_at _ rfl _ _ 41 rfl (s + 7) 46 i0 (.agg #[.int .i64 0, .int .i64 0, .int .i64 0]) 3 24 Tryz.underlying41 hi hz0 hz1 hz2 rfl (by decide) (.slice C m cc) m _ (by rfl) (HWY.out.own.alloc _) ⟨Y.w.heap.size, 0, none⟩ 1 1 [.int .i64 r, .int .i64 t, .int .i64 l] (by rfl) (by rfl) (cells_three_new _ _ _ _ _) (by intro u hu; simp at hu; rcases hu with rfl | rfl | rfl <;> rfl) (by unfold maxLen; omega) (by omega) (by have := HWY.out.sz; simp; omega) ?_)
        intro v7 w7 hown7 hgrow7 _ _
        obtain ⟨A3, k3, rfl⟩ := own_formN hown7
        rw [gOf_own] at hgrow7
        have hpu := HWY.out.push (x := ⟨r, t, l⟩) ((Below.refl _ _).alloc (Nat.le_refl _) _) hgrow7 hown7
        have HPU := Lib.hid hpu
        have hlo7 : ∀ j, j < s + 7 → some j ≠ gOf C := fun j hj e => by have := (HWY.out.own.lt j (gOf_own.trans e.symm)).1; omega
        have hsz7 := HWY.out.sz
        have hs77 := hgrow7.size
        simp only [World.size_alloc] at hs77
        have d4 : w7.cell? ⟨s + 4, 0, none⟩ = some (.slice C m cc) := (hgrow7.cell_far ⟨s + 4, 0, none⟩ (by simp; omega) (hlo7 (s + 4) (by omega))).trans (by go_simp)
        have d6 : w7.frozen? ⟨s + 4, 0, none⟩ = false := (hgrow7.frozen_far ⟨s + 4, 0, none⟩ (by simp; omega) (hlo7 (s + 4) (by omega))).trans (by go_simp)
        have d2 : w7.cell? ⟨s + 2, 0, none⟩ = some (.int .i64 512) := (hgrow7.cell_far ⟨s + 2, 0, none⟩ (by simp; omega) (hlo7 (s + 2) (by omega))).trans (by go_simp)
        have HE := Lib.hid (HF.out A3 k3 (m + 1) (O ++ [⟨r, t, l⟩]) _ _ _ HPU.out.1 HI.out (HBS.out.trans HPU.out.2) (fun x hx => List.mem_append_left _ hx) (.inl (List.mem_append_right _ (List.mem_singleton.2 rfl))) ⟨by omega, by omega⟩)
        clear hown7 hgrow7 hpu HPU hlo7
        go_wp2_with fail
        exact HE.out _ (by simp; try omega)
    | none =>
      rw [hS] at hlk
      simp only [Option.getD_none] at hlk
      clear hS
      obtain ⟨w3, hput3, hM3, hg3⟩ := HWY.out.map.put (by omega) hu9 hv9 1
      unfold key2 at hput3
      have hs3 := hg3.size
      have hsY := HWY.out.sz
      have far3 : ∀ j i, j < Y.w.heap.size → j ≠ s + 5 → w3.cell? ⟨j, i, none⟩ = Y.w.cell? ⟨j, i, none⟩ := fun j i hj hne => hg3.cell_far ⟨j, i, none⟩ hj (fun e => by injection e with e; exact hne e)
      have HW3 := Lib.hid (HWY.out.put hM3 hg3)
      have HB3 := Lib.hid (HBS.out.trans ⟨hg3.os, hg3.tape, hg3.output, hg3.size, fun j hj => hg3.block j (by omega) (fun e => by injection e with e; omega)⟩)
      have v0 := (far3 w.heap.size 0 (by omega) (by omega)).trans w0
      have v1 := (far3 w.heap.size 1 (by omega) (by omega)).trans w1
      have v2 := (far3 w.heap.size 2 (by omega) (by omega)).trans w2
      have x0 := (far3 q 0 hq2 (by omega)).trans a0
      have x1 := (far3 q 1 hq2 (by omega)).trans a1
      have z0 := (far3 s 0 (by omega) (by omega)).trans y0
      have z1 := (far3 (s + 1) 0 (by omega) (by omega)).trans y1
      have z3 := (far3 (s + 3) 0 (by omega) (by omega)).trans y3
      have z6 := (far3 (s + 6) 0 (by omega) (by omega)).trans y6
      clear hM3 hg3 far3
      go_wp2_with fail
      go_at_call 67
      refine (PS.out _ HB3.out (by have := HW3.out.sz; omega)).mono ?_
      rintro e w' ⟨b, rfl, hno, hb⟩
      obtain ⟨X4, rfl, hl4, hm4⟩ := later _ hb (Nat.le_refl _)
      have HW4 := Lib.hid (HW3.out.keep hb)
      have HB4 := Lib.hid (HB3.out.trans (hb.mono (by omega)))
      have hq3 : q < X4.w.heap.size := by omega
      clear hb
      cases b with
      | false =>
        have HI4 := Lib.hid (HI.out.put (u := u) (v := v) (.inl ⟨rfl, fun r' t' l' e1 e2 => HSame.out r' t' l' (hno rfl) e1 e2⟩))
        have hl5 := HW4.out.map.look hu9 hv9
        simp only [and_self, if_true, Option.getD_some] at hl5
        unfold key2 at hl5
        have k2 := HW4.out.g2
        have k4 := HW4.out.g4
        have k6 := HW4.out.g6
        have HE := Lib.hid (HF.out C cc m O _ (k + 1) X4.w HW4.out HI4.out HB4.out (fun x hx => hx) (.inr (hno rfl)) ⟨by omega, by omega⟩)
        clear hno
        go_wp2_with fail
        exact HE.out _ (by simp; try omega)
      | true =>
        obtain ⟨w5, hput5, hM5, hg5⟩ := HW4.out.map.put (by omega) hu9 hv9 2
        unfold key2 at hput5
        have hs5 := hg5.size
        have far5 : ∀ j i, j < X4.w.heap.size → j ≠ s + 5 → w5.cell? ⟨j, i, none⟩ = X4.w.cell? ⟨j, i, none⟩ := fun j i hj hne => hg5.cell_far ⟨j, i, none⟩ hj (fun e => by injection e with e; exact hne e)
        have HW5 := Lib.hid (HW4.out.put hM5 hg5)
        have HI5 := Lib.hid ((HI.out.put (u := u) (v := v) (z := 2) (.inr rfl)).put (u := u) (v := v) (z := 2) (.inr rfl))
        have hS5 : (fun x y => if x = u ∧ y = v then some (2 : Int) else if x = u ∧ y = v then some 1 else S x y) = (fun x y => if x = u ∧ y = v then some (2 : Int) else if x = u ∧ y = v then some 2 else S x y) := by
          funext x y
          by_cases e : x = u ∧ y = v
          · simp [e]
          · simp [e]
        rw [← hS5] at HI5
        have HB5 := Lib.hid (HB4.out.trans ⟨hg5.os, hg5.tape, hg5.output, hg5.size, fun j hj => hg5.block j (by have := HW4.out.sz; omega) (fun e => by injection e with e; omega)⟩)
        have hX4 : ∀ j i, j < w3.heap.size → X4.w.cell? ⟨j, i, none⟩ = w3.cell? ⟨j, i, none⟩ := fun j i hj => X4.is.cell (p := ⟨j, i, none⟩) hj
        have u0 := (far5 w.heap.size 0 (by omega) (by omega)).trans ((hX4 _ _ (by omega)).trans v0)
        have u1 := (far5 w.heap.size 1 (by omega) (by omega)).trans ((hX4 _ _ (by omega)).trans v1)
        have u2 := (far5 w.heap.size 2 (by omega) (by omega)).trans ((hX4 _ _ (by omega)).trans v2)
        have x0' := (far5 q 0 hq3 (by omega)).trans ((hX4 _ _ (by omega)).trans x0)
        have x1' := (far5 q 1 hq3 (by omega)).trans ((hX4 _ _ (by omega)).trans x1)
        have hl5 := HW5.out.map.look hu9 hv9
        simp only [and_self, if_true, Option.getD_some] at hl5
        unfold key2 at hl5
        have t6 := HW5.out.g6
        have k6 := HW4.out.g6
        clear hno hM5 hg5 far5 hX4 hS5
        have b4 := HW5.out.g4
        have b6 := HW5.out.z4
        have b2 := HW5.out.g2
        go_wp2_with (at_builtin; refine wpList_append_own_at _ rfl _ _ 41 rfl (s + 7) 46 i0 (.agg #[.int .i64 0, .int .i64 0, .int .i64 0]) 3 24 Tryz.underlying41 hi hz0 hz1 hz2 rfl (by decide) (.slice C m cc) m _ (by rfl) (HW5.out.own.alloc _) ⟨w5.heap.size, 0, none⟩ 1 1 [.int .i64 r, .int .i64 t, .int .i64 l] (by rfl) (by rfl) (cells_three_new _ _ _ _ _) (by intro u hu; simp at hu; rcases hu with rfl | rfl | rfl <;> rfl) (by unfold maxLen; omega) (by omega) (by have := HW5.out.sz; simp; omega) ?_)
        intro v7 w7 hown7 hgrow7 _ _
        obtain ⟨A3, k3, rfl⟩ := own_formN hown7
        rw [gOf_own] at hgrow7
        have hpu := HW5.out.push (x := ⟨r, t, l⟩) ((Below.refl _ _).alloc (Nat.le_refl _) _) hgrow7 hown7
        have HPU := Lib.hid hpu
        have hlo7 : ∀ j, j < s + 7 → some j ≠ gOf C := fun j hj e => by have := (HW5.out.own.lt j (gOf_own.trans e.symm)).1; omega
        have hsz7 := HW5.out.sz
        have hs77 := hgrow7.size
        simp only [World.size_alloc] at hs77
        have d4 : w7.cell? ⟨s + 4, 0, none⟩ = some (.slice C m cc) := (hgrow7.cell_far ⟨s + 4, 0, none⟩ (by simp; omega) (hlo7 (s + 4) (by omega))).trans (by go_simp)
        have d6 : w7.frozen? ⟨s + 4, 0, none⟩ = false := (hgrow7.frozen_far ⟨s + 4, 0, none⟩ (by simp; omega) (hlo7 (s + 4) (by omega))).trans (by go_simp)
        have d2 : w7.cell? ⟨s + 2, 0, none⟩ = some (.int .i64 512) := (hgrow7.cell_far ⟨s + 2, 0, none⟩ (by simp; omega) (hlo7 (s + 2) (by omega))).trans (by go_simp)
        have HE := Lib.hid (HF.out A3 k3 (m + 1) (O ++ [⟨r, t, l⟩]) _ _ _ HPU.out.1 HI5.out (HB5.out.trans HPU.out.2) (fun x hx => List.mem_append_left _ hx) (.inl (List.mem_append_right _ (List.mem_singleton.2 rfl))) ⟨by omega, by omega⟩)
        clear hown7 hgrow7 hpu HPU hlo7
        go_wp2_with fail
        exact HE.out _ (by simp; try omega)
end Go.Proofs.YthlijfligikciaaGreat

/- review.everyone with whose's callback, whose, Rises: walked. No condition beyond what the rows read as and how many boxes there are. -/
namespace Go.Proofs.YthlijfligikciaaGreat
open Go.RowKit Go.Maps
set_option linter.unusedSimpArgs false
set_option linter.unusedVariables false
set_option maxRecDepth 2000

/-- Those with a lesser number were looked at. -/
def Vis (L1 L2 : List Rl) (O : List Sp) (n : Nat) : Prop := ∀ r t l : Nat, r < 8 → t < 8 → l < 8 → 64 * r + 8 * t + l < n → (⟨r, t, l⟩ : Sp) ∈ O ∨ riseNo L1 L2 r t l
theorem Vis.step {L1 L2 : List Rl} {O O' : List Sp} {R T Lb n : Nat} (h : Vis L1 L2 O n) (hO : ∀ x ∈ O, x ∈ O') (hn : n = 64 * R + 8 * T + Lb) (hT : T < 8) (hl : Lb < 8) (hx : (⟨R, T, Lb⟩ : Sp) ∈ O' ∨ riseNo L1 L2 R T Lb) : Vis L1 L2 O' (n + 1) := fun r t l hr ht hl' hlt => by
  by_cases he : 64 * r + 8 * t + l < n
  · rcases h r t l hr ht hl' he with h9 | h9
    · exact .inl (hO _ h9)
    · exact .inr h9
  · have e1 : r = R := by omega
    have e2 : t = T := by omega
    have e3 : l = Lb := by omega
    subst e1 e2 e3
    exact hx
/-- The state behind so many. -/
def Ev (s : Nat) (A1 A2 : Option Addr) (c1 c2 : Nat) (L1 L2 : List Rl) (w w' : World) (n : Nat) : Prop :=
  ∃ k m cc C O S, (Wh w' s k m cc C O S A1 A2 c1 c2 L1 L2 ∧ WhInv S L1 L2) ∧ Below s w w' ∧ Vis L1 L2 O n ∧ m ≤ n ∧ k ≤ 2 * n
set_option maxHeartbeats 16000000 in
theorem everyone_any (s c1 c2 : Nat) (A1 A2 : Option Addr) (L1 L2 : List Rl) (P1 P2 : Nat → Option Addr × Nat) (w : World) (h : Ev s A1 A2 c1 c2 L1 L2 w w 0) (h1 : Rls w s A1 L1 P1) (h2 : Rls w s A2 L2 P2) (hm1 : L1.length ≤ 32) (hm2 : L2.length ≤ 32) (hc1 : cntB L1 ≤ 1048576) (hc2 : cntB L2 ≤ 1048576) :
    Calls Tryz.prog 64 #[.func (.func 65) #[] #[.pointer (some ⟨s, 0, none⟩), .pointer (some ⟨s + 1, 0, none⟩), .pointer (some ⟨s + 6, 0, none⟩), .pointer (some ⟨s + 3, 0, none⟩), .pointer (some ⟨s + 4, 0, none⟩), .pointer (some ⟨s + 2, 0, none⟩)]] w fun e w' => e = .returned (.tuple #[]) ∧ Ev s A1 A2 c1 c2 L1 L2 w w' 512 := by
  have Q := Lib.hid (show ∀ (R T Lb n : Nat) (Y : World), Ev s A1 A2 c1 c2 L1 L2 w Y n → n = 64 * R + 8 * T + Lb → T < 8 → Lb < 8 → n < 512 → Calls Tryz.prog 65 #[.agg #[.int .i64 (R : Int), .int .i64 (T : Int), .int .i64 (Lb : Int)], .pointer (some ⟨s, 0, none⟩), .pointer (some ⟨s + 1, 0, none⟩), .pointer (some ⟨s + 6, 0, none⟩), .pointer (some ⟨s + 3, 0, none⟩), .pointer (some ⟨s + 4, 0, none⟩), .pointer (some ⟨s + 2, 0, none⟩)] Y fun e w' => ∃ b : Bool, e = .returned (.bool b) ∧ (b = false → n + 1 = 512) ∧ Ev s A1 A2 c1 c2 L1 L2 w w' (n + 1) from fun R T Lb n Y hE hn hT hl hlt => by
    obtain ⟨k, m, cc, C, O, S, ⟨hW, hI⟩, hb, hv, hm, hk⟩ := hE
    have := whose1_any R T Lb s k m cc c1 c2 C A1 A2 O S L1 L2 P1 P2 Y hW hI (by omega) (by omega) (h1.keep hb) (h2.keep hb) hm1 hm2 hc1 hc2
    unfold key3 at this
    refine this.mono ?_
    rintro e w' ⟨C', cc', m', O', S', k', b, ⟨rfl, hbb⟩, ⟨hW', hI'⟩, hb', hO, hx, hm', hk'⟩
    refine ⟨b, rfl, fun hf => ?_, k', m', cc', C', O', S', ⟨hW', hI'⟩, hb.trans hb', hv.step hO hn hT hl hx, by omega, by omega⟩
    have : ¬ m' < 512 := fun h9 => by have := hbb.2 h9; rw [hf] at this; cases this
    omega)
  have H := Lib.hid h
  clear h h1 h2 hm1 hm2 hc1 hc2
  go_enter Tryz.func64, Tryz.ntmps64
  go_wp2_with fail
  go_loopw [5] (fun i wr => ∃ R : Nat, (R ≤ 8 ∧ Hid (Ev s A1 A2 c1 c2 L1 L2 w wr (64 * R))) ∧ i = .int .i64 R) (fun i _ => 8 - (intOf i).toNat)
  case atStart => exact ⟨0, ⟨by omega, H.out⟩, rfl⟩
  case round =>
    obtain ⟨R, ⟨hR, hE⟩, rfl⟩ := hrel
    by_cases hltR : R < 8
    · have hdR : decide ((R : Int) < 8) = true := decide_eq_true (by omega)
      go_wp2_with fail
      go_loopw [8] (fun i w1 => ∃ T : Nat, (T ≤ 8 ∧ Hid (Ev s A1 A2 c1 c2 L1 L2 w w1 (64 * R + 8 * T))) ∧ i = .int .i64 T) (fun i _ => 8 - (intOf i).toNat)
      case atStart => exact ⟨0, ⟨by omega, hE.out⟩, rfl⟩
      case round =>
        obtain ⟨T, ⟨hT, hE2⟩, rfl⟩ := hrel
        by_cases hltT : T < 8
        · have hdT : decide ((T : Int) < 8) = true := decide_eq_true (by omega)
          go_wp2_with fail
          go_loopw [11] (fun i w1 => ∃ Lb : Nat, (Lb ≤ 8 ∧ Hid (Ev s A1 A2 c1 c2 L1 L2 w w1 (64 * R + 8 * T + Lb))) ∧ i = .int .i64 Lb) (fun i _ => 8 - (intOf i).toNat)
          case atStart => exact ⟨0, ⟨by omega, hE2.out⟩, rfl⟩
          case round =>
            obtain ⟨Lb, ⟨hL, hE3⟩, rfl⟩ := hrel
            by_cases hltL : Lb < 8
            · have Q9 := Lib.hid (Q.out R T Lb (64 * R + 8 * T + Lb) _ hE3.out rfl hltT hltL (by omega))
              go_wp2_with fail
              go_at_call 65
              refine Q9.out.mono ?_
              rintro e w' ⟨b, rfl, hbf, hE4⟩
              have HE4 := Lib.hid hE4
              clear hE4
              cases b with
              | true =>
                clear hbf
                go_wp2_with fail
                go_roundw
                case rel => exact ⟨Lb + 1, ⟨by omega, HE4.out⟩, by go_num⟩
                case measure => simp [intOf]; omega
              | false =>
                have h9 := hbf rfl
                have HE5 := Lib.hid (show Ev s A1 A2 c1 c2 L1 L2 w w' 512 by have := HE4.out; rw [h9] at this; exact this)
                clear hbf h9
                go_wp2_with fail
                exact bodyPost_ret_by (v := .tuple #[]) (by first | rfl | kernel_rfl) rfl ⟨rfl, HE5.out⟩
            · obtain rfl : Lb = 8 := by omega
              go_wp2_with fail
              go_roundw
              case rel => exact ⟨T + 1, ⟨by omega, hE3.out⟩, by go_num⟩
              case measure => simp [intOf]; omega
        · obtain rfl : T = 8 := by omega
          go_wp2_with fail
          go_roundw
          case rel => exact ⟨R + 1, ⟨by omega, by have := hE2.out; rw [show 64 * R + 8 * 8 = 64 * (R + 1) by omega] at this; exact this⟩, by go_num⟩
          case measure => simp [intOf]; omega
    · obtain rfl : R = 8 := by omega
      go_wp2_with fail
      go_end0
      exact ⟨rfl, hE.out⟩
theorem ev_start (n1 n2 c1 c2 : Nat) (A1 A2 : Option Addr) (L1 L2 : List Rl) (w : World) (hn1 : L1.length = n1) (hn2 : L2.length = n2) : Ev w.heap.size A1 A2 c1 c2 L1 L2 (((((((w.alloc (.cells #[.slice A1 n1 c1] 22)).alloc (.cells #[.slice A2 n2 c2] 22)).alloc (.cells #[.int .i64 512] 3)).alloc (.cells #[.func (.func 25) #[] #[]] 78)).alloc (.cells #[.slice none 0 0] 41)).alloc (.map #[] 0)).alloc (.cells #[.map (some (w.heap.size + 1 + 1 + 1 + 1 + 1))] 132)) (((((((w.alloc (.cells #[.slice A1 n1 c1] 22)).alloc (.cells #[.slice A2 n2 c2] 22)).alloc (.cells #[.int .i64 512] 3)).alloc (.cells #[.func (.func 25) #[] #[]] 78)).alloc (.cells #[.slice none 0 0] 41)).alloc (.map #[] 0)).alloc (.cells #[.map (some (w.heap.size + 1 + 1 + 1 + 1 + 1))] 132)) 0 := by
  have hm := m2_made (((((w.alloc (.cells #[.slice A1 n1 c1] 22)).alloc (.cells #[.slice A2 n2 c2] 22)).alloc (.cells #[.int .i64 512] 3)).alloc (.cells #[.func (.func 25) #[] #[]] 78)).alloc (.cells #[.slice none 0 0] 41))
  have hsz : (((((w.alloc (.cells #[.slice A1 n1 c1] 22)).alloc (.cells #[.slice A2 n2 c2] 22)).alloc (.cells #[.int .i64 512] 3)).alloc (.cells #[.func (.func 25) #[] #[]] 78)).alloc (.cells #[.slice none 0 0] 41)).heap.size = w.heap.size + 5 := by simp
  rw [hsz] at hm
  have hb : Below ((((((w.alloc (.cells #[.slice A1 n1 c1] 22)).alloc (.cells #[.slice A2 n2 c2] 22)).alloc (.cells #[.int .i64 512] 3)).alloc (.cells #[.func (.func 25) #[] #[]] 78)).alloc (.cells #[.slice none 0 0] 41)).alloc (.map #[] 0)).heap.size ((((((w.alloc (.cells #[.slice A1 n1 c1] 22)).alloc (.cells #[.slice A2 n2 c2] 22)).alloc (.cells #[.int .i64 512] 3)).alloc (.cells #[.func (.func 25) #[] #[]] 78)).alloc (.cells #[.slice none 0 0] 41)).alloc (.map #[] 0)) (((((((w.alloc (.cells #[.slice A1 n1 c1] 22)).alloc (.cells #[.slice A2 n2 c2] 22)).alloc (.cells #[.int .i64 512] 3)).alloc (.cells #[.func (.func 25) #[] #[]] 78)).alloc (.cells #[.slice none 0 0] 41)).alloc (.map #[] 0)).alloc (.cells #[.map (some (w.heap.size + 1 + 1 + 1 + 1 + 1))] 132)) := (Below.refl _ _).alloc (Nat.le_refl _) _
  have hm2 := hm.same (hb.block (w.heap.size + 5) (by simp))
  refine ⟨0, 0, 0, none, [], fun _ _ => none, ⟨⟨by simp, ?_, ?_, ?_, ?_, ?_, ?_, ?_, World.ownsRow_nil _ _ _ _, rfl, hm2⟩, fun u v z h => by cases h⟩, Below.refl _ _, fun r t l _ _ _ h => absurd h (Nat.not_lt_zero _), Nat.le_refl _, Nat.zero_le _⟩
  · rw [hn1]; go_simp
  · rw [hn2]; go_simp
  · go_simp
  · go_simp
  · go_simp
  · go_simp
  · go_simp
/-- What whose leaves: those who are told; who is not told has no zoom that goes up. -/
def WhosePost (L1 L2 : List Rl) (w : World) (e : Ending) (w' : World) : Prop :=
  ∃ C m cc O, e = .returned (.slice C m cc) ∧ (O : List Sp).length = m ∧ m ≤ 512 ∧ Sps w' w'.heap.size C O ∧ Vis L1 L2 O 512 ∧ Below w.heap.size w w'
set_option maxHeartbeats 16000000 in
theorem whose_any (n1 n2 c1 c2 : Nat) (A1 A2 : Option Addr) (L1 L2 : List Rl) (P1 P2 : Nat → Option Addr × Nat) (w : World) (h1 : Rls w w.heap.size A1 L1 P1) (h2 : Rls w w.heap.size A2 L2 P2) (hn1 : L1.length = n1) (hn2 : L2.length = n2) (hm1 : n1 ≤ 32) (hm2 : n2 ≤ 32) (hc1 : cntB L1 ≤ 1048576) (hc2 : cntB L2 ≤ 1048576) :
    Calls Tryz.prog 24 #[.slice A1 n1 c1, .slice A2 n2 c2, .int .i64 512, .func (.func 25) #[] #[]] w (WhosePost L1 L2 w) := by
  have hmm := @run_makeMap Tryz.prog
  have PE := Lib.hid (fun (Y : World) (hY : Below w.heap.size w Y) (hE : Ev w.heap.size A1 A2 c1 c2 L1 L2 Y Y 0) => everyone_any w.heap.size c1 c2 A1 A2 L1 L2 P1 P2 Y hE (h1.keep hY) (h2.keep hY) (by omega) (by omega) hc1 hc2)
  have HN := Lib.hid (And.intro hn1 hn2)
  generalize hPost : WhosePost L1 L2 w = Post
  have HPost := Lib.hid hPost
  clear h1 h2 hn1 hn2 hm1 hm2 hc1 hc2 hPost
  go_enter Tryz.func24, Tryz.ntmps24
  go_wp2_with fail
  refine (PE.out _ (by repeat' (first | (with_reducible exact Below.refl _ _) | (with_reducible assumption) | (with_reducible refine Later.step ?_ ?_ _) | (with_reducible refine Below.alloc ?_ ?_ _) | (with_reducible refine Below.drew ?_) | (with_reducible refine bel_drewN ?_ _) | (with_reducible refine bel_grown ?_ (by assumption) ?_ ?_) | (with_reducible refine Below.setCell ?_ ?_ _) | go_size)) ?_).mono ?_
  · exact ev_start n1 n2 c1 c2 A1 A2 L1 L2 w HN.out.1 HN.out.2
  rintro e w' ⟨rfl, k, m, cc, C, O, S, ⟨hW, hI⟩, hb, hv, hm, hk⟩
  have g4 := hW.g4
  have hbw : Below w.heap.size w w' := (show Below w.heap.size w _ from (((((((Below.refl w.heap.size w).alloc (Nat.le_refl _) (.cells #[.slice A1 n1 c1] 22)).alloc (by simp) (.cells #[.slice A2 n2 c2] 22)).alloc (by simp; omega) (.cells #[.int .i64 512] 3)).alloc (by simp; omega) (.cells #[.func (.func 25) #[] #[]] 78)).alloc (by simp; omega) (.cells #[.slice none 0 0] 41)).alloc (by simp; omega) (.map #[] 0)).alloc (by simp; omega) (.cells #[.map (some (w.heap.size + 1 + 1 + 1 + 1 + 1))] 132)).trans hb
  have HFin := Lib.hid (show WhosePost L1 L2 w (.returned (.slice C m cc)) w' from ⟨C, m, cc, O, rfl, hW.len, hm, sps_own hW.own hW.len, hv, hbw⟩)
  rw [HPost.out] at HFin
  clear hW hI hb hv hbw
  go_wp2_with fail
  exact HFin.out
end Go.Proofs.YthlijfligikciaaGreat

/- review.Rises: walked: who is not told has no zoom that goes up. No condition beyond what the rows read as and how many boxes there are. -/
namespace Go.Proofs.YthlijfligikciaaGreat
open Go.RowKit Go.Maps
set_option linter.unusedSimpArgs false
set_option linter.unusedVariables false
set_option maxRecDepth 2000

/-- What Rises leaves. -/
def RisesPost (L1 L2 : List Rl) (w : World) (e : Ending) (w' : World) : Prop :=
  ∃ C m cc O, e = .returned (.tuple #[.slice C m cc, .int .i64 (askE (L1.all rightR) (L2.all rightR) 2)]) ∧ (O : List Sp).length = m ∧ m ≤ 512 ∧ Sps w' w'.heap.size C O ∧ ((L1.all rightR = true ∧ L2.all rightR = true) → Vis L1 L2 O 512) ∧ Below w.heap.size w w'
set_option maxHeartbeats 8000000 in
theorem rises_any (n1 n2 c1 c2 : Nat) (A1 A2 : Option Addr) (L1 L2 : List Rl) (P1 P2 : Nat → Option Addr × Nat) (w : World) (h1 : Rls w w.heap.size A1 L1 P1) (h2 : Rls w w.heap.size A2 L2 P2) (hn1 : L1.length = n1) (hn2 : L2.length = n2) (hm1 : n1 ≤ 32) (hm2 : n2 ≤ 32) (hc1 : cntB L1 ≤ 1048576) (hc2 : cntB L2 ≤ 1048576) :
    Calls Tryz.prog 7 #[.slice A1 n1 c1, .slice A2 n2 c2] w (RisesPost L1 L2 w) := by
  have hbx : ∀ (L : List Rl) (n : Nat), L.length = n → cntB L ≤ 1048576 → ∀ i, i < n → (L.getD i rl0).boxes.length ≤ 1048576 := fun L n hn hc i hi => by
    rw [← hn] at hi
    rw [getR_lt hi]
    exact Nat.le_trans (cnt_mem (List.getElem_mem hi)) hc
  have pa := fun (g : Nat) (Y : World) (hY : Below w.heap.size w Y) (hg : g < Y.heap.size) (g0 : Y.cell? ⟨g, 0, none⟩ = some (.slice A1 n1 c1)) (g1 : Y.cell? ⟨g, 1, none⟩ = some (.slice A2 n2 c2)) => ask_any g n1 n2 c1 c2 A1 A2 L1 L2 P1 P2 Y hg g0 g1 ((h1.keep hY).more hY.size) ((h2.keep hY).more hY.size) hn1 hn2 hm1 hm2 (hbx L1 n1 hn1 hc1) (hbx L2 n2 hn2 hc2)
  have PW := Lib.hid (fun (Y : World) (hY : Below w.heap.size w Y) => whose_any n1 n2 c1 c2 A1 A2 L1 L2 P1 P2 Y ((h1.keep hY).more hY.size) ((h2.keep hY).more hY.size) hn1 hn2 hm1 hm2 hc1 hc2)
  have HF := Lib.hid (show ∀ C m cc (O : List Sp) (E : Int) w', E = askE (L1.all rightR) (L2.all rightR) 2 → O.length = m → m ≤ 512 → Sps w' w'.heap.size C O → ((L1.all rightR = true ∧ L2.all rightR = true) → Vis L1 L2 O 512) → Below w.heap.size w w' → RisesPost L1 L2 w (.returned (.tuple #[.slice C m cc, .int .i64 E])) w' from fun C m cc O E w' e0 e1 e2 e3 e4 e5 => ⟨C, m, cc, O, by rw [e0], e1, e2, e3, e4, e5⟩)
  generalize RisesPost L1 L2 w = Post at HF ⊢
  have hE : ∀ E, askE (L1.all rightR) (L2.all rightR) 2 = E → (E = 0 ∨ (E = 1 ∧ ¬ (L1.all rightR = true ∧ L2.all rightR = true))) := fun E h => by
    have h' : (if L1.all rightR = true ∧ L2.all rightR = true then (0 : Int) else 1) = E := h
    by_cases hc : L1.all rightR = true ∧ L2.all rightR = true
    · rw [if_pos hc] at h'; exact .inl h'.symm
    · rw [if_neg hc] at h'; exact .inr ⟨h'.symm, hc⟩
  obtain ⟨E, hEe⟩ : ∃ E, askE (L1.all rightR) (L2.all rightR) 2 = E := ⟨_, rfl⟩
  have hE9 := hE E hEe
  rw [hEe] at HF pa
  have PA := Lib.hid pa
  clear h1 h2 hn1 hn2 hm1 hm2 hc1 hc2 hbx hE hEe pa
  rcases hE9 with rfl | ⟨rfl, hnot⟩
  · go_enter Tryz.func7, Tryz.ntmps7
    go_wp2_with fail
    go_at_call 23
    refine (PA.out w.heap.size _ (by repeat' (first | (with_reducible exact Below.refl _ _) | (with_reducible assumption) | (with_reducible refine Later.step ?_ ?_ _) | (with_reducible refine Below.alloc ?_ ?_ _) | (with_reducible refine Below.drew ?_) | (with_reducible refine bel_drewN ?_ _) | (with_reducible refine bel_grown ?_ (by assumption) ?_ ?_) | (with_reducible refine Below.setCell ?_ ?_ _) | go_size)) (by simp) (by go_simp) (by go_simp)).mono ?_
    rintro e w' ⟨rfl, hb⟩; obtain ⟨X1, rfl, hl1, hm1⟩ := later _ hb (Nat.le_refl _); clear hb; (try simp only [World.size_alloc, World.size_setCell, World.size_drew] at hm1 hl1)
    go_wp2_with fail
    go_at_call 24
    refine (PW.out _ (by repeat' (first | (with_reducible exact Below.refl _ _) | (with_reducible assumption) | (with_reducible refine Later.step ?_ ?_ _) | (with_reducible refine Below.alloc ?_ ?_ _) | (with_reducible refine Below.drew ?_) | (with_reducible refine bel_drewN ?_ _) | (with_reducible refine bel_grown ?_ (by assumption) ?_ ?_) | (with_reducible refine Below.setCell ?_ ?_ _) | go_size))).mono ?_
    rintro e w' ⟨C, m, cc, O, rfl, e1, e2, e3, e4, hb⟩
    have hb1 : Below w.heap.size w X1.w := by repeat' (first | (with_reducible exact Below.refl _ _) | (with_reducible assumption) | (with_reducible refine Later.step ?_ ?_ _) | (with_reducible refine Below.alloc ?_ ?_ _) | (with_reducible refine Below.drew ?_) | (with_reducible refine bel_drewN ?_ _) | (with_reducible refine bel_grown ?_ (by assumption) ?_ ?_) | (with_reducible refine Below.setCell ?_ ?_ _) | go_size)
    have HFin := Lib.hid (HF.out C m cc O 0 w' rfl e1 e2 e3 (fun _ => e4) (hb1.trans (hb.mono hb1.size)))
    clear e1 e2 e3 e4 hb
    go_wp2_with fail
    exact HFin.out
  · have HNot := Lib.hid hnot
    clear hnot
    go_enter Tryz.func7, Tryz.ntmps7
    go_wp2_with fail
    go_at_call 23
    refine (PA.out w.heap.size _ (by repeat' (first | (with_reducible exact Below.refl _ _) | (with_reducible assumption) | (with_reducible refine Later.step ?_ ?_ _) | (with_reducible refine Below.alloc ?_ ?_ _) | (with_reducible refine Below.drew ?_) | (with_reducible refine bel_drewN ?_ _) | (with_reducible refine bel_grown ?_ (by assumption) ?_ ?_) | (with_reducible refine Below.setCell ?_ ?_ _) | go_size)) (by simp) (by go_simp) (by go_simp)).mono ?_
    rintro e w' ⟨rfl, hb⟩; obtain ⟨X1, rfl, hl1, hm1⟩ := later _ hb (Nat.le_refl _); clear hb; (try simp only [World.size_alloc, World.size_setCell, World.size_drew] at hm1 hl1)
    have hb1 : Below w.heap.size w X1.w := by repeat' (first | (with_reducible exact Below.refl _ _) | (with_reducible assumption) | (with_reducible refine Later.step ?_ ?_ _) | (with_reducible refine Below.alloc ?_ ?_ _) | (with_reducible refine Below.drew ?_) | (with_reducible refine bel_drewN ?_ _) | (with_reducible refine bel_grown ?_ (by assumption) ?_ ?_) | (with_reducible refine Below.setCell ?_ ?_ _) | go_size)
    have HFin := Lib.hid (HF.out none 0 0 [] 1 X1.w rfl rfl (by omega) (fun h => absurd h (Nat.not_lt_zero _)) (fun h => absurd h HNot.out) hb1)
    clear hb1
    go_wp2_with fail
    exact HFin.out
end Go.Proofs.YthlijfligikciaaGreat
