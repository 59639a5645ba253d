/- Several texts of one proof, joined: review.over: walked. No condition beyond what the rows read as and how many boxes there are. | overlay.each with some's callback, and some: walked. No condition beyond what the rows read as and how many boxes there are. -/
import Derived.Test.YthlijfligikciaaGreatZ13
import Derived.Deep.CutBlock
import Derived.Laws.NewBlocks
import Derived.Test.YthlijfligikciaaGreatZ15
/- review.over: walked. No condition beyond what the rows read as and how many boxes there are. -/
namespace Go.Proofs.YthlijfligikciaaGreat
open Go.RowKit Go.Maps
set_option linter.unusedSimpArgs false
set_option linter.unusedVariables false
set_option maxRecDepth 2000

/-- A later world in which all is as it was but what lies between two bounds. -/
structure Stay (B S : Nat) (w w' : World) : Prop where
  size : w.heap.size ≤ w'.heap.size
  same : ∀ k, k < w.heap.size → k < B ∨ S ≤ k → w'.heap[k]? = w.heap[k]?
theorem Stay.refl (B S : Nat) (w : World) : Stay B S w w := ⟨Nat.le_refl _, fun _ _ _ => rfl⟩
theorem own_stay {w w' : World} {base n size : Nat} {e : TypeId} {v : Value} {xs : List Value} (h : w.ownsRow base e size v n xs) (hs : ∀ k, v.ownBlock = some k → w'.heap[k]? = w.heap[k]?) : w'.ownsRow base e size v n xs := by
  refine ⟨h.1, ?_⟩
  rcases h.2 with hn | ⟨g, cap, cur, rfl, hbase, hg, rest⟩
  · exact .inl hn
  · exact .inr ⟨g, cap, cur, rfl, hbase, (hs g rfl).trans hg, rest⟩
/-- An overlay: its cells, and what they read as, here and wherever no more than what lies between two bounds has turned. -/
def OverPost (B : Nat) (L1 L2 : List Rl) (a b c : Int) (w : World) (e : Ending) (w' : World) : Prop :=
  ∃ A1 A2 D F n1 n2 nx ny c1 c2 cx cy Q1 Q2 xs ys, e = .returned (.agg #[.int .i64 a, .int .i64 b, .int .i64 c, .slice A1 n1 c1, .slice A2 n2 c2, .slice D nx cx, .slice F ny cy]) ∧
    ((∀ w'', Stay B w.heap.size w' w'' → Rls w'' w''.heap.size A1 (mineR L1 a b c) Q1) ∧ (mineR L1 a b c).length = n1) ∧ ((∀ w'', Stay B w.heap.size w' w'' → Rls w'' w''.heap.size A2 (mineR L2 a b c) Q2) ∧ (mineR L2 a b c).length = n2) ∧
    (xs = edgesL (exL (mineR L1 a b c ++ mineR L2 a b c)) ∧ xs.length = nx ∧ ∀ w'', Stay B w.heap.size w' w'' → Ints w'' w''.heap.size D xs) ∧ (ys = edgesL (eyL (mineR L1 a b c ++ mineR L2 a b c)) ∧ ys.length = ny ∧ ∀ w'', Stay B w.heap.size w' w'' → Ints w'' w''.heap.size F ys) ∧ Below w.heap.size w w'
theorem mineN_rls {w : World} {B base n c : Nat} {A A' : Option Addr} {L : List Rl} {P : Nat → Option Addr × Nat} {x y z : Int} {W : World} (h : Rls w B A' L P) (hb : ∀ k, k < B → W.heap[k]? = w.heap[k]?) (hB : B ≤ W.heap.size) (ho : W.ownsRow base 65 7 (.slice A n c) n (mV (mineN L P x y z L.length))) (hn : (mineN L P x y z L.length).length = n) :
    Rls W W.heap.size A (mineR L x y z) (fun i => ((mineN L P x y z L.length).getD i rp0).2) ∧ (mineR L x y z).length = n := by
  have hfst := mineN_fst L P x y z L.length (Nat.le_refl _)
  rw [List.take_length] at hfst
  have hR := h.agree (lo := 0) ⟨fun _ a _ => Nat.zero_le _, fun i _ _ a _ => Nat.zero_le _⟩ (fun k _ hk => hb k hk)
  have hrls := rls_own ho hn (Nat.le_refl _) (fun x' hx => by
    obtain ⟨i, hi, rfl⟩ := mineN_mem L.length x' hx
    exact (hR.bx i hi).more hB) (fun x' hx => by
    obtain ⟨i, hi, rfl⟩ := mineN_mem L.length x' hx
    exact hR.cap i hi)
  rw [hfst] at hrls
  exact ⟨hrls, by rw [← hfst, List.length_map]; exact hn⟩
theorem Ints.stay {w w' : World} {S B : Nat} {A : Option Addr} {L : List Int} (h : Ints w w.heap.size A L) (hs : Stay B S w w') (hlo : ∀ a, A = some a → S ≤ a.block) : Ints w' w'.heap.size A L := fun hn => by
  obtain ⟨b, o, rfl, hlt, hc⟩ := h hn
  exact ⟨b, o, rfl, Nat.lt_of_lt_of_le hlt hs.size, fun i hi => (World.cell?_of_block (a := ⟨b, o + i, none⟩) (hs.same b hlt (.inr (hlo _ rfl)))).trans (hc i hi)⟩
theorem own_set7 {w : World} {base n size g o : Nat} {e : TypeId} {v : Value} {xs : List Value} (h : w.ownsRow base e size v n xs) (hg : ∀ k, v.ownBlock = some k → g ≠ k) (v0 v1 v2 v3 v4 v5 v6 : Value) :
    (((((((w.setCell ⟨g, o, none⟩ v0).setCell ⟨g, o + 1, none⟩ v1).setCell ⟨g, o + 2, none⟩ v2).setCell ⟨g, o + 3, none⟩ v3).setCell ⟨g, o + 4, none⟩ v4).setCell ⟨g, o + 5, none⟩ v5).setCell ⟨g, o + 6, none⟩ v6).ownsRow base e size v n xs :=
  own_setO (own_setO (own_setO (own_setO (own_setO (own_setO (own_setO h hg v0) hg v1) hg v2) hg v3) hg v4) hg v5) hg v6
theorem Ints.off {w w' : World} {B g : Nat} {A : Option Addr} {L : List Int} (h : Ints w B A L) (hg : ∀ a, A = some a → a.block ≠ g) (hs : ∀ j, j ≠ g → w'.heap[j]? = w.heap[j]?) : Ints w' B A L := fun hn => by
  obtain ⟨b, o, rfl, hlt, hc⟩ := h hn
  exact ⟨b, o, rfl, hlt, fun i hi => (World.cell?_of_block (a := ⟨b, o + i, none⟩) (hs b (hg _ rfl))).trans (hc i hi)⟩
theorem results_cell {fn : Func} {p : Tmp} {ty : TypeId} (h : fn.results = #[.cell p ty]) (tmps : Array Value) (P : Program) (w : World) :
    (results fn tmps).run P w = ((asAddr (tmps.getD p undef)).run P w).andThen fun a w₁ => (loadVar ty a).run P w₁ := by
  simp only [results, h]
  simp [Sem.run_bind, Result.andThen]
set_option maxHeartbeats 16000000 in
theorem over_any (B : Nat) (a b c : Int) (n1 n2 c1 c2 : Nat) (A1 A2 : Option Addr) (L1 L2 : List Rl) (P1 P2 : Nat → Option Addr × Nat) (w : World) (hB : B ≤ w.heap.size) (h1 : Rls w B A1 L1 P1) (h2 : Rls w B A2 L2 P2) (hn1 : L1.length = n1) (hn2 : L2.length = n2) (hm1 : n1 ≤ 32) (hm2 : n2 ≤ 32) (hc1 : cntB L1 ≤ 1048576) (hc2 : cntB L2 ≤ 1048576) :
    Calls Tryz.prog 107 #[.slice A1 n1 c1, .slice A2 n2 c2, key3 a b c] w (OverPost B L1 L2 a b c w) := by
  have hb1 : ∀ i, i < n1 → (L1.getD i rl0).boxes.length ≤ 1048576 := fun i hi => by
    rw [← hn1] at hi
    rw [getR_lt hi]
    exact Nat.le_trans (cnt_mem (List.getElem_mem hi)) hc1
  have hb2 : ∀ i, i < n2 → (L2.getD i rl0).boxes.length ≤ 1048576 := fun i hi => by
    rw [← hn2] at hi
    rw [getR_lt hi]
    exact Nat.le_trans (cnt_mem (List.getElem_mem hi)) hc2
  have Q1 := Lib.hid (fun (Y : World) (hY : Below w.heap.size w Y) => whoMine_any a b c n1 c1 A1 L1 P1 Y ((h1.keep (hY.mono hB)).more (Nat.le_trans hB hY.size)) hn1 (by omega) hb1)
  have Q2 := Lib.hid (fun (Y : World) (hY : Below w.heap.size w Y) => whoMine_any a b c n2 c2 A2 L2 P2 Y ((h2.keep (hY.mono hB)).more (Nat.le_trans hB hY.size)) hn2 (by omega) hb2)
  have HN1 := Lib.hid (And.intro h1 (And.intro hn1 hc1))
  have HN2 := Lib.hid (And.intro h2 (And.intro hn2 hc2))
  generalize hPost : OverPost B L1 L2 a b c w = Post
  have HPost := Lib.hid hPost
  unfold key3 at Q1 Q2 ⊢
  clear h1 h2 hn1 hn2 hb1 hb2 hc1 hc2 hPost
  go_enter Tryz.func107, Tryz.ntmps107
  go_upto_region 1 with fail
  have HS : (fun w' => w'.cell? ⟨w.heap.size, 0, none⟩ = some (.int .i64 a) ∧ w'.cell? ⟨w.heap.size, 1, none⟩ = some (.int .i64 b) ∧ w'.cell? ⟨w.heap.size, 2, none⟩ = some (.int .i64 c)) ((w.alloc (.cells #[.int .i64 a, .int .i64 b, .int .i64 c] 46)).alloc (.cells #[.int .i64 0, .int .i64 0, .int .i64 0, .slice none 0 0, .slice none 0 0, .slice none 0 0, .slice none 0 0] 199)).drew := ⟨by go_simp, by go_simp, by go_simp⟩
  refine wp_region_early (fun w' => w'.cell? ⟨w.heap.size, 0, none⟩ = some (.int .i64 a) ∧ w'.cell? ⟨w.heap.size, 1, none⟩ = some (.int .i64 b) ∧ w'.cell? ⟨w.heap.size, 2, none⟩ = some (.int .i64 c)) (fun j => decide (j < 7)) (by kernel_rfl) HS (fun HS => ?_)
  (refine wpAnyE_take (i := 0) (v := ?_) rfl (by kernel_rfl) (by kernel_rfl) (by kernel_rfl) (by kernel_rfl) (fun _ _ _ h => h) (Or.inl ⟨by rfl, ?_⟩) HS ?_; rotate_left 1; (focus (intro w9 hSw; (try dsimp only at hSw); go_simp; all_goals (with_reducible rfl))); (try simp only [Act.put, List.setIfInBounds_toArray, List.set_cons_zero, List.set_cons_succ]))
  (refine wpAnyE_take (i := 1) (v := ?_) rfl (by kernel_rfl) (by kernel_rfl) (by kernel_rfl) (by kernel_rfl) (fun _ _ _ h => h) (Or.inl ⟨by rfl, ?_⟩) HS ?_; rotate_left 1; (focus (intro w9 hSw; (try dsimp only at hSw); go_simp; all_goals (with_reducible rfl))); (try simp only [Act.put, List.setIfInBounds_toArray, List.set_cons_zero, List.set_cons_succ]))
  (refine wpAnyE_take (i := 3) (v := ?_) rfl (by kernel_rfl) (by kernel_rfl) (by kernel_rfl) (by kernel_rfl) (fun _ _ _ h => h) (Or.inl ⟨by rfl, ?_⟩) HS ?_; rotate_left 1; (focus (intro w9 hSw; (try dsimp only at hSw); go_simp; all_goals (with_reducible rfl))); (try simp only [Act.put, List.setIfInBounds_toArray, List.set_cons_zero, List.set_cons_succ]))
  (refine wpAnyE_take (i := 4) (v := ?_) rfl (by kernel_rfl) (by kernel_rfl) (by kernel_rfl) (by kernel_rfl) (fun _ _ _ h => h) (Or.inl ⟨by rfl, ?_⟩) HS ?_; rotate_left 1; (focus (intro w9 hSw; (try dsimp only at hSw); go_simp; all_goals (with_reducible rfl))); (try simp only [Act.put, List.setIfInBounds_toArray, List.set_cons_zero, List.set_cons_succ]))
  refine wpAnyE_one (i := 2) rfl (by kernel_rfl) ?_
  go_wp2_with fail
  go_at_call 135
  refine (Q1.out _ (by repeat' (first | (with_reducible exact Below.refl _ _) | (with_reducible assumption) | (with_reducible refine Later.step ?_ ?_ _) | (with_reducible refine Below.alloc ?_ ?_ _) | (with_reducible refine Below.drew ?_) | (with_reducible refine bel_drewN ?_ _) | (with_reducible refine bel_grown ?_ (by assumption) ?_ ?_) | (with_reducible refine Below.setCell ?_ ?_ _) | go_size))).mono ?_
  rintro e w' ⟨C1, cc1, m1, rfl, hl1, ho1, hb1⟩
  obtain ⟨X1, rfl, hx1, hy1⟩ := later _ hb1 (Nat.le_refl _)
  have hz1 : w.heap.size + 2 ≤ X1.w.heap.size := Nat.le_trans (by simp) hx1
  have hm1' : m1 ≤ 32 := by have := mineN_len L1 P1 a b c L1.length; rw [hl1, HN1.out.2.1] at this; omega
  have HS : (fun w' => w'.cell? ⟨w.heap.size, 0, none⟩ = some (.int .i64 a) ∧ w'.cell? ⟨w.heap.size, 1, none⟩ = some (.int .i64 b) ∧ w'.cell? ⟨w.heap.size, 2, none⟩ = some (.int .i64 c)) X1.w := ⟨by go_simp, by go_simp, by go_simp⟩
  have HO1 := Lib.hid (And.intro ho1 (And.intro hl1 hb1))
  clear ho1 hl1 hb1
  go_wp2_with fail
  first | refine ⟨fun _ => HS, ?_⟩ | skip
  refine wpAnyE_one (i := 5) rfl (by kernel_rfl) ?_
  go_wp2_with fail
  go_at_call 135
  refine (Q2.out _ (by repeat' (first | (with_reducible exact Below.refl _ _) | (with_reducible assumption) | (with_reducible refine Later.step ?_ ?_ _) | (with_reducible refine Below.alloc ?_ ?_ _) | (with_reducible refine Below.drew ?_) | (with_reducible refine bel_drewN ?_ _) | (with_reducible refine bel_grown ?_ (by assumption) ?_ ?_) | (with_reducible refine Below.setCell ?_ ?_ _) | go_size))).mono ?_
  rintro e w' ⟨C2, cc2, m2, rfl, hl2, ho2, hb2⟩
  obtain ⟨X2, rfl, hx2, hy2⟩ := later _ hb2 (Nat.le_refl _)
  have hm2' : m2 ≤ 32 := by have := mineN_len L2 P2 a b c L2.length; rw [hl2, HN2.out.2.1] at this; omega
  have HS : (fun w' => w'.cell? ⟨w.heap.size, 0, none⟩ = some (.int .i64 a) ∧ w'.cell? ⟨w.heap.size, 1, none⟩ = some (.int .i64 b) ∧ w'.cell? ⟨w.heap.size, 2, none⟩ = some (.int .i64 c)) X2.w := ⟨by go_simp, by go_simp, by go_simp⟩
  have HO2 := Lib.hid (And.intro ho2 (And.intro hl2 hb2))
  clear ho2 hl2 hb2
  go_wp2_with fail
  first | refine ⟨fun _ => HS, ?_⟩ | skip
  refine wpAnyE_one (i := 6) rfl (by kernel_rfl) ?_
  go_wp2_with fail
  first | refine ⟨fun _ => HS, ?_⟩ | skip
  refine wpAnyE_rest (k := 7) rfl (by kernel_rfl) (fun j hj => by simp; omega) ?_
  simp only [List.drop_succ_cons, List.drop_zero]
  go_wp2_with fail
  have hX2 : Below X2.w.heap.size X2.w (X2.w.alloc (.cells #[.slice C1 m1 cc1, .slice C2 m2 cc2] 22)) := (Below.refl _ _).alloc (Nat.le_refl _) _
  have hX12 : Below X1.w.heap.size X1.w X2.w := by repeat' (first | (with_reducible exact Below.refl _ _) | (with_reducible assumption) | (with_reducible refine Later.step ?_ ?_ _) | (with_reducible refine Below.alloc ?_ ?_ _) | (with_reducible refine Below.drew ?_) | (with_reducible refine bel_drewN ?_ _) | (with_reducible refine bel_grown ?_ (by assumption) ?_ ?_) | (with_reducible refine Below.setCell ?_ ?_ _) | go_size)
  refine (concat_any X2.w.heap.size m1 m2 cc1 cc2 C1 C2 (mineN L1 P1 a b c L1.length) (mineN L2 P2 a b c L2.length) (X2.w.alloc (.cells #[.slice C1 m1 cc1, .slice C2 m2 cc2] 22)) (by simp) (by go_simp) (by go_simp) ((rdv_own HO1.out.1).keep (hX12.trans (hX2.mono hX12.size))) ((rdv_own HO2.out.1).keep hX2) HO1.out.2.1 HO2.out.2.1 (by omega) (by omega)).mono ?_
  rintro e w' ⟨⟨C3, cc3, rfl, ho3⟩, hb3⟩
  obtain ⟨X3, rfl, hx3, hy3⟩ := later _ hb3 (Nat.le_refl _)
  have hw2 : Below w.heap.size w X2.w := by repeat' (first | (with_reducible exact Below.refl _ _) | (with_reducible assumption) | (with_reducible refine Later.step ?_ ?_ _) | (with_reducible refine Below.alloc ?_ ?_ _) | (with_reducible refine Below.drew ?_) | (with_reducible refine bel_drewN ?_ _) | (with_reducible refine bel_grown ?_ (by assumption) ?_ ?_) | (with_reducible refine Below.setCell ?_ ?_ _) | go_size)
  have hw3 : Below w.heap.size w X3.w := (hw2.trans (hX2.mono hw2.size)).trans (hb3.mono (by have := hw2.size; have := hX2.size; omega))
  have hz3 : X2.w.heap.size + 1 ≤ X3.w.heap.size := Nat.le_trans (by simp) hx3
  have hf1 := mineN_fst L1 P1 a b c L1.length (Nat.le_refl _)
  have hf2 := mineN_fst L2 P2 a b c L2.length (Nat.le_refl _)
  rw [List.take_length] at hf1 hf2
  have hfst : ((mineN L1 P1 a b c L1.length) ++ (mineN L2 P2 a b c L2.length)).map Prod.fst = mineR L1 a b c ++ mineR L2 a b c := by rw [List.map_append, hf1, hf2]
  have hlen3 : ((mineN L1 P1 a b c L1.length) ++ (mineN L2 P2 a b c L2.length)).length = m1 + m2 := by rw [List.length_append, HO1.out.2.1, HO2.out.2.1]
  have hrls3 := rls_own ho3 hlen3 (Nat.le_refl _) (fun x hx => by
    rcases List.mem_append.1 hx with hx | hx
    · obtain ⟨i, hi, rfl⟩ := mineN_mem L1.length x hx
      exact ((HN1.out.1.keep (hw3.mono hB)).bx i hi).more (Nat.le_trans hB hw3.size)
    · obtain ⟨i, hi, rfl⟩ := mineN_mem L2.length x hx
      exact ((HN2.out.1.keep (hw3.mono hB)).bx i hi).more (Nat.le_trans hB hw3.size)) (fun x hx => by
    rcases List.mem_append.1 hx with hx | hx
    · obtain ⟨i, hi, rfl⟩ := mineN_mem L1.length x hx
      exact HN1.out.1.cap i hi
    · obtain ⟨i, hi, rfl⟩ := mineN_mem L2.length x hx
      exact HN2.out.1.cap i hi)
  rw [hfst] at hrls3
  have HE := Lib.hid (redges_any (m1 + m2) cc3 C3 (mineR L1 a b c ++ mineR L2 a b c) _ X3.w hrls3 (by rw [← hfst, List.length_map]; exact hlen3) (by rw [cnt_app]; have q1 := cnt_filter (fun r => forR r a b c) L1; have q2 := cnt_filter (fun r => forR r a b c) L2; have := HN1.out.2.2; have := HN2.out.2.2; unfold mineR; omega) (by omega) (fun r hr b' hb' => by
    rcases List.mem_append.1 hr with hr | hr
    · exact ok_rng (mine_ok L1 a b c) r hr b' hb'
    · exact ok_rng (mine_ok L2 a b c) r hr b' hb'))
  have hX13 : Below X1.w.heap.size X1.w X3.w := (hX12.trans (hX2.mono hX12.size)).trans (hb3.mono (by have := hX12.size; have := hX2.size; omega))
  have HO1' := Lib.hid (own_keep HO1.out.1 hX13)
  have HO2' := Lib.hid (own_keep HO2.out.1 (hX2.trans (hb3.mono (by have := hX2.size; omega))))
  have HL := Lib.hid (And.intro HO1.out.2.1 HO2.out.2.1)
  have hbase1 := HO1.out.1.lt
  have hbase2 := HO2.out.1.lt
  have hgn1 : ∀ k, (Value.slice C1 m1 cc1).ownBlock = some k → w.heap.size + 1 ≠ k := fun k hk => by have := (hbase1 k hk).1; simp only [World.size_drew, World.size_alloc] at this; omega
  have hgn2 : ∀ k, (Value.slice C2 m2 cc2).ownBlock = some k → w.heap.size + 1 ≠ k := fun k hk => by have := (hbase2 k hk).1; omega
  have HG := Lib.hid (And.intro hgn1 hgn2)
  have hm12 : m1 + m2 ≤ 64 := by omega
  clear hrls3 hfst hlen3 hf1 hf2 hbase1 hbase2 hgn1 hgn2 ho3 hb3
  go_wp2_with fail
  go_at_call 136
  refine HE.out.mono ?_
  rintro e w' ⟨D, F, cx, cy, mx, my, rfl, ⟨ex, ix⟩, ⟨ey, iy⟩, ⟨lx, ly⟩, hb4⟩
  obtain ⟨X4, rfl, hx4, hy4⟩ := later _ hb4 (Nat.le_refl _)
  have HI := Lib.hid (And.intro (And.intro ex ix) (And.intro (And.intro ey iy) (And.intro lx (And.intro ly hb4))))
  clear ex ix ey iy lx ly hb4
  go_wp2_with fail
  have hX34 : Below X3.w.heap.size X3.w X4.w := HI.out.2.2.2.2
  have hs34 := hX34.size
  have hs03 := hw3.size
  have hbf : Below w.heap.size w (((((((X4.w.setCell ⟨w.heap.size + 1, 0, none⟩ (.int .i64 a)).setCell ⟨w.heap.size + 1, 0 + 1, none⟩ (.int .i64 b)).setCell ⟨w.heap.size + 1, 0 + 2, none⟩ (.int .i64 c)).setCell ⟨w.heap.size + 1, 0 + 3, none⟩ (.slice C1 m1 cc1)).setCell ⟨w.heap.size + 1, 0 + 4, none⟩ (.slice C2 m2 cc2)).setCell ⟨w.heap.size + 1, 0 + 5, none⟩ (.slice D mx cx)).setCell ⟨w.heap.size + 1, 0 + 6, none⟩ (.slice F my cy)) := (hw3.trans (hX34.mono hs03)).trans ((below_set7 (g := w.heap.size + 1) (o := 0) _ _ _ _ _ _ _).mono (Nat.le_succ _))
  have hsf : (((((((X4.w.setCell ⟨w.heap.size + 1, 0, none⟩ (.int .i64 a)).setCell ⟨w.heap.size + 1, 0 + 1, none⟩ (.int .i64 b)).setCell ⟨w.heap.size + 1, 0 + 2, none⟩ (.int .i64 c)).setCell ⟨w.heap.size + 1, 0 + 3, none⟩ (.slice C1 m1 cc1)).setCell ⟨w.heap.size + 1, 0 + 4, none⟩ (.slice C2 m2 cc2)).setCell ⟨w.heap.size + 1, 0 + 5, none⟩ (.slice D mx cx)).setCell ⟨w.heap.size + 1, 0 + 6, none⟩ (.slice F my cy)).heap.size = X4.w.heap.size := by simp only [World.size_setCell]
  have ow1 := own_set7 (g := w.heap.size + 1) (o := 0) (own_keep HO1'.out hX34) HG.out.1 (.int .i64 a) (.int .i64 b) (.int .i64 c) (.slice C1 m1 cc1) (.slice C2 m2 cc2) (.slice D mx cx) (.slice F my cy)
  have ow2 := own_set7 (g := w.heap.size + 1) (o := 0) (own_keep HO2'.out hX34) HG.out.2 (.int .i64 a) (.int .i64 b) (.int .i64 c) (.slice C1 m1 cc1) (.slice C2 m2 cc2) (.slice D mx cx) (.slice F my cy)
  have hh : ∀ j, j ≠ w.heap.size + 1 → (((((((X4.w.setCell ⟨w.heap.size + 1, 0, none⟩ (.int .i64 a)).setCell ⟨w.heap.size + 1, 0 + 1, none⟩ (.int .i64 b)).setCell ⟨w.heap.size + 1, 0 + 2, none⟩ (.int .i64 c)).setCell ⟨w.heap.size + 1, 0 + 3, none⟩ (.slice C1 m1 cc1)).setCell ⟨w.heap.size + 1, 0 + 4, none⟩ (.slice C2 m2 cc2)).setCell ⟨w.heap.size + 1, 0 + 5, none⟩ (.slice D mx cx)).setCell ⟨w.heap.size + 1, 0 + 6, none⟩ (.slice F my cy)).heap[j]? = X4.w.heap[j]? := fun j hj => heap_set7 (o := 0) hj _ _ _ _ _ _ _
  have hix := (HI.out.1.2.off (g := w.heap.size + 1) (fun a' ha => by have := HI.out.2.2.1 a' ha; omega) hh)
  have hiy := (HI.out.2.1.2.off (g := w.heap.size + 1) (fun a' ha => by have := HI.out.2.2.2.1 a' ha; omega) hh)
  have hl1 := fun k hk => HG.out.1 k hk
  have hb1 := ow1.lt
  have hb2 := ow2.lt
  simp only [World.size_drew, World.size_alloc] at hb1
  rw [← hsf] at hix hiy
  obtain ⟨Wf, hWf⟩ : ∃ Wf, (((((((X4.w.setCell ⟨w.heap.size + 1, 0, none⟩ (.int .i64 a)).setCell ⟨w.heap.size + 1, 0 + 1, none⟩ (.int .i64 b)).setCell ⟨w.heap.size + 1, 0 + 2, none⟩ (.int .i64 c)).setCell ⟨w.heap.size + 1, 0 + 3, none⟩ (.slice C1 m1 cc1)).setCell ⟨w.heap.size + 1, 0 + 4, none⟩ (.slice C2 m2 cc2)).setCell ⟨w.heap.size + 1, 0 + 5, none⟩ (.slice D mx cx)).setCell ⟨w.heap.size + 1, 0 + 6, none⟩ (.slice F my cy)) = Wf := ⟨_, rfl⟩
  rw [hWf] at ow1 ow2 hix hiy hbf hb1 hb2 hsf
  have hlow : ∀ k, k < B → ∀ w'', Stay B w.heap.size Wf w'' → w''.heap[k]? = w.heap[k]? := fun k hk w'' hs => (hs.same k (by have := hbf.size; omega) (.inl hk)).trans (hbf.block k (by omega))
  have HFin := Lib.hid (show OverPost B L1 L2 a b c w (.returned (.agg #[.int .i64 a, .int .i64 b, .int .i64 c, .slice C1 m1 cc1, .slice C2 m2 cc2, .slice D mx cx, .slice F my cy])) Wf from ⟨C1, C2, D, F, m1, m2, mx, my, cc1, cc2, cx, cy, _, _, _, _, rfl,
    ⟨fun w'' hs => (mineN_rls HN1.out.1 (fun k hk => hlow k hk w'' hs) (by have := hs.size; have := hbf.size; omega) (own_stay ow1 (fun k hk => hs.same k (hb1 k hk).2 (.inr (by have := (hb1 k hk).1; omega)))) HL.out.1).1, (mineN_rls HN1.out.1 (fun k hk => hlow k hk Wf (Stay.refl _ _ _)) (by have := hbf.size; omega) ow1 HL.out.1).2⟩,
    ⟨fun w'' hs => (mineN_rls HN2.out.1 (fun k hk => hlow k hk w'' hs) (by have := hs.size; have := hbf.size; omega) (own_stay ow2 (fun k hk => hs.same k (hb2 k hk).2 (.inr (by have := (hb2 k hk).1; omega)))) HL.out.2).1, (mineN_rls HN2.out.1 (fun k hk => hlow k hk Wf (Stay.refl _ _ _)) (by have := hbf.size; omega) ow2 HL.out.2).2⟩,
    ⟨rfl, HI.out.1.1, fun w'' hs => hix.stay hs (fun a' ha => by have := HI.out.2.2.1 a' ha; omega)⟩, ⟨rfl, HI.out.2.1.1, fun w'' hs => hiy.stay hs (fun a' ha => by have := HI.out.2.2.2.1 a' ha; omega)⟩, hbf⟩)
  rw [HPost.out] at HFin
  rw [← hWf] at HFin
  clear ow1 ow2 hh hix hiy hbf hsf hl1 hb1 hb2 hlow hWf
  refine bodyPost_ret_by ((results_cell rfl _ _ _).trans ?_) rfl HFin.out
  clear HFin
  go_simp
end Go.Proofs.YthlijfligikciaaGreat

/- overlay.each with some's callback, and some: walked. No condition beyond what the rows read as and how many boxes there are. -/
namespace Go.Proofs.YthlijfligikciaaGreat
open Go.RowKit Go.Maps
set_option linter.unusedSimpArgs false
set_option linter.unusedVariables false
set_option maxRecDepth 2000

theorem some1_any (p m cc : Nat) (C : Option Addr) (y0 y1 : Int) (v : Bool) (w : World) (hp : p < w.heap.size) (h : w.cell? ⟨p, 0, none⟩ = some (.bool v)) (hf : w.frozen? ⟨p, 0, none⟩ = false) :
    Calls Tryz.prog 109 #[.int .i64 y0, .int .i64 y1, .slice C m cc, .pointer (some ⟨p, 0, none⟩)] w fun e w' => e = .returned (.tuple #[]) ∧ w' = w.setCell ⟨p, 0, none⟩ (.bool (v || decide (0 < m))) := by
  cases v with
  | true =>
    go_enter Tryz.func109, Tryz.ntmps109
    go_wp2
    go_end0
    exact ⟨rfl, rfl⟩
  | false =>
    go_enter Tryz.func109, Tryz.ntmps109
    go_wp2
    go_end0
    exact ⟨rfl, by simp⟩
/-- A cell of one's own may change, nothing else. -/
theorem rowTo_set {w w' : World} {p : Nat} (hb : Below w.heap.size w w') (v : Value) : RowTo w p none (w'.setCell ⟨p, 0, none⟩ v) none :=
  ⟨hb.os, hb.tape, hb.output, by rw [World.size_setCell]; exact hb.size, fun k hk hq _ => (Below.heap_setCell w' ⟨p, 0, none⟩ v k hq).trans (hb.block k hk), fun a e => by cases e⟩
/-- Somewhere in rows the zoom goes up. -/
def upRows (z1 z2 : Int → Int → Int) (xs ys : List Int) (j : Nat) : Prop := ∃ i, i < j ∧ upTo (fun x => z1 x (ys.getD i 0)) (fun x => z2 x (ys.getD i 0)) xs (xs.length - 1)
theorem upRows_step {z1 z2 : Int → Int → Int} {xs ys : List Int} {i k : Nat} {P : Prop} (hik : i < k) (h : ∀ j, i ≤ j → j < k → (P ↔ upTo (fun x => z1 x (ys.getD j 0)) (fun x => z2 x (ys.getD j 0)) xs (xs.length - 1))) : upRows z1 z2 xs ys k ↔ (upRows z1 z2 xs ys i ∨ P) := by
  constructor
  · rintro ⟨j, hj, hu⟩
    rcases Nat.lt_or_ge j i with h9 | h9
    · exact .inl ⟨j, h9, hu⟩
    · exact .inr ((h j h9 hj).2 hu)
  · rintro (⟨j, hj, hu⟩ | hp)
    · exact ⟨j, by omega, hu⟩
    · exact ⟨i, hik, (h i (Nat.le_refl _) hik).1 hp⟩
/-- What each leaves: whether there was a run. -/
def EachPost (z1 z2 : Int → Int → Int) (xs ys : List Int) (p : Nat) (w : World) (e : Ending) (w' : World) : Prop :=
  e = .returned (.tuple #[]) ∧ ∃ v : Bool, w'.cell? ⟨p, 0, none⟩ = some (.bool v) ∧ (v = true ↔ upRows z1 z2 xs ys (ys.length - 1)) ∧ RowTo w p none w' none
set_option maxHeartbeats 16000000 in
theorem each_any (a b c : Int) (p n1 n2 c1 c2 nx cx ny cy : Nat) (A1 A2 D F : Option Addr) (L1 L2 : List Rl) (P1 P2 : Nat → Option Addr × Nat) (xs ys : List Int) (w : World) (hp : p < w.heap.size) (hpc : w.cell? ⟨p, 0, none⟩ = some (.bool false)) (hpf : w.frozen? ⟨p, 0, none⟩ = false)
    (h1 : ∀ w', RowTo w p none w' none → Rls w' w'.heap.size A1 L1 P1) (h2 : ∀ w', RowTo w p none w' none → Rls w' w'.heap.size A2 L2 P2) (hn1 : L1.length = n1) (hn2 : L2.length = n2) (hm1 : n1 ≤ 1000000) (hm2 : n2 ≤ 1000000) (hb1 : ∀ i, i < n1 → (L1.getD i rl0).boxes.length ≤ 1048576) (hb2 : ∀ i, i < n2 → (L2.getD i rl0).boxes.length ≤ 1048576)
    (hx : ∀ w', RowTo w p none w' none → Ints w' w'.heap.size D xs) (hxn : xs.length = nx) (hx1 : nx ≤ 65537) (hxr : ∀ x ∈ xs, 0 ≤ x ∧ x ≤ 65536) (hy : ∀ w', RowTo w p none w' none → Ints w' w'.heap.size F ys) (hyn : ys.length = ny) (hy1 : ny ≤ 65537) (hyr : ∀ y ∈ ys, 0 ≤ y ∧ y ≤ 65536) :
    Calls Tryz.prog 108 #[.agg #[.int .i64 a, .int .i64 b, .int .i64 c, .slice A1 n1 c1, .slice A2 n2 c2, .slice D nx cx, .slice F ny cy], .func (.func 25) #[] #[], .func (.func 109) #[] #[.pointer (some ⟨p, 0, none⟩)]] w (EachPost (zoomR L1 a b c) (zoomR L2 a b c) xs ys p w) := by
  have G := Lib.hid (fun (Y : World) (hY : RowTo w p none Y none) (y : Int) => rrow_any a b c n1 n2 c1 c2 nx cx ny cy A1 A2 D F L1 L2 P1 P2 xs y Y (h1 Y hY) (h2 Y hY) hn1 hn2 hm1 hm2 hb1 hb2 (hx Y hY) hxn hx1 hxr)
  generalize zoomR L1 a b c = z1 at G ⊢
  generalize zoomR L2 a b c = z2 at G ⊢
  have HY := Lib.hid (And.intro hy (And.intro hyn (And.intro hyr hxn)))
  have HF := Lib.hid (show ∀ (v : Bool) w', w'.cell? ⟨p, 0, none⟩ = some (.bool v) → (v = true ↔ upRows z1 z2 xs ys (ys.length - 1)) → RowTo w p none w' none → EachPost z1 z2 xs ys p w (.returned (.tuple #[])) w' from fun v w' e1 e2 e3 => ⟨rfl, v, e1, e2, e3⟩)
  generalize EachPost z1 z2 xs ys p w = Post at HF ⊢
  clear h1 h2 hn1 hn2 hb1 hb2 hx hxn hxr hy hyn hyr
  go_enter Tryz.func108, Tryz.ntmps108
  go_wp2_with fail
  obtain ⟨W, hW⟩ : ∃ W : World, W = (w.alloc (.cells #[.int .i64 a, .int .i64 b, .int .i64 c, .slice A1 n1 c1, .slice A2 n2 c2, .slice D nx cx, .slice F ny cy] 199)) := ⟨_, rfl⟩
  have hbW : Below w.heap.size w W := by rw [hW]; exact (Below.refl _ _).alloc (Nat.le_refl _) _
  have hsW : w.heap.size + 1 ≤ W.heap.size := by rw [hW]; simp
  have hpW : W.cell? ⟨p, 0, none⟩ = some (.bool false) := (hbW.cell (p := ⟨p, 0, none⟩) hp).trans hpc
  have hfW : W.frozen? ⟨p, 0, none⟩ = false := (hbW.frozen (p := ⟨p, 0, none⟩) hp).trans hpf
  have HTW := Lib.hid (RowTo.below (q := p) (A := none) hbW)
  have HWe := Lib.hid hW
  rw [← hW]
  clear hW hbW
  go_loopw [6] (fun i wr => ∃ (k : Nat) (v : Bool), (k ≤ 65537 ∧ Hid ((v = true ↔ upRows z1 z2 xs ys k) ∧ (wr.cell? ⟨p, 0, none⟩ = some (.bool v) ∧ wr.frozen? ⟨p, 0, none⟩ = false) ∧ RowTo W p none wr none ∧ (k < ny ∨ k = 0))) ∧ i = .int .i64 k ∧ W.heap.size ≤ wr.heap.size) (fun i _ => ny - (intOf i).toNat)
  case atStart => exact ⟨0, false, ⟨by omega, ⟨fun h => (by cases h), fun ⟨j, hj, _⟩ => absurd hj (Nat.not_lt_zero j)⟩, ⟨hpW, hfW⟩, RowTo.refl _ _ _, .inr rfl⟩, rfl, Nat.le_refl _⟩
  case round =>
    obtain ⟨k, v, ⟨hk, hrel⟩, rfl, hsz⟩ := hrel
    obtain ⟨V, hV⟩ : ∃ V : World, V = wr := ⟨_, rfl⟩
    subst hV
    have hto := hrel.out.2.2.1
    have hpwr : p < V.heap.size := by omega
    have hoff : Off p none w.heap.size := ⟨by omega, fun _ h => by cases h⟩
    have HTR := Lib.hid (HTW.out.trans hto)
    by_cases hlt : k + 1 < ny
    · obtain ⟨bb, o, hSe, hB, hc⟩ := HY.out.1 V HTR.out (by rw [HY.out.2.1]; omega)
      subst hSe
      rw [HWe.out] at hto
      have o0 : V.cell? ⟨w.heap.size, 0, none⟩ = some (.int .i64 a) := (hto.cell (j := 0) (by simp) hoff).trans (by go_simp)
      have o1 : V.cell? ⟨w.heap.size, 1, none⟩ = some (.int .i64 b) := (hto.cell (j := 1) (by simp) hoff).trans (by go_simp)
      have o2 : V.cell? ⟨w.heap.size, 2, none⟩ = some (.int .i64 c) := (hto.cell (j := 2) (by simp) hoff).trans (by go_simp)
      have o3 : V.cell? ⟨w.heap.size, 3, none⟩ = some (.slice A1 n1 c1) := (hto.cell (j := 3) (by simp) hoff).trans (by go_simp)
      have o4 : V.cell? ⟨w.heap.size, 4, none⟩ = some (.slice A2 n2 c2) := (hto.cell (j := 4) (by simp) hoff).trans (by go_simp)
      have o5 : V.cell? ⟨w.heap.size, 5, none⟩ = some (.slice D nx cx) := (hto.cell (j := 5) (by simp) hoff).trans (by go_simp)
      have o6 : V.cell? ⟨w.heap.size, 6, none⟩ = some (.slice (some ⟨bb, o, none⟩) ny cy) := (hto.cell (j := 6) (by simp) hoff).trans (by go_simp)
      clear hto hoff
      have pc := hrel.out.2.1.1
      have pf := hrel.out.2.1.2
      have hr0 := getD_rng HY.out.2.2.1 k
      have q0 := hc k (by rw [HY.out.2.1]; omega)
      have HC := Lib.hid (fun (j : Nat) (hj : j < ny) => hc j (by rw [HY.out.2.1]; exact hj))
      have G3 := Lib.hid (fun (Y : World) (hY : Below V.heap.size V Y) (y : Int) => G.out Y (HTR.out.trans (RowTo.below hY)) y)
      obtain ⟨y0, hy0⟩ : ∃ y, ys.getD k 0 = y := ⟨_, rfl⟩
      have HY0 := Lib.hid hy0
      rw [hy0] at hr0 q0
      clear hc hy0
      go_wp2_with fail
      (refine wp_region_later_tail 7 (V.heap.size) (by kernel_rfl) (by kernel_rfl) (by go_size) ?_; simp only [List.take_succ_cons, List.take_zero, List.drop_succ_cons, List.drop_zero]; (repeat (go_big_quiet_step (fail))); refine wpQuiet_nil ?_; intro Xr hlXr hmXr)
      go_wp2_with fail
      go_at_call 138
      refine (G3.out _ (by repeat' (first | (with_reducible exact Below.refl _ _) | (with_reducible assumption) | (with_reducible refine Later.step ?_ ?_ _) | (with_reducible refine Below.alloc ?_ ?_ _) | (with_reducible refine Below.drew ?_) | (with_reducible refine bel_drewN ?_ _) | (with_reducible refine bel_grown ?_ (by assumption) ?_ ?_) | (with_reducible refine Below.setCell ?_ ?_ _) | go_size)) _).mono ?_
      rintro e w' ⟨C9, cc9, m9, M9, rfl, hl9, hm9, hx9, hu9, hb⟩
      obtain ⟨X3, rfl, hl3, hm3⟩ := later _ hb (Nat.le_refl _)
      clear hb
      have HM9 := Lib.hid (And.intro hl9 (And.intro hx9 hu9))
      clear hl9 hx9 hu9
      go_upto_block 2 with fail
      go_cut [8] from 25 to 44 (fun kk wx => ∃ k2 : Nat, ((k < k2 ∧ k2 < ny) ∧ Hid (∀ j, k ≤ j → j < k2 → (0 < m9 ↔ upTo (fun x => z1 x (ys.getD j 0)) (fun x => z2 x (ys.getD j 0)) xs (xs.length - 1)))) ∧ kk = .int .i64 k2 ∧ Below X3.w.heap.size X3.w wx)
      case first =>
        go_wp2_with fail
        go_loopw [8] (fun kk wx => ∃ k2 : Nat, ((k < k2 ∧ k2 < ny) ∧ Hid (∀ j, k ≤ j → j < k2 → (0 < m9 ↔ upTo (fun x => z1 x (ys.getD j 0)) (fun x => z2 x (ys.getD j 0)) xs (xs.length - 1)))) ∧ kk = .int .i64 k2 ∧ Below X3.w.heap.size X3.w wx) (fun kk _ => ny - (intOf kk).toNat)
        case atStart => exact ⟨k + 1, ⟨⟨by omega, hlt⟩, fun j h1 h2 => by have e : j = k := (by omega); rw [e, HY0.out]; exact HM9.out.2.2⟩, by go_num, Below.refl _ _⟩
        case round =>
          obtain ⟨k2, ⟨⟨h1, h2⟩, hall⟩, rfl, hb4⟩ := hrel
          obtain ⟨X4, rfl⟩ : ∃ X4 : Later X3.w.heap.size X3.w, wr = X4.w := ⟨⟨wr, hb4⟩, rfl⟩
          have hs4 := hb4.size
          clear hb4
          by_cases hlt2 : k2 + 1 < ny
          · have hc2 := HC.out k2 h2
            have hrow : ∀ (m10 : Nat), (0 < m10 ↔ upTo (fun x => z1 x (ys.getD k2 0)) (fun x => z2 x (ys.getD k2 0)) xs (xs.length - 1)) → m9 = m10 → ∀ j, k ≤ j → j < k2 + 1 → (0 < m9 ↔ upTo (fun x => z1 x (ys.getD j 0)) (fun x => z2 x (ys.getD j 0)) xs (xs.length - 1)) := fun m10 hM he j hj1 hj2 => by
              rcases Nat.lt_or_eq_of_le (Nat.le_of_lt_succ hj2) with h | h
              · exact hall.out j hj1 h
              · rw [h, he]; exact hM
            obtain ⟨y2, hy2⟩ : ∃ y, ys.getD k2 0 = y := ⟨_, rfl⟩
            rw [hy2] at hc2 hrow
            have HR2 := Lib.hid hrow
            clear hrow hy2
            have hg2 : decide ((k2 : Int) + 1 < (ny : Int)) = true := decide_eq_true (by omega)
            have wk : IntKind.i64.wrap ((k2 : Int) + 1) = (k2 : Int) + 1 := IntWalk.i64_in _ (by omega)
            go_wp2_with fail
            have HS : (fun w' => w'.cell? ⟨w.heap.size, 0, none⟩ = some (.int .i64 a) ∧ w'.cell? ⟨w.heap.size, 1, none⟩ = some (.int .i64 b) ∧ w'.cell? ⟨w.heap.size, 2, none⟩ = some (.int .i64 c) ∧ w'.cell? ⟨w.heap.size, 3, none⟩ = some (.slice A1 n1 c1) ∧ w'.cell? ⟨w.heap.size, 4, none⟩ = some (.slice A2 n2 c2) ∧ w'.cell? ⟨w.heap.size, 5, none⟩ = some (.slice D nx cx) ∧ w'.cell? ⟨w.heap.size, 6, none⟩ = some (.slice (some ⟨bb, o, none⟩) ny cy) ∧ w'.cell? ⟨bb, o + k2, none⟩ = some (.int .i64 y2)) X4.w.drew := ⟨by go_simp, by go_simp, by go_simp, by go_simp, by go_simp, by go_simp, by go_simp, by go_simp⟩
            refine wp_region_early (fun w' => w'.cell? ⟨w.heap.size, 0, none⟩ = some (.int .i64 a) ∧ w'.cell? ⟨w.heap.size, 1, none⟩ = some (.int .i64 b) ∧ w'.cell? ⟨w.heap.size, 2, none⟩ = some (.int .i64 c) ∧ w'.cell? ⟨w.heap.size, 3, none⟩ = some (.slice A1 n1 c1) ∧ w'.cell? ⟨w.heap.size, 4, none⟩ = some (.slice A2 n2 c2) ∧ w'.cell? ⟨w.heap.size, 5, none⟩ = some (.slice D nx cx) ∧ w'.cell? ⟨w.heap.size, 6, none⟩ = some (.slice (some ⟨bb, o, none⟩) ny cy) ∧ w'.cell? ⟨bb, o + k2, none⟩ = some (.int .i64 y2)) (fun j => decide (j < 18)) (by kernel_rfl) HS (fun HS => ?_)
            (refine wpAnyE_take (i := 0) (v := ?_) rfl (by kernel_rfl) (by kernel_rfl) (by kernel_rfl) (by kernel_rfl) (fun _ _ _ h => h) (Or.inl ⟨by rfl, ?_⟩) HS ?_; rotate_left 1; (focus (intro w9 hSw; (try dsimp only at hSw); go_simp; all_goals (with_reducible rfl))); (try simp only [Act.put, List.setIfInBounds_toArray, List.set_cons_zero, List.set_cons_succ]))
            (refine wpAnyE_take (i := 1) (v := ?_) rfl (by kernel_rfl) (by kernel_rfl) (by kernel_rfl) (by kernel_rfl) (fun _ _ _ h => h) (Or.inl ⟨by rfl, ?_⟩) HS ?_; rotate_left 1; (focus (intro w9 hSw; (try dsimp only at hSw); go_simp; all_goals (with_reducible rfl))); (try simp only [Act.put, List.setIfInBounds_toArray, List.set_cons_zero, List.set_cons_succ]))
            (refine wpAnyE_take (i := 2) (v := ?_) rfl (by kernel_rfl) (by kernel_rfl) (by kernel_rfl) (by kernel_rfl) (fun _ _ _ h => h) (Or.inl ⟨by rfl, ?_⟩) HS ?_; rotate_left 1; (focus (intro w9 hSw; (try dsimp only at hSw); go_simp; all_goals (with_reducible rfl))); (try simp only [Act.put, List.setIfInBounds_toArray, List.set_cons_zero, List.set_cons_succ]))
            (refine wpAnyE_take (i := 3) (v := ?_) rfl (by kernel_rfl) (by kernel_rfl) (by kernel_rfl) (by kernel_rfl) (fun _ _ _ h => h) (Or.inl ⟨by rfl, ?_⟩) HS ?_; rotate_left 1; (focus (intro w9 hSw; (try dsimp only at hSw); go_simp; all_goals (with_reducible rfl))); (try simp only [Act.put, List.setIfInBounds_toArray, List.set_cons_zero, List.set_cons_succ]))
            (refine wpAnyE_take (i := 4) (v := ?_) rfl (by kernel_rfl) (by kernel_rfl) (by kernel_rfl) (by kernel_rfl) (fun _ _ _ h => h) (Or.inl ⟨by rfl, ?_⟩) HS ?_; rotate_left 1; (focus (intro w9 hSw; (try dsimp only at hSw); go_simp; all_goals (with_reducible rfl))); (try simp only [Act.put, List.setIfInBounds_toArray, List.set_cons_zero, List.set_cons_succ]))
            (refine wpAnyE_take (i := 5) (v := ?_) rfl (by kernel_rfl) (by kernel_rfl) (by kernel_rfl) (by kernel_rfl) (fun _ _ _ h => h) (Or.inl ⟨by rfl, ?_⟩) HS ?_; rotate_left 1; (focus (intro w9 hSw; (try dsimp only at hSw); go_simp; all_goals (with_reducible rfl))); (try simp only [Act.put, List.setIfInBounds_toArray, List.set_cons_zero, List.set_cons_succ]))
            (refine wpAnyE_take (i := 6) (v := ?_) rfl (by kernel_rfl) (by kernel_rfl) (by kernel_rfl) (by kernel_rfl) (fun _ _ _ h => h) (Or.inl ⟨by rfl, ?_⟩) HS ?_; rotate_left 1; (focus (intro w9 hSw; (try dsimp only at hSw); go_simp; all_goals (with_reducible rfl))); (try simp only [Act.put, List.setIfInBounds_toArray, List.set_cons_zero, List.set_cons_succ]))
            (refine wpAnyE_take (i := 7) (v := ?_) rfl (by kernel_rfl) (by kernel_rfl) (by kernel_rfl) (by kernel_rfl) (fun _ _ _ h => h) (Or.inl ⟨by kernel_rfl, ?_⟩) HS ?_; rotate_left 1; (focus (intro w9 hSw; (try dsimp only at hSw); go_simp; all_goals (with_reducible rfl))); (try simp only [Act.put, List.setIfInBounds_toArray, List.set_cons_zero, List.set_cons_succ]))
            (refine wpAnyE_take (i := 8) (v := ?_) rfl (by kernel_rfl) (by kernel_rfl) (by kernel_rfl) (by kernel_rfl) (fun _ _ _ h => h) (Or.inl ⟨by kernel_rfl, ?_⟩) HS ?_; rotate_left 1; (focus (intro w9 hSw; (try dsimp only at hSw); go_simp; all_goals (with_reducible rfl))); (try simp only [Act.put, List.setIfInBounds_toArray, List.set_cons_zero, List.set_cons_succ]))
            (refine wpAnyE_take (i := 9) (v := ?_) rfl (by kernel_rfl) (by kernel_rfl) (by kernel_rfl) (by kernel_rfl) (fun _ _ _ h => h) (Or.inl ⟨by kernel_rfl, ?_⟩) HS ?_; rotate_left 1; (focus (intro w9 hSw; (try dsimp only at hSw); go_simp; all_goals (with_reducible rfl))); (try simp only [Act.put, List.setIfInBounds_toArray, List.set_cons_zero, List.set_cons_succ]))
            (refine wpAnyE_take (i := 10) (v := ?_) rfl (by kernel_rfl) (by kernel_rfl) (by kernel_rfl) (by kernel_rfl) (fun _ _ _ h => h) (Or.inl ⟨by kernel_rfl, ?_⟩) HS ?_; rotate_left 1; (focus (intro w9 hSw; (try dsimp only at hSw); go_simp; all_goals (with_reducible rfl))); (try simp only [Act.put, List.setIfInBounds_toArray, List.set_cons_zero, List.set_cons_succ]))
            (refine wpAnyE_take (i := 11) (v := ?_) rfl (by kernel_rfl) (by kernel_rfl) (by kernel_rfl) (by kernel_rfl) (fun _ _ _ h => h) (Or.inl ⟨by kernel_rfl, ?_⟩) HS ?_; rotate_left 1; (focus (intro w9 hSw; (try dsimp only at hSw); go_simp; all_goals (with_reducible rfl))); (try simp only [Act.put, List.setIfInBounds_toArray, List.set_cons_zero, List.set_cons_succ]))
            (refine wpAnyE_take (i := 12) (v := ?_) rfl (by kernel_rfl) (by kernel_rfl) (by kernel_rfl) (by kernel_rfl) (fun _ _ _ h => h) (Or.inl ⟨by kernel_rfl, ?_⟩) HS ?_; rotate_left 1; (focus (intro w9 hSw; (try dsimp only at hSw); go_simp; all_goals (with_reducible rfl))); (try simp only [Act.put, List.setIfInBounds_toArray, List.set_cons_zero, List.set_cons_succ]))
            (refine wpAnyE_take (i := 13) (v := ?_) rfl (by kernel_rfl) (by kernel_rfl) (by kernel_rfl) (by kernel_rfl) (fun _ _ _ h => h) (Or.inl ⟨by kernel_rfl, ?_⟩) HS ?_; rotate_left 1; (focus (intro w9 hSw; (try dsimp only at hSw); go_simp; all_goals (with_reducible rfl))); (try simp only [Act.put, List.setIfInBounds_toArray, List.set_cons_zero, List.set_cons_succ]))
            (refine wpAnyE_take (i := 14) (v := ?_) rfl (by kernel_rfl) (by kernel_rfl) (by kernel_rfl) (by kernel_rfl) (fun _ _ _ h => h) (Or.inl ⟨by kernel_rfl, ?_⟩) HS ?_; rotate_left 1; (focus (intro w9 hSw; (try dsimp only at hSw); go_simp; all_goals (with_reducible rfl))); (try simp only [Act.put, List.setIfInBounds_toArray, List.set_cons_zero, List.set_cons_succ]))
            refine wpAnyE_oneG (i := 15) rfl (by kernel_rfl) (by kernel_rfl) ?_
            go_wp2_with fail
            go_at_call 138
            refine (G3.out _ (by repeat' (first | (with_reducible exact Below.refl _ _) | (with_reducible assumption) | (with_reducible refine Later.step ?_ ?_ _) | (with_reducible refine Below.alloc ?_ ?_ _) | (with_reducible refine Below.drew ?_) | (with_reducible refine bel_drewN ?_ _) | (with_reducible refine bel_grown ?_ (by assumption) ?_ ?_) | (with_reducible refine Below.setCell ?_ ?_ _) | go_size)) _).mono ?_
            rintro e w' ⟨C10, cc10, m10, M10, rfl, hl10, hm10, hx10, hu10, hb⟩
            have hk5 : ∀ bl j, bl < X4.w.heap.size → w'.cell? ⟨bl, j, none⟩ = X4.w.cell? ⟨bl, j, none⟩ := fun bl j h => hb.cell (p := ⟨bl, j, none⟩) h
            obtain ⟨X5, rfl, hl5, hm5⟩ := later _ hb (Nat.le_refl _)
            clear hb
            have HM10 := Lib.hid (And.intro hl10 (And.intro hx10 hu10))
            clear hl10 hx10 hu10
            have hz5 : X4.w.heap.size ≤ X5.w.heap.size := Nat.le_trans (by simp) hl5
            have HS : (fun w' => w'.cell? ⟨w.heap.size, 0, none⟩ = some (.int .i64 a) ∧ w'.cell? ⟨w.heap.size, 1, none⟩ = some (.int .i64 b) ∧ w'.cell? ⟨w.heap.size, 2, none⟩ = some (.int .i64 c) ∧ w'.cell? ⟨w.heap.size, 3, none⟩ = some (.slice A1 n1 c1) ∧ w'.cell? ⟨w.heap.size, 4, none⟩ = some (.slice A2 n2 c2) ∧ w'.cell? ⟨w.heap.size, 5, none⟩ = some (.slice D nx cx) ∧ w'.cell? ⟨w.heap.size, 6, none⟩ = some (.slice (some ⟨bb, o, none⟩) ny cy) ∧ w'.cell? ⟨bb, o + k2, none⟩ = some (.int .i64 y2)) X5.w := ⟨(hk5 _ _ (by go_size)).trans (by go_simp), (hk5 _ _ (by go_size)).trans (by go_simp), (hk5 _ _ (by go_size)).trans (by go_simp), (hk5 _ _ (by go_size)).trans (by go_simp), (hk5 _ _ (by go_size)).trans (by go_simp), (hk5 _ _ (by go_size)).trans (by go_simp), (hk5 _ _ (by go_size)).trans (by go_simp), (hk5 _ _ (by go_size)).trans (by go_simp)⟩
            clear hk5
            go_wp2_with fail
            first | refine ⟨fun _ => HS, ?_⟩ | skip
            refine wpAnyE_oneG (i := 16) rfl (by kernel_rfl) (by kernel_rfl) ?_
            go_wp2_with fail
            go_at_call 139
            refine (requal_any m9 m10 cc9 cc10 C9 C10 M9 M10 _ ((HM9.out.2.1.keep (by repeat' (first | (with_reducible exact Below.refl _ _) | (with_reducible assumption) | (with_reducible refine Later.step ?_ ?_ _) | (with_reducible refine Below.alloc ?_ ?_ _) | (with_reducible refine Below.drew ?_) | (with_reducible refine bel_drewN ?_ _) | (with_reducible refine bel_grown ?_ (by assumption) ?_ ?_) | (with_reducible refine Below.setCell ?_ ?_ _) | go_size))).more (by go_size)) HM10.out.2.1 HM9.out.1 HM10.out.1 (by omega)).mono ?_
            rintro e w' ⟨rfl, hb⟩; obtain ⟨X6, rfl, hl6, hm6⟩ := later _ hb (Nat.le_refl _); clear hb; (try simp only [World.size_alloc, World.size_setCell, World.size_drew] at hm6 hl6)
            obtain ⟨R, hR⟩ : ∃ R, decide (M9 = M10) = R := ⟨_, rfl⟩
            have HR := Lib.hid hR
            rw [hR]
            clear hR
            have HS : (fun w' => w'.cell? ⟨w.heap.size, 0, none⟩ = some (.int .i64 a) ∧ w'.cell? ⟨w.heap.size, 1, none⟩ = some (.int .i64 b) ∧ w'.cell? ⟨w.heap.size, 2, none⟩ = some (.int .i64 c) ∧ w'.cell? ⟨w.heap.size, 3, none⟩ = some (.slice A1 n1 c1) ∧ w'.cell? ⟨w.heap.size, 4, none⟩ = some (.slice A2 n2 c2) ∧ w'.cell? ⟨w.heap.size, 5, none⟩ = some (.slice D nx cx) ∧ w'.cell? ⟨w.heap.size, 6, none⟩ = some (.slice (some ⟨bb, o, none⟩) ny cy) ∧ w'.cell? ⟨bb, o + k2, none⟩ = some (.int .i64 y2)) X6.w := ⟨by go_simp, by go_simp, by go_simp, by go_simp, by go_simp, by go_simp, by go_simp, by go_simp⟩
            go_wp2_with fail
            first | refine ⟨fun _ => HS, ?_⟩ | skip
            refine wpAnyE_one (i := 17) rfl (by kernel_rfl) ?_
            go_wp2_with fail
            first | refine ⟨fun _ => HS, ?_⟩ | skip
            refine ⟨by kernel_rfl, ?_⟩
            clear HS
            cases R with
            | true =>
              go_wp2_with fail
              go_roundw
              case rel => exact ⟨k2 + 1, ⟨⟨by omega, hlt2⟩, HR2.out m10 HM10.out.2.2 (by have := of_decide_eq_true HR.out; rw [← HM9.out.1, ← HM10.out.1, this])⟩, by go_num, by repeat' (first | (with_reducible exact Below.refl _ _) | (with_reducible assumption) | (with_reducible refine Later.step ?_ ?_ _) | (with_reducible refine Below.alloc ?_ ?_ _) | (with_reducible refine Below.drew ?_) | (with_reducible refine bel_drewN ?_ _) | (with_reducible refine bel_grown ?_ (by assumption) ?_ ?_) | (with_reducible refine Below.setCell ?_ ?_ _) | go_size)⟩
              case measure => simp [intOf]; omega
            | false =>
              go_wp2_with fail
              go_meet
              exact ⟨k2, ⟨⟨h1, h2⟩, hall⟩, rfl, by repeat' (first | (with_reducible exact Below.refl _ _) | (with_reducible assumption) | (with_reducible refine Later.step ?_ ?_ _) | (with_reducible refine Below.alloc ?_ ?_ _) | (with_reducible refine Below.drew ?_) | (with_reducible refine bel_drewN ?_ _) | (with_reducible refine bel_grown ?_ (by assumption) ?_ ?_) | (with_reducible refine Below.setCell ?_ ?_ _) | go_size)⟩
          · have hg2 : decide ((k2 : Int) + 1 < (ny : Int)) = false := decide_eq_false (by omega)
            go_wp2_with fail
            (refine wp_region_later (X4.w.heap.size) (by kernel_rfl) (by kernel_rfl) (by go_size) ?_; (repeat (go_big_quiet_step (fail))); refine wpQuiet_nil ?_; intro Xg hlXg hmXg)
            go_wp2_with fail
            go_meet
            exact ⟨k2, ⟨⟨h1, h2⟩, hall⟩, rfl, by repeat' (first | (with_reducible exact Below.refl _ _) | (with_reducible assumption) | (with_reducible refine Later.step ?_ ?_ _) | (with_reducible refine Below.alloc ?_ ?_ _) | (with_reducible refine Below.drew ?_) | (with_reducible refine bel_drewN ?_ _) | (with_reducible refine bel_grown ?_ (by assumption) ?_ ?_) | (with_reducible refine Below.setCell ?_ ?_ _) | go_size)⟩
      case rest =>
        obtain ⟨k2, ⟨⟨h1, h2⟩, hall⟩, rfl, hb4⟩ := hcut
        obtain ⟨X4, rfl⟩ : ∃ X4 : Later X3.w.heap.size X3.w, wc = X4.w := ⟨⟨wc, hb4⟩, rfl⟩
        have hs4 := hb4.size
        have hc2 := HC.out k2 h2
        have hr2 := getD_rng HY.out.2.2.1 k2
        have hup := upRows_step (z1 := z1) (z2 := z2) (xs := xs) (ys := ys) h1 hall.out
        have HUP := Lib.hid hup
        obtain ⟨y2, hy2⟩ : ∃ y, ys.getD k2 0 = y := ⟨_, rfl⟩
        rw [hy2] at hc2 hr2
        clear hb4 hy2 hup hall
        go_wp2_with fail
        (refine wp_region_later_tail 13 (X4.w.heap.size) (by kernel_rfl) (by kernel_rfl) (by go_size) ?_; simp only [List.take_succ_cons, List.take_zero, List.drop_succ_cons, List.drop_zero]; (repeat (go_big_quiet_step (fail))); refine wpQuiet_nil ?_; intro Xe hlXe hmXe)
        have hbx : Below V.heap.size V Xe.w := by repeat' (first | (with_reducible exact Below.refl _ _) | (with_reducible assumption) | (with_reducible refine Later.step ?_ ?_ _) | (with_reducible refine Below.alloc ?_ ?_ _) | (with_reducible refine Below.drew ?_) | (with_reducible refine bel_drewN ?_ _) | (with_reducible refine bel_grown ?_ (by assumption) ?_ ?_) | (with_reducible refine Below.setCell ?_ ?_ _) | go_size)
        have hs5 := hbx.size
        have pce : Xe.w.cell? ⟨p, 0, none⟩ = some (.bool v) := (hbx.cell (p := ⟨p, 0, none⟩) hpwr).trans pc
        have pfe : Xe.w.frozen? ⟨p, 0, none⟩ = false := (hbx.frozen (p := ⟨p, 0, none⟩) hpwr).trans pf
        have HNW := Lib.hid (show ((v || decide (0 < m9)) = true ↔ upRows z1 z2 xs ys k2) ∧ RowTo W p none (Xe.w.setCell ⟨p, 0, none⟩ (.bool (v || decide (0 < m9)))) none from ⟨by rw [HUP.out, Bool.or_eq_true, decide_eq_true_eq, hrel.out.1], hrel.out.2.2.1.trans (rowTo_set hbx _)⟩)
        go_wp2_with fail
        go_at_call 109
        refine (some1_any p m9 cc9 C9 y0 (y2 - 1) v _ (by omega) pce pfe).mono ?_
        rintro e w' ⟨rfl, rfl⟩
        go_wp2_with fail
        go_roundw
        case rel => exact ⟨k2, _, ⟨by omega, HNW.out.1, ⟨by go_simp, by go_simp⟩, HNW.out.2, .inl h2⟩, rfl, by rw [World.size_setCell]; omega⟩
        case measure => simp [intOf]; omega
    · have hkn : k = ys.length - 1 := by have := hrel.out.2.2.2; rw [HY.out.2.1]; omega
      have HE := Lib.hid (HF.out v V hrel.out.2.1.1 (by rw [← hkn]; exact hrel.out.1) HTR.out)
      have hof2 : V.cell? ⟨w.heap.size, 6, none⟩ = some (.slice F ny cy) := by
        rw [HWe.out] at hto
        exact (hto.cell (j := 6) (by simp) hoff).trans (by go_simp)
      clear hto hkn hoff
      go_wp2_with fail
      go_end0
      exact HE.out
end Go.Proofs.YthlijfligikciaaGreat
