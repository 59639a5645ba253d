/- Several texts of one proof, joined: What is found, at one record: first: walked. No condition. | plan.Near's callback at one record that is seen: walked. No condition beyond what the table holds. | plan.levels with Near's callback, plan.ask, plan.Near, at one record that is seen: walked. No condition beyond what the table holds. | plan.ask, plan.Near, at one record that is seen: walked. No condition beyond what the table holds. -/
import Derived.Test.YthlijfligikciaaGreatZ24
import Derived.Test.YthlijfligikciaaGreatZ20
/- What is found, at one record: first: walked. No condition. -/
namespace Go.Proofs.YthlijfligikciaaGreat
open Go.RowKit Go.Maps
set_option linter.unusedSimpArgs false
set_option linter.unusedVariables false
set_option maxRecDepth 2000

theorem cells_six_new (w : World) (a b c d e f : Value) (t : TypeId) : ∀ n u, ([a, b, c, d, e, f] : List Value)[n]? = some u → (w.alloc (.cells #[a, b, c, d, e, f] t)).cell? ((⟨w.heap.size, 0, none⟩ : Addr).add n) = some u := by
  intro n u hj
  match n, hj with
  | 0, hj | 1, hj | 2, hj | 3, hj | 4, hj | 5, hj => simp at hj; subst hj; simp [Addr.add]
set_option maxHeartbeats 16000000 in
theorem ffirst_one (f fq m cq : Nat) (C : Option Addr) (key id l a b c d : Int) (w : World) (h : Fd w f fq m 1 (fun x => if x = id then some (.agg #[.int .i64 id, .int .i64 l, .int .i64 a, .int .i64 b, .int .i64 c, .int .i64 d]) else none) C 1 cq [.int .u64 key, .int .u64 0, .int .i64 id]) (hid : wf64 id) :
    Calls Tryz.prog 42 #[.pointer (some ⟨f, 0, none⟩), .int .i64 1] w fun e w' => ∃ A ca, e = .returned (.slice A 1 ca) ∧ w'.ownsRow w.heap.size 48 6 (.slice A 1 ca) 1 [.int .i64 id, .int .i64 l, .int .i64 a, .int .i64 b, .int .i64 c, .int .i64 d] ∧ Chg (fun j => j = fq ∨ gP C j) w w' := by
  obtain ⟨i0, hi, hz0, hz1, hz2⟩ := info_parts (show (Tryz.prog.info? 48).map (fun i => (i.zero, i.size, i.bytes)) = some (some (.agg #[.int .i64 0, .int .i64 0, .int .i64 0, .int .i64 0, .int .i64 0, .int .i64 0]), 6, 48) by kernel_rfl)
  have PD := Lib.hid (qdrain_one fq cq C key 0 id w h.q)
  have H := Lib.hid h
  have c0 := h.c0
  have c1 := h.c1
  have hf := h.lt
  have hm := h.mp.lt
  have ho := h.ord
  clear h
  go_enter Tryz.func42, Tryz.ntmps42
  go_wp2_with fail
  refine PD.out.mono ?_
  rintro e w1 ⟨A1, ca1, rfl, hown1, hc1⟩
  obtain ⟨g1, cap1, hv1, hlo1, hgl1⟩ := hown1.form (by omega)
  have hA1 : A1 = some ⟨g1, 0, none⟩ := by injection hv1
  subst hA1
  have e0 := hown1.cells (g := g1) rfl 0 _ rfl
  have e1 := hown1.cells (g := g1) rfl 1 _ rfl
  have e2 := hown1.cells (g := g1) rfl 2 _ rfl
  rw [Addr.add_lit] at e0 e1 e2
  simp only [Nat.zero_add] at e0 e1 e2
  have hs1 := hc1.size
  have hX : ∀ j, (j = fq ∨ gP C j) → j ≠ m ∧ j ≠ f := fun j hj => hj.elim (fun e => by omega) (fun e => H.out.far j e)
  have f1 : w1.cell? ⟨f, 1, none⟩ = some (.map (some m)) := (hc1.cell (p := ⟨f, 1, none⟩) hf (fun e => (hX f e).2 rfl)).trans c1
  have hm1 : M1 w1 m 1 (fun x => if x = id then some (.agg #[.int .i64 id, .int .i64 l, .int .i64 a, .int .i64 b, .int .i64 c, .int .i64 d]) else none) := H.out.mp.chg hc1 (fun e => (hX m e).1 rfl)
  have hlk := fun (W : World) (hW : W.heap[m]? = w1.heap[m]?) => (hm1.same hW).look (mt := 156) Tryz.underlying156 (zero_seen W) hid
  simp only [if_true, Option.getD_some] at hlk
  obtain ⟨om, hom⟩ : ∃ o, w1.heap[m]? = o := ⟨_, rfl⟩
  rw [hom] at hlk
  have HC := Lib.hid hc1
  have hml : m < w1.heap.size := by omega
  have hfl : f < w1.heap.size := by omega
  clear hown1 hv1 hc1 hX hm1
  go_wp2_with fail
  go_loopw [5, 15] (fun o i wr => ∃ n : Nat, n ≤ 1 ∧ i = .int .i64 n ∧ Hid ((n = 0 → o = .slice none 0 0 ∧ wr = w1) ∧ (n = 1 → ∃ A ca, o = .slice A 1 ca ∧ wr.ownsRow w.heap.size 48 6 (.slice A 1 ca) 1 [.int .i64 id, .int .i64 l, .int .i64 a, .int .i64 b, .int .i64 c, .int .i64 d] ∧ Chg (fun j => j = fq ∨ gP C j) w wr))) (fun _ i _ => 1 - (intOf i).toNat)
  case atStart => exact ⟨0, by decide, rfl, ⟨fun _ => ⟨rfl, rfl⟩, fun e => by cases e⟩⟩
  case round =>
    obtain ⟨n, hn, rfl, hrel⟩ := hrel
    match n, hn with
    | 0, _ =>
      obtain ⟨rfl, rfl⟩ := hrel.out.1 rfl
      clear hrel hn
      go_wp2_with fail
      have hbE : Below wr.heap.size wr (wr.alloc (.cells #[.int .u64 key, .int .u64 0, .int .i64 id] 165)).drew := ((Below.refl wr.heap.size wr).alloc (Nat.le_refl _) _).drew
      have HS : (fun w' => w'.heap[m]? = om ∧ w'.cell? ⟨f, 1, none⟩ = some (.map (some m)) ∧ w'.cell? ⟨wr.heap.size, 2, none⟩ = some (.int .i64 id)) (wr.alloc (.cells #[.int .u64 key, .int .u64 0, .int .i64 id] 165)).drew := ⟨(hbE.block _ hml).trans hom, by go_simp, by go_simp⟩
      refine wp_region_early (fun w' => w'.heap[m]? = om ∧ w'.cell? ⟨f, 1, none⟩ = some (.map (some m)) ∧ w'.cell? ⟨wr.heap.size, 2, none⟩ = some (.int .i64 id)) (fun j => decide (j < 10)) (by kernel_rfl) HS (fun HS => ?_)
      (refine wpAnyE_take (i := 0) (v := ?_) rfl (by kernel_rfl) (by kernel_rfl) (by kernel_rfl) (by kernel_rfl) (fun _ _ _ h => h) (Or.inl ⟨by rfl, ?_⟩) HS ?_; rotate_left 1; (focus (intro w9 hSw; (try dsimp only at hSw); go_simp; all_goals (with_reducible rfl))); (try simp only [Act.put, List.setIfInBounds_toArray, List.set_cons_zero, List.set_cons_succ]))
      (refine wpAnyE_take (i := 1) (v := ?_) rfl (by kernel_rfl) (by kernel_rfl) (by kernel_rfl) (by kernel_rfl) (fun _ _ _ h => h) (Or.inl ⟨by rfl, ?_⟩) HS ?_; rotate_left 1; (focus (intro w9 hSw; (try dsimp only at hSw); go_simp; all_goals (with_reducible rfl))); (try simp only [Act.put, List.setIfInBounds_toArray, List.set_cons_zero, List.set_cons_succ]))
      (refine wpAnyE_take (i := 2) (v := ?_) rfl (by kernel_rfl) (by kernel_rfl) (by kernel_rfl) (by kernel_rfl) (fun _ _ _ h => h) (Or.inl ⟨by rfl, ?_⟩) HS ?_; rotate_left 1; (focus (intro w9 hSw; (try dsimp only at hSw); go_simp; all_goals (with_reducible rfl))); (try simp only [Act.put, List.setIfInBounds_toArray, List.set_cons_zero, List.set_cons_succ]))
      (refine wpAnyE_take (i := 3) (v := ?_) rfl (by kernel_rfl) (by kernel_rfl) (by kernel_rfl) (by kernel_rfl) (fun _ _ _ h => h) (Or.inl ⟨by rfl, ?_⟩) HS ?_; rotate_left 1; (focus (intro w9 hSw; (try dsimp only at hSw); go_simp; all_goals (with_reducible rfl))); (try simp only [Act.put, List.setIfInBounds_toArray, List.set_cons_zero, List.set_cons_succ]))
      (refine wpAnyE_take (i := 4) (v := ?_) rfl (by kernel_rfl) (by kernel_rfl) (by kernel_rfl) (by kernel_rfl) (fun _ _ _ h => h) (Or.inl ⟨by rfl, ?_⟩) HS ?_; rotate_left 1; (focus (intro w9 hSw; (try dsimp only at hSw); go_simp; all_goals (with_reducible rfl))); (try simp only [Act.put, List.setIfInBounds_toArray, List.set_cons_zero, List.set_cons_succ]))
      (refine wpAnyE_take (i := 5) (v := ?_) rfl (by kernel_rfl) (by kernel_rfl) (by kernel_rfl) (by kernel_rfl) (fun _ _ _ h => h) (Or.inl ⟨by rfl, ?_⟩) HS ?_; rotate_left 1; (focus (intro w9 hSw; (try dsimp only at hSw); go_simp; all_goals (with_reducible rfl))); (try simp only [Act.put, List.setIfInBounds_toArray, List.set_cons_zero, List.set_cons_succ]))
      (refine wpAnyE_take (i := 6) (v := ?_) rfl (by kernel_rfl) (by kernel_rfl) (by kernel_rfl) (by kernel_rfl) (fun _ _ _ h => h) (Or.inl ⟨by rfl, ?_⟩) HS ?_; rotate_left 1; (focus (intro w9 hSw; (try dsimp only at hSw); go_simp; all_goals (with_reducible rfl))); (try simp only [Act.put, List.setIfInBounds_toArray, List.set_cons_zero, List.set_cons_succ]))
      (refine wpAnyE_take (i := 7) (v := ?_) rfl (by kernel_rfl) (by kernel_rfl) (by kernel_rfl) (by kernel_rfl) (fun _ _ _ h => h) (Or.inl ⟨by rfl, ?_⟩) HS ?_; rotate_left 1; (focus (intro w9 hSw; (try dsimp only at hSw); go_simp; all_goals (with_reducible rfl))); (try simp only [Act.put, List.setIfInBounds_toArray, List.set_cons_zero, List.set_cons_succ]))
      refine wpAnyE_one (i := 8) rfl (by kernel_rfl) ?_
      go_wp2_with fail
      have hbF : Below wr.heap.size wr ((wr.alloc (.cells #[.int .u64 key, .int .u64 0, .int .i64 id] 165)).drew.alloc (.cells #[.int .i64 id, .int .i64 l, .int .i64 a, .int .i64 b, .int .i64 c, .int .i64 d] 48)) := hbE.alloc (by simp) _
      have HS8 : (fun w' => w'.heap[m]? = om ∧ w'.cell? ⟨f, 1, none⟩ = some (.map (some m)) ∧ w'.cell? ⟨wr.heap.size, 2, none⟩ = some (.int .i64 id)) ((wr.alloc (.cells #[.int .u64 key, .int .u64 0, .int .i64 id] 165)).drew.alloc (.cells #[.int .i64 id, .int .i64 l, .int .i64 a, .int .i64 b, .int .i64 c, .int .i64 d] 48)) := ⟨(hbF.block _ hml).trans hom, by go_simp, by go_simp⟩
      first | refine ⟨fun _ => HS8, ?_⟩ | refine ⟨HS8.1, ?_⟩ | skip
      refine wpAnyE_one (i := 9) rfl (by kernel_rfl) ?_
      refine wpList_append_own_at _ rfl _ _ 56 rfl w.heap.size 48 i0 (.agg #[.int .i64 0, .int .i64 0, .int .i64 0, .int .i64 0, .int .i64 0, .int .i64 0]) 6 48 Tryz.underlying56 hi hz0 hz1 hz2 rfl (by decide) (.slice none 0 0) 0 _ (by rfl) (World.ownsRow_nil _ _ _ _) ⟨wr.heap.size + 1, 0, none⟩ 1 1 [.int .i64 id, .int .i64 l, .int .i64 a, .int .i64 b, .int .i64 c, .int .i64 d] (by rfl) (by rfl) (by
        have h9 := cells_six_new (wr.alloc (.cells #[.int .u64 key, .int .u64 0, .int .i64 id] 165)).drew (.int .i64 id) (.int .i64 l) (.int .i64 a) (.int .i64 b) (.int .i64 c) (.int .i64 d) 48
        have e9 : (wr.alloc (.cells #[.int .u64 key, .int .u64 0, .int .i64 id] 165)).drew.heap.size = wr.heap.size + 1 := by simp
        rw [e9] at h9
        exact h9) (by intro u hu; simp at hu; rcases hu with rfl | rfl | rfl | rfl | rfl | rfl <;> rfl) (by unfold maxLen; omega) (by omega) (by simp; omega) ?_
      intro v3 w9 hown3 hgrow3 _ hat3
      obtain ⟨A3, k3, rfl⟩ := own_formN hown3
      have hb9 : Below wr.heap.size wr w9 := Below.grown hbF hgrow3 (by simp; omega) (fun k hk => by cases hk)
      have q9 : ∀ p : Addr, p.block < wr.heap.size + 2 → w9.cell? p = ((wr.alloc (.cells #[.int .u64 key, .int .u64 0, .int .i64 id] 165)).drew.alloc (.cells #[.int .i64 id, .int .i64 l, .int .i64 a, .int .i64 b, .int .i64 c, .int .i64 d] 48)).cell? p := fun p hp => hgrow3.cell_far p (by simp; omega) (fun e => by cases e)
      have HS9 : (fun w' => w'.heap[m]? = om ∧ w'.cell? ⟨f, 1, none⟩ = some (.map (some m)) ∧ w'.cell? ⟨wr.heap.size, 2, none⟩ = some (.int .i64 id)) w9 := ⟨(hb9.block _ hml).trans hom, (q9 ⟨f, 1, none⟩ (by show f < _; omega)).trans (by go_simp), (q9 ⟨wr.heap.size, 2, none⟩ (by show wr.heap.size < _; omega)).trans (by go_simp)⟩
      first | refine ⟨fun _ => HS9, ?_⟩ | skip
      have HE := Lib.hid (show w9.ownsRow w.heap.size 48 6 (.slice A3 1 k3) 1 [.int .i64 id, .int .i64 l, .int .i64 a, .int .i64 b, .int .i64 c, .int .i64 d] ∧ Chg (fun j => j = fq ∨ gP C j) w w9 from ⟨hown3, HC.out.trans (Chg.of (X := fun _ => False) hb9) (fun j hj => hj.elim)⟩)
      clear hown3 hgrow3 q9 HS HS8 HS9 hat3 hb9 hbF hbE hom hlk
      refine wpAnyE_rest (k := 10) rfl (by kernel_rfl) (fun j hj => by simp; omega) ?_
      simp only [List.drop_succ_cons, List.drop_zero]
      go_wp2_with fail
      go_roundw
      case rel => exact ⟨1, by decide, by go_num, ⟨fun e => (by cases e), fun _ => ⟨A3, k3, rfl, HE.out⟩⟩⟩
      case measure => show 1 - 1 < 1 - 0; decide
    | 1, _ =>
      obtain ⟨A, ca, rfl, hown, hc⟩ := hrel.out.2 rfl
      have HE := Lib.hid (And.intro hown hc)
      clear hrel hown hc
      go_wp2_with fail
      go_ret
      exact ⟨A, ca, rfl, HE.out⟩
end Go.Proofs.YthlijfligikciaaGreat

/- plan.Near's callback at one record that is seen: walked. No condition beyond what the table holds. -/
namespace Go.Proofs.YthlijfligikciaaGreat
open Go.RowKit Go.Maps
set_option linter.unusedSimpArgs false
set_option linter.unusedVariables false
set_option maxRecDepth 2000

/-- A point, a number, a pointer at blocks. -/
structure Bb (w : World) (pb mb fb f : Nat) (px py m : Int) : Prop where
  p0 : w.cell? ⟨pb, 0, none⟩ = some (.int .i64 px)
  p1 : w.cell? ⟨pb, 1, none⟩ = some (.int .i64 py)
  m0 : w.cell? ⟨mb, 0, none⟩ = some (.int .i64 m)
  f0 : w.cell? ⟨fb, 0, none⟩ = some (.pointer (some ⟨f, 0, none⟩))
theorem Bb.chg {X : Nat → Prop} {w w' : World} {pb mb fb f : Nat} {px py m : Int} (h : Bb w pb mb fb f px py m) (hc : Chg X w w') (h1 : ¬ X pb) (h2 : ¬ X mb) (h3 : ¬ X fb) : Bb w' pb mb fb f px py m :=
  ⟨(hc.cell (p := ⟨pb, 0, none⟩) (cell_lt h.p0) h1).trans h.p0, (hc.cell (p := ⟨pb, 1, none⟩) (cell_lt h.p1) h1).trans h.p1, (hc.cell (p := ⟨mb, 0, none⟩) (cell_lt h.m0) h2).trans h.m0, (hc.cell (p := ⟨fb, 0, none⟩) (cell_lt h.f0) h3).trans h.f0⟩
theorem Fd.chg {X : Nat → Prop} {w w' : World} {f fq m n nq cq : Nat} {S : Int → Option Value} {C : Option Addr} {xs : List Value} (h : Fd w f fq m n S C nq cq xs) (hc : Chg X w w') (h1 : ¬ X f) (h2 : ¬ X fq) (h3 : ¬ X m) (h4 : ∀ k, gP C k → ¬ X k) : Fd w' f fq m n S C nq cq xs :=
  ⟨(hc.cell (p := ⟨f, 0, none⟩) h.lt h1).trans h.c0, (hc.cell (p := ⟨f, 1, none⟩) h.lt h1).trans h.c1, h.q.chg hc h2 h4, h.mp.chg hc h3, h.ord, h.far⟩
/-- What Near's callback leaves, at one record. -/
def NearPost (G : Nat → Prop) (lo qt bt kt : Nat) (L : List Rl) (f fq m : Nat) (id lv x0 y0 x1 y1 px py : Int) (w : World) (e : Ending) (w' : World) : Prop :=
  e = .returned (.tuple #[]) ∧ ∃ C' cq', Fd w' f fq m 1 (fun k => if k = id then some (.agg #[.int .i64 id, .int .i64 lv, .int .i64 x0, .int .i64 y0, .int .i64 x1, .int .i64 y1]) else none) C' 1 cq' [.int .u64 (distI x0 y0 x1 y1 px py), .int .u64 0, .int .i64 id] ∧ Tb w' lo qt bt (kt + 3) L (gU G C') ∧ Chg (fun j => j = bt ∨ j = m ∨ j = fq) w w' ∧ ∀ j, gP C' j → w.heap.size ≤ j
set_option maxHeartbeats 16000000 in
theorem near1_first (G : Nat → Prop) (lo qt bt kt : Nat) (L : List Rl) (Pc : Option Addr) (role tier id x y label z : Int) (g : Gr) (wb vb pb mb fb f fq m : Nat) (q s cc cd bd : Nat) (C D : Option Addr) (px py lv : Int) (w : World) (ht : Tb w lo qt bt kt L G) (hgw : ∀ x, G x → x < w.heap.size) (hkt : kt + 2 < 1000000) (hcnt : cntB L ≤ 1048576) (hn1 : L.length ≤ 1000000) (hw : Wb w wb (some ⟨q, 0, none⟩) Pc qt) (hv : Vb w vb role tier g) (hB : Bb w pb mb fb f px py 1)
    (hne : wb ≠ bt ∧ vb ≠ bt ∧ pb ≠ bt ∧ mb ≠ bt ∧ fb ≠ bt ∧ f ≠ bt)
    (hsee : seeB L role tier g x y label = true) (hzo : zoomT L role tier label x y = z) (hl9 : seeL L role tier g x y label = lv) (hf : fitsB x y = true) (hpf : fitsB px py = true) (hp : Pt1 w s q C cc 1 (.slice D 1 cd)) (hD : w.ownsRow bd 32 4 (.slice D 1 cd) 1 [.int .i64 id, .int .i64 x, .int .i64 y, .int .i64 label]) (hm : M1 w s 1 (fun k => if k = id then some (.agg #[.int .i64 id, .int .i64 x, .int .i64 y, .int .i64 label]) else none)) (hid : wf64 id) (hqb : q ≠ bt ∧ s ≠ bt ∧ (∀ k, gP C k → k ≠ bt) ∧ ∀ k, gP D k → k ≠ bt)
    (hF : Fd w f fq m 0 (fun _ => none) none 0 0 []) (hG : G fq ∧ G m) :
    Calls Tryz.prog 43 #[.int .i64 z, .int .i64 lv, .pointer (some ⟨wb, 0, none⟩), .pointer (some ⟨vb, 0, none⟩), .pointer (some ⟨pb, 0, none⟩), .pointer (some ⟨mb, 0, none⟩), .pointer (some ⟨fb, 0, none⟩)] w (NearPost G lo qt bt kt L f fq m id lv (x / sd lv * sd lv) (y / sd lv * sd lv) (x / sd lv * sd lv + sd lv - 1) (y / sd lv * sd lv + sd lv - 1) px py w) := by
  have hbl := ht.ltb
  have hlv : 0 ≤ lv ∧ lv ≤ 16 := by
    have hzr := zoomT_rng (L := L) (r := role) (t := tier) (l := label) (x := x) (y := y)
    have h9 : rightG g = true := by
      unfold seeB at hsee
      simp only [Bool.and_eq_true] at hsee
      have h8 := hsee.1.1
      unfold rightW at h8
      simp only [Bool.and_eq_true] at h8
      exact h8.2
    have := rightG_iff.1 h9
    unfold seeL at hl9
    omega
  have PN := Lib.hid (fun (zb : Nat) (Y : World) (hY : Below w.heap.size w Y) (hz : Y.cell? ⟨zb, 0, none⟩ = some (.int .i64 z)) (hzb : zb ≠ bt) => nearest_first G lo qt bt kt L (some ⟨q, 0, none⟩) Pc role tier id x y label z g wb vb zb q s cc cd bd C D px py lv Y (ht.keep hY) (fun x e => Nat.lt_of_lt_of_le (hgw x e) hY.size) (by omega) hcnt hn1 (hw.chg (X := fun _ => False) (Chg.of hY) (fun e => e)) (hv.chg (X := fun _ => False) (Chg.of hY) (fun e => e)) hz ⟨hne.1, hne.2.1, hzb⟩ (by rw [hsee, hzo]; simp) hlv hf hpf (hp.keep hY) (own_keep hD hY) (hm.chg (X := fun _ => False) (Chg.of hY) (fun e => e)) hid hqb)
  have psee := fun (Y : World) (hT : Tb Y lo qt bt (kt + 2) L G) (hY : w.heap.size ≤ Y.heap.size) => see_any G lo qt bt (kt + 2) L (some ⟨q, 0, none⟩) Pc role tier id x y label g Y hT (fun x e => Nat.lt_of_lt_of_le (hgw x e) hY) (by omega) hcnt hn1
  unfold TabPost seenV at psee
  rw [hsee, hl9] at psee
  simp only [sel, if_true] at psee
  obtain ⟨x0, hx0⟩ : ∃ c, x / sd lv * sd lv = c := ⟨_, rfl⟩
  obtain ⟨y0, hy0⟩ : ∃ c, y / sd lv * sd lv = c := ⟨_, rfl⟩
  rw [hx0, hy0] at psee ⊢
  obtain ⟨x1, hx1⟩ : ∃ c, x0 + sd lv - 1 = c := ⟨_, rfl⟩
  obtain ⟨y1, hy1⟩ : ∃ c, y0 + sd lv - 1 = c := ⟨_, rfl⟩
  rw [hx1, hy1] at psee ⊢
  have PSee := Lib.hid psee
  have PD := Lib.hid (fun (Y : World) => dist_any x0 y0 x1 y1 px py Y)
  have hfl := hF.lt
  have H := Lib.hid (show (Wb w wb (some ⟨q, 0, none⟩) Pc qt ∧ Vb w vb role tier g ∧ Bb w pb mb fb f px py 1) ∧ (wb ≠ bt ∧ vb ≠ bt ∧ pb ≠ bt ∧ mb ≠ bt ∧ fb ≠ bt ∧ f ≠ bt) ∧ (Fd w f fq m 0 (fun _ => none) none 0 0 [] ∧ (G fq ∧ G m)) ∧ (∀ x, G x → qt < x ∧ bt < x) from ⟨⟨hw, hv, hB⟩, hne, ⟨hF, hG⟩, ht.gq⟩)
  have hwl := hw.lt
  have hvl := hv.lt
  obtain ⟨p0, p1, m0, f0⟩ := hB
  have hpl : pb < w.heap.size := cell_lt p0
  have hml : mb < w.heap.size := cell_lt m0
  have hfbl : fb < w.heap.size := cell_lt f0
  have w0 := hw.c0
  have hfq : fq ≠ bt ∧ m ≠ bt := by have h1 := ht.gq fq hG.1; have h2 := ht.gq m hG.2; omega
  have hord := hF.ord
  generalize hNP : NearPost G lo qt bt kt L f fq m id lv x0 y0 x1 y1 px py w = Post
  clear psee ht hgw hkt hcnt hn1 hw hv hne hsee hzo hl9 hf hpf hp hD hm hqb hF hG hlv hx0 hy0 hx1 hy1
  go_enter Tryz.func43, Tryz.ntmps43
  go_wp2_with fail
  have hbw : Below w.heap.size w (w.alloc (.cells #[.int .i64 z] 3)) := (Below.refl _ _).alloc (Nat.le_refl _) _
  refine (PN.out w.heap.size _ hbw (by go_simp) (by omega)).mono ?_
  rintro e W ⟨A, ca, rfl, hown, hT, hc⟩
  have hcW : Chg (fun j => j = bt) w W := (Chg.of (X := fun j => j = bt) hbw).trans hc (fun j hj => .inl hj)
  obtain ⟨ga, capa, hva, hloa, hgal⟩ := hown.form (by omega)
  have hA : A = some ⟨ga, 0, none⟩ := by injection hva
  subst hA
  have r0 := hown.cells (g := ga) rfl 0 _ rfl
  have r1 := hown.cells (g := ga) rfl 1 _ rfl
  have r2 := hown.cells (g := ga) rfl 2 _ rfl
  have r3 := hown.cells (g := ga) rfl 3 _ rfl
  rw [Addr.add_lit] at r0 r1 r2 r3
  simp only [Nat.zero_add] at r0 r1 r2 r3
  have hsW := hcW.size
  have HW := Lib.hid (And.intro hT hcW)
  obtain ⟨w0, w1, w2⟩ := H.out.1.1.chg hcW H.out.2.1.1
  obtain ⟨v0, v1, v2, v3, v4, v5, v6, v7, v8, v9⟩ := H.out.1.2.1.chg hcW H.out.2.1.2.1
  clear hown hT hc hcW hva hbw p0 p1 m0 f0
  go_wp2_with fail
  go_loopw [23] (fun i wr => ∃ n : Nat, n ≤ 1 ∧ i = .int .i64 n ∧ Hid ((n = 0 → wr = W) ∧ (n = 1 → Post (.returned (.tuple #[])) wr))) (fun i _ => 1 - (intOf i).toNat)
  case atStart => exact ⟨0, by decide, rfl, ⟨fun _ => rfl, fun e => by cases e⟩⟩
  case round =>
    obtain ⟨n, hn, rfl, hrel⟩ := hrel
    match n, hn with
    | 0, _ =>
      obtain rfl := hrel.out.1 rfl
      clear hrel hn
      go_wp2_with fail
      go_at_call 8
      have hbA : Below wr.heap.size wr (wr.alloc (.cells #[.int .i64 id, .int .i64 x, .int .i64 y, .int .i64 label] 32)) := (Below.refl _ _).alloc (Nat.le_refl _) _
      refine (PSee.out _ (HW.out.1.keep hbA) (Nat.le_trans hsW hbA.size)).mono ?_
      rintro e W2 ⟨rfl, hT2, hg2⟩
      have hc2 : Chg (fun j => j = bt) w W2 := (HW.out.2.trans (Chg.of (X := fun j => j = bt) hbA) (fun j hj => .inl hj)).trans (Chg.ofGrown (X := fun j => j = bt) hg2 (fun k hk => by injection hk with hk; exact hk.symm)) (fun j hj => .inl hj)
      have hs2 := hc2.size
      obtain ⟨p0, p1, m0, f0⟩ := H.out.1.2.2.chg hc2 H.out.2.1.2.2.1 H.out.2.1.2.2.2.1 H.out.2.1.2.2.2.2.1
      have HT2 := Lib.hid (And.intro hT2 hc2)
      clear hT2 hg2 hc2 hbA
      go_wp2_with fail
      (refine wp_region_later_tail 6 (W2.heap.size + 1) (by kernel_rfl) (by kernel_rfl) (by go_size) ?_; simp only [List.take_succ_cons, List.take_zero, List.drop_succ_cons, List.drop_zero]; (repeat (go_big_quiet_step ((first | (go_at_call 46; exact Later.call _ (Nat.le_trans (by go_size) (Later.is _).size) (PD.out _)))))); refine wpQuiet_nil ?_; intro Xq hlXq hmXq)
      have hbq : Below W2.heap.size W2 Xq.w := by repeat' (first | (with_reducible exact Below.refl _ _) | (with_reducible assumption) | (with_reducible refine Later.step ?_ ?_ _) | (with_reducible refine Below.alloc ?_ ?_ _) | (with_reducible refine Below.drew ?_) | (with_reducible refine bel_drewN ?_ _) | (with_reducible refine bel_grown ?_ (by assumption) ?_ ?_) | (with_reducible refine Below.setCell ?_ ?_ _) | go_size)
      go_wp2_with fail
      go_at_call 41
      have hcq : Chg (fun j => j = bt) w Xq.w := HT2.out.2.trans (Chg.of (X := fun j => j = bt) hbq) (fun j hj => .inl hj)
      refine (fput_first f fq m 0 none (distI x0 y0 x1 y1 px py) id lv x0 y0 x1 y1 _ (H.out.2.2.1.1.chg hcq H.out.2.1.2.2.2.2.2 hfq.1 hfq.2 (fun k hk => by cases hk)) hid).mono ?_
      rintro e W5 ⟨rfl, C', cq', hF', hc5, hC'⟩
      have hsq := hbq.size
      have hc5' : Chg (fun j => j = m ∨ j = fq) Xq.w W5 := hc5.mono (fun k hk => by rcases hk with e | e | e; exact .inl (.inl e); exact .inl (.inr e); cases e)
      have HE := Lib.hid (show Post (.returned (.tuple #[])) W5 by
        rw [← hNP]
        exact ⟨rfl, C', cq', hF', (HT2.out.1.keep hbq).step (fun j _ hj hjs => hc5'.block j hjs (fun e => hj (e.elim (fun e => e ▸ H.out.2.2.1.2.2) (fun e => e ▸ H.out.2.2.1.2.1)))) hc5'.size (fun j hj => hj.elim .inl (fun e => (hC' j e).elim (fun e => by cases e) .inr)), (hcq.mono (X' := fun j => j = bt ∨ j = m ∨ j = fq) (fun k hk => .inl (.inl hk))).trans hc5' (fun k hk => .inl (.inr hk)), fun j hj => (hC' j hj).elim (fun e => by cases e) (fun e => Nat.le_trans hcq.size e)⟩)
      clear hF' hc5 hC' hc5' hcq hbq
      go_wp2_with fail
      go_roundw
      case rel => exact ⟨1, by decide, by go_num, ⟨fun e => (by cases e), fun _ => HE.out⟩⟩
      case measure => show 1 - 1 < 1 - 0; decide
    | 1, _ =>
      have HE := Lib.hid (hrel.out.2 rfl)
      clear hrel
      go_wp2_with fail
      exact bodyPost_end (v := .tuple #[]) (by first | rfl | kernel_rfl) rfl HE.out
end Go.Proofs.YthlijfligikciaaGreat

/- plan.levels with Near's callback, plan.ask, plan.Near, at one record that is seen: walked. No condition beyond what the table holds. -/
namespace Go.Proofs.YthlijfligikciaaGreat
open Go.RowKit Go.Maps
set_option linter.unusedSimpArgs false
set_option linter.unusedVariables false
set_option maxRecDepth 2000

/-- What levels leaves, at one record. -/
def LvsPost (G : Nat → Prop) (lo qt bt kt : Nat) (L : List Rl) (f fq m : Nat) (id lv x0 y0 x1 y1 px py : Int) (w : World) (e : Ending) (w' : World) : Prop :=
  e = .returned (.tuple #[]) ∧ ∃ C' cq', Fd w' f fq m 1 (fun k => if k = id then some (.agg #[.int .i64 id, .int .i64 lv, .int .i64 x0, .int .i64 y0, .int .i64 x1, .int .i64 y1]) else none) C' 1 cq' [.int .u64 (distI x0 y0 x1 y1 px py), .int .u64 0, .int .i64 id] ∧ Tb w' lo qt bt (kt + 11) L (gU G C') ∧ Chg (fun j => j = bt ∨ j = m ∨ j = fq) w w' ∧ ∀ j, gP C' j → w.heap.size ≤ j
set_option maxHeartbeats 16000000 in
theorem levels_first (G : Nat → Prop) (lo qt bt kt : Nat) (L : List Rl) (Pc : Option Addr) (role tier id x y label z : Int) (g : Gr) (wb vb pb mb fb f fq m : Nat) (q s cc cd bd : Nat) (C D : Option Addr) (px py lv : Int) (w : World) (ht : Tb w lo qt bt kt L G) (hgw : ∀ x, G x → x < w.heap.size) (hkt : kt + 10 < 1000000) (hcnt : cntB L ≤ 1048576) (hn1 : L.length ≤ 1000000) (hpb : patsB L ≤ 100000000) (hrt : (0 ≤ role ∧ role ≤ 7) ∧ 0 ≤ tier ∧ tier ≤ 7) (hw : Wb w wb (some ⟨q, 0, none⟩) Pc qt) (hv : Vb w vb role tier g) (hB : Bb w pb mb fb f px py 1)
    (hne : wb ≠ bt ∧ vb ≠ bt ∧ pb ≠ bt ∧ mb ≠ bt ∧ fb ≠ bt ∧ f ≠ bt)
    (hsee : seeB L role tier g x y label = true) (hzo : zoomT L role tier label x y = z) (hl9 : seeL L role tier g x y label = lv) (hf : fitsB x y = true) (hpf : fitsB px py = true) (hp : Pt1 w s q C cc 1 (.slice D 1 cd)) (hD : w.ownsRow bd 32 4 (.slice D 1 cd) 1 [.int .i64 id, .int .i64 x, .int .i64 y, .int .i64 label]) (hm : M1 w s 1 (fun k => if k = id then some (.agg #[.int .i64 id, .int .i64 x, .int .i64 y, .int .i64 label]) else none)) (hid : wf64 id) (hqb : q ≠ bt ∧ s ≠ bt ∧ (∀ k, gP C k → k ≠ bt) ∧ ∀ k, gP D k → k ≠ bt)
    (hF : Fd w f fq m 0 (fun _ => none) none 0 0 []) (hG : G fq ∧ G m) (hxs : ∀ xs, xs.Pairwise (· < ·) → LevL L role tier 8 xs → xs = [z]) (hlv0 : lv ≠ 0) :
    Calls Tryz.prog 37 #[(.agg #[.pointer (some ⟨q, 0, none⟩), .pointer Pc, .pointer (some ⟨qt, 0, none⟩)]), (.agg #[.int .i64 role, .int .i64 tier, .int .i64 g.ops, .int .i64 g.zoom, .int .i64 g.a, .int .i64 g.b, .int .i64 g.c, .int .i64 g.d, .bool g.void, .int .i64 g.til]), .func (.func 43) #[] #[.pointer (some ⟨wb, 0, none⟩), .pointer (some ⟨vb, 0, none⟩), .pointer (some ⟨pb, 0, none⟩), .pointer (some ⟨mb, 0, none⟩), .pointer (some ⟨fb, 0, none⟩)]] w (LvsPost G lo qt bt kt L f fq m id lv (x / sd lv * sd lv) (y / sd lv * sd lv) (x / sd lv * sd lv + sd lv - 1) (y / sd lv * sd lv + sd lv - 1) px py w) := by
  have hmin : min z g.zoom = lv := by rw [← hl9, ← hzo]; rfl
  have PL := Lib.hid (fun (Y : World) (hY : Below w.heap.size w Y) => levels_any G lo qt bt kt L role tier Y (ht.keep hY) (fun x e => Nat.lt_of_lt_of_le (hgw x e) hY.size) (by omega) hrt.1 hrt.2 hcnt hn1 hpb)
  have pv := fun (Y : World) => plevel_any role tier z g Y
  rw [hmin] at pv
  have PV := Lib.hid pv
  have PN := Lib.hid (fun (Y : World) (hT : Tb Y lo qt bt (kt + 8) L G) (hY : Chg (fun j => j = bt) w Y) => near1_first G lo qt bt (kt + 8) L Pc role tier id x y label z g wb vb pb mb fb f fq m q s cc cd bd C D px py lv Y hT (fun x e => Nat.lt_of_lt_of_le (hgw x e) hY.size) (by omega) hcnt hn1 (hw.chg hY hne.1) (hv.chg hY hne.2.1) (hB.chg hY hne.2.2.1 hne.2.2.2.1 hne.2.2.2.2.1) hne hsee hzo hl9 hf hpf (hp.chg hY hqb.1 (fun k hk => hqb.2.2.1 k hk)) (own_chg hD hY (fun k hk => hqb.2.2.2 k (by rw [gOf_own] at hk; exact hk))) (hm.chg hY hqb.2.1) hid hqb (hF.chg hY hne.2.2.2.2.2 (by have := ht.gq fq hG.1; show ¬ fq = bt; omega) (by have := ht.gq m hG.2; show ¬ m = bt; omega) (fun k hk => by cases hk)) hG)
  have HX := Lib.hid hxs
  have hbl := ht.ltb
  have hz0 : (lv == 0) = false := by simpa using hlv0
  have HF := Lib.hid (show ∀ w1 w2, Chg (fun j => j = bt) w w1 → NearPost G lo qt bt (kt + 8) L f fq m id lv (x / sd lv * sd lv) (y / sd lv * sd lv) (x / sd lv * sd lv + sd lv - 1) (y / sd lv * sd lv + sd lv - 1) px py w1 (.returned (.tuple #[])) w2 → LvsPost G lo qt bt kt L f fq m id lv (x / sd lv * sd lv) (y / sd lv * sd lv) (x / sd lv * sd lv + sd lv - 1) (y / sd lv * sd lv + sd lv - 1) px py w (.returned (.tuple #[])) w2 from
    fun w1 w2 h1 ⟨_, C', cq', hF', hT', hc', hC'⟩ => ⟨rfl, C', cq', hF', hT', (h1.mono (X' := fun j => j = bt ∨ j = m ∨ j = fq) (fun k hk => .inl (.inl hk))).trans hc' (fun k hk => .inl hk), fun j hj => Nat.le_trans h1.size (hC' j hj)⟩)
  have HE0 := Lib.hid (show ∀ e w1 w2, NearPost G lo qt bt (kt + 8) L f fq m id lv (x / sd lv * sd lv) (y / sd lv * sd lv) (x / sd lv * sd lv + sd lv - 1) (y / sd lv * sd lv + sd lv - 1) px py w1 e w2 → e = .returned (.tuple #[]) from fun e w1 w2 h => h.1)
  generalize LvsPost G lo qt bt kt L f fq m id lv (x / sd lv * sd lv) (y / sd lv * sd lv) (x / sd lv * sd lv + sd lv - 1) (y / sd lv * sd lv + sd lv - 1) px py w = Post at HF ⊢
  generalize NearPost G lo qt bt (kt + 8) L f fq m id lv (x / sd lv * sd lv) (y / sd lv * sd lv) (x / sd lv * sd lv + sd lv - 1) (y / sd lv * sd lv + sd lv - 1) px py = NP at PN HF HE0
  clear pv ht hgw hkt hcnt hn1 hpb hw hv hB hne hsee hzo hl9 hf hpf hp hD hm hid hqb hF hG hxs hlv0 hmin hrt
  go_enter Tryz.func37, Tryz.ntmps37
  go_wp2_with fail
  go_step3
  go_wp2_with fail
  go_step3
  go_wp2_with fail
  go_at_call 82
  have hb2 : Below w.heap.size w ((w.alloc (.cells #[.pointer (some ⟨q, 0, none⟩), .pointer Pc, .pointer (some ⟨qt, 0, none⟩)] 38)).alloc (.cells #[.int .i64 role, .int .i64 tier, .int .i64 g.ops, .int .i64 g.zoom, .int .i64 g.a, .int .i64 g.b, .int .i64 g.c, .int .i64 g.d, .bool g.void, .int .i64 g.til] 28)) := ((Below.refl _ _).alloc (Nat.le_refl _) _).alloc (by simp) _
  refine (PL.out _ hb2).mono ?_
  rintro e W ⟨⟨C1, cc1, xs, rfl, hints, hfar, hpw, hlev⟩, hT, hg⟩
  obtain rfl := HX.out xs hpw hlev
  have hcW : Chg (fun j => j = bt) w W := (Chg.of (X := fun j => j = bt) hb2).trans (Chg.ofGrown (X := fun j => j = bt) hg (fun k hk => by injection hk with hk; exact hk.symm)) (fun j hj => .inl hj)
  obtain ⟨bz, oz, hCz, hbz, hcz⟩ := hints (by simp)
  subst hCz
  have z0 : W.cell? ⟨bz, oz, none⟩ = some (.int .i64 z) := hcz 0 (by simp)
  have hv8 : ∀ i, i < 10 → W.cell? ⟨w.heap.size + 1, i, none⟩ = ((w.alloc (.cells #[.pointer (some ⟨q, 0, none⟩), .pointer Pc, .pointer (some ⟨qt, 0, none⟩)] 38)).alloc (.cells #[.int .i64 role, .int .i64 tier, .int .i64 g.ops, .int .i64 g.zoom, .int .i64 g.a, .int .i64 g.b, .int .i64 g.c, .int .i64 g.d, .bool g.void, .int .i64 g.til] 28)).cell? ⟨w.heap.size + 1, i, none⟩ := fun i _ => hg.cell_far ⟨w.heap.size + 1, i, none⟩ (by simp) (fun e => by injection e with e; have e' : w.heap.size + 1 = bt := e; omega)
  have v0 : W.cell? ⟨w.heap.size + 1, 0, none⟩ = some (.int .i64 role) := (hv8 0 (by decide)).trans (by go_simp)
  have v1 : W.cell? ⟨w.heap.size + 1, 1, none⟩ = some (.int .i64 tier) := (hv8 1 (by decide)).trans (by go_simp)
  have v2 : W.cell? ⟨w.heap.size + 1, 2, none⟩ = some (.int .i64 g.ops) := (hv8 2 (by decide)).trans (by go_simp)
  have v3 : W.cell? ⟨w.heap.size + 1, 3, none⟩ = some (.int .i64 g.zoom) := (hv8 3 (by decide)).trans (by go_simp)
  have v4 : W.cell? ⟨w.heap.size + 1, 4, none⟩ = some (.int .i64 g.a) := (hv8 4 (by decide)).trans (by go_simp)
  have v5 : W.cell? ⟨w.heap.size + 1, 5, none⟩ = some (.int .i64 g.b) := (hv8 5 (by decide)).trans (by go_simp)
  have v6 : W.cell? ⟨w.heap.size + 1, 6, none⟩ = some (.int .i64 g.c) := (hv8 6 (by decide)).trans (by go_simp)
  have v7 : W.cell? ⟨w.heap.size + 1, 7, none⟩ = some (.int .i64 g.d) := (hv8 7 (by decide)).trans (by go_simp)
  have v8 : W.cell? ⟨w.heap.size + 1, 8, none⟩ = some (.bool g.void) := (hv8 8 (by decide)).trans (by go_simp)
  have v9 : W.cell? ⟨w.heap.size + 1, 9, none⟩ = some (.int .i64 g.til) := (hv8 9 (by decide)).trans (by go_simp)
  have HW := Lib.hid (And.intro hT hcW)
  have hsW := hg.size
  simp only [World.size_alloc] at hsW
  clear hints hfar hpw hlev hT hg hcW hcz hv8 hb2
  simp only [List.length_cons, List.length_nil]
  go_wp2_with fail
  go_loopw [17] (fun i wr => ∃ n : Nat, n ≤ 1 ∧ i = .int .i64 n ∧ Hid ((n = 0 → wr = W) ∧ (n = 1 → Post (.returned (.tuple #[])) wr))) (fun i _ => 1 - (intOf i).toNat)
  case atStart => exact ⟨0, by decide, rfl, ⟨fun _ => rfl, fun e => by cases e⟩⟩
  case round =>
    obtain ⟨n, hn, rfl, hrel⟩ := hrel
    match n, hn with
    | 0, _ =>
      obtain rfl := hrel.out.1 rfl
      clear hrel hn
      go_wp2_with (first
        | (go_at_call 27; refine (PV.out _).mono ?_; rintro e w' ⟨rfl, hb⟩; obtain ⟨X1, rfl, hl1, hm1⟩ := later _ hb (Nat.le_refl _); clear hb; (try simp only [World.size_alloc, World.size_setCell, World.size_drew] at hm1 hl1)))
      have hbX : Below wr.heap.size wr X1.w := by repeat' (first | (with_reducible exact Below.refl _ _) | (with_reducible assumption) | (with_reducible refine Later.step ?_ ?_ _) | (with_reducible refine Below.alloc ?_ ?_ _) | (with_reducible refine Below.drew ?_) | (with_reducible refine bel_drewN ?_ _) | (with_reducible refine bel_grown ?_ (by assumption) ?_ ?_) | (with_reducible refine Below.setCell ?_ ?_ _) | go_size)
      refine (PN.out _ (HW.out.1.keep hbX) (HW.out.2.trans (Chg.of (X := fun j => j = bt) hbX) (fun j hj => .inl hj))).mono ?_
      intro e w9 hnp
      obtain rfl := HE0.out _ _ _ hnp
      have HE := Lib.hid (HF.out _ _ (HW.out.2.trans (Chg.of (X := fun j => j = bt) hbX) (fun j hj => .inl hj)) hnp)
      clear hnp hbX
      go_wp2_with fail
      go_roundw
      case rel => (repeat apply Exists.intro); exact ⟨⟨1, by decide, by go_num, ⟨fun e => (by cases e), fun _ => HE.out⟩⟩, rfl⟩
      case measure => show 1 - 1 < 1 - 0; decide
    | 1, _ =>
      have HE := Lib.hid (hrel.out.2 rfl)
      clear hrel
      go_wp2_with fail
      (try rw [Exit.noGoto_ret])
      exact bodyPost_end (v := .tuple #[]) (by first | rfl | kernel_rfl) rfl HE.out
end Go.Proofs.YthlijfligikciaaGreat

/- plan.ask, plan.Near, at one record that is seen: walked. No condition beyond what the table holds. -/
namespace Go.Proofs.YthlijfligikciaaGreat
open Go.RowKit Go.Maps
set_option linter.unusedSimpArgs false
set_option linter.unusedVariables false
set_option maxRecDepth 2000

theorem eql_pt (q : Nat) (w : World) : (binOp .eql 34 (.pointer (some ⟨q, 0, none⟩)) (.pointer none)).run Tryz.prog w = .ok (.bool false) w := by kernel_rfl
theorem eql_ct (q : Nat) (w : World) : (binOp .eql 35 (.pointer (some ⟨q, 0, none⟩)) (.pointer none)).run Tryz.prog w = .ok (.bool false) w := by kernel_rfl
theorem eql_gt (q : Nat) (w : World) : (binOp .eql 36 (.pointer (some ⟨q, 0, none⟩)) (.pointer none)).run Tryz.prog w = .ok (.bool false) w := by kernel_rfl
set_option maxHeartbeats 8000000 in
theorem pask_any (q qc qt : Nat) (role tier m : Int) (g : Gr) (r : Bool) (w : World) (hm : 0 ≤ m ∧ m ≤ 64) :
    Calls Tryz.prog 35 #[(.agg #[.pointer (some ⟨q, 0, none⟩), .pointer (some ⟨qc, 0, none⟩), .pointer (some ⟨qt, 0, none⟩)]), (.agg #[.int .i64 role, .int .i64 tier, .int .i64 g.ops, .int .i64 g.zoom, .int .i64 g.a, .int .i64 g.b, .int .i64 g.c, .int .i64 g.d, .bool g.void, .int .i64 g.til]), .int .i64 m, .bool r] w fun e w' => e = .returned (.int .i64 (if (rightW role tier g && r) = true then 0 else 1)) ∧ Below w.heap.size w w' := by
  have p1 := fun (Y : World) => pright_any role tier g Y
  obtain ⟨d, hd⟩ : ∃ d, rightW role tier g = d := ⟨_, rfl⟩
  rw [hd] at p1
  rw [hd]
  have P1 := Lib.hid p1
  have h0 : decide (m < 0) = false := decide_eq_false (by omega)
  have h1 : decide (64 < m) = false := decide_eq_false (by omega)
  clear p1 hd
  cases d with
  | false =>
    go_enter Tryz.func35, Tryz.ntmps35
    go_wp2_with (first
      | (go_at_call 26; refine (P1.out _).mono ?_; rintro e w' ⟨rfl, hb⟩; obtain ⟨X1, rfl, hl1, hm1⟩ := later _ hb (Nat.le_refl _); clear hb; (try simp only [World.size_alloc, World.size_setCell, World.size_drew] at hm1 hl1)))
    go_ret
    exact ⟨rfl, by repeat' (first | (with_reducible exact Below.refl _ _) | (with_reducible assumption) | (with_reducible refine Later.step ?_ ?_ _) | (with_reducible refine Below.alloc ?_ ?_ _) | (with_reducible refine Below.drew ?_) | (with_reducible refine bel_drewN ?_ _) | (with_reducible refine bel_grown ?_ (by assumption) ?_ ?_) | (with_reducible refine Below.setCell ?_ ?_ _) | go_size)⟩
  | true =>
    cases r with
    | false =>
      go_enter Tryz.func35, Tryz.ntmps35
      go_wp2_with (first
        | (go_at_call 26; refine (P1.out _).mono ?_; rintro e w' ⟨rfl, hb⟩; obtain ⟨X1, rfl, hl1, hm1⟩ := later _ hb (Nat.le_refl _); clear hb; (try simp only [World.size_alloc, World.size_setCell, World.size_drew] at hm1 hl1)))
      go_ret
      exact ⟨rfl, by repeat' (first | (with_reducible exact Below.refl _ _) | (with_reducible assumption) | (with_reducible refine Later.step ?_ ?_ _) | (with_reducible refine Below.alloc ?_ ?_ _) | (with_reducible refine Below.drew ?_) | (with_reducible refine bel_drewN ?_ _) | (with_reducible refine bel_grown ?_ (by assumption) ?_ ?_) | (with_reducible refine Below.setCell ?_ ?_ _) | go_size)⟩
    | true =>
      go_enter Tryz.func35, Tryz.ntmps35
      go_wp2_with (first
        | (go_at_call 26; refine (P1.out _).mono ?_; rintro e w' ⟨rfl, hb⟩; obtain ⟨X1, rfl, hl1, hm1⟩ := later _ hb (Nat.le_refl _); clear hb; (try simp only [World.size_alloc, World.size_setCell, World.size_drew] at hm1 hl1)))
      go_ret
      exact ⟨rfl, by repeat' (first | (with_reducible exact Below.refl _ _) | (with_reducible assumption) | (with_reducible refine Later.step ?_ ?_ _) | (with_reducible refine Below.alloc ?_ ?_ _) | (with_reducible refine Below.drew ?_) | (with_reducible refine bel_drewN ?_ _) | (with_reducible refine bel_grown ?_ (by assumption) ?_ ?_) | (with_reducible refine Below.setCell ?_ ?_ _) | go_size)⟩
set_option maxHeartbeats 16000000 in
theorem near_first (lo qt bt kt : Nat) (L : List Rl) (role tier id x y label z : Int) (g : Gr) (q qc s cc cd bd : Nat) (C D : Option Addr) (px py lv : Int) (w : World) (ht : Tb w lo qt bt kt L) (hkt : kt + 10 < 1000000) (hcnt : cntB L ≤ 1048576) (hn1 : L.length ≤ 1000000) (hpb : patsB L ≤ 100000000) (hrt : (0 ≤ role ∧ role ≤ 7) ∧ 0 ≤ tier ∧ tier ≤ 7)
    (hsee : seeB L role tier g x y label = true) (hzo : zoomT L role tier label x y = z) (hl9 : seeL L role tier g x y label = lv) (hf : fitsB x y = true) (hpf : fitsB px py = true) (hp : Pt1 w s q C cc 1 (.slice D 1 cd)) (hD : w.ownsRow bd 32 4 (.slice D 1 cd) 1 [.int .i64 id, .int .i64 x, .int .i64 y, .int .i64 label]) (hm : M1 w s 1 (fun k => if k = id then some (.agg #[.int .i64 id, .int .i64 x, .int .i64 y, .int .i64 label]) else none)) (hid : wf64 id) (hqb : q ≠ bt ∧ s ≠ bt ∧ (∀ k, gP C k → k ≠ bt) ∧ ∀ k, gP D k → k ≠ bt)
    (hxs : ∀ xs, xs.Pairwise (· < ·) → LevL L role tier 8 xs → xs = [z]) (hlv0 : lv ≠ 0) :
    Calls Tryz.prog 12 #[(.agg #[.pointer (some ⟨q, 0, none⟩), .pointer (some ⟨qc, 0, none⟩), .pointer (some ⟨qt, 0, none⟩)]), (.agg #[.int .i64 role, .int .i64 tier, .int .i64 g.ops, .int .i64 g.zoom, .int .i64 g.a, .int .i64 g.b, .int .i64 g.c, .int .i64 g.d, .bool g.void, .int .i64 g.til]), .agg #[.int .i64 px, .int .i64 py], .int .i64 1] w fun e w' => ∃ A ca x0 y0 x1 y1, (x0 = x / sd lv * sd lv ∧ y0 = y / sd lv * sd lv ∧ x1 = x / sd lv * sd lv + sd lv - 1 ∧ y1 = y / sd lv * sd lv + sd lv - 1) ∧ e = .returned (.tuple #[.slice A 1 ca, .int .i64 0]) ∧ w'.ownsRow w.heap.size 48 6 (.slice A 1 ca) 1 [.int .i64 id, .int .i64 lv, .int .i64 x0, .int .i64 y0, .int .i64 x1, .int .i64 y1] ∧ Chg (fun j => j = bt) w w' := by
  have hrw : rightW role tier g = true := by
    unfold seeB at hsee
    simp only [Bool.and_eq_true] at hsee
    exact hsee.1.1
  have pa := fun (Y : World) => pask_any q qc qt role tier 1 g true Y (by decide)
  rw [hrw] at pa
  simp only [Bool.and_self, if_true] at pa
  have PA := Lib.hid pa
  have pf := fun (Y : World) => fits_any px py Y
  rw [hpf] at pf
  have PF := Lib.hid pf
  have PB := Lib.hid (fun (Y : World) => begin_any Y)
  have PL := Lib.hid (fun (G : Nat → Prop) (wb vb pb mb fb f fq m : Nat) (Y : World) (hY : Below w.heap.size w Y) (hT : Tb Y lo qt bt kt L G) (hgw : ∀ x, G x → x < Y.heap.size) (hw : Wb Y wb (some ⟨q, 0, none⟩) (some ⟨qc, 0, none⟩) qt) (hv : Vb Y vb role tier g) (hB : Bb Y pb mb fb f px py 1) (hne : wb ≠ bt ∧ vb ≠ bt ∧ pb ≠ bt ∧ mb ≠ bt ∧ fb ≠ bt ∧ f ≠ bt) (hF : Fd Y f fq m 0 (fun _ => none) none 0 0 []) (hG : G fq ∧ G m) => levels_first G lo qt bt kt L (some ⟨qc, 0, none⟩) role tier id x y label z g wb vb pb mb fb f fq m q s cc cd bd C D px py lv Y hT hgw hkt hcnt hn1 hpb hrt hw hv hB hne hsee hzo hl9 hf hpf (hp.keep hY) (own_keep hD hY) (hm.chg (X := fun _ => False) (Chg.of hY) (fun e => e)) hid hqb hF hG hxs hlv0)
  have HT := Lib.hid ht
  have hbl := ht.ltb
  have hqt := ht.lt
  obtain ⟨x0, hx0⟩ : ∃ c, x / sd lv * sd lv = c := ⟨_, rfl⟩
  obtain ⟨y0, hy0⟩ : ∃ c, y / sd lv * sd lv = c := ⟨_, rfl⟩
  rw [hx0, hy0] at PL ⊢
  obtain ⟨x1, hx1⟩ : ∃ c, x0 + sd lv - 1 = c := ⟨_, rfl⟩
  obtain ⟨y1, hy1⟩ : ∃ c, y0 + sd lv - 1 = c := ⟨_, rfl⟩
  rw [hx1, hy1] at PL ⊢
  unfold LvsPost at PL
  clear pa pf ht hkt hcnt hn1 hpb hrt hsee hzo hl9 hf hpf hp hD hm hqb hxs hlv0 hrw hx0 hy0 hx1 hy1
  go_enter Tryz.func12, Tryz.ntmps12
  go_wp2_with fail
  (refine wp_region_later (w.heap.size + 4) (by kernel_rfl) (by kernel_rfl) (by go_size) ?_; (repeat (go_big_quiet_step ((first | (go_at_call 10; exact Later.call _ (Nat.le_trans (by go_size) (Later.is _).size) (PF.out _)) | (go_at_call 35; exact Later.call _ (Nat.le_trans (by go_size) (Later.is _).size) (PA.out _)))))); refine wpQuiet_nil ?_; intro Xq hlXq hmXq)
  go_wp2_with fail
  go_at_call 36
  refine (PB.out _).mono ?_
  rintro e w1 ⟨f, fq, m, rfl, hfq, hF, hb1⟩
  have hqs : w.heap.size + 4 ≤ Xq.w.heap.size := hlXq
  have hbq : Below w.heap.size w Xq.w := by repeat' (first | (with_reducible exact Below.refl _ _) | (with_reducible assumption) | (with_reducible refine Later.step ?_ ?_ _) | (with_reducible refine Below.alloc ?_ ?_ _) | (with_reducible refine Below.drew ?_) | (with_reducible refine bel_drewN ?_ _) | (with_reducible refine bel_grown ?_ (by assumption) ?_ ?_) | (with_reducible refine Below.setCell ?_ ?_ _) | go_size)
  have hord := hF.ord
  have hfl := hF.lt
  obtain ⟨X1, rfl, hl1, hm1⟩ := later _ hb1 (Nat.le_refl _)
  have HF := Lib.hid (And.intro hF (And.intro hbq hb1))
  clear hF hb1 hbq
  go_wp2_with fail
  go_at_call 37
  have hbY : Below w.heap.size w (X1.w.alloc (.cells #[.pointer (some ⟨f, 0, none⟩)] 93)) := (HF.out.2.1.trans (HF.out.2.2.mono HF.out.2.1.size)).alloc (by omega) _
  have hsY : (X1.w.alloc (.cells #[.pointer (some ⟨f, 0, none⟩)] 93)).heap.size = X1.w.heap.size + 1 := by simp
  have hw : Wb (X1.w.alloc (.cells #[.pointer (some ⟨f, 0, none⟩)] 93)) w.heap.size (some ⟨q, 0, none⟩) (some ⟨qc, 0, none⟩) qt := ⟨by go_simp, by go_simp, by go_simp⟩
  have hv : Vb (X1.w.alloc (.cells #[.pointer (some ⟨f, 0, none⟩)] 93)) (w.heap.size + 1) role tier g := ⟨by go_simp, by go_simp, by go_simp, by go_simp, by go_simp, by go_simp, by go_simp, by go_simp, by go_simp, by go_simp⟩
  have hB : Bb (X1.w.alloc (.cells #[.pointer (some ⟨f, 0, none⟩)] 93)) (w.heap.size + 1 + 1) (w.heap.size + 1 + 1 + 1) X1.w.heap.size f px py 1 := ⟨by go_simp, by go_simp, by go_simp, by go_simp⟩
  have hF2 := HF.out.1.keep ((Below.refl X1.w.heap.size X1.w).alloc (Nat.le_refl _) (.cells #[.pointer (some ⟨f, 0, none⟩)] 93))
  generalize hYY : (X1.w.alloc (.cells #[.pointer (some ⟨f, 0, none⟩)] 93)) = Y at hbY hsY hw hv hB hF2 ⊢
  have hmb := hB.m0
  have hfb := hB.f0
  refine (PL.out (fun j => j = fq ∨ j = m) w.heap.size (w.heap.size + 1) (w.heap.size + 1 + 1) (w.heap.size + 1 + 1 + 1) X1.w.heap.size f fq m Y hbY (HT.out.step (fun j _ _ hj => hbY.block j hj) hbY.size (fun j hj => .inr (by omega))) (fun j hj => by omega) hw hv hB ⟨by omega, by omega, by omega, by omega, by omega, by omega⟩ hF2 ⟨.inl rfl, .inr rfl⟩).mono ?_
  rintro e w3 ⟨rfl, C', cq', hF3, hT3, hc3, hC3⟩
  have hs3 := hc3.size
  have m3 : w3.cell? ⟨w.heap.size + 1 + 1 + 1, 0, none⟩ = some (.int .i64 1) := (hc3.cell (p := ⟨w.heap.size + 1 + 1 + 1, 0, none⟩) (by show w.heap.size + 1 + 1 + 1 < _; omega) (by show ¬ (w.heap.size + 1 + 1 + 1 = bt ∨ w.heap.size + 1 + 1 + 1 = m ∨ w.heap.size + 1 + 1 + 1 = fq); omega)).trans hmb
  have f3 : w3.cell? ⟨X1.w.heap.size, 0, none⟩ = some (.pointer (some ⟨f, 0, none⟩)) := (hc3.cell (p := ⟨X1.w.heap.size, 0, none⟩) (by show X1.w.heap.size < _; omega) (by show ¬ (X1.w.heap.size = bt ∨ X1.w.heap.size = m ∨ X1.w.heap.size = fq); omega)).trans hfb
  have PFi := Lib.hid (ffirst_one f fq m cq' C' (distI x0 y0 x1 y1 px py) id lv x0 y0 x1 y1 w3 hF3 hid)
  have hbs := hbY.size
  have HC := Lib.hid (show Chg (fun j => j = bt) w w3 ∧ (∀ j, gP C' j → w.heap.size ≤ j) from ⟨(Chg.of (X := fun j => j = bt) hbY).trans hc3 (fun j hj => by rcases hj with e | e | e; exact .inl e; exact .inr (by omega); exact .inr (by omega)), fun j hj => Nat.le_trans hbs (hC3 j hj)⟩)
  clear hF3 hT3 hc3 hC3 hw hv hB hF2 hbY hmb hfb
  go_wp2_with fail
  refine PFi.out.mono ?_
  rintro e w4 ⟨A, ca, rfl, hown, hc4⟩
  have HE := Lib.hid (show w4.ownsRow w.heap.size 48 6 (.slice A 1 ca) 1 [.int .i64 id, .int .i64 lv, .int .i64 x0, .int .i64 y0, .int .i64 x1, .int .i64 y1] ∧ Chg (fun j => j = bt) w w4 from ⟨own_base hown (by omega), HC.out.1.trans hc4 (fun j hj => hj.elim (fun e => .inr (by omega)) (fun e => .inr (HC.out.2 j e)))⟩)
  clear hown hc4
  go_wp2_with fail
  refine bodyPost_ret (by simp only [results, Tryz.results12]; go_simp; all_goals (first | rfl | simp [sel])) rfl ⟨A, ca, x0, y0, x1, y1, ⟨rfl, rfl, rfl, rfl⟩, rfl, HE.out⟩
end Go.Proofs.YthlijfligikciaaGreat
