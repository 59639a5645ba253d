/- A fresh quadtree of points, a fresh quadtree of shapes: walked. No condition. -/
import Derived.Test.YthlijfligikciaaGreatZ11
import Derived.Test.YthlijfligikciaaGreatZ13
import Derived.Laws.NewBlocks
namespace Go.Proofs.YthlijfligikciaaGreat
open Go.RowKit Go.Maps
set_option linter.unusedSimpArgs false
set_option linter.unusedVariables false
set_option maxRecDepth 2000

/-- A leaf without records: the grid's. -/
def nodeV (many : Int) (l : Value) : List Value := [.int .i64 0, .int .i64 0, .int .i64 0, .int .i64 (-1), .int .i64 (-1), .int .i64 (-1), .int .i64 (-1), .int .i64 many, .bool false, l]
theorem cells_ten_new (w : World) (a b c d e f g h i j : Value) (t : TypeId) : ∀ n u, ([a, b, c, d, e, f, g, h, i, j] : List Value)[n]? = some u → (w.alloc (.cells #[a, b, c, d, e, f, g, h, i, j] t)).cell? ((⟨w.heap.size, 0, none⟩ : Addr).add n) = some u := by
  intro n u hj
  match n, hj with
  | 0, hj | 1, hj | 2, hj | 3, hj | 4, hj | 5, hj | 6, hj | 7, hj | 8, hj | 9, hj => simp at hj; subst hj; simp [Addr.add]
set_option maxHeartbeats 16000000 in
theorem leaf_first (q : Nat) (w : World) (hq : q < w.heap.size) (q1 : w.cell? ⟨q, 1, none⟩ = some (.slice none 0 0)) (f1 : w.frozen? ⟨q, 1, none⟩ = false) (q2 : w.cell? ⟨q, 2, none⟩ = some (.slice none 0 0)) :
    Calls Tryz.prog 54 #[.pointer (some ⟨q, 0, none⟩), .agg #[.int .i64 0, .int .i64 0, .int .i64 0]] w fun e w' => e = .returned (.int .i64 0) ∧ ∃ C cc w7, w' = w7.setCell ⟨q, 1, none⟩ (.slice C 1 cc) ∧ Below w.heap.size w w7 ∧ w'.ownsRow w.heap.size 186 10 (.slice C 1 cc) 1 (nodeV 0 (.slice none 0 0)) := by
  obtain ⟨i0, hi, hz0, hz1, hz2⟩ := info_parts (show (Tryz.prog.info? 186).map (fun i => (i.zero, i.size, i.bytes)) = some (some (.agg #[.int .i64 0, .int .i64 0, .int .i64 0, .int .i64 0, .int .i64 0, .int .i64 0, .int .i64 0, .int .i64 0, .bool false, .slice none 0 0]), 10, 96) by kernel_rfl)
  go_enter Tryz.func54, Tryz.ntmps54
  go_wp2_with fail
  have HS : (fun w' => w'.cell? ⟨q, 1, none⟩ = some (.slice none 0 0) ∧ w'.cell? ⟨w.heap.size + 1, 0, none⟩ = some (.int .i64 0) ∧ w'.cell? ⟨w.heap.size + 1, 1, none⟩ = some (.int .i64 0) ∧ w'.cell? ⟨w.heap.size + 1, 2, none⟩ = some (.int .i64 0) ∧ w'.cell? ⟨w.heap.size + 1, 3, none⟩ = some (.int .i64 (-1)) ∧ w'.cell? ⟨w.heap.size + 1, 4, none⟩ = some (.int .i64 (-1)) ∧ w'.cell? ⟨w.heap.size + 1, 5, none⟩ = some (.int .i64 (-1)) ∧ w'.cell? ⟨w.heap.size + 1, 6, none⟩ = some (.int .i64 (-1)) ∧ w'.cell? ⟨w.heap.size + 1, 7, none⟩ = some (.int .i64 0) ∧ w'.cell? ⟨w.heap.size + 1, 8, none⟩ = some (.bool false) ∧ w'.cell? ⟨w.heap.size + 1, 9, none⟩ = some (.slice none 0 0)) ((w.alloc (.cells #[.int .i64 0, .int .i64 0, .int .i64 0] 83)).alloc (.cells #[.int .i64 0, .int .i64 0, .int .i64 0, .int .i64 (-1), .int .i64 (-1), .int .i64 (-1), .int .i64 (-1), .int .i64 0, .bool false, .slice none 0 0] 186)).drew := ⟨by go_simp, by go_simp, by go_simp, by go_simp, by go_simp, by go_simp, by go_simp, by go_simp, by go_simp, by go_simp, by go_simp⟩
  refine wp_region_early (fun w' => w'.cell? ⟨q, 1, none⟩ = some (.slice none 0 0) ∧ w'.cell? ⟨w.heap.size + 1, 0, none⟩ = some (.int .i64 0) ∧ w'.cell? ⟨w.heap.size + 1, 1, none⟩ = some (.int .i64 0) ∧ w'.cell? ⟨w.heap.size + 1, 2, none⟩ = some (.int .i64 0) ∧ w'.cell? ⟨w.heap.size + 1, 3, none⟩ = some (.int .i64 (-1)) ∧ w'.cell? ⟨w.heap.size + 1, 4, none⟩ = some (.int .i64 (-1)) ∧ w'.cell? ⟨w.heap.size + 1, 5, none⟩ = some (.int .i64 (-1)) ∧ w'.cell? ⟨w.heap.size + 1, 6, none⟩ = some (.int .i64 (-1)) ∧ w'.cell? ⟨w.heap.size + 1, 7, none⟩ = some (.int .i64 0) ∧ w'.cell? ⟨w.heap.size + 1, 8, none⟩ = some (.bool false) ∧ w'.cell? ⟨w.heap.size + 1, 9, none⟩ = some (.slice none 0 0)) (fun j => decide (j < 8)) (by kernel_rfl) HS (fun HS => ?_)
  (refine wpAnyE_take (i := 0) (v := ?_) rfl (by kernel_rfl) (by kernel_rfl) (by kernel_rfl) (by kernel_rfl) (fun _ _ _ h => h) (Or.inl ⟨by rfl, ?_⟩) HS ?_; rotate_left 1; (focus (intro w9 hSw; (try dsimp only at hSw); go_simp; all_goals (with_reducible rfl))); (try simp only [Act.put, List.setIfInBounds_toArray, List.set_cons_zero, List.set_cons_succ]))
  (refine wpAnyE_take (i := 1) (v := ?_) rfl (by kernel_rfl) (by kernel_rfl) (by kernel_rfl) (by kernel_rfl) (fun _ _ _ h => h) (Or.inl ⟨by rfl, ?_⟩) HS ?_; rotate_left 1; (focus (intro w9 hSw; (try dsimp only at hSw); go_simp; all_goals (with_reducible rfl))); (try simp only [Act.put, List.setIfInBounds_toArray, List.set_cons_zero, List.set_cons_succ]))
  (refine wpAnyE_take (i := 2) (v := ?_) rfl (by kernel_rfl) (by kernel_rfl) (by kernel_rfl) (by kernel_rfl) (fun _ _ _ h => h) (Or.inl ⟨by rfl, ?_⟩) HS ?_; rotate_left 1; (focus (intro w9 hSw; (try dsimp only at hSw); go_simp; all_goals (with_reducible rfl))); (try simp only [Act.put, List.setIfInBounds_toArray, List.set_cons_zero, List.set_cons_succ]))
  (refine wpAnyE_take (i := 3) (v := ?_) rfl (by kernel_rfl) (by kernel_rfl) (by kernel_rfl) (by kernel_rfl) (fun _ _ _ h => h) (Or.inl ⟨by rfl, ?_⟩) HS ?_; rotate_left 1; (focus (intro w9 hSw; (try dsimp only at hSw); go_simp; all_goals (with_reducible rfl))); (try simp only [Act.put, List.setIfInBounds_toArray, List.set_cons_zero, List.set_cons_succ]))
  (refine wpAnyE_take (i := 4) (v := ?_) rfl (by kernel_rfl) (by kernel_rfl) (by kernel_rfl) (by kernel_rfl) (fun _ _ _ h => h) (Or.inl ⟨by rfl, ?_⟩) HS ?_; rotate_left 1; (focus (intro w9 hSw; (try dsimp only at hSw); go_simp; all_goals (with_reducible rfl))); (try simp only [Act.put, List.setIfInBounds_toArray, List.set_cons_zero, List.set_cons_succ]))
  (refine wpAnyE_take (i := 5) (v := ?_) rfl (by kernel_rfl) (by kernel_rfl) (by kernel_rfl) (by kernel_rfl) (fun _ _ _ h => h) (Or.inl ⟨by rfl, ?_⟩) HS ?_; rotate_left 1; (focus (intro w9 hSw; (try dsimp only at hSw); go_simp; all_goals (with_reducible rfl))); (try simp only [Act.put, List.setIfInBounds_toArray, List.set_cons_zero, List.set_cons_succ]))
  refine wpAnyE_one (i := 6) rfl (by kernel_rfl) ?_
  go_wp2_with fail
  have HS : (fun w' => w'.cell? ⟨q, 1, none⟩ = some (.slice none 0 0) ∧ w'.cell? ⟨w.heap.size + 1, 0, none⟩ = some (.int .i64 0) ∧ w'.cell? ⟨w.heap.size + 1, 1, none⟩ = some (.int .i64 0) ∧ w'.cell? ⟨w.heap.size + 1, 2, none⟩ = some (.int .i64 0) ∧ w'.cell? ⟨w.heap.size + 1, 3, none⟩ = some (.int .i64 (-1)) ∧ w'.cell? ⟨w.heap.size + 1, 4, none⟩ = some (.int .i64 (-1)) ∧ w'.cell? ⟨w.heap.size + 1, 5, none⟩ = some (.int .i64 (-1)) ∧ w'.cell? ⟨w.heap.size + 1, 6, none⟩ = some (.int .i64 (-1)) ∧ w'.cell? ⟨w.heap.size + 1, 7, none⟩ = some (.int .i64 0) ∧ w'.cell? ⟨w.heap.size + 1, 8, none⟩ = some (.bool false) ∧ w'.cell? ⟨w.heap.size + 1, 9, none⟩ = some (.slice none 0 0)) (((w.alloc (.cells #[.int .i64 0, .int .i64 0, .int .i64 0] 83)).alloc (.cells #[.int .i64 0, .int .i64 0, .int .i64 0, .int .i64 (-1), .int .i64 (-1), .int .i64 (-1), .int .i64 (-1), .int .i64 0, .bool false, .slice none 0 0] 186)).drew.alloc (.cells #[.int .i64 0, .int .i64 0, .int .i64 0, .int .i64 (-1), .int .i64 (-1), .int .i64 (-1), .int .i64 (-1), .int .i64 0, .bool false, .slice none 0 0] 186)) := ⟨by go_simp, by go_simp, by go_simp, by go_simp, by go_simp, by go_simp, by go_simp, by go_simp, by go_simp, by go_simp, by go_simp⟩
  first | refine ⟨fun _ => HS, ?_⟩ | skip
  refine wpAnyE_one (i := 7) rfl (by kernel_rfl) ?_
  refine wpList_append_own_at _ rfl _ _ 111 rfl w.heap.size 186 i0 (.agg #[.int .i64 0, .int .i64 0, .int .i64 0, .int .i64 0, .int .i64 0, .int .i64 0, .int .i64 0, .int .i64 0, .bool false, .slice none 0 0]) 10 96 Tryz.underlying111 hi hz0 hz1 hz2 rfl (by decide) (.slice none 0 0) 0 _ (by rfl) (World.ownsRow_nil _ _ _ _) ⟨w.heap.size + 2, 0, none⟩ 1 1 [.int .i64 0, .int .i64 0, .int .i64 0, .int .i64 (-1), .int .i64 (-1), .int .i64 (-1), .int .i64 (-1), .int .i64 0, .bool false, .slice none 0 0] (by rfl) (by rfl) (by
    have h9 := cells_ten_new ((w.alloc (.cells #[.int .i64 0, .int .i64 0, .int .i64 0] 83)).alloc (.cells #[.int .i64 0, .int .i64 0, .int .i64 0, .int .i64 (-1), .int .i64 (-1), .int .i64 (-1), .int .i64 (-1), .int .i64 0, .bool false, .slice none 0 0] 186)).drew (.int .i64 0) (.int .i64 0) (.int .i64 0) (.int .i64 (-1)) (.int .i64 (-1)) (.int .i64 (-1)) (.int .i64 (-1)) (.int .i64 0) (.bool false) (.slice none 0 0) 186
    have e9 : ((w.alloc (.cells #[.int .i64 0, .int .i64 0, .int .i64 0] 83)).alloc (.cells #[.int .i64 0, .int .i64 0, .int .i64 0, .int .i64 (-1), .int .i64 (-1), .int .i64 (-1), .int .i64 (-1), .int .i64 0, .bool false, .slice none 0 0] 186)).drew.heap.size = w.heap.size + 2 := by simp
    rw [e9] at h9
    exact h9) (by intro u hu; simp at hu; rcases hu with rfl | rfl | rfl | rfl | rfl <;> rfl) (by unfold maxLen; omega) (by omega) (by simp; omega) ?_
  intro v3 w3 hown3 hgrow3 _ _
  obtain ⟨A3, k3, rfl⟩ := own_formN hown3
  have hb3 : Below w.heap.size w w3 := Below.grown (show Below w.heap.size w (((w.alloc (.cells #[.int .i64 0, .int .i64 0, .int .i64 0] 83)).alloc (.cells #[.int .i64 0, .int .i64 0, .int .i64 0, .int .i64 (-1), .int .i64 (-1), .int .i64 (-1), .int .i64 (-1), .int .i64 0, .bool false, .slice none 0 0] 186)).drew.alloc (.cells #[.int .i64 0, .int .i64 0, .int .i64 0, .int .i64 (-1), .int .i64 (-1), .int .i64 (-1), .int .i64 (-1), .int .i64 0, .bool false, .slice none 0 0] 186)) from ((((Below.refl w.heap.size w).alloc (Nat.le_refl _) _).alloc (by simp) _).drew).alloc (by simp; omega) _) hgrow3 (by simp; omega) (fun k hk => by cases hk)
  have HO3 := Lib.hid hown3
  have c3 : w3.cell? ⟨q, 1, none⟩ = some (.slice none 0 0) := (hb3.cell (p := ⟨q, 1, none⟩) hq).trans q1
  have z3 : w3.frozen? ⟨q, 1, none⟩ = false := (hb3.frozen (p := ⟨q, 1, none⟩) hq).trans f1
  have hs3 := hgrow3.size
  simp only [World.size_alloc, World.size_drew] at hs3
  have n3 : ∀ i, w3.cell? ⟨w.heap.size + 1, i, none⟩ = (((w.alloc (.cells #[.int .i64 0, .int .i64 0, .int .i64 0] 83)).alloc (.cells #[.int .i64 0, .int .i64 0, .int .i64 0, .int .i64 (-1), .int .i64 (-1), .int .i64 (-1), .int .i64 (-1), .int .i64 0, .bool false, .slice none 0 0] 186)).drew.alloc (.cells #[.int .i64 0, .int .i64 0, .int .i64 0, .int .i64 (-1), .int .i64 (-1), .int .i64 (-1), .int .i64 (-1), .int .i64 0, .bool false, .slice none 0 0] 186)).cell? ⟨w.heap.size + 1, i, none⟩ := fun i => hgrow3.cell_far ⟨w.heap.size + 1, i, none⟩ (by simp) (fun e => by cases e)
  have HS3 : (fun w' => w'.cell? ⟨q, 1, none⟩ = some (.slice none 0 0) ∧ w'.cell? ⟨w.heap.size + 1, 0, none⟩ = some (.int .i64 0) ∧ w'.cell? ⟨w.heap.size + 1, 1, none⟩ = some (.int .i64 0) ∧ w'.cell? ⟨w.heap.size + 1, 2, none⟩ = some (.int .i64 0) ∧ w'.cell? ⟨w.heap.size + 1, 3, none⟩ = some (.int .i64 (-1)) ∧ w'.cell? ⟨w.heap.size + 1, 4, none⟩ = some (.int .i64 (-1)) ∧ w'.cell? ⟨w.heap.size + 1, 5, none⟩ = some (.int .i64 (-1)) ∧ w'.cell? ⟨w.heap.size + 1, 6, none⟩ = some (.int .i64 (-1)) ∧ w'.cell? ⟨w.heap.size + 1, 7, none⟩ = some (.int .i64 0) ∧ w'.cell? ⟨w.heap.size + 1, 8, none⟩ = some (.bool false) ∧ w'.cell? ⟨w.heap.size + 1, 9, none⟩ = some (.slice none 0 0)) w3 := ⟨c3, (n3 _).trans (by go_simp), (n3 _).trans (by go_simp), (n3 _).trans (by go_simp), (n3 _).trans (by go_simp), (n3 _).trans (by go_simp), (n3 _).trans (by go_simp), (n3 _).trans (by go_simp), (n3 _).trans (by go_simp), (n3 _).trans (by go_simp), (n3 _).trans (by go_simp)⟩
  refine ⟨fun _ => HS3, ?_⟩
  have HE := Lib.hid (And.intro hb3 HO3.out)
  clear hown3 hgrow3 n3 HS HS3
  refine wpAnyE_rest (k := 8) rfl (by kernel_rfl) (fun j hj => by simp; omega) ?_
  simp only [List.drop_succ_cons, List.drop_zero]
  go_wp2_with fail
  go_ret
  exact ⟨rfl, A3, k3, w3, rfl, HE.out.1, own_set HE.out.2 hq _⟩
/-- A quadtree of points at a block, with one leaf. -/
structure Pt1 (w : World) (s q : Nat) (C : Option Addr) (cc many : Nat) (l : Value) : Prop where
  lt : q < w.heap.size
  ls : s < q
  c0 : w.cell? ⟨q, 0, none⟩ = some (.int .i64 3)
  c1 : w.cell? ⟨q, 1, none⟩ = some (.slice C 1 cc)
  c2 : w.cell? ⟨q, 2, none⟩ = some (.slice none 0 0)
  c3 : w.cell? ⟨q, 3, none⟩ = some (.map (some s))
  own : w.ownsRow (q + 1) 186 10 (.slice C 1 cc) 1 (nodeV many l)
set_option maxHeartbeats 8000000 in
theorem ptNew_any (w : World) : Calls Tryz.prog 18 #[.int .i64 3] w fun e w' => ∃ C cc, e = .returned (.tuple #[.pointer (some ⟨w.heap.size + 1, 0, none⟩), .int .i64 0]) ∧ Pt1 w' w.heap.size (w.heap.size + 1) C cc 0 (.slice none 0 0) ∧ w'.heap[w.heap.size]? = some (.map #[] 0) ∧ Below w.heap.size w w' := by
  have hmm := @run_makeMap Tryz.prog
  have P := Lib.hid (fun (Y : World) (q : Nat) (hq : q < Y.heap.size) (q1 : Y.cell? ⟨q, 1, none⟩ = some (.slice none 0 0)) (f1 : Y.frozen? ⟨q, 1, none⟩ = false) (q2 : Y.cell? ⟨q, 2, none⟩ = some (.slice none 0 0)) => leaf_first q Y hq q1 f1 q2)
  go_enter Tryz.func18, Tryz.ntmps18
  go_wp2_with fail
  go_at_call 54
  refine (P.out _ (w.heap.size + 1) (by simp) (by go_simp) (by go_simp) (by go_simp)).mono ?_
  rintro e w' ⟨rfl, C, cc, w7, rfl, hb, hown⟩
  obtain ⟨X7, rfl, hl7, hm7⟩ := later _ hb (Nat.le_refl _)
  have hz7 : w.heap.size + 2 ≤ X7.w.heap.size := Nat.le_trans (by simp) hl7
  have hmap : (X7.w.setCell ⟨w.heap.size + 1, 1, none⟩ (.slice C 1 cc)).heap[w.heap.size]? = some (.map #[] 0) := by
    rw [Below.heap_setCell _ _ _ _ (by show w.heap.size ≠ w.heap.size + 1; omega), hb.block _ (by simp; omega)]
    have h9 : Below (w.alloc (.map #[] 0)).heap.size (w.alloc (.map #[] 0)) ((w.alloc (.map #[] 0)).alloc (.cells #[.int .i64 3, .slice none 0 0, .slice none 0 0, .map (some w.heap.size)] 114)) := (Below.refl _ _).alloc (Nat.le_refl _) _
    rw [h9.block _ (by simp)]
    exact heap_alloc_new w _
  have hbw : Below w.heap.size w (X7.w.setCell ⟨w.heap.size + 1, 1, none⟩ (.slice C 1 cc)) := (show Below w.heap.size w X7.w by repeat' (first | (with_reducible exact Below.refl _ _) | (with_reducible assumption) | (with_reducible refine Later.step ?_ ?_ _) | (with_reducible refine Below.alloc ?_ ?_ _) | (with_reducible refine Below.drew ?_) | (with_reducible refine bel_drewN ?_ _) | (with_reducible refine bel_grown ?_ (by assumption) ?_ ?_) | (with_reducible refine Below.setCell ?_ ?_ _) | go_size)).setCell (by show w.heap.size ≤ w.heap.size + 1; omega) _
  have HE := Lib.hid (And.intro hown (And.intro hmap hbw))
  clear hb hown hmap hbw
  go_wp2_with fail
  refine bodyPost_ret (by simp only [results, Tryz.results18]; go_simp; all_goals (first | rfl | simp [sel])) rfl ⟨C, cc, rfl, ⟨by rw [World.size_setCell]; omega, by omega, by go_simp, by go_simp, by go_simp, by go_simp, own_base HE.out.1 (by simp)⟩, HE.out.2.1, HE.out.2.2⟩
set_option maxHeartbeats 4000000 in
theorem fresh_any (a b c : Int) (w : World) : Calls Tryz.prog 57 #[.agg #[.int .i64 a, .int .i64 b, .int .i64 c]] w fun e w' => (∃ q, e = .returned (.pointer (some ⟨q, 0, none⟩)) ∧ w.heap.size ≤ q) ∧ Below w.heap.size w w' := by
  have hmm := @run_makeMap Tryz.prog
  go_enter Tryz.func57, Tryz.ntmps57
  go_wp2_with fail
  go_ret
  exact ⟨⟨_, rfl, by omega⟩, by repeat' (first | (with_reducible exact Below.refl _ _) | (with_reducible assumption) | (with_reducible refine Later.step ?_ ?_ _) | (with_reducible refine Below.alloc ?_ ?_ _) | (with_reducible refine Below.drew ?_) | (with_reducible refine Below.setCell ?_ ?_ _) | go_size)⟩
set_option maxHeartbeats 4000000 in
theorem cifNew_any (w : World) : Calls Tryz.prog 20 #[] w fun e w' => (∃ q, e = .returned (.pointer (some ⟨q, 0, none⟩)) ∧ w.heap.size ≤ q) ∧ Below w.heap.size w w' := by
  have hmm := @run_makeMap Tryz.prog
  have P := Lib.hid (fun (Y : World) => fresh_any 0 0 0 Y)
  go_enter Tryz.func20, Tryz.ntmps20
  go_wp2_with fail
  go_at_call 57
  refine (P.out _).mono ?_
  rintro e w' ⟨⟨q, rfl, hq⟩, hb⟩
  obtain ⟨X1, rfl, hl1, hm1⟩ := later _ hb (Nat.le_refl _)
  go_wp2_with fail
  go_ret
  exact ⟨⟨_, rfl, by omega⟩, by repeat' (first | (with_reducible exact Below.refl _ _) | (with_reducible assumption) | (with_reducible refine Later.step ?_ ?_ _) | (with_reducible refine Below.alloc ?_ ?_ _) | (with_reducible refine Below.drew ?_) | (with_reducible refine bel_drewN ?_ _) | (with_reducible refine bel_grown ?_ (by assumption) ?_ ?_) | (with_reducible refine Below.setCell ?_ ?_ _) | go_size)⟩
end Go.Proofs.YthlijfligikciaaGreat
