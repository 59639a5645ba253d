/- The document's cloak at a cell, walked. No condition beyond what the memory holds. -/
import Derived.Test.YthoanoaigfcchaaClP
namespace Go.Proofs.Ythoanoaigfcchaa
open Go.RowKit Go.Maps
set_option linter.unusedSimpArgs false
set_option linter.unusedVariables false
set_option maxRecDepth 2000

set_option maxHeartbeats 4000000 in
theorem krright_any (K A : Int) (w : World) : Calls Try.prog 13 #[.agg #[.int .i64 K, .int .u64 A]] w fun e w' => e = .returned (.bool (rightK K)) ∧ Below w.heap.size w w' := by
  go_enter Try.func13, Try.ntmps13
  go_wp2
  all_goals
    go_ret
    exact ⟨ret_b (iff_b (by simp only [rightK, decide_eq_true_eq]; first | omega | (simp; done) | (simp; omega))), by repeat' (first | (with_reducible exact Below.refl _ _) | (with_reducible assumption) | (with_reducible refine Later.step ?_ ?_ _) | (with_reducible refine Below.alloc ?_ ?_ _) | (with_reducible refine Below.drew ?_) | (with_reducible refine Below.setCell ?_ ?_ _) | go_size)⟩
set_option maxHeartbeats 4000000 in
theorem rdoes_any (K A n a : Int) (w : World) : Calls Try.prog 23 #[.agg #[.int .i64 K, .int .u64 A], .int .i64 n, .int .u64 a] w fun e w' => e = .returned (.bool (doesB K A n a)) ∧ Below w.heap.size w w' := by
  obtain ⟨r, hr⟩ : ∃ r, rightK K = r := ⟨_, rfl⟩
  have p1 := krright_any K A
  rw [hr] at p1
  have P1 := Lib.hid p1
  have hr2 : r = true ↔ 1 ≤ K ∧ K ≤ 65535 := by rw [← hr]; simp [rightK]
  have HR := Lib.hid hr2
  clear p1 hr hr2
  cases r with
  | false =>
    go_enter Try.func23, Try.ntmps23
    go_wp2_with (first
      | (go_at_call 13; refine (P1.out _).mono ?_; rintro e w' ⟨rfl, hb⟩; obtain ⟨X1, rfl, hl1, hm1⟩ := later (w.heap.size + 1) hb (by first | exact Nat.le_refl _ | go_size); clear hb; (try simp only [World.size_alloc, World.size_setCell, World.size_drew] at hm1)))
    all_goals
      go_ret
      exact ⟨ret_b (by
        have h9 := HR.out
        symm
        unfold doesB
        rw [decide_eq_false_iff_not]
        intro h
        exact absurd (h9.2 ⟨h.1, h.2.1⟩) (by simp)), by repeat' (first | (with_reducible exact Below.refl _ _) | (with_reducible assumption) | (with_reducible refine Later.step ?_ ?_ _) | (with_reducible refine Below.alloc ?_ ?_ _) | (with_reducible refine Below.drew ?_) | (with_reducible refine Below.setCell ?_ ?_ _) | go_size)⟩
  | true =>
    have hK := HR.out.1 rfl
    go_enter Try.func23, Try.ntmps23
    go_wp2_with (first
      | (go_at_call 13; refine (P1.out _).mono ?_; rintro e w' ⟨rfl, hb⟩; obtain ⟨X1, rfl, hl1, hm1⟩ := later (w.heap.size + 1) hb (by first | exact Nat.le_refl _ | go_size); clear hb; (try simp only [World.size_alloc, World.size_setCell, World.size_drew] at hm1)))
    all_goals
      go_ret
      exact ⟨ret_b (iff_b (by simp only [doesB, decide_eq_true_eq]; first | omega | (simp; done) | (simp; omega))), by repeat' (first | (with_reducible exact Below.refl _ _) | (with_reducible assumption) | (with_reducible refine Later.step ?_ ?_ _) | (with_reducible refine Below.alloc ?_ ?_ _) | (with_reducible refine Below.drew ?_) | (with_reducible refine Below.setCell ?_ ?_ _) | go_size)⟩
set_option maxHeartbeats 4000000 in
theorem rboth_any (l x y x' y' : Int) (w : World) (hc : crightB l x y = true) (hc' : crightB l x' y' = true) :
    Calls Try.prog 56 #[.agg #[.int .i64 l, .int .i64 x, .int .i64 y], .agg #[.int .i64 l, .int .i64 x', .int .i64 y']] w fun e w' => e = .returned (.agg #[.int .i64 (hu l x y x' y' 0), .int .i64 (hu l x y x' y' 1), .int .i64 (hu l x y x' y' 2), .int .i64 (hu l x y x' y' 3)]) ∧ Below w.heap.size w w' := by
  have p1 := rbox_any l x y
  have p2 := rbox_any l x' y'
  rw [hc] at p1
  rw [hc'] at p2
  simp only [sel, if_true] at p1 p2
  have p3 := rhull_any (x * sd l) (y * sd l) (x * sd l + sd l - 1) (y * sd l + sd l - 1) (x' * sd l) (y' * sd l) (x' * sd l + sd l - 1) (y' * sd l + sd l - 1)
  rw [show bothB (x * sd l) (y * sd l) (x * sd l + sd l - 1) (y * sd l + sd l - 1) (x' * sd l) (y' * sd l) (x' * sd l + sd l - 1) (y' * sd l + sd l - 1) = true from by
    unfold bothB
    rw [box_right hc, box_right hc']
    rfl] at p3
  simp only [sel, if_true] at p3
  simp only [hu]
  have P1 := Lib.hid p1
  have P2 := Lib.hid p2
  have P3 := Lib.hid p3
  clear p1 p2 p3 hc hc'
  go_enter Try.func56, Try.ntmps56
  go_wp2_with (first
    | (go_at_call 18; with_reducible refine (P1.out _).mono ?_; rintro e w' ⟨rfl, hb⟩; obtain ⟨X1, rfl, hl1, hm1⟩ := later _ hb (Nat.le_refl _); clear hb; (try simp only [World.size_alloc, World.size_setCell, World.size_drew] at hm1 hl1))
    | (go_at_call 18; with_reducible refine (P2.out _).mono ?_; rintro e w' ⟨rfl, hb⟩; obtain ⟨X2, rfl, hl2, hm2⟩ := later _ hb (Nat.le_refl _); clear hb; (try simp only [World.size_alloc, World.size_setCell, World.size_drew] at hm2 hl2))
    | (go_at_call 65; with_reducible refine (P3.out _).mono ?_; rintro e w' ⟨rfl, hb⟩; obtain ⟨X3, rfl, hl3, hm3⟩ := later _ hb (Nat.le_refl _); clear hb; (try simp only [World.size_alloc, World.size_setCell, World.size_drew] at hm3 hl3)))
  refine bodyPost_ret (by simp only [results, Try.results56]; go_simp; all_goals (first | rfl | simp [sel])) rfl ⟨rfl, ?_⟩
  repeat' (first | (with_reducible exact Below.refl _ _) | (with_reducible assumption) | (with_reducible refine Later.step ?_ ?_ _) | (with_reducible refine Below.alloc ?_ ?_ _) | (with_reducible refine Below.drew ?_) | (with_reducible refine bel_drewN ?_ _) | (with_reducible refine bel_grown ?_ (by assumption) ?_ ?_) | (with_reducible refine Below.setCell ?_ ?_ _) | go_size)
theorem cntP_bd {P : List (Int × Int)} (l x y : Int) : 0 ≤ cntP P l x y ∧ cntP P l x y ≤ P.length := by
  unfold cntP
  split
  · have := inL_le P (x * sd l) (y * sd l) (x * sd l + sd l - 1) (y * sd l + sd l - 1)
    omega
  · omega
set_option maxHeartbeats 16000000 in
theorem rat_own (S : Option Addr) (cp : Nat) (P : List (Int × Int)) (l x y K A : Int) (w : World) (h : Pts w w.heap.size S P) (hn : P.length ≤ 100000) (hc : crightB l x y = true) (ht : doesB K A (cntP P l x y) (boA l x y) = true ∨ l = 0) :
    Calls Try.prog 33 #[.slice S P.length cp, .agg #[.int .i64 l, .int .i64 x, .int .i64 y], .agg #[.int .i64 K, .int .u64 A]] w fun e w' => e = .returned (.tuple #[atV (cntP P) l x y (atK (cntP P) K A l x y), .bool (decide (atK (cntP P) K A l x y ≠ 3))]) ∧ Below w.heap.size w w' := by
  have p1 := rbox_any l x y
  rw [hc] at p1
  simp only [sel, if_true] at p1
  have p2 := fun (Y : World) (hY : Below w.heap.size w Y) => rcount_any S cp P l x y Y ((h.keep hY).more hY.size) (by omega) hc
  have p3 := rarea_any (x * sd l) (y * sd l) (x * sd l + sd l - 1) (y * sd l + sd l - 1)
  have ev : ((inL P (x * sd l) (y * sd l) (x * sd l + sd l - 1) (y * sd l + sd l - 1) : Nat) : Int) = cntP P l x y := by unfold cntP; rw [if_pos hc]
  rw [ev] at p2
  have p4 := rdoes_any K A (cntP P l x y) (boA l x y)
  have p3' : ∀ w : World, Calls Try.prog 17 #[.agg #[.int .i64 (x * sd l), .int .i64 (y * sd l), .int .i64 (x * sd l + sd l - 1), .int .i64 (y * sd l + sd l - 1)]] w fun e w' => e = .returned (.int .u64 (boA l x y)) ∧ Below w.heap.size w w' := p3
  have P1 := Lib.hid p1
  have P2 := Lib.hid p2
  have P3 := Lib.hid p3'
  obtain ⟨t, htt⟩ : ∃ t, doesB K A (cntP P l x y) (boA l x y) = t := ⟨_, rfl⟩
  rw [htt] at p4
  have P4 := Lib.hid p4
  cases t with
  | true =>
    have hk : atK (cntP P) K A l x y = 0 := by unfold atK; rw [if_pos htt]
    rw [hk]
    have e1 : atV (cntP P) l x y 0 = .agg #[.int .i64 (x * sd l), .int .i64 (y * sd l), .int .i64 (x * sd l + sd l - 1), .int .i64 (y * sd l + sd l - 1), .int .i64 l, .int .i64 x, .int .i64 y, .int .i64 0, .int .i64 (cntP P l x y)] := rfl
    rw [e1]
    clear hk e1 ht htt p1 p2 p3 p3' p4 h hc ev
    generalize cntP P l x y = v at *
    generalize boA l x y = ar at *
    go_enter Try.func33, Try.ntmps33
    go_wp2_with (first
      | (go_at_call 18; with_reducible refine (P1.out _).mono ?_; rintro e w' ⟨rfl, hb⟩; obtain ⟨X1, rfl, hl1, hm1⟩ := later _ hb (Nat.le_refl _); clear hb; (try simp only [World.size_alloc, World.size_setCell, World.size_drew] at hm1 hl1))
      | (go_at_call 53; with_reducible refine (P2.out _ (by repeat' (first | (with_reducible exact Below.refl _ _) | (with_reducible assumption) | (with_reducible refine Later.step ?_ ?_ _) | (with_reducible refine Below.alloc ?_ ?_ _) | (with_reducible refine Below.drew ?_) | (with_reducible refine bel_drewN ?_ _) | (with_reducible refine bel_grown ?_ (by assumption) ?_ ?_) | (with_reducible refine Below.setCell ?_ ?_ _) | go_size))).mono ?_; rintro e w' ⟨rfl, hb⟩; obtain ⟨X2, rfl, hl2, hm2⟩ := later _ hb (Nat.le_refl _); clear hb; (try simp only [World.size_alloc, World.size_setCell, World.size_drew] at hm2 hl2)))
    (refine wp_region_later (X2.w.heap.size) (by kernel_rfl) (by kernel_rfl) (by go_size) ?_; (repeat (go_big_quiet_step ((first | (go_at_call 17; exact Later.call _ (Nat.le_trans (by go_size) (Later.is _).size) (P3.out _)) | (go_at_call 23; exact Later.call _ (Nat.le_trans (by go_size) (Later.is _).size) (P4.out _)))))); refine wpQuiet_nil ?_; intro Xq hlq hmq)
    go_wp2
    refine bodyPost_ret (by simp only [results, Try.results33]; go_simp; all_goals (first | rfl | simp [sel])) rfl ⟨rfl, ?_⟩
    repeat' (first | (with_reducible exact Below.refl _ _) | (with_reducible assumption) | (with_reducible refine Later.step ?_ ?_ _) | (with_reducible refine Below.alloc ?_ ?_ _) | (with_reducible refine Below.drew ?_) | (with_reducible refine bel_drewN ?_ _) | (with_reducible refine bel_grown ?_ (by assumption) ?_ ?_) | (with_reducible refine Below.setCell ?_ ?_ _) | go_size)
  | false =>
    have hl : l = 0 := by
      rcases ht with ht | ht
      · rw [ht] at htt; cases htt
      · exact ht
    have hk : atK (cntP P) K A l x y = 3 := by unfold atK; rw [if_neg (by rw [htt]; simp), if_pos hl]
    rw [hk]
    have e1 : atV (cntP P) l x y 3 = zeroCK := rfl
    rw [e1]
    clear hk e1 ht htt p1 p2 p3 p3' p4 h hc ev
    generalize cntP P l x y = v at *
    generalize boA l x y = ar at *
    have hl' : (l == 0) = true := by simpa using hl
    have HL := Lib.hid hl
    clear hl
    unfold zeroCK
    go_enter Try.func33, Try.ntmps33
    go_wp2_with (first
      | (go_at_call 18; with_reducible refine (P1.out _).mono ?_; rintro e w' ⟨rfl, hb⟩; obtain ⟨X1, rfl, hl1, hm1⟩ := later _ hb (Nat.le_refl _); clear hb; (try simp only [World.size_alloc, World.size_setCell, World.size_drew] at hm1 hl1))
      | (go_at_call 53; with_reducible refine (P2.out _ (by repeat' (first | (with_reducible exact Below.refl _ _) | (with_reducible assumption) | (with_reducible refine Later.step ?_ ?_ _) | (with_reducible refine Below.alloc ?_ ?_ _) | (with_reducible refine Below.drew ?_) | (with_reducible refine bel_drewN ?_ _) | (with_reducible refine bel_grown ?_ (by assumption) ?_ ?_) | (with_reducible refine Below.setCell ?_ ?_ _) | go_size))).mono ?_; rintro e w' ⟨rfl, hb⟩; obtain ⟨X2, rfl, hl2, hm2⟩ := later _ hb (Nat.le_refl _); clear hb; (try simp only [World.size_alloc, World.size_setCell, World.size_drew] at hm2 hl2)))
    (refine wp_region_later (X2.w.heap.size) (by kernel_rfl) (by kernel_rfl) (by go_size) ?_; (repeat (go_big_quiet_step ((first | (go_at_call 17; exact Later.call _ (Nat.le_trans (by go_size) (Later.is _).size) (P3.out _)) | (go_at_call 23; exact Later.call _ (Nat.le_trans (by go_size) (Later.is _).size) (P4.out _)))))); refine wpQuiet_nil ?_; intro Xq hlq hmq)
    go_wp2
    refine bodyPost_ret (by simp only [results, Try.results33]; go_simp; all_goals (first | rfl | simp [sel])) rfl ⟨rfl, ?_⟩
    repeat' (first | (with_reducible exact Below.refl _ _) | (with_reducible assumption) | (with_reducible refine Later.step ?_ ?_ _) | (with_reducible refine Below.alloc ?_ ?_ _) | (with_reducible refine Below.drew ?_) | (with_reducible refine bel_drewN ?_ _) | (with_reducible refine bel_grown ?_ (by assumption) ?_ ?_) | (with_reducible refine Below.setCell ?_ ?_ _) | go_size)
theorem better_cases (d1 d2 : Bool) (n n' : Int) : (d1 = true ∧ d2 = false ∧ betterK d1 d2 n n' = 1) ∨ (d1 = true ∧ d2 = true ∧ n ≤ n' ∧ betterK d1 d2 n n' = 1) ∨ (d1 = true ∧ d2 = true ∧ ¬ n ≤ n' ∧ betterK d1 d2 n n' = 2) ∨ (d1 = false ∧ d2 = true ∧ betterK d1 d2 n n' = 2) ∨ (d1 = false ∧ d2 = false ∧ betterK d1 d2 n n' = 3) := by
  unfold betterK
  cases d1 <;> cases d2 <;> by_cases h : n ≤ n' <;> simp [h]
theorem betterK_vals (d1 d2 : Bool) (n n' : Int) : betterK d1 d2 n n' = 1 ∨ betterK d1 d2 n n' = 2 ∨ betterK d1 d2 n n' = 3 := by
  unfold betterK
  split
  · exact .inl rfl
  · split
    · exact .inr (.inl rfl)
    · exact .inr (.inr rfl)
set_option maxHeartbeats 16000000 in
theorem rat_pair (S : Option Addr) (cp : Nat) (P : List (Int × Int)) (hg : GoodP P) (l x y K A : Int) (w : World) (h : Pts w w.heap.size S P) (hn : P.length ≤ 100000) (hc : crightB l x y = true) (ht : doesB K A (cntP P l x y) (boA l x y) = false) (hl : ¬ l = 0) :
    Calls Try.prog 33 #[.slice S P.length cp, .agg #[.int .i64 l, .int .i64 x, .int .i64 y], .agg #[.int .i64 K, .int .u64 A]] w fun e w' => e = .returned (.tuple #[atV (cntP P) l x y (atK (cntP P) K A l x y), .bool (decide (atK (cntP P) K A l x y ≠ 3))]) ∧ Below w.heap.size w w' := by
  have l0 : 0 < l := by have := (cright_iff.1 hc).1; omega
  obtain ⟨hr1, hr2⟩ := cright_beside hc l0
  have p1 := rbox_any l x y
  rw [hc] at p1
  simp only [sel, if_true] at p1
  have p2 := fun (Y : World) (hY : Below w.heap.size w Y) => rcount_any S cp P l x y Y ((h.keep hY).more hY.size) (by omega) hc
  have ev : ((inL P (x * sd l) (y * sd l) (x * sd l + sd l - 1) (y * sd l + sd l - 1) : Nat) : Int) = cntP P l x y := by unfold cntP; rw [if_pos hc]
  rw [ev] at p2
  have p3 : ∀ w : World, Calls Try.prog 17 #[.agg #[.int .i64 (x * sd l), .int .i64 (y * sd l), .int .i64 (x * sd l + sd l - 1), .int .i64 (y * sd l + sd l - 1)]] w fun e w' => e = .returned (.int .u64 (boA l x y)) ∧ Below w.heap.size w w' := rarea_any _ _ _ _
  have p4 := rdoes_any K A (cntP P l x y) (boA l x y)
  rw [ht] at p4
  have pb := rbeside_any l x y
  have po := rover_any l x y
  have hb : besideB l x y = true := beside_iff.2 ⟨hc, l0⟩
  rw [hb] at pb po
  simp only [sel, if_true] at pb po
  have p5 := fun w => rboth_any l x y (otherI x) y w hc hr1
  have p6 := fun w => rboth_any l x y x (otherI y) w hc hr2
  have p7 := fun (Y : World) (hY : Below w.heap.size w Y) => rhasl_any S cp P (hu l x y (otherI x) y 0) (hu l x y (otherI x) y 1) (hu l x y (otherI x) y 2) (hu l x y (otherI x) y 3) Y ((h.keep hY).more hY.size) (by omega)
  have p8 := fun (Y : World) (hY : Below w.heap.size w Y) => rhasl_any S cp P (hu l x y x (otherI y) 0) (hu l x y x (otherI y) 1) (hu l x y x (otherI y) 2) (hu l x y x (otherI y) 3) Y ((h.keep hY).more hY.size) (by omega)
  rw [inL_beside hg hc l0] at p7
  rw [inL_over hg hc l0] at p8
  have p9 : ∀ w : World, Calls Try.prog 17 #[.agg #[.int .i64 (hu l x y (otherI x) y 0), .int .i64 (hu l x y (otherI x) y 1), .int .i64 (hu l x y (otherI x) y 2), .int .i64 (hu l x y (otherI x) y 3)]] w fun e w' => e = .returned (.int .u64 (huA l x y (otherI x) y)) ∧ Below w.heap.size w w' := rarea_any _ _ _ _
  have p10 : ∀ w : World, Calls Try.prog 17 #[.agg #[.int .i64 (hu l x y x (otherI y) 0), .int .i64 (hu l x y x (otherI y) 1), .int .i64 (hu l x y x (otherI y) 2), .int .i64 (hu l x y x (otherI y) 3)]] w fun e w' => e = .returned (.int .u64 (huA l x y x (otherI y))) ∧ Below w.heap.size w w' := rarea_any _ _ _ _
  have p11 := rdoes_any K A (cntP P l x y + cntP P l (otherI x) y) (huA l x y (otherI x) y)
  have p12 := rdoes_any K A (cntP P l x y + cntP P l x (otherI y)) (huA l x y x (otherI y))
  have hk : atK (cntP P) K A l x y = betterK (doesB K A (cntP P l x y + cntP P l (otherI x) y) (huA l x y (otherI x) y)) (doesB K A (cntP P l x y + cntP P l x (otherI y)) (huA l x y x (otherI y))) (cntP P l x y + cntP P l (otherI x) y) (cntP P l x y + cntP P l x (otherI y)) := by
    unfold atK
    rw [if_neg (by rw [ht]; simp), if_neg hl]
  rw [hk]
  have e1 : atV (cntP P) l x y 1 = .agg #[.int .i64 (hu l x y (otherI x) y 0), .int .i64 (hu l x y (otherI x) y 1), .int .i64 (hu l x y (otherI x) y 2), .int .i64 (hu l x y (otherI x) y 3), .int .i64 l, .int .i64 x, .int .i64 y, .int .i64 1, .int .i64 (cntP P l x y + cntP P l (otherI x) y)] := rfl
  have e2 : atV (cntP P) l x y 2 = .agg #[.int .i64 (hu l x y x (otherI y) 0), .int .i64 (hu l x y x (otherI y) 1), .int .i64 (hu l x y x (otherI y) 2), .int .i64 (hu l x y x (otherI y) 3), .int .i64 l, .int .i64 x, .int .i64 y, .int .i64 2, .int .i64 (cntP P l x y + cntP P l x (otherI y))] := rfl
  have e3 : atV (cntP P) l x y 3 = zeroCK := rfl
  have hb1 := cntP_bd (P := P) l x y
  have hb2 := cntP_bd (P := P) l (otherI x) y
  have hb3 := cntP_bd (P := P) l x (otherI y)
  clear hk hb hr1 hr2 h hc ht ev hg
  have hn1 : 0 ≤ cntP P l x y + cntP P l (otherI x) y ∧ cntP P l x y + cntP P l (otherI x) y ≤ 200000 := by omega
  have hn2 : 0 ≤ cntP P l x y + cntP P l x (otherI y) ∧ cntP P l x y + cntP P l x (otherI y) ≤ 200000 := by omega
  clear hb1 hb2 hb3
  generalize doesB K A (cntP P l x y + cntP P l (otherI x) y) (huA l x y (otherI x) y) = d1 at *
  generalize doesB K A (cntP P l x y + cntP P l x (otherI y)) (huA l x y x (otherI y)) = d2 at *
  generalize huA l x y (otherI x) y = ar1 at *
  generalize huA l x y x (otherI y) = ar2 at *
  generalize cntP P l x y + cntP P l (otherI x) y = n1 at *
  generalize cntP P l x y + cntP P l x (otherI y) = n2 at *
  have hcs := better_cases d1 d2 n1 n2
  have E : ∀ k : Int, (k = 1 ∨ k = 2 ∨ k = 3) → atV (cntP P) l x y k = (if k = 1 then .agg #[.int .i64 (hu l x y (otherI x) y 0), .int .i64 (hu l x y (otherI x) y 1), .int .i64 (hu l x y (otherI x) y 2), .int .i64 (hu l x y (otherI x) y 3), .int .i64 l, .int .i64 x, .int .i64 y, .int .i64 1, .int .i64 n1] else if k = 2 then .agg #[.int .i64 (hu l x y x (otherI y) 0), .int .i64 (hu l x y x (otherI y) 1), .int .i64 (hu l x y x (otherI y) 2), .int .i64 (hu l x y x (otherI y) 3), .int .i64 l, .int .i64 x, .int .i64 y, .int .i64 2, .int .i64 n2] else zeroCK) := by
    rintro k (rfl | rfl | rfl)
    · exact e1
    · exact e2
    · exact e3
  rw [E _ (betterK_vals _ _ _ _)]
  clear e1 e2 e3 E
  generalize cntP P l x y = v at *
  generalize boA l x y = ar at *
  generalize hu l x y (otherI x) y 0 = h0 at *
  generalize hu l x y (otherI x) y 1 = h1 at *
  generalize hu l x y (otherI x) y 2 = h2 at *
  generalize hu l x y (otherI x) y 3 = h3 at *
  generalize hu l x y x (otherI y) 0 = g0 at *
  generalize hu l x y x (otherI y) 1 = g1 at *
  generalize hu l x y x (otherI y) 2 = g2 at *
  generalize hu l x y x (otherI y) 3 = g3 at *
  generalize otherI x = ox at *
  generalize otherI y = oy at *
  generalize P.length = np at *
  have P1 := Lib.hid p1
  have P2 := Lib.hid p2
  have P3 := Lib.hid p3
  have P4 := Lib.hid p4
  have PB := Lib.hid pb
  have PO := Lib.hid po
  have P5 := Lib.hid p5
  have P6 := Lib.hid p6
  have P7 := Lib.hid p7
  have P8 := Lib.hid p8
  have P9 := Lib.hid p9
  have P10 := Lib.hid p10
  clear p1 p2 p3 p4 pb po p5 p6 p7 p8 p9 p10
  rcases hcs with ⟨rfl, rfl, hk⟩ | ⟨rfl, rfl, hle, hk⟩ | ⟨rfl, rfl, hle, hk⟩ | ⟨rfl, rfl, hk⟩ | ⟨rfl, rfl, hk⟩
  all_goals
    rw [hk]
    simp only [Int.reduceEq, if_true, if_false, ne_eq, not_true, not_false_eq_true, decide_true, decide_false]
    (try unfold zeroCK)
    have P11 := Lib.hid p11
    have P12 := Lib.hid p12
    have HK := Lib.hid hk
    (try have hdd : decide (n2 < n1) = false := decide_eq_false (by omega))
    (try have hdt : decide (n2 < n1) = true := decide_eq_true (by omega))
    clear hk p11 p12
    go_enter Try.func33, Try.ntmps33
    go_wp2_with (first
      | (go_at_call 18; with_reducible refine (P1.out _).mono ?_; rintro e w' ⟨rfl, hb⟩; obtain ⟨X1, rfl, hl1, hm1⟩ := later _ hb (Nat.le_refl _); clear hb; (try simp only [World.size_alloc, World.size_setCell, World.size_drew] at hm1 hl1))
      | (go_at_call 53; with_reducible refine (P2.out _ (by repeat' (first | (with_reducible exact Below.refl _ _) | (with_reducible assumption) | (with_reducible refine Later.step ?_ ?_ _) | (with_reducible refine Below.alloc ?_ ?_ _) | (with_reducible refine Below.drew ?_) | (with_reducible refine bel_drewN ?_ _) | (with_reducible refine bel_grown ?_ (by assumption) ?_ ?_) | (with_reducible refine Below.setCell ?_ ?_ _) | go_size))).mono ?_; rintro e w' ⟨rfl, hb⟩; obtain ⟨X2, rfl, hl2, hm2⟩ := later _ hb (Nat.le_refl _); clear hb; (try simp only [World.size_alloc, World.size_setCell, World.size_drew] at hm2 hl2)))
    (refine wp_region_later (X2.w.heap.size) (by kernel_rfl) (by kernel_rfl) (by go_size) ?_; (repeat (go_big_quiet_step ((first | (go_at_call 17; exact Later.call _ (Nat.le_trans (by go_size) (Later.is _).size) (P3.out _)) | (go_at_call 23; exact Later.call _ (Nat.le_trans (by go_size) (Later.is _).size) (P4.out _)))))); refine wpQuiet_nil ?_; intro Xq hlq hmq)
    go_wp2_with (first
      | (go_at_call 54; with_reducible refine (PB.out _).mono ?_; rintro e w' ⟨rfl, hb⟩; obtain ⟨X3, rfl, hl3, hm3⟩ := later _ hb (Nat.le_refl _); clear hb; (try simp only [World.size_alloc, World.size_setCell, World.size_drew] at hm3 hl3))
      | (go_at_call 55; with_reducible refine (PO.out _).mono ?_; rintro e w' ⟨rfl, hb⟩; obtain ⟨X4, rfl, hl4, hm4⟩ := later _ hb (Nat.le_refl _); clear hb; (try simp only [World.size_alloc, World.size_setCell, World.size_drew] at hm4 hl4))
      | (go_at_call 56; with_reducible refine (P5.out _).mono ?_; rintro e w' ⟨rfl, hb⟩; obtain ⟨X5, rfl, hl5, hm5⟩ := later _ hb (Nat.le_refl _); clear hb; (try simp only [World.size_alloc, World.size_setCell, World.size_drew] at hm5 hl5))
      | (go_at_call 56; with_reducible refine (P6.out _).mono ?_; rintro e w' ⟨rfl, hb⟩; obtain ⟨X6, rfl, hl6, hm6⟩ := later _ hb (Nat.le_refl _); clear hb; (try simp only [World.size_alloc, World.size_setCell, World.size_drew] at hm6 hl6))
      | (go_at_call 16; with_reducible refine (P7.out _ (by repeat' (first | (with_reducible exact Below.refl _ _) | (with_reducible assumption) | (with_reducible refine Later.step ?_ ?_ _) | (with_reducible refine Below.alloc ?_ ?_ _) | (with_reducible refine Below.drew ?_) | (with_reducible refine bel_drewN ?_ _) | (with_reducible refine bel_grown ?_ (by assumption) ?_ ?_) | (with_reducible refine Below.setCell ?_ ?_ _) | go_size))).mono ?_; rintro e w' ⟨rfl, hb⟩; obtain ⟨X7, rfl, hl7, hm7⟩ := later _ hb (Nat.le_refl _); clear hb; (try simp only [World.size_alloc, World.size_setCell, World.size_drew] at hm7 hl7))
      | (go_at_call 16; with_reducible refine (P8.out _ (by repeat' (first | (with_reducible exact Below.refl _ _) | (with_reducible assumption) | (with_reducible refine Later.step ?_ ?_ _) | (with_reducible refine Below.alloc ?_ ?_ _) | (with_reducible refine Below.drew ?_) | (with_reducible refine bel_drewN ?_ _) | (with_reducible refine bel_grown ?_ (by assumption) ?_ ?_) | (with_reducible refine Below.setCell ?_ ?_ _) | go_size))).mono ?_; rintro e w' ⟨rfl, hb⟩; obtain ⟨X8, rfl, hl8, hm8⟩ := later _ hb (Nat.le_refl _); clear hb; (try simp only [World.size_alloc, World.size_setCell, World.size_drew] at hm8 hl8)))
    (refine wp_region_later (X8.w.heap.size) (by kernel_rfl) (by kernel_rfl) (by go_size) ?_; (repeat (go_big_quiet_step ((first | (go_at_call 17; with_reducible refine Later.call _ ?_ (P9.out _); exact Nat.le_trans (by go_size) (Later.is _).size) | (go_at_call 17; with_reducible refine Later.call _ ?_ (P10.out _); exact Nat.le_trans (by go_size) (Later.is _).size) | (go_at_call 23; with_reducible refine Later.call _ ?_ (P11.out _); exact Nat.le_trans (by go_size) (Later.is _).size) | (go_at_call 23; with_reducible refine Later.call _ ?_ (P12.out _); exact Nat.le_trans (by go_size) (Later.is _).size))))); refine wpQuiet_nil ?_; intro Xq hlq hmq)
    go_wp2
    (try (refine wp_region_later (Xq.w.heap.size) (by kernel_rfl) (by kernel_rfl) (by go_size) ?_; (repeat (go_big_quiet_step ((first | (go_at_call 17; with_reducible refine Later.call _ ?_ (P10.out _); exact Nat.le_trans (by go_size) (Later.is _).size) | (go_at_call 23; with_reducible refine Later.call _ ?_ (P12.out _); exact Nat.le_trans (by go_size) (Later.is _).size))))); refine wpQuiet_nil ?_; intro Xq hlq hmq))
    (try go_wp2)
    refine bodyPost_ret (by simp only [results, Try.results33]; go_simp; all_goals (first | rfl | simp [sel])) rfl ⟨rfl, ?_⟩
    repeat' (first | (with_reducible exact Below.refl _ _) | (with_reducible assumption) | (with_reducible refine Later.step ?_ ?_ _) | (with_reducible refine Below.alloc ?_ ?_ _) | (with_reducible refine Below.drew ?_) | (with_reducible refine bel_drewN ?_ _) | (with_reducible refine bel_grown ?_ (by assumption) ?_ ?_) | (with_reducible refine Below.setCell ?_ ?_ _) | go_size)
theorem rat_any (S : Option Addr) (cp : Nat) (P : List (Int × Int)) (hg : GoodP P) (l x y K A : Int) (w : World) (h : Pts w w.heap.size S P) (hn : P.length ≤ 100000) (hc : crightB l x y = true) :
    Calls Try.prog 33 #[.slice S P.length cp, .agg #[.int .i64 l, .int .i64 x, .int .i64 y], .agg #[.int .i64 K, .int .u64 A]] w fun e w' => e = .returned (.tuple #[atV (cntP P) l x y (atK (cntP P) K A l x y), .bool (decide (atK (cntP P) K A l x y ≠ 3))]) ∧ Below w.heap.size w w' := by
  by_cases ht : doesB K A (cntP P l x y) (boA l x y) = true ∨ l = 0
  · exact rat_own S cp P l x y K A w h hn hc ht
  · exact rat_pair S cp P hg l x y K A w h hn hc (by simpa using fun h => ht (.inl h)) (fun h => ht (.inr h))
end Go.Proofs.Ythoanoaigfcchaa
