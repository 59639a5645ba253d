/- Whether an answer fits, walked. No condition beyond what the slices read as. -/
import Derived.Test.YtdjkhcnejbinjaaRepL1
namespace Go.Proofs.Ytdjkhcnejbinjaa
open Go.RowKit
set_option linter.unusedSimpArgs false
set_option linter.unusedVariables false
set_option maxRecDepth 2000

/-- What an answer has once fits. -/
def onceOk (op k id x y lab b0 b1 b2 b3 : Int) : Prop :=
  if op = 4 ∨ op = 5 then id = 0 ∧ x = 0 ∧ y = 0 ∧ lab = 0 ∧ b0 = 0 ∧ b1 = 0 ∧ b2 = 0 ∧ b3 = 0
  else if op = 12 then fitsB x y = true ∧ 0 ≤ lab ∧ lab ≤ 7 ∧ k = 0 ∧ id = 0 ∧ b0 = 0 ∧ b1 = 0 ∧ b2 = 0 ∧ b3 = 0
  else if op = 10 then rightB b0 b1 b2 b3 = true ∧ k = 0 ∧ id = 0 ∧ x = 0 ∧ y = 0 ∧ lab = 0
  else k = 0 ∧ id = 0 ∧ x = 0 ∧ y = 0 ∧ lab = 0 ∧ b0 = 0 ∧ b1 = 0 ∧ b2 = 0 ∧ b3 = 0
instance (op k id x y lab b0 b1 b2 b3 : Int) : Decidable (onceOk op k id x y lab b0 b1 b2 b3) := by unfold onceOk; infer_instance
set_option maxHeartbeats 8000000 in
theorem oncefits_any (op s k id x y lab b0 b1 b2 b3 : Int) (S E : Value) (w : World) :
    Calls Try.prog 34 #[.int .i64 op, .agg #[.int .i64 s, .int .u64 k, .int .i64 id, .int .i64 x, .int .i64 y, .int .i64 lab, .int .i64 b0, .int .i64 b1, .int .i64 b2, .int .i64 b3, S, E]] w fun e w' => e = .returned (.bool (decide (onceOk op k id x y lab b0 b1 b2 b3))) ∧ Below w.heap.size w w' := by
  by_cases h45 : op = 4 ∨ op = 5
  · have e1 : onceOk op k id x y lab b0 b1 b2 b3 = (id = 0 ∧ x = 0 ∧ y = 0 ∧ lab = 0 ∧ b0 = 0 ∧ b1 = 0 ∧ b2 = 0 ∧ b3 = 0) := by unfold onceOk; rw [if_pos h45]
    simp only [e1]
    clear e1
    rcases h45 with rfl | rfl
    all_goals
      go_enter Try.func34, Try.ntmps34
      go_wp2
      all_goals
        go_ret
        exact ⟨ret_b (by first | exact (decide_eq_true (by omega)).symm | exact (decide_eq_false (by omega)).symm), by repeat' (first | (with_reducible exact Below.refl _ _) | (with_reducible assumption) | (with_reducible refine Later.step ?_ ?_ _) | (with_reducible refine Below.alloc ?_ ?_ _) | (with_reducible refine Below.drew ?_) | (with_reducible refine bel_drewN ?_ _) | (with_reducible refine bel_grown ?_ (by assumption) ?_ ?_) | (with_reducible refine Below.setCell ?_ ?_ _) | go_size)⟩
  · by_cases h12 : op = 12
    · subst h12
      have e1 : onceOk 12 k id x y lab b0 b1 b2 b3 = (fitsB x y = true ∧ 0 ≤ lab ∧ lab ≤ 7 ∧ k = 0 ∧ id = 0 ∧ b0 = 0 ∧ b1 = 0 ∧ b2 = 0 ∧ b3 = 0) := rfl
      simp only [e1]
      clear e1 h45
      have p1 := fits_any x y
      by_cases hf : fitsB x y = true
      · rw [hf] at p1
        have P1 := Lib.hid p1
        have p2 := within_one 7 lab
        clear p1
        by_cases hl : 0 ≤ lab ∧ lab ≤ 7
        · rw [show inB1 7 lab = true from decide_eq_true hl] at p2
          have P2 := Lib.hid p2
          have HF := Lib.hid hf
          clear p2 hf
          go_enter Try.func34, Try.ntmps34
          go_wp2_with (first
            | (go_at_call 45; refine (P1.out _).mono ?_; rintro e w' ⟨rfl, hb⟩; obtain ⟨X1, rfl, hl1, hm1⟩ := later (w.heap.size + 1) hb (by first | exact Nat.le_refl _ | go_size); clear hb; (try simp only [World.size_alloc, World.size_setCell, World.size_drew] at hm1))
            | (go_at_call 26; refine (P2.out _ _ (by go_size) (by go_simp)).mono ?_; rintro e w' ⟨rfl, hb⟩; obtain ⟨X2, rfl, hl2, hm2⟩ := later (X1.w.heap.size) hb (by first | exact Nat.le_refl _ | go_size); clear hb; (try simp only [World.size_alloc, World.size_setCell, World.size_drew] at hm2)))
          all_goals
            go_ret
            exact ⟨ret_b (by rw [HF.out]; first | exact (decide_eq_true (by simp; omega)).symm | exact (decide_eq_false (by simp; omega)).symm), by repeat' (first | (with_reducible exact Below.refl _ _) | (with_reducible assumption) | (with_reducible refine Later.step ?_ ?_ _) | (with_reducible refine Below.alloc ?_ ?_ _) | (with_reducible refine Below.drew ?_) | (with_reducible refine bel_drewN ?_ _) | (with_reducible refine bel_grown ?_ (by assumption) ?_ ?_) | (with_reducible refine Below.setCell ?_ ?_ _) | go_size)⟩
        · rw [show inB1 7 lab = false from decide_eq_false hl] at p2
          have P2 := Lib.hid p2
          clear p2 hf
          go_enter Try.func34, Try.ntmps34
          go_wp2_with (first
            | (go_at_call 45; refine (P1.out _).mono ?_; rintro e w' ⟨rfl, hb⟩; obtain ⟨X1, rfl, hl1, hm1⟩ := later (w.heap.size + 1) hb (by first | exact Nat.le_refl _ | go_size); clear hb; (try simp only [World.size_alloc, World.size_setCell, World.size_drew] at hm1))
            | (go_at_call 26; refine (P2.out _ _ (by go_size) (by go_simp)).mono ?_; rintro e w' ⟨rfl, hb⟩; obtain ⟨X2, rfl, hl2, hm2⟩ := later (X1.w.heap.size) hb (by first | exact Nat.le_refl _ | go_size); clear hb; (try simp only [World.size_alloc, World.size_setCell, World.size_drew] at hm2)))
          all_goals
            go_ret
            exact ⟨ret_b (decide_eq_false (fun h => hl ⟨h.2.1, h.2.2.1⟩)).symm, by repeat' (first | (with_reducible exact Below.refl _ _) | (with_reducible assumption) | (with_reducible refine Later.step ?_ ?_ _) | (with_reducible refine Below.alloc ?_ ?_ _) | (with_reducible refine Below.drew ?_) | (with_reducible refine bel_drewN ?_ _) | (with_reducible refine bel_grown ?_ (by assumption) ?_ ?_) | (with_reducible refine Below.setCell ?_ ?_ _) | go_size)⟩
      · have hff : fitsB x y = false := by simpa using hf
        rw [hff] at p1
        have P1 := Lib.hid p1
        have HF := Lib.hid hf
        clear p1 hf hff
        go_enter Try.func34, Try.ntmps34
        go_wp2_with (first
          | (go_at_call 45; refine (P1.out _).mono ?_; rintro e w' ⟨rfl, hb⟩; obtain ⟨X1, rfl, hl1, hm1⟩ := later (w.heap.size + 1) hb (by first | exact Nat.le_refl _ | go_size); clear hb; (try simp only [World.size_alloc, World.size_setCell, World.size_drew] at hm1)))
        all_goals
          go_ret
          exact ⟨ret_b (decide_eq_false (fun h => HF.out h.1)).symm, by repeat' (first | (with_reducible exact Below.refl _ _) | (with_reducible assumption) | (with_reducible refine Later.step ?_ ?_ _) | (with_reducible refine Below.alloc ?_ ?_ _) | (with_reducible refine Below.drew ?_) | (with_reducible refine bel_drewN ?_ _) | (with_reducible refine bel_grown ?_ (by assumption) ?_ ?_) | (with_reducible refine Below.setCell ?_ ?_ _) | go_size)⟩
    · by_cases h10 : op = 10
      · subst h10
        have e1 : onceOk 10 k id x y lab b0 b1 b2 b3 = (rightB b0 b1 b2 b3 = true ∧ k = 0 ∧ id = 0 ∧ x = 0 ∧ y = 0 ∧ lab = 0) := rfl
        simp only [e1]
        clear e1 h45 h12
        have p1 := right_any b0 b1 b2 b3
        by_cases hf : rightB b0 b1 b2 b3 = true
        · rw [hf] at p1
          have P1 := Lib.hid p1
          have HF := Lib.hid hf
          clear p1 hf
          go_enter Try.func34, Try.ntmps34
          go_wp2_with (first
            | (go_at_call 46; refine (P1.out _).mono ?_; rintro e w' ⟨rfl, hb⟩; obtain ⟨X1, rfl, hl1, hm1⟩ := later (w.heap.size + 1) hb (by first | exact Nat.le_refl _ | go_size); clear hb; (try simp only [World.size_alloc, World.size_setCell, World.size_drew] at hm1)))
          all_goals
            go_ret
            exact ⟨ret_b (by rw [HF.out]; first | exact (decide_eq_true (by simp; omega)).symm | exact (decide_eq_false (by simp; omega)).symm), by repeat' (first | (with_reducible exact Below.refl _ _) | (with_reducible assumption) | (with_reducible refine Later.step ?_ ?_ _) | (with_reducible refine Below.alloc ?_ ?_ _) | (with_reducible refine Below.drew ?_) | (with_reducible refine bel_drewN ?_ _) | (with_reducible refine bel_grown ?_ (by assumption) ?_ ?_) | (with_reducible refine Below.setCell ?_ ?_ _) | go_size)⟩
        · have hff : rightB b0 b1 b2 b3 = false := by simpa using hf
          rw [hff] at p1
          have P1 := Lib.hid p1
          have HF := Lib.hid hf
          clear p1 hf hff
          go_enter Try.func34, Try.ntmps34
          go_wp2_with (first
            | (go_at_call 46; refine (P1.out _).mono ?_; rintro e w' ⟨rfl, hb⟩; obtain ⟨X1, rfl, hl1, hm1⟩ := later (w.heap.size + 1) hb (by first | exact Nat.le_refl _ | go_size); clear hb; (try simp only [World.size_alloc, World.size_setCell, World.size_drew] at hm1)))
          all_goals
            go_ret
            exact ⟨ret_b (decide_eq_false (fun h => HF.out h.1)).symm, by repeat' (first | (with_reducible exact Below.refl _ _) | (with_reducible assumption) | (with_reducible refine Later.step ?_ ?_ _) | (with_reducible refine Below.alloc ?_ ?_ _) | (with_reducible refine Below.drew ?_) | (with_reducible refine bel_drewN ?_ _) | (with_reducible refine bel_grown ?_ (by assumption) ?_ ?_) | (with_reducible refine Below.setCell ?_ ?_ _) | go_size)⟩
      · have e1 : onceOk op k id x y lab b0 b1 b2 b3 = (k = 0 ∧ id = 0 ∧ x = 0 ∧ y = 0 ∧ lab = 0 ∧ b0 = 0 ∧ b1 = 0 ∧ b2 = 0 ∧ b3 = 0) := by unfold onceOk; rw [if_neg h45, if_neg h12, if_neg h10]
        simp only [e1]
        have e4 : (op == 4) = false := by rw [beq_eq_false_iff_ne]; omega
        have e5 : (op == 5) = false := by rw [beq_eq_false_iff_ne]; omega
        have e12 : (op == 12) = false := by rw [beq_eq_false_iff_ne]; omega
        have e10 : (op == 10) = false := by rw [beq_eq_false_iff_ne]; omega
        clear e1 h45 h12 h10
        go_enter Try.func34, Try.ntmps34
        go_wp2
        all_goals
          go_ret
          exact ⟨ret_b (by first | exact (decide_eq_true (by omega)).symm | exact (decide_eq_false (by omega)).symm), by repeat' (first | (with_reducible exact Below.refl _ _) | (with_reducible assumption) | (with_reducible refine Later.step ?_ ?_ _) | (with_reducible refine Below.alloc ?_ ?_ _) | (with_reducible refine Below.drew ?_) | (with_reducible refine bel_drewN ?_ _) | (with_reducible refine bel_grown ?_ (by assumption) ?_ ?_) | (with_reducible refine Below.setCell ?_ ?_ _) | go_size)⟩
end Go.Proofs.Ytdjkhcnejbinjaa
