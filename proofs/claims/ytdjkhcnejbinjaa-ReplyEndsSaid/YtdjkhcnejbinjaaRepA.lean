/- How long answers are, walked. No condition. -/
import Derived.Test.YtdjkhcnejbinjaaGeomA
import Derived.Test.YtdjkhcnejbinjaaGeomR
import Derived.Test.YtdjkhcnejbinjaaApp
import Derived.Deep.CutRange
namespace Go.Proofs.Ytdjkhcnejbinjaa
open Go.RowKit
set_option linter.unusedSimpArgs false
set_option linter.unusedVariables false
set_option maxRecDepth 2000

def onceI (op : Int) : Int := if op = 4 ∨ op = 5 then 8 else if op = 12 then 5 else if op = 10 then 8 else 0
def eachI (op : Int) : Int := if 13 ≤ op ∧ op ≤ 16 then 11 else if op = 17 ∨ op = 18 then 8 else 0
def thereB (op m : Int) : Bool := decide (1 ≤ op ∧ op ≤ 19 ∧ 0 ≤ m ∧ m ≤ 64)
def lengthI (op m : Int) : Int := if thereB op m = true then 3 + onceI op + m * eachI op else 3
theorem once_bd (op : Int) : 0 ≤ onceI op ∧ onceI op ≤ 8 := by unfold onceI; repeat' split
                                                               all_goals omega
theorem each_cases (op : Int) : eachI op = 11 ∨ eachI op = 8 ∨ eachI op = 0 := by unfold eachI; repeat' split
                                                                                  all_goals omega
theorem length_bd (op m : Int) : 3 ≤ lengthI op m ∧ lengthI op m ≤ 1000 := by
  unfold lengthI thereB
  split
  · rename_i h
    rw [decide_eq_true_eq] at h
    have h1 := once_bd op
    rcases each_cases op with h2 | h2 | h2
    all_goals
      rw [h2]
      omega
  · omega
theorem there_any (op m : Int) (w : World) : Calls Try.prog 22 #[.int .i64 op, .int .i64 m] w fun e w' => e = .returned (.bool (thereB op m)) ∧ Below w.heap.size w w' := by
  go_enter Try.func22, Try.ntmps22
  go_wp2
  all_goals
    go_ret
    exact ⟨ret_b (iff_b (by simp only [thereB, decide_eq_true_eq]; first | omega | (simp; done) | (simp; omega))), by repeat' (first | (with_reducible exact Below.refl _ _) | (with_reducible assumption) | (with_reducible refine Later.step ?_ ?_ _) | (with_reducible refine Below.alloc ?_ ?_ _) | (with_reducible refine Below.drew ?_) | (with_reducible refine bel_drewN ?_ _) | (with_reducible refine bel_grown ?_ (by assumption) ?_ ?_) | (with_reducible refine Below.setCell ?_ ?_ _) | go_size)⟩
set_option maxHeartbeats 2000000 in
theorem once_any (op : Int) (w : World) : Calls Try.prog 23 #[.int .i64 op] w fun e w' => e = .returned (.int .i64 (onceI op)) ∧ Below w.heap.size w w' := by
  by_cases hs : op = 4 ∨ op = 5 ∨ op = 10 ∨ op = 12
  · rcases hs with rfl | rfl | rfl | rfl
    all_goals
      go_enter Try.func23, Try.ntmps23
      go_wp2
      go_ret
      exact ⟨ret_i (by first | rfl | decide), by repeat' (first | (with_reducible exact Below.refl _ _) | (with_reducible assumption) | (with_reducible refine Later.step ?_ ?_ _) | (with_reducible refine Below.alloc ?_ ?_ _) | (with_reducible refine Below.drew ?_) | (with_reducible refine bel_drewN ?_ _) | (with_reducible refine bel_grown ?_ (by assumption) ?_ ?_) | (with_reducible refine Below.setCell ?_ ?_ _) | go_size)⟩
  · have h0 : onceI op = 0 := by unfold onceI; (repeat' split) <;> omega
    rw [h0]
    have e4 : (op == 4) = false := by rw [beq_eq_false_iff_ne]; omega
    have e5 : (op == 5) = false := by rw [beq_eq_false_iff_ne]; omega
    have e10 : (op == 10) = false := by rw [beq_eq_false_iff_ne]; omega
    have e12 : (op == 12) = false := by rw [beq_eq_false_iff_ne]; omega
    clear hs h0
    go_enter Try.func23, Try.ntmps23
    go_wp2
    go_ret
    exact ⟨rfl, by repeat' (first | (with_reducible exact Below.refl _ _) | (with_reducible assumption) | (with_reducible refine Later.step ?_ ?_ _) | (with_reducible refine Below.alloc ?_ ?_ _) | (with_reducible refine Below.drew ?_) | (with_reducible refine bel_drewN ?_ _) | (with_reducible refine bel_grown ?_ (by assumption) ?_ ?_) | (with_reducible refine Below.setCell ?_ ?_ _) | go_size)⟩
set_option maxHeartbeats 2000000 in
theorem reach_any (op : Int) (w : World) : Calls Try.prog 24 #[.int .i64 op] w fun e w' => e = .returned (.int .i64 (eachI op)) ∧ Below w.heap.size w w' := by
  by_cases hs : op = 13 ∨ op = 14 ∨ op = 15 ∨ op = 16 ∨ op = 17 ∨ op = 18
  · rcases hs with rfl | rfl | rfl | rfl | rfl | rfl
    all_goals
      go_enter Try.func24, Try.ntmps24
      go_wp2
      go_ret
      exact ⟨ret_i (by first | rfl | decide), by repeat' (first | (with_reducible exact Below.refl _ _) | (with_reducible assumption) | (with_reducible refine Later.step ?_ ?_ _) | (with_reducible refine Below.alloc ?_ ?_ _) | (with_reducible refine Below.drew ?_) | (with_reducible refine bel_drewN ?_ _) | (with_reducible refine bel_grown ?_ (by assumption) ?_ ?_) | (with_reducible refine Below.setCell ?_ ?_ _) | go_size)⟩
  · have h0 : eachI op = 0 := by unfold eachI; (repeat' split) <;> omega
    rw [h0]
    have e13 : (op == 13) = false := by rw [beq_eq_false_iff_ne]; omega
    have e14 : (op == 14) = false := by rw [beq_eq_false_iff_ne]; omega
    have e15 : (op == 15) = false := by rw [beq_eq_false_iff_ne]; omega
    have e16 : (op == 16) = false := by rw [beq_eq_false_iff_ne]; omega
    have e17 : (op == 17) = false := by rw [beq_eq_false_iff_ne]; omega
    have e18 : (op == 18) = false := by rw [beq_eq_false_iff_ne]; omega
    clear hs h0
    go_enter Try.func24, Try.ntmps24
    go_wp2
    go_ret
    exact ⟨rfl, by repeat' (first | (with_reducible exact Below.refl _ _) | (with_reducible assumption) | (with_reducible refine Later.step ?_ ?_ _) | (with_reducible refine Below.alloc ?_ ?_ _) | (with_reducible refine Below.drew ?_) | (with_reducible refine bel_drewN ?_ _) | (with_reducible refine bel_grown ?_ (by assumption) ?_ ?_) | (with_reducible refine Below.setCell ?_ ?_ _) | go_size)⟩
set_option maxHeartbeats 2000000 in
theorem rlength_any (op m : Int) (w : World) : Calls Try.prog 9 #[.int .i64 op, .int .i64 m] w fun e w' => e = .returned (.int .i64 (lengthI op m)) ∧ Below w.heap.size w w' := by
  have hb := once_bd op
  have hc := each_cases op
  by_cases ht : thereB op m = true
  · have P1 : ∀ Y : World, Calls Try.prog 22 #[.int .i64 op, .int .i64 m] Y fun e w' => e = .returned (.bool true) ∧ Below Y.heap.size Y w' := fun Y => ht ▸ there_any op m Y
    have hm : 0 ≤ m ∧ m ≤ 64 := by simp [thereB] at ht; omega
    have hL : lengthI op m = 3 + onceI op + m * eachI op := by unfold lengthI; rw [if_pos ht]
    rw [hL]
    have P2 := once_any op
    have P3 := reach_any op
    clear ht hL
    generalize onceI op = o at *
    generalize eachI op = e at *
    rcases hc with rfl | rfl | rfl
    all_goals
      have Q1 := Lib.hid P1
      have Q2 := Lib.hid P2
      have Q3 := Lib.hid P3
      clear P1 P2 P3
      go_enter Try.func9, Try.ntmps9
      go_wp2_with (first
        | (go_at_call 22; refine (Q1.out _).mono ?_; rintro e w' ⟨rfl, hb⟩; obtain ⟨X1, rfl, hl1, hm1⟩ := later (w.heap.size) hb (by first | exact Nat.le_refl _ | go_size); clear hb; (try simp only [World.size_alloc, World.size_setCell, World.size_drew] at hm1))
        | (go_at_call 23; with_reducible refine (Q2.out _).mono ?_; rintro e w' ⟨rfl, hb⟩; obtain ⟨X2, rfl, hl2, hm2⟩ := later (X1.w.heap.size) hb (by first | exact Nat.le_refl _ | go_size); clear hb; (try simp only [World.size_alloc, World.size_setCell, World.size_drew] at hm2))
        | (go_at_call 24; with_reducible refine (Q3.out _).mono ?_; rintro e w' ⟨rfl, hb⟩; obtain ⟨X3, rfl, hl3, hm3⟩ := later (X2.w.heap.size) hb (by first | exact Nat.le_refl _ | go_size); clear hb; (try simp only [World.size_alloc, World.size_setCell, World.size_drew] at hm3)))
      go_ret
      exact ⟨ret_i (by first | rfl | (unfold wrap64; omega) | omega), by repeat' (first | (with_reducible exact Below.refl _ _) | (with_reducible assumption) | (with_reducible refine Later.step ?_ ?_ _) | (with_reducible refine Below.alloc ?_ ?_ _) | (with_reducible refine Below.drew ?_) | (with_reducible refine bel_drewN ?_ _) | (with_reducible refine bel_grown ?_ (by assumption) ?_ ?_) | (with_reducible refine Below.setCell ?_ ?_ _) | go_size)⟩
  · have P1 : ∀ Y : World, Calls Try.prog 22 #[.int .i64 op, .int .i64 m] Y fun e w' => e = .returned (.bool false) ∧ Below Y.heap.size Y w' := fun Y => (by simpa using ht : thereB op m = false) ▸ there_any op m Y
    have hL : lengthI op m = 3 := by unfold lengthI; rw [if_neg ht]
    rw [hL]
    have Q1 := Lib.hid P1
    clear P1 ht hL
    go_enter Try.func9, Try.ntmps9
    go_wp2_with (first
      | (go_at_call 22; refine (Q1.out _).mono ?_; rintro e w' ⟨rfl, hb⟩; obtain ⟨X1, rfl, hl1, hm1⟩ := later (w.heap.size) hb (by first | exact Nat.le_refl _ | go_size); clear hb; (try simp only [World.size_alloc, World.size_setCell, World.size_drew] at hm1)))
    go_ret
    exact ⟨rfl, by repeat' (first | (with_reducible exact Below.refl _ _) | (with_reducible assumption) | (with_reducible refine Later.step ?_ ?_ _) | (with_reducible refine Below.alloc ?_ ?_ _) | (with_reducible refine Below.drew ?_) | (with_reducible refine bel_drewN ?_ _) | (with_reducible refine bel_grown ?_ (by assumption) ?_ ?_) | (with_reducible refine Below.setCell ?_ ?_ _) | go_size)⟩
theorem w19there_any (op : Int) (w : World) : Calls Try.prog 41 #[.int .i64 op] w fun e w' => e = .returned (.bool (decide (1 ≤ op ∧ op ≤ 19))) ∧ Below w.heap.size w w' := by
  go_enter Try.func41, Try.ntmps41
  go_wp2
  all_goals
    go_ret
    exact ⟨ret_b (iff_b (by first | (simp; done) | (simp; omega) | omega)), by repeat' (first | (with_reducible exact Below.refl _ _) | (with_reducible assumption) | (with_reducible refine Later.step ?_ ?_ _) | (with_reducible refine Below.alloc ?_ ?_ _) | (with_reducible refine Below.drew ?_) | (with_reducible refine bel_drewN ?_ _) | (with_reducible refine bel_grown ?_ (by assumption) ?_ ?_) | (with_reducible refine Below.setCell ?_ ?_ _) | go_size)⟩
theorem rthere_any (op m : Int) (w : World) : Calls Try.prog 25 #[.int .i64 op, .int .i64 m] w fun e w' => e = .returned (.bool (thereB op m)) ∧ Below w.heap.size w w' := by
  go_enter Try.func25, Try.ntmps25
  go_wp2_with (first
    | (go_at_call 41; refine (w19there_any _ _).mono ?_; rintro e w' ⟨rfl, hb⟩; obtain ⟨X1, rfl, hl1, hm1⟩ := later (w.heap.size) hb (by first | exact Nat.le_refl _ | go_size); clear hb; (try simp only [World.size_alloc, World.size_setCell, World.size_drew] at hm1)))
  all_goals
    go_ret
    exact ⟨ret_b (iff_b (by first | (simp_all [thereB]; done) | (simp_all [thereB]; omega) | (simp [thereB]; done) | (simp [thereB]; omega))), by repeat' (first | (with_reducible exact Below.refl _ _) | (with_reducible assumption) | (with_reducible refine Later.step ?_ ?_ _) | (with_reducible refine Below.alloc ?_ ?_ _) | (with_reducible refine Below.drew ?_) | (with_reducible refine bel_drewN ?_ _) | (with_reducible refine bel_grown ?_ (by assumption) ?_ ?_) | (with_reducible refine Below.setCell ?_ ?_ _) | go_size)⟩
set_option maxHeartbeats 4000000 in
theorem ronce_any (op : Int) (h1 : 1 ≤ op) (h2 : op ≤ 19) (w : World) : Calls Try.prog 20 #[.int .i64 op] w fun e w' => e = .returned (.int .i64 (onceI op)) ∧ Below w.heap.size w w' := by
  obtain ⟨k, rfl⟩ := Int.eq_ofNat_of_zero_le (show 0 ≤ op by omega)
  have hc : k = 1 ∨ k = 2 ∨ k = 3 ∨ k = 4 ∨ k = 5 ∨ k = 6 ∨ k = 7 ∨ k = 8 ∨ k = 9 ∨ k = 10 ∨ k = 11 ∨ k = 12 ∨ k = 13 ∨ k = 14 ∨ k = 15 ∨ k = 16 ∨ k = 17 ∨ k = 18 ∨ k = 19 := by omega
  go_enter Try.func20, Try.ntmps20
  go_upto_region 2 with fail
  rcases hc with rfl | rfl | rfl | rfl | rfl | rfl | rfl | rfl | rfl | rfl | rfl | rfl | rfl | rfl | rfl | rfl | rfl | rfl | rfl
  all_goals
    go_wp2
    go_ret
    exact ⟨ret_i (by first | rfl | decide), by repeat' (first | (with_reducible exact Below.refl _ _) | (with_reducible assumption) | (with_reducible refine Later.step ?_ ?_ _) | (with_reducible refine Below.alloc ?_ ?_ _) | (with_reducible refine Below.drew ?_) | (with_reducible refine bel_drewN ?_ _) | (with_reducible refine bel_grown ?_ (by assumption) ?_ ?_) | (with_reducible refine Below.setCell ?_ ?_ _) | go_size)⟩
set_option maxHeartbeats 4000000 in
theorem reach20_any (op : Int) (h1 : 1 ≤ op) (h2 : op ≤ 19) (w : World) : Calls Try.prog 21 #[.int .i64 op] w fun e w' => e = .returned (.int .i64 (eachI op)) ∧ Below w.heap.size w w' := by
  obtain ⟨k, rfl⟩ := Int.eq_ofNat_of_zero_le (show 0 ≤ op by omega)
  have hc : k = 1 ∨ k = 2 ∨ k = 3 ∨ k = 4 ∨ k = 5 ∨ k = 6 ∨ k = 7 ∨ k = 8 ∨ k = 9 ∨ k = 10 ∨ k = 11 ∨ k = 12 ∨ k = 13 ∨ k = 14 ∨ k = 15 ∨ k = 16 ∨ k = 17 ∨ k = 18 ∨ k = 19 := by omega
  go_enter Try.func21, Try.ntmps21
  go_upto_region 2 with fail
  rcases hc with rfl | rfl | rfl | rfl | rfl | rfl | rfl | rfl | rfl | rfl | rfl | rfl | rfl | rfl | rfl | rfl | rfl | rfl | rfl
  all_goals
    go_wp2
    go_ret
    exact ⟨ret_i (by first | rfl | decide), by repeat' (first | (with_reducible exact Below.refl _ _) | (with_reducible assumption) | (with_reducible refine Later.step ?_ ?_ _) | (with_reducible refine Below.alloc ?_ ?_ _) | (with_reducible refine Below.drew ?_) | (with_reducible refine bel_drewN ?_ _) | (with_reducible refine bel_grown ?_ (by assumption) ?_ ?_) | (with_reducible refine Below.setCell ?_ ?_ _) | go_size)⟩
set_option maxHeartbeats 2000000 in
theorem rlen20_any (op m : Int) (w : World) : Calls Try.prog 10 #[.int .i64 op, .int .i64 m] w fun e w' => e = .returned (.int .i64 (lengthI op m)) ∧ Below w.heap.size w w' := by
  have hb := once_bd op
  have hc := each_cases op
  by_cases ht : thereB op m = true
  · have P1 : ∀ Y : World, Calls Try.prog 25 #[.int .i64 op, .int .i64 m] Y fun e w' => e = .returned (.bool true) ∧ Below Y.heap.size Y w' := fun Y => ht ▸ rthere_any op m Y
    have hm : 1 ≤ op ∧ op ≤ 19 ∧ 0 ≤ m ∧ m ≤ 64 := by simp [thereB] at ht; omega
    have hL : lengthI op m = 3 + onceI op + m * eachI op := by unfold lengthI; rw [if_pos ht]
    rw [hL]
    have P2 := ronce_any op hm.1 hm.2.1
    have P3 := reach20_any op hm.1 hm.2.1
    clear ht hL
    generalize onceI op = o at *
    generalize eachI op = e at *
    rcases hc with rfl | rfl | rfl
    all_goals
      have Q1 := Lib.hid P1
      have Q2 := Lib.hid P2
      have Q3 := Lib.hid P3
      clear P1 P2 P3
      go_enter Try.func10, Try.ntmps10
      go_wp2_with (first
        | (go_at_call 25; refine (Q1.out _).mono ?_; rintro e w' ⟨rfl, hb⟩; obtain ⟨X1, rfl, hl1, hm1⟩ := later (w.heap.size) hb (by first | exact Nat.le_refl _ | go_size); clear hb; (try simp only [World.size_alloc, World.size_setCell, World.size_drew] at hm1))
        | (go_at_call 20; with_reducible refine (Q2.out _).mono ?_; rintro e w' ⟨rfl, hb⟩; obtain ⟨X2, rfl, hl2, hm2⟩ := later (X1.w.heap.size) hb (by first | exact Nat.le_refl _ | go_size); clear hb; (try simp only [World.size_alloc, World.size_setCell, World.size_drew] at hm2))
        | (go_at_call 21; with_reducible refine (Q3.out _).mono ?_; rintro e w' ⟨rfl, hb⟩; obtain ⟨X3, rfl, hl3, hm3⟩ := later (X2.w.heap.size) hb (by first | exact Nat.le_refl _ | go_size); clear hb; (try simp only [World.size_alloc, World.size_setCell, World.size_drew] at hm3)))
      go_ret
      exact ⟨ret_i (by first | rfl | (unfold wrap64; omega) | omega), by repeat' (first | (with_reducible exact Below.refl _ _) | (with_reducible assumption) | (with_reducible refine Later.step ?_ ?_ _) | (with_reducible refine Below.alloc ?_ ?_ _) | (with_reducible refine Below.drew ?_) | (with_reducible refine bel_drewN ?_ _) | (with_reducible refine bel_grown ?_ (by assumption) ?_ ?_) | (with_reducible refine Below.setCell ?_ ?_ _) | go_size)⟩
  · have P1 : ∀ Y : World, Calls Try.prog 25 #[.int .i64 op, .int .i64 m] Y fun e w' => e = .returned (.bool false) ∧ Below Y.heap.size Y w' := fun Y => (by simpa using ht : thereB op m = false) ▸ rthere_any op m Y
    have hL : lengthI op m = 3 := by unfold lengthI; rw [if_neg ht]
    rw [hL]
    have Q1 := Lib.hid P1
    clear P1 ht hL
    go_enter Try.func10, Try.ntmps10
    go_wp2_with (first
      | (go_at_call 25; refine (Q1.out _).mono ?_; rintro e w' ⟨rfl, hb⟩; obtain ⟨X1, rfl, hl1, hm1⟩ := later (w.heap.size) hb (by first | exact Nat.le_refl _ | go_size); clear hb; (try simp only [World.size_alloc, World.size_setCell, World.size_drew] at hm1)))
    go_ret
    exact ⟨rfl, by repeat' (first | (with_reducible exact Below.refl _ _) | (with_reducible assumption) | (with_reducible refine Later.step ?_ ?_ _) | (with_reducible refine Below.alloc ?_ ?_ _) | (with_reducible refine Below.drew ?_) | (with_reducible refine bel_drewN ?_ _) | (with_reducible refine bel_grown ?_ (by assumption) ?_ ?_) | (with_reducible refine Below.setCell ?_ ?_ _) | go_size)⟩
end Go.Proofs.Ytdjkhcnejbinjaa
