/- Laws of the layer of cells, walked: kin. No condition. -/
import Derived.Test.YthfnmlbdbjblkaaCellK
namespace Go.Proofs.Ythfnmlbdbjblkaa
open Go.RowKit
set_option linter.unusedSimpArgs false
set_option linter.unusedVariables false

theorem i64_lim {a : Int} (h : (Lit.int .i64 a).wf = true) : -9223372036854775808 ≤ a ∧ a ≤ 9223372036854775807 := by
  simp only [Lit.wf, Bool.and_eq_true, decide_eq_true_eq] at h
  exact h
set_option maxHeartbeats 8000000 in
theorem kin_walk (l x y i : Int) (w : World) (wl : (Lit.int .i64 l).wf = true) (wx : (Lit.int .i64 x).wf = true) (wy : (Lit.int .i64 y).wf = true) (wi : (Lit.int .i64 i).wf = true) :
    Calls Try.prog 10 #[.agg #[.int .i64 l, .int .i64 x, .int .i64 y], .int .i64 i] w fun e w' => e = .returned (.bool true) ∧ Below w.heap.size w w' := by
  have p1 := fun X : World => parent_any l x y X
  have p2 := fun X : World => rabove_any l x y (l - 1) X
  rw [show l - (l - 1) = 1 by omega] at p2
  have hz : ¬ 0 < l → aboveB l x y (l - 1) = false := fun h => by
    rw [Bool.eq_false_iff]; intro h'
    have := (above_iff.1 h').2.1
    omega
  have p3 := fun X : World => child_any l x y i X
  have p4 := fun X : World => rchild_any l x y i X
  have p5 := fun X : World => beside_any l x y X
  have p6 := fun X : World => rbeside_any l x y X
  have p7 := fun X : World => over_any l x y X
  have p8 := fun X : World => rover_any l x y X
  generalize sel (childB l x y i) (l + 1) = b1 at *
  generalize sel (childB l x y i) (2 * x + i % 2) = b2 at *
  generalize sel (childB l x y i) (2 * y + i / 2) = b3 at *
  generalize childB l x y i = b4 at *
  generalize sel (besideB l x y) l = c1 at *
  generalize sel (besideB l x y) (otherI x) = c2 at *
  generalize sel (besideB l x y) (otherI y) = c3 at *
  generalize sel (besideB l x y) x = c4 at *
  generalize sel (besideB l x y) y = c5 at *
  generalize besideB l x y = c6 at *
  have P3 := Lib.hid p3
  have P4 := Lib.hid p4
  have P5 := Lib.hid p5
  have P6 := Lib.hid p6
  have P7 := Lib.hid p7
  have P8 := Lib.hid p8
  clear p3 p4 p5 p6 p7 p8
  by_cases h : 0 < l
  · generalize sel (aboveB l x y (l - 1)) (l - 1) = a1 at *
    generalize sel (aboveB l x y (l - 1)) (x / pw 1) = a2 at *
    generalize sel (aboveB l x y (l - 1)) (y / pw 1) = a3 at *
    generalize aboveB l x y (l - 1) = a4 at *
    have P1 := Lib.hid p1
    have P2 := Lib.hid p2
    clear p1 p2 hz
    have hl := (i64_lim wl).2
    clear wl wx wy wi
    go_enter Try.func10, Try.ntmps10
    go_wp2_with (first
      | (go_at_call 35; refine (P1.out _).mono ?_; rintro e w' ⟨rfl, hb⟩; obtain ⟨X1, rfl, hl1, hm1⟩ := later (w.heap.size + 1) hb (by first | exact Nat.le_refl _ | go_size); clear hb; (try simp only [World.size_alloc, World.size_setCell, World.size_drew] at hm1))
      | (go_at_call 27; refine (P2.out _).mono ?_; rintro e w' ⟨rfl, hb⟩; obtain ⟨X2, rfl, hl2, hm2⟩ := later (X1.w.heap.size + 2) hb (by first | exact Nat.le_refl _ | go_size); clear hb; (try simp only [World.size_alloc, World.size_setCell, World.size_drew] at hm2))
      | (go_at_call 25; refine (P3.out _).mono ?_; rintro e w' ⟨rfl, hb⟩; obtain ⟨X3, rfl, hl3, hm3⟩ := later (X2.w.heap.size) hb (by first | exact Nat.le_refl _ | go_size); clear hb; (try simp only [World.size_alloc, World.size_setCell, World.size_drew] at hm3); have u3_0 : X3.w.cell? ⟨X1.w.heap.size + 1, 0, none⟩ = some (.int .i64 a1) := (by go_simp); have u3_1 : X3.w.cell? ⟨X1.w.heap.size + 1, 1, none⟩ = some (.int .i64 a2) := (by go_simp); have u3_2 : X3.w.cell? ⟨X1.w.heap.size + 1, 2, none⟩ = some (.int .i64 a3) := (by go_simp); have z3_0 : X3.w.frozen? ⟨X1.w.heap.size + 1, 0, none⟩ = false := (by go_simp); have z3_1 : X3.w.frozen? ⟨X1.w.heap.size + 1, 1, none⟩ = false := (by go_simp); have z3_2 : X3.w.frozen? ⟨X1.w.heap.size + 1, 2, none⟩ = false := (by go_simp))
      | (go_at_call 36; refine (P4.out _).mono ?_; rintro e w' ⟨rfl, hb⟩; obtain ⟨X4, rfl, hl4, hm4⟩ := later (X3.w.heap.size + 1) hb (by first | exact Nat.le_refl _ | go_size); clear hb; (try simp only [World.size_alloc, World.size_setCell, World.size_drew] at hm4); have u4_0 : X4.w.cell? ⟨X1.w.heap.size + 1, 0, none⟩ = some (.int .i64 a1) := (by go_simp); have u4_1 : X4.w.cell? ⟨X1.w.heap.size + 1, 1, none⟩ = some (.int .i64 a2) := (by go_simp); have u4_2 : X4.w.cell? ⟨X1.w.heap.size + 1, 2, none⟩ = some (.int .i64 a3) := (by go_simp); have z4_0 : X4.w.frozen? ⟨X1.w.heap.size + 1, 0, none⟩ = false := (by go_simp); have z4_1 : X4.w.frozen? ⟨X1.w.heap.size + 1, 1, none⟩ = false := (by go_simp); have z4_2 : X4.w.frozen? ⟨X1.w.heap.size + 1, 2, none⟩ = false := (by go_simp))
      | (go_at_call 37; refine (P5.out _).mono ?_; rintro e w' ⟨rfl, hb⟩; obtain ⟨X5, rfl, hl5, hm5⟩ := later (X4.w.heap.size) hb (by first | exact Nat.le_refl _ | go_size); clear hb; (try simp only [World.size_alloc, World.size_setCell, World.size_drew] at hm5); have u5_0 : X5.w.cell? ⟨X1.w.heap.size + 1, 0, none⟩ = some (.int .i64 b1) := (by go_simp); have u5_1 : X5.w.cell? ⟨X1.w.heap.size + 1, 1, none⟩ = some (.int .i64 b2) := (by go_simp); have u5_2 : X5.w.cell? ⟨X1.w.heap.size + 1, 2, none⟩ = some (.int .i64 b3) := (by go_simp); have z5_0 : X5.w.frozen? ⟨X1.w.heap.size + 1, 0, none⟩ = false := (by go_simp); have z5_1 : X5.w.frozen? ⟨X1.w.heap.size + 1, 1, none⟩ = false := (by go_simp); have z5_2 : X5.w.frozen? ⟨X1.w.heap.size + 1, 2, none⟩ = false := (by go_simp))
      | (go_at_call 38; refine (P6.out _).mono ?_; rintro e w' ⟨rfl, hb⟩; obtain ⟨X6, rfl, hl6, hm6⟩ := later (X5.w.heap.size + 1) hb (by first | exact Nat.le_refl _ | go_size); clear hb; (try simp only [World.size_alloc, World.size_setCell, World.size_drew] at hm6); have u6_0 : X6.w.cell? ⟨X1.w.heap.size + 1, 0, none⟩ = some (.int .i64 b1) := (by go_simp); have u6_1 : X6.w.cell? ⟨X1.w.heap.size + 1, 1, none⟩ = some (.int .i64 b2) := (by go_simp); have u6_2 : X6.w.cell? ⟨X1.w.heap.size + 1, 2, none⟩ = some (.int .i64 b3) := (by go_simp); have z6_0 : X6.w.frozen? ⟨X1.w.heap.size + 1, 0, none⟩ = false := (by go_simp); have z6_1 : X6.w.frozen? ⟨X1.w.heap.size + 1, 1, none⟩ = false := (by go_simp); have z6_2 : X6.w.frozen? ⟨X1.w.heap.size + 1, 2, none⟩ = false := (by go_simp))
      | (go_at_call 39; refine (P7.out _).mono ?_; rintro e w' ⟨rfl, hb⟩; obtain ⟨X7, rfl, hl7, hm7⟩ := later (X6.w.heap.size) hb (by first | exact Nat.le_refl _ | go_size); clear hb; (try simp only [World.size_alloc, World.size_setCell, World.size_drew] at hm7); have u7_0 : X7.w.cell? ⟨X1.w.heap.size + 1, 0, none⟩ = some (.int .i64 c1) := (by go_simp); have u7_1 : X7.w.cell? ⟨X1.w.heap.size + 1, 1, none⟩ = some (.int .i64 c2) := (by go_simp); have u7_2 : X7.w.cell? ⟨X1.w.heap.size + 1, 2, none⟩ = some (.int .i64 c5) := (by go_simp); have z7_0 : X7.w.frozen? ⟨X1.w.heap.size + 1, 0, none⟩ = false := (by go_simp); have z7_1 : X7.w.frozen? ⟨X1.w.heap.size + 1, 1, none⟩ = false := (by go_simp); have z7_2 : X7.w.frozen? ⟨X1.w.heap.size + 1, 2, none⟩ = false := (by go_simp))
      | (go_at_call 40; refine (P8.out _).mono ?_; rintro e w' ⟨rfl, hb⟩; obtain ⟨X8, rfl, hl8, hm8⟩ := later (X7.w.heap.size + 1) hb (by first | exact Nat.le_refl _ | go_size); clear hb; (try simp only [World.size_alloc, World.size_setCell, World.size_drew] at hm8); have u8_0 : X8.w.cell? ⟨X1.w.heap.size + 1, 0, none⟩ = some (.int .i64 c1) := (by go_simp); have u8_1 : X8.w.cell? ⟨X1.w.heap.size + 1, 1, none⟩ = some (.int .i64 c2) := (by go_simp); have u8_2 : X8.w.cell? ⟨X1.w.heap.size + 1, 2, none⟩ = some (.int .i64 c5) := (by go_simp); have z8_0 : X8.w.frozen? ⟨X1.w.heap.size + 1, 0, none⟩ = false := (by go_simp); have z8_1 : X8.w.frozen? ⟨X1.w.heap.size + 1, 1, none⟩ = false := (by go_simp); have z8_2 : X8.w.frozen? ⟨X1.w.heap.size + 1, 2, none⟩ = false := (by go_simp))
      | (go_at_call 18; refine (cknown_any _).mono ?_; rintro e w' ⟨rfl, hb⟩; obtain ⟨X9, rfl, hl9, hm9⟩ := later (X8.w.heap.size) hb (by first | exact Nat.le_refl _ | go_size); clear hb; (try simp only [World.size_alloc, World.size_setCell, World.size_drew] at hm9)))
    go_ret
    exact ⟨rfl, by repeat' (first | (with_reducible exact Below.refl _ _) | (with_reducible assumption) | (with_reducible refine Later.step ?_ ?_ _) | (with_reducible refine Below.alloc ?_ ?_ _) | (with_reducible refine Below.drew ?_) | (with_reducible refine Below.setCell ?_ ?_ _) | go_size)⟩
  · rw [hz h] at p1
    have P1 := Lib.hid p1
    clear p1 p2 hz wl wx wy wi
    go_enter Try.func10, Try.ntmps10
    go_wp2_with (first
      | (go_at_call 35; refine (P1.out _).mono ?_; rintro e w' ⟨rfl, hb⟩; obtain ⟨X1, rfl, hl1, hm1⟩ := later (w.heap.size + 1) hb (by first | exact Nat.le_refl _ | go_size); clear hb; (try simp only [World.size_alloc, World.size_setCell, World.size_drew] at hm1))
      | (go_at_call 25; refine (P3.out _).mono ?_; rintro e w' ⟨rfl, hb⟩; obtain ⟨X3, rfl, hl3, hm3⟩ := later (X1.w.heap.size + 2) hb (by first | exact Nat.le_refl _ | go_size); clear hb; (try simp only [World.size_alloc, World.size_setCell, World.size_drew] at hm3); have u3_0 : X3.w.cell? ⟨X1.w.heap.size + 1, 0, none⟩ = some (.int .i64 0) := (by go_simp); have u3_1 : X3.w.cell? ⟨X1.w.heap.size + 1, 1, none⟩ = some (.int .i64 0) := (by go_simp); have u3_2 : X3.w.cell? ⟨X1.w.heap.size + 1, 2, none⟩ = some (.int .i64 0) := (by go_simp); have z3_0 : X3.w.frozen? ⟨X1.w.heap.size + 1, 0, none⟩ = false := (by go_simp); have z3_1 : X3.w.frozen? ⟨X1.w.heap.size + 1, 1, none⟩ = false := (by go_simp); have z3_2 : X3.w.frozen? ⟨X1.w.heap.size + 1, 2, none⟩ = false := (by go_simp))
      | (go_at_call 36; refine (P4.out _).mono ?_; rintro e w' ⟨rfl, hb⟩; obtain ⟨X4, rfl, hl4, hm4⟩ := later (X3.w.heap.size + 1) hb (by first | exact Nat.le_refl _ | go_size); clear hb; (try simp only [World.size_alloc, World.size_setCell, World.size_drew] at hm4); have u4_0 : X4.w.cell? ⟨X1.w.heap.size + 1, 0, none⟩ = some (.int .i64 0) := (by go_simp); have u4_1 : X4.w.cell? ⟨X1.w.heap.size + 1, 1, none⟩ = some (.int .i64 0) := (by go_simp); have u4_2 : X4.w.cell? ⟨X1.w.heap.size + 1, 2, none⟩ = some (.int .i64 0) := (by go_simp); have z4_0 : X4.w.frozen? ⟨X1.w.heap.size + 1, 0, none⟩ = false := (by go_simp); have z4_1 : X4.w.frozen? ⟨X1.w.heap.size + 1, 1, none⟩ = false := (by go_simp); have z4_2 : X4.w.frozen? ⟨X1.w.heap.size + 1, 2, none⟩ = false := (by go_simp))
      | (go_at_call 37; refine (P5.out _).mono ?_; rintro e w' ⟨rfl, hb⟩; obtain ⟨X5, rfl, hl5, hm5⟩ := later (X4.w.heap.size) hb (by first | exact Nat.le_refl _ | go_size); clear hb; (try simp only [World.size_alloc, World.size_setCell, World.size_drew] at hm5); have u5_0 : X5.w.cell? ⟨X1.w.heap.size + 1, 0, none⟩ = some (.int .i64 b1) := (by go_simp); have u5_1 : X5.w.cell? ⟨X1.w.heap.size + 1, 1, none⟩ = some (.int .i64 b2) := (by go_simp); have u5_2 : X5.w.cell? ⟨X1.w.heap.size + 1, 2, none⟩ = some (.int .i64 b3) := (by go_simp); have z5_0 : X5.w.frozen? ⟨X1.w.heap.size + 1, 0, none⟩ = false := (by go_simp); have z5_1 : X5.w.frozen? ⟨X1.w.heap.size + 1, 1, none⟩ = false := (by go_simp); have z5_2 : X5.w.frozen? ⟨X1.w.heap.size + 1, 2, none⟩ = false := (by go_simp))
      | (go_at_call 38; refine (P6.out _).mono ?_; rintro e w' ⟨rfl, hb⟩; obtain ⟨X6, rfl, hl6, hm6⟩ := later (X5.w.heap.size + 1) hb (by first | exact Nat.le_refl _ | go_size); clear hb; (try simp only [World.size_alloc, World.size_setCell, World.size_drew] at hm6); have u6_0 : X6.w.cell? ⟨X1.w.heap.size + 1, 0, none⟩ = some (.int .i64 b1) := (by go_simp); have u6_1 : X6.w.cell? ⟨X1.w.heap.size + 1, 1, none⟩ = some (.int .i64 b2) := (by go_simp); have u6_2 : X6.w.cell? ⟨X1.w.heap.size + 1, 2, none⟩ = some (.int .i64 b3) := (by go_simp); have z6_0 : X6.w.frozen? ⟨X1.w.heap.size + 1, 0, none⟩ = false := (by go_simp); have z6_1 : X6.w.frozen? ⟨X1.w.heap.size + 1, 1, none⟩ = false := (by go_simp); have z6_2 : X6.w.frozen? ⟨X1.w.heap.size + 1, 2, none⟩ = false := (by go_simp))
      | (go_at_call 39; refine (P7.out _).mono ?_; rintro e w' ⟨rfl, hb⟩; obtain ⟨X7, rfl, hl7, hm7⟩ := later (X6.w.heap.size) hb (by first | exact Nat.le_refl _ | go_size); clear hb; (try simp only [World.size_alloc, World.size_setCell, World.size_drew] at hm7); have u7_0 : X7.w.cell? ⟨X1.w.heap.size + 1, 0, none⟩ = some (.int .i64 c1) := (by go_simp); have u7_1 : X7.w.cell? ⟨X1.w.heap.size + 1, 1, none⟩ = some (.int .i64 c2) := (by go_simp); have u7_2 : X7.w.cell? ⟨X1.w.heap.size + 1, 2, none⟩ = some (.int .i64 c5) := (by go_simp); have z7_0 : X7.w.frozen? ⟨X1.w.heap.size + 1, 0, none⟩ = false := (by go_simp); have z7_1 : X7.w.frozen? ⟨X1.w.heap.size + 1, 1, none⟩ = false := (by go_simp); have z7_2 : X7.w.frozen? ⟨X1.w.heap.size + 1, 2, none⟩ = false := (by go_simp))
      | (go_at_call 40; refine (P8.out _).mono ?_; rintro e w' ⟨rfl, hb⟩; obtain ⟨X8, rfl, hl8, hm8⟩ := later (X7.w.heap.size + 1) hb (by first | exact Nat.le_refl _ | go_size); clear hb; (try simp only [World.size_alloc, World.size_setCell, World.size_drew] at hm8); have u8_0 : X8.w.cell? ⟨X1.w.heap.size + 1, 0, none⟩ = some (.int .i64 c1) := (by go_simp); have u8_1 : X8.w.cell? ⟨X1.w.heap.size + 1, 1, none⟩ = some (.int .i64 c2) := (by go_simp); have u8_2 : X8.w.cell? ⟨X1.w.heap.size + 1, 2, none⟩ = some (.int .i64 c5) := (by go_simp); have z8_0 : X8.w.frozen? ⟨X1.w.heap.size + 1, 0, none⟩ = false := (by go_simp); have z8_1 : X8.w.frozen? ⟨X1.w.heap.size + 1, 1, none⟩ = false := (by go_simp); have z8_2 : X8.w.frozen? ⟨X1.w.heap.size + 1, 2, none⟩ = false := (by go_simp))
      | (go_at_call 18; refine (cknown_any _).mono ?_; rintro e w' ⟨rfl, hb⟩; obtain ⟨X9, rfl, hl9, hm9⟩ := later (X8.w.heap.size) hb (by first | exact Nat.le_refl _ | go_size); clear hb; (try simp only [World.size_alloc, World.size_setCell, World.size_drew] at hm9)))
    go_ret
    exact ⟨rfl, by repeat' (first | (with_reducible exact Below.refl _ _) | (with_reducible assumption) | (with_reducible refine Later.step ?_ ?_ _) | (with_reducible refine Below.alloc ?_ ?_ _) | (with_reducible refine Below.drew ?_) | (with_reducible refine Below.setCell ?_ ?_ _) | go_size)⟩
end Go.Proofs.Ythfnmlbdbjblkaa
