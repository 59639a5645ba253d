/- Laws of the layer of cells, walked: under, meets, again. No condition. -/
import Derived.Test.YthfnmlbdbjblkaaCellK
import Derived.Test.YthfnmlbdbjblkaaCellT
namespace Go.Proofs.Ythfnmlbdbjblkaa
open Go.RowKit
set_option linter.unusedSimpArgs false
set_option linter.unusedVariables false

theorem again_plain {a b c d l m : Int} (hl : lvlB l = true) (hm : lvlB m = true) (hr : rightB a b c d = true) (hml : m ≤ l) :
    snapB (low a l) (low b l) (high c l) (high d l) m = true ∧ low (low a l) m = low a m ∧ low (low b l) m = low b m ∧ high (high c l) m = high c m ∧ high (high d l) m = high d m
    ∧ inB (low a l) (low b l) (high c l) (high d l) (low a m) (low b m) (high c m) (high d m) = true := by
  obtain ⟨l0, l1⟩ := lvl_iff.1 hl
  obtain ⟨m0, m1⟩ := lvl_iff.1 hm
  have hs := sd_pos l
  have hq := pw_pos (l - m)
  have e := sd_mul m0 hml l1
  have r1 := snap_right l0 l1 hr
  have r2 := snap_right m0 m1 hr
  have lo : ∀ n : Int, n / sd l * sd l / sd m = n / sd m := fun n => by
    rw [e]
    have := snap_again (n := n) (q := pw (l - m)) hs (Int.le_refl 0) hs
    rwa [Int.add_zero] at this
  have hi : ∀ n : Int, (n / sd l * sd l + sd l - 1) / sd m = n / sd m := fun n => by
    rw [e]
    have := snap_again (n := n) (r := sd l - 1) (q := pw (l - m)) hs (by omega) (by omega)
    rwa [show n / sd l * sd l + (sd l - 1) = n / sd l * sd l + sd l - 1 by omega] at this
  unfold snapB low high
  rw [hm, r1, lo, lo, hi, hi]
  refine ⟨rfl, rfl, rfl, rfl, rfl, ?_⟩
  have up : ∀ n : Int, n / sd m * sd m ≤ n / sd l * sd l ∧ n / sd l * sd l + sd l - 1 ≤ n / sd m * sd m + sd m - 1 := fun n => by
    rw [e, div_div' hs]
    exact under_box hs hq
  rw [in_iff]
  exact ⟨r1, r2, (up a).1, (up c).2, (up b).1, (up d).2⟩
set_option maxHeartbeats 8000000 in
theorem again_walk (a b c d l m : Int) (w : World) :
    Calls Try.prog 6 #[.agg #[.int .i64 a, .int .i64 b, .int .i64 c, .int .i64 d], .int .i64 l, .int .i64 m] w fun e w' => e = .returned (.bool true) ∧ Below w.heap.size w w' := by
  have p1 := fun X : World => snap_any a b c d l X
  have p2 := fun X : World => snap_any a b c d m X
  rcases Bool.eq_false_or_eq_true (snapB a b c d l) with h1 | h1
  · rcases Bool.eq_false_or_eq_true (snapB a b c d m) with h2 | h2
    · by_cases hml : m ≤ l
      · have g1 := h1
        have g2 := h2
        unfold snapB at g1 g2
        simp only [Bool.and_eq_true] at g1 g2
        obtain ⟨q1, q2, q3, q4, q5, q6⟩ := again_plain g1.1 g2.1 g1.2 hml
        have p3 := fun X : World => snap_any (low a l) (low b l) (high c l) (high d l) m X
        have p4 := fun X : World => in_any (low a l) (low b l) (high c l) (high d l) (low a m) (low b m) (high c m) (high d m) X
        rw [q1, q2, q3, q4, q5] at p3
        rw [q6] at p4
        rw [h1] at p1
        rw [h2] at p2
        simp only [sel_true] at p1 p2 p3
        generalize low a l = a1 at *
        generalize low b l = b1 at *
        generalize high c l = c1 at *
        generalize high d l = d1 at *
        generalize low a m = a2 at *
        generalize low b m = b2 at *
        generalize high c m = c2 at *
        generalize high d m = d2 at *
        have P1 := Lib.hid p1
        have P2 := Lib.hid p2
        have P3 := Lib.hid p3
        have P4 := Lib.hid p4
        have hml' : ¬ l < m := by omega
        clear p1 p2 p3 p4 h1 h2 g1 g2 q1 q2 q3 q4 q5 q6
        go_enter Try.func6, Try.ntmps6
        go_wp2_with (first
          | (go_at_call 19; with_reducible refine (P1.out _).mono ?_; rintro e w' ⟨rfl, hb⟩; obtain ⟨X1, rfl, hl1, hm1⟩ := later (w.heap.size + 1) hb (by first | exact Nat.le_refl _ | go_size); clear hb; (try simp only [World.size_alloc, World.size_setCell, World.size_drew] at hm1))
          | (go_at_call 19; with_reducible refine (P2.out _).mono ?_; rintro e w' ⟨rfl, hb⟩; obtain ⟨X2, rfl, hl2, hm2⟩ := later (X1.w.heap.size + 1) hb (by first | exact Nat.le_refl _ | go_size); clear hb; (try simp only [World.size_alloc, World.size_setCell, World.size_drew] at hm2))
          | (go_at_call 19; with_reducible refine (P3.out _).mono ?_; rintro e w' ⟨rfl, hb⟩; obtain ⟨X3, rfl, hl3, hm3⟩ := later (X2.w.heap.size + 1) hb (by first | exact Nat.le_refl _ | go_size); clear hb; (try simp only [World.size_alloc, World.size_setCell, World.size_drew] at hm3))
          | (go_at_call 24; with_reducible refine (P4.out _).mono ?_; rintro e w' ⟨rfl, hb⟩; obtain ⟨X4, rfl, hl4, hm4⟩ := later (X3.w.heap.size + 1) hb (by first | exact Nat.le_refl _ | go_size); clear hb; (try simp only [World.size_alloc, World.size_setCell, World.size_drew] at hm4))
          | (go_at_call 18; refine (cknown_any _).mono ?_; rintro e w' ⟨rfl, hb⟩; obtain ⟨X5, rfl, hl5, hm5⟩ := later (X3.w.heap.size + 1) hb (by first | exact Nat.le_refl _ | go_size); clear hb; (try simp only [World.size_alloc, World.size_setCell, World.size_drew] at hm5)))
        go_ret
        exact ⟨rfl, by repeat' (first | (with_reducible exact Below.refl _ _) | (with_reducible assumption) | (with_reducible refine Later.step ?_ ?_ _) | (with_reducible refine Below.alloc ?_ ?_ _) | (with_reducible refine Below.drew ?_) | (with_reducible refine Below.setCell ?_ ?_ _) | go_size)⟩
      · have hml' : l < m := by omega
        rw [h1] at p1
        rw [h2] at p2
        have P1 := Lib.hid p1
        have P2 := Lib.hid p2
        clear p1 p2 h1 h2 hml
        go_enter Try.func6, Try.ntmps6
        go_wp2_with (first
          | (go_at_call 19; with_reducible refine (P1.out _).mono ?_; rintro e w' ⟨rfl, hb⟩; obtain ⟨X1, rfl, hl1, hm1⟩ := later (w.heap.size + 1) hb (by first | exact Nat.le_refl _ | go_size); clear hb; (try simp only [World.size_alloc, World.size_setCell, World.size_drew] at hm1))
          | (go_at_call 19; with_reducible refine (P2.out _).mono ?_; rintro e w' ⟨rfl, hb⟩; obtain ⟨X2, rfl, hl2, hm2⟩ := later (X1.w.heap.size + 1) hb (by first | exact Nat.le_refl _ | go_size); clear hb; (try simp only [World.size_alloc, World.size_setCell, World.size_drew] at hm2))
          | (go_at_call 18; refine (cknown_any _).mono ?_; rintro e w' ⟨rfl, hb⟩; obtain ⟨X5, rfl, hl5, hm5⟩ := later (X2.w.heap.size + 1) hb (by first | exact Nat.le_refl _ | go_size); clear hb; (try simp only [World.size_alloc, World.size_setCell, World.size_drew] at hm5)))
        go_ret
        exact ⟨rfl, by repeat' (first | (with_reducible exact Below.refl _ _) | (with_reducible assumption) | (with_reducible refine Later.step ?_ ?_ _) | (with_reducible refine Below.alloc ?_ ?_ _) | (with_reducible refine Below.drew ?_) | (with_reducible refine Below.setCell ?_ ?_ _) | go_size)⟩
    · rw [h1] at p1
      rw [h2] at p2
      have P1 := Lib.hid p1
      have P2 := Lib.hid p2
      clear p1 p2 h1 h2
      go_enter Try.func6, Try.ntmps6
      go_wp2_with (first
        | (go_at_call 19; with_reducible refine (P1.out _).mono ?_; rintro e w' ⟨rfl, hb⟩; obtain ⟨X1, rfl, hl1, hm1⟩ := later (w.heap.size + 1) hb (by first | exact Nat.le_refl _ | go_size); clear hb; (try simp only [World.size_alloc, World.size_setCell, World.size_drew] at hm1))
        | (go_at_call 19; with_reducible refine (P2.out _).mono ?_; rintro e w' ⟨rfl, hb⟩; obtain ⟨X2, rfl, hl2, hm2⟩ := later (X1.w.heap.size + 1) hb (by first | exact Nat.le_refl _ | go_size); clear hb; (try simp only [World.size_alloc, World.size_setCell, World.size_drew] at hm2))
        | (go_at_call 18; refine (cknown_any _).mono ?_; rintro e w' ⟨rfl, hb⟩; obtain ⟨X5, rfl, hl5, hm5⟩ := later (X2.w.heap.size + 1) hb (by first | exact Nat.le_refl _ | go_size); clear hb; (try simp only [World.size_alloc, World.size_setCell, World.size_drew] at hm5)))
      go_ret
      exact ⟨rfl, by repeat' (first | (with_reducible exact Below.refl _ _) | (with_reducible assumption) | (with_reducible refine Later.step ?_ ?_ _) | (with_reducible refine Below.alloc ?_ ?_ _) | (with_reducible refine Below.drew ?_) | (with_reducible refine Below.setCell ?_ ?_ _) | go_size)⟩
  · rw [h1] at p1
    have P1 := Lib.hid p1
    have P2 := Lib.hid p2
    clear p1 p2 h1
    go_enter Try.func6, Try.ntmps6
    go_wp2_with (first
      | (go_at_call 19; with_reducible refine (P1.out _).mono ?_; rintro e w' ⟨rfl, hb⟩; obtain ⟨X1, rfl, hl1, hm1⟩ := later (w.heap.size + 1) hb (by first | exact Nat.le_refl _ | go_size); clear hb; (try simp only [World.size_alloc, World.size_setCell, World.size_drew] at hm1))
      | (go_at_call 19; with_reducible refine (P2.out _).mono ?_; rintro e w' ⟨rfl, hb⟩; obtain ⟨X2, rfl, hl2, hm2⟩ := later (X1.w.heap.size + 1) hb (by first | exact Nat.le_refl _ | go_size); clear hb; (try simp only [World.size_alloc, World.size_setCell, World.size_drew] at hm2))
      | (go_at_call 18; refine (cknown_any _).mono ?_; rintro e w' ⟨rfl, hb⟩; obtain ⟨X5, rfl, hl5, hm5⟩ := later (X2.w.heap.size + 1) hb (by first | exact Nat.le_refl _ | go_size); clear hb; (try simp only [World.size_alloc, World.size_setCell, World.size_drew] at hm5)))
    go_ret
    exact ⟨rfl, by repeat' (first | (with_reducible exact Below.refl _ _) | (with_reducible assumption) | (with_reducible refine Later.step ?_ ?_ _) | (with_reducible refine Below.alloc ?_ ?_ _) | (with_reducible refine Below.drew ?_) | (with_reducible refine Below.setCell ?_ ?_ _) | go_size)⟩
end Go.Proofs.Ythfnmlbdbjblkaa
