/- Snapped rectangles and homes, walked. No condition. -/
import Derived.Test.YthfnmlbdbjblkaaCellC
import Derived.BigRegion
namespace Go.Proofs.Ythfnmlbdbjblkaa
open Go.RowKit
set_option linter.unusedSimpArgs false
set_option linter.unusedVariables false

def snapB (a b c d l : Int) : Bool := lvlB l && rightB a b c d
/-- The least and the greatest number of the cell that has a number. -/
def low (n l : Int) : Int := n / sd l * sd l
def high (n l : Int) : Int := n / sd l * sd l + sd l - 1
theorem of_right {l x y : Int} (h0 : 0 ≤ l) (h1 : l ≤ 16) (x0 : 0 ≤ x) (x1 : x ≤ 65535) (y0 : 0 ≤ y) (y1 : y ≤ 65535) : crightB l (x / sd l) (y / sd l) = true :=
  cright_iff.2 ⟨h0, h1, (div_grid h0 h1 x0 x1).1, (div_grid h0 h1 y0 y1).1, (div_grid h0 h1 x0 x1).2, (div_grid h0 h1 y0 y1).2⟩

set_option maxHeartbeats 4000000 in
theorem snap_any (a b c d l : Int) (w : World) :
    Calls Try.prog 19 #[.agg #[.int .i64 a, .int .i64 b, .int .i64 c, .int .i64 d], .int .i64 l] w fun e w' => e = .returned (.tuple #[.agg #[.int .i64 (sel (snapB a b c d l) (low a l)), .int .i64 (sel (snapB a b c d l) (low b l)), .int .i64 (sel (snapB a b c d l) (high c l)), .int .i64 (sel (snapB a b c d l) (high d l))], .bool (snapB a b c d l)]) ∧ Below w.heap.size w w' := by
  have p1 := fun X : World => lvl_any l X
  have p2 := fun X : World => right_any a b c d X
  unfold snapB
  rcases Bool.eq_false_or_eq_true (lvlB l) with h | h
  · rw [h] at p1 ⊢
    obtain ⟨l0, l1⟩ := lvl_iff.1 h
    rcases Bool.eq_false_or_eq_true (rightB a b c d) with hr | hr
    · rw [hr] at p2 ⊢
      obtain ⟨a0, a1, b0, b1, c0, c1, d0, d1, ac, bd⟩ := by
        have := right_iff.1 hr
        exact (⟨by omega, by omega, by omega, by omega, by omega, by omega, by omega, by omega, by omega, by omega⟩ : 0 ≤ a ∧ a ≤ 65535 ∧ 0 ≤ b ∧ b ≤ 65535 ∧ 0 ≤ c ∧ c ≤ 65535 ∧ 0 ≤ d ∧ d ≤ 65535 ∧ a ≤ c ∧ b ≤ d)
      have p3 := fun X : World => of_any a b l X l0 l1
      have p4 := fun X : World => of_any c d l X l0 l1
      have p5 := fun X : World => box_any l (a / sd l) (b / sd l) X
      have p6 := fun X : World => box_any l (c / sd l) (d / sd l) X
      rw [of_right l0 l1 a0 a1 b0 b1] at p5
      rw [of_right l0 l1 c0 c1 d0 d1] at p6
      simp only [sel_true] at p5 p6
      unfold low high
      generalize a / sd l = ua at *
      generalize b / sd l = ub at *
      generalize c / sd l = uc at *
      generalize d / sd l = ud at *
      generalize ua * sd l = va at *
      generalize ub * sd l = vb at *
      generalize uc * sd l = vc at *
      generalize ud * sd l = vd at *
      generalize sd l = s at *
      have P1 := Lib.hid p1
      have P2 := Lib.hid p2
      have P3 := Lib.hid p3
      have P4 := Lib.hid p4
      have P5 := Lib.hid p5
      have P6 := Lib.hid p6
      clear p1 p2 p3 p4 p5 p6 h hr a0 a1 b0 b1 c0 c1 d0 d1 ac bd
      go_enter Try.func19, Try.ntmps19
      go_wp2_with (first
        | (go_at_call 42; refine (P1.out _).mono ?_; rintro e w' ⟨rfl, hb⟩; obtain ⟨X1, rfl, hl1, hm1⟩ := later (w.heap.size + 2) hb (by first | exact Nat.le_refl _ | go_size); clear hb; (try simp only [World.size_alloc, World.size_setCell, World.size_drew] at hm1))
        | (go_at_call 23; refine (P2.out _).mono ?_; rintro e w' ⟨rfl, hb⟩; obtain ⟨X2, rfl, hl2, hm2⟩ := later (w.heap.size + 2) hb (by first | exact Nat.le_refl _ | go_size); clear hb; (try simp only [World.size_alloc, World.size_setCell, World.size_drew] at hm2))
        | (go_at_call 44; with_reducible refine (P3.out _).mono ?_; rintro e w' ⟨rfl, hb⟩; obtain ⟨X3, rfl, hl3, hm3⟩ := later (w.heap.size + 2) hb (by first | exact Nat.le_refl _ | go_size); clear hb; (try simp only [World.size_alloc, World.size_setCell, World.size_drew] at hm3))
        | (go_at_call 14; with_reducible refine (P5.out _).mono ?_; rintro e w' ⟨rfl, hb⟩; obtain ⟨X5, rfl, hl5, hm5⟩ := later (w.heap.size + 2) hb (by first | exact Nat.le_refl _ | go_size); clear hb; (try simp only [World.size_alloc, World.size_setCell, World.size_drew] at hm5))
        | (go_at_call 44; with_reducible refine (P4.out _).mono ?_; rintro e w' ⟨rfl, hb⟩; obtain ⟨X4, rfl, hl4, hm4⟩ := later (X5.w.heap.size + 1) hb (by first | exact Nat.le_refl _ | go_size); clear hb; (try simp only [World.size_alloc, World.size_setCell, World.size_drew] at hm4))
        | (go_at_call 14; with_reducible refine (P6.out _).mono ?_; rintro e w' ⟨rfl, hb⟩; obtain ⟨X6, rfl, hl6, hm6⟩ := later (X5.w.heap.size + 1) hb (by first | exact Nat.le_refl _ | go_size); clear hb; (try simp only [World.size_alloc, World.size_setCell, World.size_drew] at hm6)))
      refine bodyPost_ret (by simp only [results, Try.results19]; go_simp; all_goals (first | rfl | simp [sel])) rfl ⟨rfl, ?_⟩
      repeat' (first | (with_reducible exact Below.refl _ _) | (with_reducible assumption) | (with_reducible refine Later.step ?_ ?_ _) | (with_reducible refine Below.alloc ?_ ?_ _) | (with_reducible refine Below.drew ?_) | (with_reducible refine Below.setCell ?_ ?_ _) | go_size)
    · rw [hr] at p2 ⊢
      have P1 := Lib.hid p1
      have P2 := Lib.hid p2
      clear p1 p2 h hr
      go_enter Try.func19, Try.ntmps19
      go_wp2_with (first
        | (go_at_call 42; refine (P1.out _).mono ?_; rintro e w' ⟨rfl, hb⟩; obtain ⟨X1, rfl, hl1, hm1⟩ := later (w.heap.size + 2) hb (by first | exact Nat.le_refl _ | go_size); clear hb; (try simp only [World.size_alloc, World.size_setCell, World.size_drew] at hm1))
        | (go_at_call 23; refine (P2.out _).mono ?_; rintro e w' ⟨rfl, hb⟩; obtain ⟨X2, rfl, hl2, hm2⟩ := later (w.heap.size + 2) hb (by first | exact Nat.le_refl _ | go_size); clear hb; (try simp only [World.size_alloc, World.size_setCell, World.size_drew] at hm2)))
      refine bodyPost_ret (by simp only [results, Try.results19]; go_simp; all_goals (first | rfl | simp [sel])) rfl ⟨rfl, ?_⟩
      repeat' (first | (with_reducible exact Below.refl _ _) | (with_reducible assumption) | (with_reducible refine Later.step ?_ ?_ _) | (with_reducible refine Below.alloc ?_ ?_ _) | (with_reducible refine Below.drew ?_) | (with_reducible refine Below.setCell ?_ ?_ _) | go_size)
  · rw [h] at p1 ⊢
    have P1 := Lib.hid p1
    clear p1 p2 h
    go_enter Try.func19, Try.ntmps19
    go_wp2_with (first
      | (go_at_call 42; refine (P1.out _).mono ?_; rintro e w' ⟨rfl, hb⟩; obtain ⟨X1, rfl, hl1, hm1⟩ := later (w.heap.size + 2) hb (by first | exact Nat.le_refl _ | go_size); clear hb; (try simp only [World.size_alloc, World.size_setCell, World.size_drew] at hm1)))
    refine bodyPost_ret (by simp only [results, Try.results19]; go_simp; all_goals (first | rfl | simp [sel])) rfl ⟨rfl, ?_⟩
    repeat' (first | (with_reducible exact Below.refl _ _) | (with_reducible assumption) | (with_reducible refine Later.step ?_ ?_ _) | (with_reducible refine Below.alloc ?_ ?_ _) | (with_reducible refine Below.drew ?_) | (with_reducible refine Below.setCell ?_ ?_ _) | go_size)
theorem rem_low {n s : Int} (h0 : 0 ≤ n) (hs : 0 < s) : n - n % s = n / s * s ∧ 0 ≤ n / s * s ∧ n / s * s ≤ n := by
  have := Int.emod_add_mul_ediv n s
  have h1 := Int.emod_nonneg n (show s ≠ 0 by omega)
  have h2 := Int.mul_nonneg (Int.le_of_lt hs) (Int.ediv_nonneg h0 (Int.le_of_lt hs))
  rw [Int.mul_comm] at this h2
  omega
theorem snap_lo {n s : Int} (h0 : 0 ≤ n) (h1 : n ≤ 65535) (hs : 0 < s) : wrap64 (n - n % s) = n / s * s := by
  obtain ⟨e, e1, e2⟩ := rem_low h0 hs
  rw [e]
  exact wrap_small (by omega) (by omega)
theorem snap_hi {n s : Int} (h0 : 0 ≤ n) (h1 : n ≤ 65535) (hs : 0 < s) (hl : s ≤ 65536) : wrap64 (wrap64 (wrap64 (n - n % s) + s) - 1) = n / s * s + s - 1 := by
  obtain ⟨e, e1, e2⟩ := rem_low h0 hs
  rw [snap_lo h0 h1 hs]
  rw [wrap_small (n := n / s * s + s) (by omega) (by omega)]
  exact wrap_small (by omega) (by omega)
set_option maxHeartbeats 4000000 in
theorem rsnap_any (a b c d l : Int) (w : World) :
    Calls Try.prog 20 #[.agg #[.int .i64 a, .int .i64 b, .int .i64 c, .int .i64 d], .int .i64 l] w fun e w' => e = .returned (.tuple #[.agg #[.int .i64 (sel (snapB a b c d l) (low a l)), .int .i64 (sel (snapB a b c d l) (low b l)), .int .i64 (sel (snapB a b c d l) (high c l)), .int .i64 (sel (snapB a b c d l) (high d l))], .bool (snapB a b c d l)]) ∧ Below w.heap.size w w' := by
  have p1 := fun X : World => rlvl_any l X
  have p2 := fun X : World => rright_any a b c d X
  unfold snapB
  rcases Bool.eq_false_or_eq_true (lvlB l) with h | h
  · rw [h] at p1 ⊢
    obtain ⟨l0, l1⟩ := lvl_iff.1 h
    rcases Bool.eq_false_or_eq_true (rightB a b c d) with hr | hr
    · rw [hr] at p2 ⊢
      obtain ⟨a0, a1, b0, b1, c0, c1, d0, d1, ac, bd⟩ := by
        have := right_iff.1 hr
        exact (⟨by omega, by omega, by omega, by omega, by omega, by omega, by omega, by omega, by omega, by omega⟩ : 0 ≤ a ∧ a ≤ 65535 ∧ 0 ≤ b ∧ b ≤ 65535 ∧ 0 ≤ c ∧ c ≤ 65535 ∧ 0 ≤ d ∧ d ≤ 65535 ∧ a ≤ c ∧ b ≤ d)
      have P1 := Lib.hid p1
      have P2 := Lib.hid p2
      have P3 := Lib.hid (fun X : World => side_any l X l0 l1)
      have hs := sd_pos l
      have hsl := sd_le l0
      have hne : (sd l == 0) = false := by rw [Bool.eq_false_iff]; intro h; simp at h; omega
      unfold low high
      generalize sd l = s at *
      have ea := snap_lo a0 a1 hs
      have eb := snap_lo b0 b1 hs
      have ec := snap_hi c0 c1 hs hsl
      have ed := snap_hi d0 d1 hs hsl
      clear p1 p2 h hr
      go_enter Try.func20, Try.ntmps20
      go_wp2_with (first
        | (go_at_call 32; refine (P1.out _).mono ?_; rintro e w' ⟨rfl, hb⟩; obtain ⟨X1, rfl, hl1, hm1⟩ := later (w.heap.size + 2) hb (by first | exact Nat.le_refl _ | go_size); clear hb; (try simp only [World.size_alloc, World.size_setCell, World.size_drew] at hm1))
        | (go_at_call 51; refine (P2.out _).mono ?_; rintro e w' ⟨rfl, hb⟩; obtain ⟨X2, rfl, hl2, hm2⟩ := later (w.heap.size + 2) hb (by first | exact Nat.le_refl _ | go_size); clear hb; (try simp only [World.size_alloc, World.size_setCell, World.size_drew] at hm2))
        | (go_at_call 46; refine (P3.out _).mono ?_; rintro e w' ⟨rfl, hb⟩; obtain ⟨X3, rfl, hl3, hm3⟩ := later (w.heap.size + 2) hb (by first | exact Nat.le_refl _ | go_size); clear hb; (try simp only [World.size_alloc, World.size_setCell, World.size_drew] at hm3)))
      (refine wp_region_later_tail 35 (w.heap.size + 2) (by kernel_rfl) (by kernel_rfl) (by go_size) ?_; simp only [List.take_succ_cons, List.take_zero, List.drop_succ_cons, List.drop_zero]; (repeat (go_big_quiet_step (fail))); refine wpQuiet_nil ?_; intro Xq hlq hmq)
      go_wp2
      refine bodyPost_ret (by simp only [results, Try.results20]; go_simp; all_goals (first | rfl | simp [sel, ea, eb, ec, ed])) rfl ⟨rfl, ?_⟩
      repeat' (first | (with_reducible exact Below.refl _ _) | (with_reducible assumption) | (with_reducible refine Later.step ?_ ?_ _) | (with_reducible refine Below.alloc ?_ ?_ _) | (with_reducible refine Below.drew ?_) | (with_reducible refine Below.setCell ?_ ?_ _) | go_size)
    · rw [hr] at p2 ⊢
      have P1 := Lib.hid p1
      have P2 := Lib.hid p2
      clear p1 p2 h hr
      go_enter Try.func20, Try.ntmps20
      go_wp2_with (first
        | (go_at_call 32; refine (P1.out _).mono ?_; rintro e w' ⟨rfl, hb⟩; obtain ⟨X1, rfl, hl1, hm1⟩ := later (w.heap.size + 2) hb (by first | exact Nat.le_refl _ | go_size); clear hb; (try simp only [World.size_alloc, World.size_setCell, World.size_drew] at hm1))
        | (go_at_call 51; refine (P2.out _).mono ?_; rintro e w' ⟨rfl, hb⟩; obtain ⟨X2, rfl, hl2, hm2⟩ := later (w.heap.size + 2) hb (by first | exact Nat.le_refl _ | go_size); clear hb; (try simp only [World.size_alloc, World.size_setCell, World.size_drew] at hm2)))
      refine bodyPost_ret (by simp only [results, Try.results20]; go_simp; all_goals (first | rfl | simp [sel])) rfl ⟨rfl, ?_⟩
      repeat' (first | (with_reducible exact Below.refl _ _) | (with_reducible assumption) | (with_reducible refine Later.step ?_ ?_ _) | (with_reducible refine Below.alloc ?_ ?_ _) | (with_reducible refine Below.drew ?_) | (with_reducible refine Below.setCell ?_ ?_ _) | go_size)
  · rw [h] at p1 ⊢
    have P1 := Lib.hid p1
    clear p1 p2 h
    go_enter Try.func20, Try.ntmps20
    go_wp2_with (first
      | (go_at_call 32; refine (P1.out _).mono ?_; rintro e w' ⟨rfl, hb⟩; obtain ⟨X1, rfl, hl1, hm1⟩ := later (w.heap.size + 2) hb (by first | exact Nat.le_refl _ | go_size); clear hb; (try simp only [World.size_alloc, World.size_setCell, World.size_drew] at hm1)))
    refine bodyPost_ret (by simp only [results, Try.results20]; go_simp; all_goals (first | rfl | simp [sel])) rfl ⟨rfl, ?_⟩
    repeat' (first | (with_reducible exact Below.refl _ _) | (with_reducible assumption) | (with_reducible refine Later.step ?_ ?_ _) | (with_reducible refine Below.alloc ?_ ?_ _) | (with_reducible refine Below.drew ?_) | (with_reducible refine Below.setCell ?_ ?_ _) | go_size)
end Go.Proofs.Ythfnmlbdbjblkaa
