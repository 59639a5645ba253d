/- Laws of the layer of cells, walked: what a cell stands under. No condition. -/
import Derived.Test.YthfnmlbdbjblkaaCellK
import Derived.Test.YthfnmlbdbjblkaaCellT
namespace Go.Proofs.Ythfnmlbdbjblkaa
open Go.RowKit
set_option linter.unusedSimpArgs false
set_option linter.unusedVariables false

theorem above_plain {l x y m : Int} (h : aboveB l x y m = true) :
    crightB l x y = true ∧ crightB m (x / pw (l - m)) (y / pw (l - m)) = true
    ∧ inB (x * sd l) (y * sd l) (x * sd l + sd l - 1) (y * sd l + sd l - 1) (x / pw (l - m) * sd m) (y / pw (l - m) * sd m) (x / pw (l - m) * sd m + sd m - 1) (y / pw (l - m) * sd m + sd m - 1) = true
    ∧ ∀ px py, hasB (x * sd l) (y * sd l) (x * sd l + sd l - 1) (y * sd l + sd l - 1) px py = true → (lvlB m && fitsB px py) = true ∧ px / sd m = x / pw (l - m) ∧ py / sd m = y / pw (l - m) := by
  obtain ⟨hc, m0, m1⟩ := above_iff.1 h
  obtain ⟨l0, l1, x0, y0, x1, y1⟩ := cright_iff.1 hc
  have hs := sd_pos l
  have hq := pw_pos (l - m)
  have e := sd_mul m0 m1 l1
  have ep := pw_mul m0 m1
  have hx : x / pw (l - m) < pw m := Int.ediv_lt_of_lt_mul hq (by rw [← ep]; exact x1)
  have hy : y / pw (l - m) < pw m := Int.ediv_lt_of_lt_mul hq (by rw [← ep]; exact y1)
  have hm : crightB m (x / pw (l - m)) (y / pw (l - m)) = true :=
    cright_iff.2 ⟨m0, by omega, Int.ediv_nonneg x0 (Int.le_of_lt hq), Int.ediv_nonneg y0 (Int.le_of_lt hq), hx, hy⟩
  have r1 := box_right hc
  have r2 := box_right hm
  have ux := under_box (x := x) hs hq
  have uy := under_box (x := y) hs hq
  refine ⟨hc, hm, ?_, fun px py hh => ?_⟩
  · rw [in_iff]
    rw [← e] at ux uy
    exact ⟨r1, r2, ux.1, ux.2, uy.1, uy.2⟩
  · have g := has_iff.1 hh
    have dx : px / sd l = x := (div_iff hs).1 ⟨by omega, by omega⟩
    have dy : py / sd l = y := (div_iff hs).1 ⟨by omega, by omega⟩
    refine ⟨?_, ?_, ?_⟩
    · rw [lvl_iff.2 ⟨m0, by omega⟩, Bool.true_and]
      have gx := grid_lt l0 l1 x0 x1
      have gy := grid_lt l0 l1 y0 y1
      exact fits_iff.2 ⟨by omega, by omega, by omega, by omega⟩
    · rw [e, div_div' hs, dx]
    · rw [e, div_div' hs, dy]
set_option maxHeartbeats 8000000 in
theorem above_walk (l x y m px py : Int) (w : World) :
    Calls Try.prog 7 #[.agg #[.int .i64 l, .int .i64 x, .int .i64 y], .int .i64 m, .agg #[.int .i64 px, .int .i64 py]] w fun e w' => e = .returned (.bool true) ∧ Below w.heap.size w w' := by
  have p1 := fun X : World => above_any l x y m X
  have p2 := fun X : World => rabove_any l x y m X
  rcases Bool.eq_false_or_eq_true (aboveB l x y m) with h | h
  · obtain ⟨h1, h2, h3, h4⟩ := above_plain h
    have p3 := fun X : World => box_any m (x / pw (l - m)) (y / pw (l - m)) X
    have p4 := fun X : World => box_any l x y X
    have p5 := fun X : World => in_any (x * sd l) (y * sd l) (x * sd l + sd l - 1) (y * sd l + sd l - 1) (x / pw (l - m) * sd m) (y / pw (l - m) * sd m) (x / pw (l - m) * sd m + sd m - 1) (y / pw (l - m) * sd m + sd m - 1) X
    have p6 := fun X : World => has_any (x * sd l) (y * sd l) (x * sd l + sd l - 1) (y * sd l + sd l - 1) px py X
    have p7 := fun X : World => cof_any px py m X
    rw [h] at p1 p2
    rw [h2] at p3
    rw [h1] at p4
    rw [h3] at p5
    simp only [sel_true] at p1 p2 p3 p4
    rcases Bool.eq_false_or_eq_true (hasB (x * sd l) (y * sd l) (x * sd l + sd l - 1) (y * sd l + sd l - 1) px py) with hh | hh
    focus
      obtain ⟨k1, k2, k3⟩ := h4 px py hh
      rw [k1, k2, k3] at p7
      simp only [sel_true] at p7
    all_goals
      rw [hh] at p6
      clear h h1 h2 h3 h4 hh
      generalize x / pw (l - m) = u at *
      generalize y / pw (l - m) = v at *
      generalize x * sd l + sd l - 1 = c1 at *
      generalize y * sd l + sd l - 1 = d1 at *
      generalize x * sd l = a1 at *
      generalize y * sd l = b1 at *
      generalize u * sd m + sd m - 1 = c2 at *
      generalize v * sd m + sd m - 1 = d2 at *
      generalize u * sd m = a2 at *
      generalize v * sd m = b2 at *
      have P1 := Lib.hid p1
      have P2 := Lib.hid p2
      have P3 := Lib.hid p3
      have P4 := Lib.hid p4
      have P5 := Lib.hid p5
      have P6 := Lib.hid p6
      have P7 := Lib.hid p7
      clear p1 p2 p3 p4 p5 p6 p7
      go_enter Try.func7, Try.ntmps7
      go_wp2_with (first
        | (go_at_call 26; with_reducible refine (P1.out _).mono ?_; rintro e w' ⟨rfl, hb⟩; obtain ⟨X1, rfl, hl1, hm1⟩ := later (w.heap.size + 2) hb (by first | exact Nat.le_refl _ | go_size); clear hb; (try simp only [World.size_alloc, World.size_setCell, World.size_drew] at hm1))
        | (go_at_call 27; with_reducible refine (P2.out _).mono ?_; rintro e w' ⟨rfl, hb⟩; obtain ⟨X2, rfl, hl2, hm2⟩ := later (X1.w.heap.size + 1) hb (by first | exact Nat.le_refl _ | go_size); clear hb; (try simp only [World.size_alloc, World.size_setCell, World.size_drew] at hm2))
        | (go_at_call 14; with_reducible refine (P3.out _).mono ?_; rintro e w' ⟨rfl, hb⟩; obtain ⟨X3, rfl, hl3, hm3⟩ := later (X2.w.heap.size + 1) hb (by first | exact Nat.le_refl _ | go_size); clear hb; (try simp only [World.size_alloc, World.size_setCell, World.size_drew] at hm3))
        | (go_at_call 14; with_reducible refine (P4.out _).mono ?_; rintro e w' ⟨rfl, hb⟩; obtain ⟨X4, rfl, hl4, hm4⟩ := later (X3.w.heap.size + 1) hb (by first | exact Nat.le_refl _ | go_size); clear hb; (try simp only [World.size_alloc, World.size_setCell, World.size_drew] at hm4))
        | (go_at_call 24; with_reducible refine (P5.out _).mono ?_; rintro e w' ⟨rfl, hb⟩; obtain ⟨X5, rfl, hl5, hm5⟩ := later (X4.w.heap.size + 1) hb (by first | exact Nat.le_refl _ | go_size); clear hb; (try simp only [World.size_alloc, World.size_setCell, World.size_drew] at hm5))
        | (go_at_call 28; with_reducible refine (P6.out _).mono ?_; rintro e w' ⟨rfl, hb⟩; obtain ⟨X6, rfl, hl6, hm6⟩ := later (X5.w.heap.size) hb (by first | exact Nat.le_refl _ | go_size); clear hb; (try simp only [World.size_alloc, World.size_setCell, World.size_drew] at hm6))
        | (go_at_call 12; with_reducible refine (P7.out _).mono ?_; rintro e w' ⟨rfl, hb⟩; obtain ⟨X7, rfl, hl7, hm7⟩ := later (X6.w.heap.size) hb (by first | exact Nat.le_refl _ | go_size); clear hb; (try simp only [World.size_alloc, World.size_setCell, World.size_drew] at hm7))
        | (go_at_call 18; refine (cknown_any _).mono ?_; rintro e w' ⟨rfl, hb⟩; obtain ⟨X8, rfl, hl8, hm8⟩ := later (X6.w.heap.size) hb (by first | exact Nat.le_refl _ | go_size); clear hb; (try simp only [World.size_alloc, World.size_setCell, World.size_drew] at hm8)))
      go_ret
      exact ⟨rfl, by repeat' (first | (with_reducible exact Below.refl _ _) | (with_reducible assumption) | (with_reducible refine Later.step ?_ ?_ _) | (with_reducible refine Below.alloc ?_ ?_ _) | (with_reducible refine Below.drew ?_) | (with_reducible refine Below.setCell ?_ ?_ _) | go_size)⟩
  · rw [h] at p1 p2
    have P1 := Lib.hid p1
    have P2 := Lib.hid p2
    clear p1 p2 h
    go_enter Try.func7, Try.ntmps7
    go_wp2_with (first
      | (go_at_call 26; with_reducible refine (P1.out _).mono ?_; rintro e w' ⟨rfl, hb⟩; obtain ⟨X1, rfl, hl1, hm1⟩ := later (w.heap.size + 2) hb (by first | exact Nat.le_refl _ | go_size); clear hb; (try simp only [World.size_alloc, World.size_setCell, World.size_drew] at hm1))
      | (go_at_call 27; with_reducible refine (P2.out _).mono ?_; rintro e w' ⟨rfl, hb⟩; obtain ⟨X2, rfl, hl2, hm2⟩ := later (X1.w.heap.size + 1) hb (by first | exact Nat.le_refl _ | go_size); clear hb; (try simp only [World.size_alloc, World.size_setCell, World.size_drew] at hm2))
      | (go_at_call 18; refine (cknown_any _).mono ?_; rintro e w' ⟨rfl, hb⟩; obtain ⟨X8, rfl, hl8, hm8⟩ := later (X2.w.heap.size) hb (by first | exact Nat.le_refl _ | go_size); clear hb; (try simp only [World.size_alloc, World.size_setCell, World.size_drew] at hm8)))
    go_ret
    exact ⟨rfl, by repeat' (first | (with_reducible exact Below.refl _ _) | (with_reducible assumption) | (with_reducible refine Later.step ?_ ?_ _) | (with_reducible refine Below.alloc ?_ ?_ _) | (with_reducible refine Below.drew ?_) | (with_reducible refine Below.setCell ?_ ?_ _) | go_size)⟩
end Go.Proofs.Ythfnmlbdbjblkaa
