/- The geometry layer's functions, walked: each answers its plain function and leaves elder memory alone. No condition. -/
import Derived.Test.YthoanoaigfcchaaTail
import Derived.Test.YthoanoaigfcchaaGeomS
namespace Go.Proofs.Ythoanoaigfcchaa
open Go.RowKit
set_option linter.unusedSimpArgs false

set_option maxHeartbeats 1000000 in
theorem fits_any (x y : Int) (w : World) :
    Calls Try.prog 28 #[.agg #[.int .i64 x, .int .i64 y]] w fun e w' => e = .returned (.bool (fitsB x y)) ∧ Below w.heap.size w w' := by
  go_enter Try.func28, Try.ntmps28
  go_wp2
  all_goals
    go_ret
    exact ⟨ret_b (iff_b (by simp [fitsB]; try omega)), by repeat' (first | (with_reducible exact Below.refl _ _) | (with_reducible assumption) | (with_reducible refine Later.step ?_ ?_ _) | (with_reducible refine Below.alloc ?_ ?_ _) | (with_reducible refine Below.drew ?_) | (with_reducible refine Below.setCell ?_ ?_ _) | go_size)⟩
set_option maxHeartbeats 2000000 in
theorem right_any (a b c d : Int) (w : World) :
    Calls Try.prog 69 #[.agg #[.int .i64 a, .int .i64 b, .int .i64 c, .int .i64 d]] w fun e w' => e = .returned (.bool (rightB a b c d)) ∧ Below w.heap.size w w' := by
  go_enter Try.func69, Try.ntmps69
  go_wp2
  all_goals
    go_ret
    exact ⟨ret_b (iff_b (by simp [rightB]; try omega)), by repeat' (first | (with_reducible exact Below.refl _ _) | (with_reducible assumption) | (with_reducible refine Later.step ?_ ?_ _) | (with_reducible refine Below.alloc ?_ ?_ _) | (with_reducible refine Below.drew ?_) | (with_reducible refine Below.setCell ?_ ?_ _) | go_size)⟩
set_option maxHeartbeats 2000000 in
theorem hull_any (a b c d a' b' c' d' : Int) (w : World) :
    Calls Try.prog 63 #[.agg #[.int .i64 a, .int .i64 b, .int .i64 c, .int .i64 d], .agg #[.int .i64 a', .int .i64 b', .int .i64 c', .int .i64 d']] w fun e w' =>
      e = .returned (.agg #[.int .i64 (sel (bothB a b c d a' b' c' d') (min a a')), .int .i64 (sel (bothB a b c d a' b' c' d') (min b b')), .int .i64 (sel (bothB a b c d a' b' c' d') (max c c')), .int .i64 (sel (bothB a b c d a' b' c' d') (max d d'))]) ∧ Below w.heap.size w w' := by
  go_enter Try.func63, Try.ntmps63
  go_wp2_with (first
    | (go_at_call 69; refine (right_any _ _ _ _ _).mono ?_; rintro e w' ⟨rfl, hb⟩; obtain ⟨X1, rfl, hl1, hm1⟩ := later (w.heap.size + 3) hb (by first | exact Nat.le_refl _ | go_size); clear hb; (try simp only [World.size_alloc, World.size_setCell, World.size_drew] at hm1)))
  all_goals
    refine bodyPost_ret (by simp only [results, Try.results63]; go_simp; all_goals simp_all [bothB, sel]) rfl ⟨rfl, ?_⟩
    repeat' (first | (with_reducible exact Below.refl _ _) | (with_reducible assumption) | (with_reducible refine Later.step ?_ ?_ _) | (with_reducible refine Below.alloc ?_ ?_ _) | (with_reducible refine Below.drew ?_) | (with_reducible refine Below.setCell ?_ ?_ _) | go_size)
set_option maxHeartbeats 2000000 in
theorem area_any (a b c d : Int) (w : World) :
    Calls Try.prog 61 #[.agg #[.int .i64 a, .int .i64 b, .int .i64 c, .int .i64 d]] w fun e w' => e = .returned (.int .u64 (areaI a b c d)) ∧ Below w.heap.size w w' := by
  rcases Bool.eq_false_or_eq_true (rightB a b c d) with h | h
  · have g := right_iff.1 h
    have hm := mul_bd (u := c - a + 1) (v := d - b + 1) (by omega) (by omega) (by omega) (by omega)
    have hc := right_any a b c d
    rw [h] at hc
    have H := Lib.hid hc
    clear hc
    go_enter Try.func61, Try.ntmps61
    go_wp2_with (first
      | (go_at_call 69; refine (H.out _).mono ?_; rintro e w' ⟨rfl, hb⟩; obtain ⟨X1, rfl, hl1, hm1⟩ := later (w.heap.size + 1) hb (by first | exact Nat.le_refl _ | go_size); clear hb; (try simp only [World.size_alloc, World.size_setCell, World.size_drew] at hm1)))
    go_ret
    exact ⟨ret_i (by rw [areaI, h]; rfl), by repeat' (first | (with_reducible exact Below.refl _ _) | (with_reducible assumption) | (with_reducible refine Later.step ?_ ?_ _) | (with_reducible refine Below.alloc ?_ ?_ _) | (with_reducible refine Below.drew ?_) | (with_reducible refine Below.setCell ?_ ?_ _) | go_size)⟩
  · have hc := right_any a b c d
    rw [h] at hc
    have H := Lib.hid hc
    clear hc
    go_enter Try.func61, Try.ntmps61
    go_wp2_with (first
      | (go_at_call 69; refine (H.out _).mono ?_; rintro e w' ⟨rfl, hb⟩; obtain ⟨X1, rfl, hl1, hm1⟩ := later (w.heap.size + 1) hb (by first | exact Nat.le_refl _ | go_size); clear hb; (try simp only [World.size_alloc, World.size_setCell, World.size_drew] at hm1)))
    go_ret
    exact ⟨ret_i (by rw [areaI, h]; rfl), by repeat' (first | (with_reducible exact Below.refl _ _) | (with_reducible assumption) | (with_reducible refine Later.step ?_ ?_ _) | (with_reducible refine Below.alloc ?_ ?_ _) | (with_reducible refine Below.drew ?_) | (with_reducible refine Below.setCell ?_ ?_ _) | go_size)⟩
end Go.Proofs.Ythoanoaigfcchaa
