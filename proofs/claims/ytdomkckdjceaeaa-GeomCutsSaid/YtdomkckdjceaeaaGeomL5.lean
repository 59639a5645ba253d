/- Further laws of the geometry layer, walked: each answers true and leaves elder memory alone. No condition. -/
import Derived.Test.YtdomkckdjceaeaaGeomK
import Derived.Test.YtdomkckdjceaeaaGeomS2
namespace Go.Proofs.Ytdomkckdjceaeaa
open Go.RowKit
set_option linter.unusedSimpArgs false

attribute [local go_sem] sel_true sel_false

set_option maxHeartbeats 4000000 in
theorem law_cuts (a b c d m : Int) (down : Bool) (w : World) :
    Calls Try.prog 5 #[.agg #[.int .i64 a, .int .i64 b, .int .i64 c, .int .i64 d], .int .i64 m, .bool down] w fun e w' => e = .returned (.bool true) ∧ Below w.heap.size w w' := by
  cases down
  all_goals rcases Bool.eq_false_or_eq_true (rightB a b c d) with h | h
  · by_cases hm : a ≤ m ∧ m < c
    · obtain ⟨m0, m1⟩ := hm
      obtain ⟨e1, e2, e3, e4⟩ := cut_side h m0 m1
      have b1 := area_bd a b m d
      have b2 := area_bd (m + 1) b c d
      have b3 := area_bd a b c d
      have g := right_iff.1 h
      have hH : ∀ w, Calls Try.prog 14 #[.agg #[.int .i64 a, .int .i64 b, .int .i64 m, .int .i64 d], .agg #[.int .i64 (m + 1), .int .i64 b, .int .i64 c, .int .i64 d]] w fun e w' => e = .returned (.agg #[.int .i64 a, .int .i64 b, .int .i64 c, .int .i64 d]) ∧ Below w.heap.size w w' := by
        intro w
        have := hull_any a b m d (m + 1) b c d w
        have hb : bothB a b m d (m + 1) b c d = true := by rw [bothB, e1, e2]; rfl
        rw [hb, sel_true, sel_true, sel_true, sel_true] at this
        have k1 : min a (m + 1) = a := by omega
        have k2 : min b b = b := by omega
        have k3 : max m c = c := by omega
        have k4 : max d d = d := by omega
        rwa [k1, k2, k3, k4] at this
      have HH := Lib.hid hH
      clear hH
      go_enter Try.func5, Try.ntmps5
      go_wp2_with (first
        | (go_at_call 23; refine (right_any _ _ _ _ _).mono ?_; rintro e w' ⟨rfl, hb⟩; obtain ⟨X1, rfl, hl1, hm1⟩ := later (w.heap.size + 1) hb (by go_size); clear hb; (try simp only [World.size_alloc, World.size_setCell, World.size_drew] at hm1)))
      go_region
      all_goals
        go_wp2_with fail
        (refine wp_region_later (X1.w.heap.size + 2) (by kernel_rfl) (by kernel_rfl) (by go_size) ?_; (repeat (go_big_quiet_step ((first | (go_at_call 17; exact Later.call _ (Nat.le_trans (by go_size) (Later.is _).size) (area_any _ _ _ _ _)) | (go_at_call 13; exact Later.call _ (Nat.le_trans (by go_size) (Later.is _).size) (meets_any _ _ _ _ _ _ _ _ _)) | (go_at_call 14; exact Later.call _ (Nat.le_trans (by go_size) (Later.is _).size) (HH.out _)) | (go_at_call 16; exact Later.call _ (Nat.le_trans (by go_size) (Later.is _).size) (known_any _)))))); refine wpQuiet_nil ?_; intro Xq hlq hmq)
        go_wp2
        go_ret
        exact ⟨rfl, by repeat' (first | (with_reducible exact Below.refl _ _) | (with_reducible assumption) | (with_reducible refine Later.step ?_ ?_ _) | (with_reducible refine Below.alloc ?_ ?_ _) | (with_reducible refine Below.drew ?_) | (with_reducible refine Below.setCell ?_ ?_ _) | go_size)⟩
    · have hm' : m < a ∨ c ≤ m := by omega
      clear hm
      rcases hm' with hm | hm
      all_goals
        have hg := right_iff.1 h
        go_enter Try.func5, Try.ntmps5
        go_wp2_with (first
          | (go_at_call 23; refine (right_any _ _ _ _ _).mono ?_; rintro e w' ⟨rfl, hb⟩; obtain ⟨X1, rfl, hl1, hm1⟩ := later (w.heap.size + 1) hb (by go_size); clear hb; (try simp only [World.size_alloc, World.size_setCell, World.size_drew] at hm1)))
        go_region
        all_goals
          go_wp2_with (first
            | (go_at_call 16; refine (known_any _).mono ?_; rintro e w' ⟨rfl, hb⟩; obtain ⟨X7, rfl, hl7, hm7⟩ := later (X1.w.heap.size + 2) hb (by go_size); clear hb; (try simp only [World.size_alloc, World.size_setCell, World.size_drew] at hm7)))
          go_ret
          exact ⟨rfl, by repeat' (first | (with_reducible exact Below.refl _ _) | (with_reducible assumption) | (with_reducible refine Later.step ?_ ?_ _) | (with_reducible refine Below.alloc ?_ ?_ _) | (with_reducible refine Below.drew ?_) | (with_reducible refine Below.setCell ?_ ?_ _) | go_size)⟩
  · have hv : areaI a b c d = 0 := by unfold areaI; rw [h]; rfl
    go_enter Try.func5, Try.ntmps5
    go_wp2_with (first
      | (go_at_call 23; refine (right_any _ _ _ _ _).mono ?_; rintro e w' ⟨rfl, hb⟩; obtain ⟨X1, rfl, hl1, hm1⟩ := later (w.heap.size + 1) hb (by go_size); clear hb; (try simp only [World.size_alloc, World.size_setCell, World.size_drew] at hm1))
      | (go_at_call 17; refine (area_any _ _ _ _ _).mono ?_; rintro e w' ⟨rfl, hb⟩; obtain ⟨X2, rfl, hl2, hm2⟩ := later (w.heap.size + 1) hb (by go_size); clear hb; (try simp only [World.size_alloc, World.size_setCell, World.size_drew] at hm2))
      | (go_at_call 16; refine (known_any _).mono ?_; rintro e w' ⟨rfl, hb⟩; obtain ⟨X7, rfl, hl7, hm7⟩ := later (w.heap.size + 1) hb (by go_size); clear hb; (try simp only [World.size_alloc, World.size_setCell, World.size_drew] at hm7)))
    go_ret
    exact ⟨rfl, by repeat' (first | (with_reducible exact Below.refl _ _) | (with_reducible assumption) | (with_reducible refine Later.step ?_ ?_ _) | (with_reducible refine Below.alloc ?_ ?_ _) | (with_reducible refine Below.drew ?_) | (with_reducible refine Below.setCell ?_ ?_ _) | go_size)⟩
  · by_cases hm : b ≤ m ∧ m < d
    · obtain ⟨m0, m1⟩ := hm
      obtain ⟨e1, e2, e3, e4⟩ := cut_down h m0 m1
      have b1 := area_bd a b c m
      have b2 := area_bd a (m + 1) c d
      have b3 := area_bd a b c d
      have g := right_iff.1 h
      have hH : ∀ w, Calls Try.prog 14 #[.agg #[.int .i64 a, .int .i64 b, .int .i64 c, .int .i64 m], .agg #[.int .i64 a, .int .i64 (m + 1), .int .i64 c, .int .i64 d]] w fun e w' => e = .returned (.agg #[.int .i64 a, .int .i64 b, .int .i64 c, .int .i64 d]) ∧ Below w.heap.size w w' := by
        intro w
        have := hull_any a b c m a (m + 1) c d w
        have hb : bothB a b c m a (m + 1) c d = true := by rw [bothB, e1, e2]; rfl
        rw [hb, sel_true, sel_true, sel_true, sel_true] at this
        have k1 : min a a = a := by omega
        have k2 : min b (m + 1) = b := by omega
        have k3 : max c c = c := by omega
        have k4 : max m d = d := by omega
        rwa [k1, k2, k3, k4] at this
      have HH := Lib.hid hH
      clear hH
      go_enter Try.func5, Try.ntmps5
      go_wp2_with (first
        | (go_at_call 23; refine (right_any _ _ _ _ _).mono ?_; rintro e w' ⟨rfl, hb⟩; obtain ⟨X1, rfl, hl1, hm1⟩ := later (w.heap.size + 1) hb (by go_size); clear hb; (try simp only [World.size_alloc, World.size_setCell, World.size_drew] at hm1)))
      go_region
      all_goals
        go_wp2_with fail
        (refine wp_region_later (X1.w.heap.size + 2) (by kernel_rfl) (by kernel_rfl) (by go_size) ?_; (repeat (go_big_quiet_step ((first | (go_at_call 17; exact Later.call _ (Nat.le_trans (by go_size) (Later.is _).size) (area_any _ _ _ _ _)) | (go_at_call 13; exact Later.call _ (Nat.le_trans (by go_size) (Later.is _).size) (meets_any _ _ _ _ _ _ _ _ _)) | (go_at_call 14; exact Later.call _ (Nat.le_trans (by go_size) (Later.is _).size) (HH.out _)) | (go_at_call 16; exact Later.call _ (Nat.le_trans (by go_size) (Later.is _).size) (known_any _)))))); refine wpQuiet_nil ?_; intro Xq hlq hmq)
        go_wp2
        go_ret
        exact ⟨rfl, by repeat' (first | (with_reducible exact Below.refl _ _) | (with_reducible assumption) | (with_reducible refine Later.step ?_ ?_ _) | (with_reducible refine Below.alloc ?_ ?_ _) | (with_reducible refine Below.drew ?_) | (with_reducible refine Below.setCell ?_ ?_ _) | go_size)⟩
    · have hm' : m < b ∨ d ≤ m := by omega
      clear hm
      rcases hm' with hm | hm
      all_goals
        have hg := right_iff.1 h
        go_enter Try.func5, Try.ntmps5
        go_wp2_with (first
          | (go_at_call 23; refine (right_any _ _ _ _ _).mono ?_; rintro e w' ⟨rfl, hb⟩; obtain ⟨X1, rfl, hl1, hm1⟩ := later (w.heap.size + 1) hb (by go_size); clear hb; (try simp only [World.size_alloc, World.size_setCell, World.size_drew] at hm1)))
        go_region
        all_goals
          go_wp2_with (first
            | (go_at_call 16; refine (known_any _).mono ?_; rintro e w' ⟨rfl, hb⟩; obtain ⟨X7, rfl, hl7, hm7⟩ := later (X1.w.heap.size + 2) hb (by go_size); clear hb; (try simp only [World.size_alloc, World.size_setCell, World.size_drew] at hm7)))
          go_ret
          exact ⟨rfl, by repeat' (first | (with_reducible exact Below.refl _ _) | (with_reducible assumption) | (with_reducible refine Later.step ?_ ?_ _) | (with_reducible refine Below.alloc ?_ ?_ _) | (with_reducible refine Below.drew ?_) | (with_reducible refine Below.setCell ?_ ?_ _) | go_size)⟩
  · have hv : areaI a b c d = 0 := by unfold areaI; rw [h]; rfl
    go_enter Try.func5, Try.ntmps5
    go_wp2_with (first
      | (go_at_call 23; refine (right_any _ _ _ _ _).mono ?_; rintro e w' ⟨rfl, hb⟩; obtain ⟨X1, rfl, hl1, hm1⟩ := later (w.heap.size + 1) hb (by go_size); clear hb; (try simp only [World.size_alloc, World.size_setCell, World.size_drew] at hm1))
      | (go_at_call 17; refine (area_any _ _ _ _ _).mono ?_; rintro e w' ⟨rfl, hb⟩; obtain ⟨X2, rfl, hl2, hm2⟩ := later (w.heap.size + 1) hb (by go_size); clear hb; (try simp only [World.size_alloc, World.size_setCell, World.size_drew] at hm2))
      | (go_at_call 16; refine (known_any _).mono ?_; rintro e w' ⟨rfl, hb⟩; obtain ⟨X7, rfl, hl7, hm7⟩ := later (w.heap.size + 1) hb (by go_size); clear hb; (try simp only [World.size_alloc, World.size_setCell, World.size_drew] at hm7)))
    go_ret
    exact ⟨rfl, by repeat' (first | (with_reducible exact Below.refl _ _) | (with_reducible assumption) | (with_reducible refine Later.step ?_ ?_ _) | (with_reducible refine Below.alloc ?_ ?_ _) | (with_reducible refine Below.drew ?_) | (with_reducible refine Below.setCell ?_ ?_ _) | go_size)⟩
end Go.Proofs.Ytdomkckdjceaeaa
