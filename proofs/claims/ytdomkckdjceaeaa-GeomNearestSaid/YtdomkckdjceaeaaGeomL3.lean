/- Further laws of the geometry layer, walked: each answers true and leaves elder memory alone. No condition. -/
import Derived.Test.YtdomkckdjceaeaaGeomK
import Derived.Test.YtdomkckdjceaeaaGeomS2
namespace Go.Proofs.Ytdomkckdjceaeaa
open Go.RowKit
set_option linter.unusedSimpArgs false

attribute [local go_sem] sel_true sel_false

set_option maxHeartbeats 4000000 in
theorem law_nearest (a b c d x y x' y' : Int) (w : World) :
    Calls Try.prog 7 #[.agg #[.int .i64 a, .int .i64 b, .int .i64 c, .int .i64 d], .agg #[.int .i64 x, .int .i64 y], .agg #[.int .i64 x', .int .i64 y']] w fun e w' => e = .returned (.bool true) ∧ Below w.heap.size w w' := by
  by_cases h : rightB a b c d = true ∧ fitsB x y = true
  · obtain ⟨h1, h2⟩ := h
    obtain ⟨cx, hcx⟩ : ∃ cx, cx = clampI x a c := ⟨_, rfl⟩
    obtain ⟨cy, hcy⟩ : ∃ cy, cy = clampI y b d := ⟨_, rfl⟩
    obtain ⟨D, hD⟩ : ∃ D, D = distI a b c d x y := ⟨_, rfl⟩
    have hN : ∀ w, Calls Try.prog 25 #[.agg #[.int .i64 a, .int .i64 b, .int .i64 c, .int .i64 d], .agg #[.int .i64 x, .int .i64 y]] w fun e w' => e = .returned (.agg #[.int .i64 cx, .int .i64 cy]) ∧ Below w.heap.size w w' := by
      intro w
      have := nearest_any a b c d x y w
      rwa [h1, h2, Bool.and_self, sel_true, sel_true, ← hcx, ← hcy] at this
    have hA : ∀ w, Calls Try.prog 19 #[.agg #[.int .i64 x, .int .i64 y], .agg #[.int .i64 cx, .int .i64 cy]] w fun e w' => e = .returned (.int .u64 D) ∧ Below w.heap.size w w' := by
      intro w
      have := apart_any x y cx cy w
      rwa [hcx, hcy, dist_apart h1 h2, ← hcx, ← hcy, ← hD] at this
    have hS : ∀ w, Calls Try.prog 21 #[.agg #[.int .i64 a, .int .i64 b, .int .i64 c, .int .i64 d], .agg #[.int .i64 x, .int .i64 y]] w fun e w' => e = .returned (.int .u64 D) ∧ Below w.heap.size w w' := by
      intro w
      have := dist_any a b c d x y w
      rwa [← hD] at this
    have hh : hasB a b c d cx cy = true := by rw [hcx, hcy]; exact near_has h1
    have hz : hasB a b c d x y = (D == 0) := by rw [hD]; exact (dist_zero h1 h2).symm
    have hl : hasB a b c d x' y' = true → D ≤ apartI x y x' y' ∧ (¬ (x' = cx ∧ y' = cy) → D < apartI x y x' y') := fun hq => by
      rw [hD, hcx, hcy]; exact near_least h1 h2 hq
    have HN := Lib.hid hN
    have HA := Lib.hid hA
    have HS := Lib.hid hS
    clear hN hA hS hcx hcy hD
    rcases Bool.eq_false_or_eq_true (hasB a b c d x' y') with hq | hq
    · obtain ⟨l1, l2⟩ := hl hq
      by_cases he : x' = cx ∧ y' = cy
      · obtain ⟨rfl, rfl⟩ := he
        have H2 := Lib.hid l2
        clear l2 hl
        go_enter Try.func7, Try.ntmps7
        go_wp2_with (first
          | (go_at_call 25; refine (HN.out _).mono ?_; rintro e w' ⟨rfl, hb⟩; obtain ⟨X1, rfl, hl1, hm1⟩ := later (w.heap.size + 3) hb (by go_size); clear hb; (try simp only [World.size_alloc, World.size_setCell, World.size_drew] at hm1))
          | (go_at_call 23; refine (right_any _ _ _ _ _).mono ?_; rintro e w' ⟨rfl, hb⟩; obtain ⟨X2, rfl, hl2, hm2⟩ := later (X1.w.heap.size + 1) hb (by go_size); clear hb; (try simp only [World.size_alloc, World.size_setCell, World.size_drew] at hm2))
          | (go_at_call 26; refine (fits_any _ _ _).mono ?_; rintro e w' ⟨rfl, hb⟩; obtain ⟨X3, rfl, hl3, hm3⟩ := later (X1.w.heap.size + 1) hb (by go_size); clear hb; (try simp only [World.size_alloc, World.size_setCell, World.size_drew] at hm3))
          | (go_at_call 21; refine (HS.out _).mono ?_; rintro e w' ⟨rfl, hb⟩; obtain ⟨X4, rfl, hl4, hm4⟩ := later (X1.w.heap.size + 1) hb (by go_size); clear hb; (try simp only [World.size_alloc, World.size_setCell, World.size_drew] at hm4))
          | (go_at_call 27; refine (has_any _ _ _ _ _ _ _).mono ?_; rintro e w' ⟨rfl, hb⟩; obtain ⟨X5, rfl, hl5, hm5⟩ := later (X1.w.heap.size + 1) hb (by go_size); clear hb; (try simp only [World.size_alloc, World.size_setCell, World.size_drew] at hm5))
          | (go_at_call_of 19 (Value.agg #[.int .i64 x', .int .i64 y']); refine (HA.out _).mono ?_; rintro e w' ⟨rfl, hb⟩; obtain ⟨X6, rfl, hl6, hm6⟩ := later (X1.w.heap.size + 1) hb (by go_size); clear hb; (try simp only [World.size_alloc, World.size_setCell, World.size_drew] at hm6))
          | (go_at_call 19; refine (apart_any _ _ _ _ _).mono ?_; rintro e w' ⟨rfl, hb⟩; obtain ⟨X8, rfl, hl8, hm8⟩ := later (X1.w.heap.size + 1) hb (by go_size); clear hb; (try simp only [World.size_alloc, World.size_setCell, World.size_drew] at hm8))
          | (go_at_call 16; refine (known_any _).mono ?_; rintro e w' ⟨rfl, hb⟩; obtain ⟨X7, rfl, hl7, hm7⟩ := later (X1.w.heap.size + 1) hb (by go_size); clear hb; (try simp only [World.size_alloc, World.size_setCell, World.size_drew] at hm7)))
        all_goals
          go_ret
          exact ⟨rfl, by repeat' (first | (with_reducible exact Below.refl _ _) | (with_reducible assumption) | (with_reducible refine Later.step ?_ ?_ _) | (with_reducible refine Below.alloc ?_ ?_ _) | (with_reducible refine Below.drew ?_) | (with_reducible refine Below.setCell ?_ ?_ _) | go_size)⟩

      · have l3 := l2 he
        have HE := Lib.hid he
        clear l2 hl he
        go_enter Try.func7, Try.ntmps7
        go_wp2_with (first
          | (go_at_call 25; refine (HN.out _).mono ?_; rintro e w' ⟨rfl, hb⟩; obtain ⟨X1, rfl, hl1, hm1⟩ := later (w.heap.size + 3) hb (by go_size); clear hb; (try simp only [World.size_alloc, World.size_setCell, World.size_drew] at hm1))
          | (go_at_call 23; refine (right_any _ _ _ _ _).mono ?_; rintro e w' ⟨rfl, hb⟩; obtain ⟨X2, rfl, hl2, hm2⟩ := later (X1.w.heap.size + 1) hb (by go_size); clear hb; (try simp only [World.size_alloc, World.size_setCell, World.size_drew] at hm2))
          | (go_at_call 26; refine (fits_any _ _ _).mono ?_; rintro e w' ⟨rfl, hb⟩; obtain ⟨X3, rfl, hl3, hm3⟩ := later (X1.w.heap.size + 1) hb (by go_size); clear hb; (try simp only [World.size_alloc, World.size_setCell, World.size_drew] at hm3))
          | (go_at_call 21; refine (HS.out _).mono ?_; rintro e w' ⟨rfl, hb⟩; obtain ⟨X4, rfl, hl4, hm4⟩ := later (X1.w.heap.size + 1) hb (by go_size); clear hb; (try simp only [World.size_alloc, World.size_setCell, World.size_drew] at hm4))
          | (go_at_call 27; refine (has_any _ _ _ _ _ _ _).mono ?_; rintro e w' ⟨rfl, hb⟩; obtain ⟨X5, rfl, hl5, hm5⟩ := later (X1.w.heap.size + 1) hb (by go_size); clear hb; (try simp only [World.size_alloc, World.size_setCell, World.size_drew] at hm5))
          | (go_at_call_of 19 (Value.agg #[.int .i64 cx, .int .i64 cy]); refine (HA.out _).mono ?_; rintro e w' ⟨rfl, hb⟩; obtain ⟨X6, rfl, hl6, hm6⟩ := later (X1.w.heap.size + 1) hb (by go_size); clear hb; (try simp only [World.size_alloc, World.size_setCell, World.size_drew] at hm6))
          | (go_at_call 19; refine (apart_any _ _ _ _ _).mono ?_; rintro e w' ⟨rfl, hb⟩; obtain ⟨X8, rfl, hl8, hm8⟩ := later (X1.w.heap.size + 1) hb (by go_size); clear hb; (try simp only [World.size_alloc, World.size_setCell, World.size_drew] at hm8))
          | (go_at_call 16; refine (known_any _).mono ?_; rintro e w' ⟨rfl, hb⟩; obtain ⟨X7, rfl, hl7, hm7⟩ := later (X1.w.heap.size + 1) hb (by go_size); clear hb; (try simp only [World.size_alloc, World.size_setCell, World.size_drew] at hm7)))
        all_goals first
          | (go_ret; exact ⟨rfl, by repeat' (first | (with_reducible exact Below.refl _ _) | (with_reducible assumption) | (with_reducible refine Later.step ?_ ?_ _) | (with_reducible refine Below.alloc ?_ ?_ _) | (with_reducible refine Below.drew ?_) | (with_reducible refine Below.setCell ?_ ?_ _) | go_size)⟩)
          | (exfalso; exact HE.out ⟨by assumption, by assumption⟩)
          | (exfalso; omega)
          | (exfalso; simp_all; omega)

    · clear hl
      go_enter Try.func7, Try.ntmps7
      go_wp2_with (first
        | (go_at_call 25; refine (HN.out _).mono ?_; rintro e w' ⟨rfl, hb⟩; obtain ⟨X1, rfl, hl1, hm1⟩ := later (w.heap.size + 3) hb (by go_size); clear hb; (try simp only [World.size_alloc, World.size_setCell, World.size_drew] at hm1))
        | (go_at_call 23; refine (right_any _ _ _ _ _).mono ?_; rintro e w' ⟨rfl, hb⟩; obtain ⟨X2, rfl, hl2, hm2⟩ := later (X1.w.heap.size + 1) hb (by go_size); clear hb; (try simp only [World.size_alloc, World.size_setCell, World.size_drew] at hm2))
        | (go_at_call 26; refine (fits_any _ _ _).mono ?_; rintro e w' ⟨rfl, hb⟩; obtain ⟨X3, rfl, hl3, hm3⟩ := later (X1.w.heap.size + 1) hb (by go_size); clear hb; (try simp only [World.size_alloc, World.size_setCell, World.size_drew] at hm3))
        | (go_at_call 21; refine (HS.out _).mono ?_; rintro e w' ⟨rfl, hb⟩; obtain ⟨X4, rfl, hl4, hm4⟩ := later (X1.w.heap.size + 1) hb (by go_size); clear hb; (try simp only [World.size_alloc, World.size_setCell, World.size_drew] at hm4))
        | (go_at_call 27; refine (has_any _ _ _ _ _ _ _).mono ?_; rintro e w' ⟨rfl, hb⟩; obtain ⟨X5, rfl, hl5, hm5⟩ := later (X1.w.heap.size + 1) hb (by go_size); clear hb; (try simp only [World.size_alloc, World.size_setCell, World.size_drew] at hm5))
        | (go_at_call_of 19 (Value.agg #[.int .i64 cx, .int .i64 cy]); refine (HA.out _).mono ?_; rintro e w' ⟨rfl, hb⟩; obtain ⟨X6, rfl, hl6, hm6⟩ := later (X1.w.heap.size + 1) hb (by go_size); clear hb; (try simp only [World.size_alloc, World.size_setCell, World.size_drew] at hm6))
        | (go_at_call 19; refine (apart_any _ _ _ _ _).mono ?_; rintro e w' ⟨rfl, hb⟩; obtain ⟨X8, rfl, hl8, hm8⟩ := later (X1.w.heap.size + 1) hb (by go_size); clear hb; (try simp only [World.size_alloc, World.size_setCell, World.size_drew] at hm8))
        | (go_at_call 16; refine (known_any _).mono ?_; rintro e w' ⟨rfl, hb⟩; obtain ⟨X7, rfl, hl7, hm7⟩ := later (X1.w.heap.size + 1) hb (by go_size); clear hb; (try simp only [World.size_alloc, World.size_setCell, World.size_drew] at hm7)))
      all_goals
        go_ret
        exact ⟨rfl, by repeat' (first | (with_reducible exact Below.refl _ _) | (with_reducible assumption) | (with_reducible refine Later.step ?_ ?_ _) | (with_reducible refine Below.alloc ?_ ?_ _) | (with_reducible refine Below.drew ?_) | (with_reducible refine Below.setCell ?_ ?_ _) | go_size)⟩

  · have hv : (rightB a b c d && fitsB x y) = false := by simpa using h
    have hN : ∀ w, Calls Try.prog 25 #[.agg #[.int .i64 a, .int .i64 b, .int .i64 c, .int .i64 d], .agg #[.int .i64 x, .int .i64 y]] w fun e w' => e = .returned (.agg #[.int .i64 0, .int .i64 0]) ∧ Below w.heap.size w w' := by
      intro w
      have := nearest_any a b c d x y w
      rwa [hv, sel_false, sel_false] at this
    have HN := Lib.hid hN
    have hd : (!rightB a b c d || !fitsB x y) = true := by revert h; cases rightB a b c d <;> cases fitsB x y <;> simp
    clear h hN
    go_enter Try.func7, Try.ntmps7
    go_wp2_with (first
      | (go_at_call 25; refine (HN.out _).mono ?_; rintro e w' ⟨rfl, hb⟩; obtain ⟨X1, rfl, hl1, hm1⟩ := later (w.heap.size + 3) hb (by go_size); clear hb; (try simp only [World.size_alloc, World.size_setCell, World.size_drew] at hm1))
      | (go_at_call 23; refine (right_any _ _ _ _ _).mono ?_; rintro e w' ⟨rfl, hb⟩; obtain ⟨X2, rfl, hl2, hm2⟩ := later (X1.w.heap.size + 1) hb (by go_size); clear hb; (try simp only [World.size_alloc, World.size_setCell, World.size_drew] at hm2))
      | (go_at_call 26; refine (fits_any _ _ _).mono ?_; rintro e w' ⟨rfl, hb⟩; obtain ⟨X3, rfl, hl3, hm3⟩ := later (X1.w.heap.size + 1) hb (by go_size); clear hb; (try simp only [World.size_alloc, World.size_setCell, World.size_drew] at hm3))
      | (go_at_call 16; refine (known_any _).mono ?_; rintro e w' ⟨rfl, hb⟩; obtain ⟨X7, rfl, hl7, hm7⟩ := later (X1.w.heap.size + 1) hb (by go_size); clear hb; (try simp only [World.size_alloc, World.size_setCell, World.size_drew] at hm7)))
    all_goals first
      | (exfalso; simp_all; done)
      | (go_ret; exact ⟨rfl, by repeat' (first | (with_reducible exact Below.refl _ _) | (with_reducible assumption) | (with_reducible refine Later.step ?_ ?_ _) | (with_reducible refine Below.alloc ?_ ?_ _) | (with_reducible refine Below.drew ?_) | (with_reducible refine Below.setCell ?_ ?_ _) | go_size)⟩)

end Go.Proofs.Ytdomkckdjceaeaa
