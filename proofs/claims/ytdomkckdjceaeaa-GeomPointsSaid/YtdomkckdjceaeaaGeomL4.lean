/- Further laws of the geometry layer, walked: each answers true and leaves elder memory alone. No condition. -/
import Derived.Test.YtdomkckdjceaeaaGeomK
import Derived.Test.YtdomkckdjceaeaaGeomS2
namespace Go.Proofs.Ytdomkckdjceaeaa
open Go.RowKit
set_option linter.unusedSimpArgs false

attribute [local go_sem] sel_true sel_false

set_option maxHeartbeats 4000000 in
theorem law_points (x y a b c d a' b' c' d' : Int) (w : World) :
    Calls Try.prog 8 #[.agg #[.int .i64 x, .int .i64 y], .agg #[.int .i64 a, .int .i64 b, .int .i64 c, .int .i64 d], .agg #[.int .i64 a', .int .i64 b', .int .i64 c', .int .i64 d']] w fun e w' => e = .returned (.bool true) ∧ Below w.heap.size w w' := by
  have e1 : meetsB a b c d a' b' c' d' = true → hasB (max a a') (max b b') (min c c') (min d d') x y = (hasB a b c d x y && hasB a' b' c' d' x y) := has_meet
  have e2 : meetsB a b c d a' b' c' d' = false → (hasB a b c d x y && hasB a' b' c' d' x y) = false := meet_none
  have e3 : rightB a b c d = true → rightB a' b' c' d' = true → hasB a b c d x y = true ∨ hasB a' b' c' d' x y = true → hasB (min a a') (min b b') (max c c') (max d d') x y = true := has_hull
  have e4 : rightB a b c d = true → rightB a' b' c' d' = true → inB a b c d (min a a') (min b b') (max c c') (max d d') = true ∧ inB a' b' c' d' (min a a') (min b b') (max c c') (max d d') = true := hull_has
  have e5 : bothB a b c d a' b' c' d' = (rightB a b c d && rightB a' b' c' d') := rfl
  have e6 : rightB a b c d = false → hasB a b c d x y = false := has_none
  have e7 : rightB a' b' c' d' = false → hasB a' b' c' d' x y = false := has_none
  have e8 : rightB a b c d = false → meetsB a b c d a' b' c' d' = false := meets_left
  have e9 : rightB a' b' c' d' = false → meetsB a b c d a' b' c' d' = false := meets_other
  rcases Bool.eq_false_or_eq_true (rightB a b c d) with r1 | r1 <;> rcases Bool.eq_false_or_eq_true (rightB a' b' c' d') with r2 | r2 <;>
    rcases Bool.eq_false_or_eq_true (meetsB a b c d a' b' c' d') with m | m <;> rcases Bool.eq_false_or_eq_true (hasB a b c d x y) with p | p <;> rcases Bool.eq_false_or_eq_true (hasB a' b' c' d' x y) with q | q <;>
    simp [r1, r2, m, p, q] at e1 e2 e3 e4 e5 e6 e7 e8 e9
  all_goals
    go_enter Try.func8, Try.ntmps8
    go_wp2_with (first
      | (go_at_call 11; refine (meet_any _ _ _ _ _ _ _ _ _).mono ?_; rintro e w' ⟨rfl, hb⟩; obtain ⟨X1, rfl, hl1, hm1⟩ := later (w.heap.size + 3) hb (by go_size); clear hb; (try simp only [World.size_alloc, World.size_setCell, World.size_drew] at hm1))
      | (go_at_call 14; refine (hull_any _ _ _ _ _ _ _ _ _).mono ?_; rintro e w' ⟨rfl, hb⟩; obtain ⟨X2, rfl, hl2, hm2⟩ := later (X1.w.heap.size + 1) hb (by go_size); clear hb; (try simp only [World.size_alloc, World.size_setCell, World.size_drew] at hm2)))
    (refine wp_region_later (X2.w.heap.size + 1) (by kernel_rfl) (by kernel_rfl) (by go_size) ?_; (repeat (go_big_quiet_step ((first | (go_at_call 27; exact Later.call _ (Nat.le_trans (by go_size) (Later.is _).size) (has_any _ _ _ _ _ _ _)))))); refine wpQuiet_nil ?_; intro Xq hlq hmq)
    go_wp2_with (first
      | (go_at_call 27; refine (has_any _ _ _ _ _ _ _).mono ?_; rintro e w' ⟨rfl, hb⟩; obtain ⟨X3, rfl, hl3, hm3⟩ := later (X2.w.heap.size + 1) hb (by go_size); clear hb; (try simp only [World.size_alloc, World.size_setCell, World.size_drew] at hm3))
      | (go_at_call 23; refine (right_any _ _ _ _ _).mono ?_; rintro e w' ⟨rfl, hb⟩; obtain ⟨X4, rfl, hl4, hm4⟩ := later (X2.w.heap.size + 1) hb (by go_size); clear hb; (try simp only [World.size_alloc, World.size_setCell, World.size_drew] at hm4))
      | (go_at_call 24; refine (in_any _ _ _ _ _ _ _ _ _).mono ?_; rintro e w' ⟨rfl, hb⟩; obtain ⟨X5, rfl, hl5, hm5⟩ := later (X2.w.heap.size + 1) hb (by go_size); clear hb; (try simp only [World.size_alloc, World.size_setCell, World.size_drew] at hm5))
      | (go_at_call 16; refine (known_any _).mono ?_; rintro e w' ⟨rfl, hb⟩; obtain ⟨X7, rfl, hl7, hm7⟩ := later (X2.w.heap.size + 1) hb (by go_size); clear hb; (try simp only [World.size_alloc, World.size_setCell, World.size_drew] at hm7)))
    go_ret
    exact ⟨rfl, by repeat' (first | (with_reducible exact Below.refl _ _) | (with_reducible assumption) | (with_reducible refine Later.step ?_ ?_ _) | (with_reducible refine Below.alloc ?_ ?_ _) | (with_reducible refine Below.drew ?_) | (with_reducible refine Below.setCell ?_ ?_ _) | go_size)⟩

end Go.Proofs.Ytdomkckdjceaeaa
