/- The laws' fixed calls of the geometry layer, walked: they answer true. No condition. -/
import Derived.Test.YtdomkckdjceaeaaGeomB
import Derived.Test.YtdomkckdjceaeaaGeomR
import Derived.KernelRfl
namespace Go.Proofs.Ytdomkckdjceaeaa
open Go.RowKit
set_option linter.unusedSimpArgs false

set_option maxHeartbeats 2000000 in
theorem rect_any (a b c d : Int) (w : World) :
    Calls Try.prog 33 #[.int .i64 a, .int .i64 b, .int .i64 c, .int .i64 d] w fun e w' => e = .returned (.agg #[.int .i64 a, .int .i64 b, .int .i64 c, .int .i64 d]) ∧ Below w.heap.size w w' := by
  go_enter Try.func33, Try.ntmps33
  go_wp2
  refine bodyPost_ret (by simp only [results, Try.results33]; go_simp; all_goals rfl) rfl ⟨rfl, ?_⟩
  repeat' (first | (with_reducible exact Below.refl _ _) | (with_reducible assumption) | (with_reducible refine Later.step ?_ ?_ _) | (with_reducible refine Below.alloc ?_ ?_ _) | (with_reducible refine Below.drew ?_) | (with_reducible refine Below.setCell ?_ ?_ _) | go_size)

theorem k_meet (w : World) : Calls Try.prog 11 #[.agg #[.int .i64 0, .int .i64 0, .int .i64 3, .int .i64 1], .agg #[.int .i64 2, .int .i64 1, .int .i64 9, .int .i64 9]] w fun e w' => e = .returned (.tuple #[.agg #[.int .i64 2, .int .i64 1, .int .i64 3, .int .i64 1], .bool true]) ∧ Below w.heap.size w w' :=
  (meet_any 0 0 3 1 2 1 9 9 w).mono fun _ _ ⟨he, hb⟩ => ⟨he.trans (by kernel_rfl), hb⟩
theorem k_hull (w : World) : Calls Try.prog 14 #[.agg #[.int .i64 0, .int .i64 0, .int .i64 3, .int .i64 1], .agg #[.int .i64 2, .int .i64 1, .int .i64 9, .int .i64 9]] w fun e w' => e = .returned (.agg #[.int .i64 0, .int .i64 0, .int .i64 9, .int .i64 9]) ∧ Below w.heap.size w w' :=
  (hull_any 0 0 3 1 2 1 9 9 w).mono fun _ _ ⟨he, hb⟩ => ⟨he.trans (by kernel_rfl), hb⟩
theorem k_area (w : World) : Calls Try.prog 17 #[.agg #[.int .i64 0, .int .i64 0, .int .i64 3, .int .i64 1]] w fun e w' => e = .returned (.int .u64 8) ∧ Below w.heap.size w w' :=
  (area_any 0 0 3 1 w).mono fun _ _ ⟨he, hb⟩ => ⟨he.trans (by kernel_rfl), hb⟩
theorem k_dist (w : World) : Calls Try.prog 21 #[.agg #[.int .i64 0, .int .i64 0, .int .i64 3, .int .i64 1], .agg #[.int .i64 6, .int .i64 5]] w fun e w' => e = .returned (.int .u64 25) ∧ Below w.heap.size w w' :=
  (dist_any 0 0 3 1 6 5 w).mono fun _ _ ⟨he, hb⟩ => ⟨he.trans (by kernel_rfl), hb⟩

set_option maxHeartbeats 2000000 in
theorem known_any (w : World) : Calls Try.prog 16 #[] w fun e w' => e = .returned (.bool true) ∧ Below w.heap.size w w' := by
  go_enter Try.func16, Try.ntmps16
  go_wp2_with (first
    | (go_at_call 33; refine (rect_any _ _ _ _ _).mono ?_; rintro e w' ⟨rfl, hb⟩; obtain ⟨X1, rfl, hl1, hm1⟩ := later (w.heap.size) hb (by first | exact Nat.le_refl _ | go_size); clear hb; (try simp only [World.size_alloc, World.size_setCell, World.size_drew] at hm1))
    | (go_at_call 11; refine (k_meet _).mono ?_; rintro e w' ⟨rfl, hb⟩; obtain ⟨X2, rfl, hl2, hm2⟩ := later (X1.w.heap.size + 2) hb (by first | exact Nat.le_refl _ | go_size); clear hb; (try simp only [World.size_alloc, World.size_setCell, World.size_drew] at hm2)))
  (refine wp_region_later (X2.w.heap.size + 1) (by kernel_rfl) (by kernel_rfl) (by go_size) ?_; (repeat (go_big_quiet_step ((first | (go_at_call 33; exact Later.call _ (Nat.le_trans (by go_size) (Later.is _).size) (rect_any _ _ _ _ _)) | (go_at_call 14; exact Later.call _ (Nat.le_trans (by go_size) (Later.is _).size) (k_hull _)) | (go_at_call 17; exact Later.call _ (Nat.le_trans (by go_size) (Later.is _).size) (k_area _)) | (go_at_call 21; exact Later.call _ (Nat.le_trans (by go_size) (Later.is _).size) (k_dist _)))))); refine wpQuiet_nil ?_; intro Xq hlq hmq)
  go_wp2
  go_ret
  exact ⟨rfl, by repeat' (first | (with_reducible exact Below.refl _ _) | (with_reducible assumption) | (with_reducible refine Later.step ?_ ?_ _) | (with_reducible refine Below.alloc ?_ ?_ _) | (with_reducible refine Below.drew ?_) | (with_reducible refine Below.setCell ?_ ?_ _) | go_size)⟩
end Go.Proofs.Ytdomkckdjceaeaa
