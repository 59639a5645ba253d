/- The laws of the geometry layer, walked: each answers true and leaves elder memory alone. No condition. -/
import Derived.Test.YtdomkckdjceaeaaGeomK
namespace Go.Proofs.Ytdomkckdjceaeaa
open Go.RowKit
set_option linter.unusedSimpArgs false

set_option maxHeartbeats 4000000 in
theorem law_meets (a b c d a' b' c' d' : Int) (w : World) :
    Calls Try.prog 3 #[.agg #[.int .i64 a, .int .i64 b, .int .i64 c, .int .i64 d], .agg #[.int .i64 a', .int .i64 b', .int .i64 c', .int .i64 d']] w fun e w' => e = .returned (.bool true) ∧ Below w.heap.size w w' := by
  go_enter Try.func3, Try.ntmps3
  go_wp2_with (first
    | (go_at_call 11; refine (meet_any _ _ _ _ _ _ _ _ _).mono ?_; rintro e w' ⟨rfl, hb⟩; obtain ⟨X1, rfl, hl1, hm1⟩ := later (w.heap.size + 2) hb (by go_size); clear hb; (try simp only [World.size_alloc, World.size_setCell, World.size_drew] at hm1))
    | (go_at_call 12; refine (rmeet_any _ _ _ _ _ _ _ _ _).mono ?_; rintro e w' ⟨rfl, hb⟩; obtain ⟨X2, rfl, hl2, hm2⟩ := later (X1.w.heap.size + 1) hb (by go_size); clear hb; (try simp only [World.size_alloc, World.size_setCell, World.size_drew] at hm2)))
  (refine wp_region_later (X2.w.heap.size + 1) (by kernel_rfl) (by kernel_rfl) (by go_size) ?_; (repeat (go_big_quiet_step ((first | (go_at_call 13; exact Later.call _ (Nat.le_trans (by go_size) (Later.is _).size) (meets_any _ _ _ _ _ _ _ _ _)) | (go_at_call 14; exact Later.call _ (Nat.le_trans (by go_size) (Later.is _).size) (hull_any _ _ _ _ _ _ _ _ _)) | (go_at_call 15; exact Later.call _ (Nat.le_trans (by go_size) (Later.is _).size) (rhull_any _ _ _ _ _ _ _ _ _)) | (go_at_call 16; exact Later.call _ (Nat.le_trans (by go_size) (Later.is _).size) (known_any _)))))); refine wpQuiet_nil ?_; intro Xq hlq hmq)
  go_wp2
  go_ret
  exact ⟨rfl, by repeat' (first | (with_reducible exact Below.refl _ _) | (with_reducible assumption) | (with_reducible refine Later.step ?_ ?_ _) | (with_reducible refine Below.alloc ?_ ?_ _) | (with_reducible refine Below.drew ?_) | (with_reducible refine Below.setCell ?_ ?_ _) | go_size)⟩

set_option maxHeartbeats 4000000 in
theorem law_reckons (x y x' y' a b c d : Int) (w : World) :
    Calls Try.prog 4 #[.agg #[.int .i64 x, .int .i64 y], .agg #[.int .i64 x', .int .i64 y'], .agg #[.int .i64 a, .int .i64 b, .int .i64 c, .int .i64 d]] w fun e w' => e = .returned (.bool true) ∧ Below w.heap.size w w' := by
  go_enter Try.func4, Try.ntmps4
  go_wp2_with fail
  (refine wp_region_later (w.heap.size + 3) (by kernel_rfl) (by kernel_rfl) (by go_size) ?_; (repeat (go_big_quiet_step ((first | (go_at_call 17; exact Later.call _ (Nat.le_trans (by go_size) (Later.is _).size) (area_any _ _ _ _ _)) | (go_at_call 18; exact Later.call _ (Nat.le_trans (by go_size) (Later.is _).size) (rarea_any _ _ _ _ _)) | (go_at_call 19; exact Later.call _ (Nat.le_trans (by go_size) (Later.is _).size) (apart_any _ _ _ _ _)) | (go_at_call 20; exact Later.call _ (Nat.le_trans (by go_size) (Later.is _).size) (rapart_any _ _ _ _ _)) | (go_at_call 21; exact Later.call _ (Nat.le_trans (by go_size) (Later.is _).size) (dist_any _ _ _ _ _ _ _)) | (go_at_call 22; exact Later.call _ (Nat.le_trans (by go_size) (Later.is _).size) (rdist_any _ _ _ _ _ _ _)) | (go_at_call 16; exact Later.call _ (Nat.le_trans (by go_size) (Later.is _).size) (known_any _)))))); refine wpQuiet_nil ?_; intro Xq hlq hmq)
  go_wp2
  go_ret
  exact ⟨rfl, by repeat' (first | (with_reducible exact Below.refl _ _) | (with_reducible assumption) | (with_reducible refine Later.step ?_ ?_ _) | (with_reducible refine Below.alloc ?_ ?_ _) | (with_reducible refine Below.drew ?_) | (with_reducible refine Below.setCell ?_ ?_ _) | go_size)⟩

set_option maxHeartbeats 4000000 in
theorem law_asks (x y a b c d a' b' c' d' : Int) (w : World) :
    Calls Try.prog 9 #[.agg #[.int .i64 x, .int .i64 y], .agg #[.int .i64 a, .int .i64 b, .int .i64 c, .int .i64 d], .agg #[.int .i64 a', .int .i64 b', .int .i64 c', .int .i64 d']] w fun e w' => e = .returned (.bool true) ∧ Below w.heap.size w w' := by
  go_enter Try.func9, Try.ntmps9
  go_wp2_with fail
  (refine wp_region_later (w.heap.size + 3) (by kernel_rfl) (by kernel_rfl) (by go_size) ?_; (repeat (go_big_quiet_step ((first | (go_at_call 26; exact Later.call _ (Nat.le_trans (by go_size) (Later.is _).size) (fits_any _ _ _)) | (go_at_call 28; exact Later.call _ (Nat.le_trans (by go_size) (Later.is _).size) (rfits_any _ _ _)) | (go_at_call 23; exact Later.call _ (Nat.le_trans (by go_size) (Later.is _).size) (right_any _ _ _ _ _)) | (go_at_call 29; exact Later.call _ (Nat.le_trans (by go_size) (Later.is _).size) (rright_any _ _ _ _ _)) | (go_at_call 27; exact Later.call _ (Nat.le_trans (by go_size) (Later.is _).size) (has_any _ _ _ _ _ _ _)) | (go_at_call 30; exact Later.call _ (Nat.le_trans (by go_size) (Later.is _).size) (rhas_any _ _ _ _ _ _ _)) | (go_at_call 24; exact Later.call _ (Nat.le_trans (by go_size) (Later.is _).size) (in_any _ _ _ _ _ _ _ _ _)) | (go_at_call 31; exact Later.call _ (Nat.le_trans (by go_size) (Later.is _).size) (rin_any _ _ _ _ _ _ _ _ _)) | (go_at_call 32; exact Later.call _ (Nat.le_trans (by go_size) (Later.is _).size) (grid_any _)) | (go_at_call 33; exact Later.call _ (Nat.le_trans (by go_size) (Later.is _).size) (rect_any _ _ _ _ _)) | (go_at_call 16; exact Later.call _ (Nat.le_trans (by go_size) (Later.is _).size) (known_any _)))))); refine wpQuiet_nil ?_; intro Xq hlq hmq)
  go_wp2
  go_ret
  exact ⟨rfl, by repeat' (first | (with_reducible exact Below.refl _ _) | (with_reducible assumption) | (with_reducible refine Later.step ?_ ?_ _) | (with_reducible refine Below.alloc ?_ ?_ _) | (with_reducible refine Below.drew ?_) | (with_reducible refine Below.setCell ?_ ?_ _) | go_size)⟩
end Go.Proofs.Ytdomkckdjceaeaa
