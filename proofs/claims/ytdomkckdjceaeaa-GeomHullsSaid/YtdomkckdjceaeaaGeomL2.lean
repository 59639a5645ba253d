/- Further laws of the geometry layer, walked: each answers true and leaves elder memory alone. No condition. -/
import Derived.Test.YtdomkckdjceaeaaGeomK
import Derived.Test.YtdomkckdjceaeaaGeomS2
namespace Go.Proofs.Ytdomkckdjceaeaa
open Go.RowKit
set_option linter.unusedSimpArgs false

attribute [local go_sem] sel_true sel_false

set_option maxHeartbeats 4000000 in
theorem law_hulls (a b c d a' b' c' d' p q r s : Int) (w : World) :
    Calls Try.prog 6 #[.agg #[.int .i64 a, .int .i64 b, .int .i64 c, .int .i64 d], .agg #[.int .i64 a', .int .i64 b', .int .i64 c', .int .i64 d'], .agg #[.int .i64 p, .int .i64 q, .int .i64 r, .int .i64 s]] w fun e w' => e = .returned (.bool true) ∧ Below w.heap.size w w' := by
  by_cases h : inB a b c d p q r s = true ∧ inB a' b' c' d' p q r s = true
  · obtain ⟨h1, h2⟩ := h
    obtain ⟨h3, h4⟩ := in_hull h1 h2
    have hH : ∀ w, Calls Try.prog 14 #[.agg #[.int .i64 a, .int .i64 b, .int .i64 c, .int .i64 d], .agg #[.int .i64 a', .int .i64 b', .int .i64 c', .int .i64 d']] w fun e w' => e = .returned (.agg #[.int .i64 (min a a'), .int .i64 (min b b'), .int .i64 (max c c'), .int .i64 (max d d')]) ∧ Below w.heap.size w w' := by
      intro w
      have := hull_any a b c d a' b' c' d' w
      rwa [h3, sel_true, sel_true, sel_true, sel_true] at this
    have hI : ∀ w, Calls Try.prog 24 #[.agg #[.int .i64 (min a a'), .int .i64 (min b b'), .int .i64 (max c c'), .int .i64 (max d d')], .agg #[.int .i64 p, .int .i64 q, .int .i64 r, .int .i64 s]] w fun e w' => e = .returned (.bool true) ∧ Below w.heap.size w w' := by
      intro w
      have := in_any (min a a') (min b b') (max c c') (max d d') p q r s w
      rwa [h4] at this
    have HH := Lib.hid hH
    have HI := Lib.hid hI
    clear hH hI
    go_enter Try.func6, Try.ntmps6
    go_wp2_with (first
      | (go_at_call 24; refine (in_any _ _ _ _ _ _ _ _ _).mono ?_; rintro e w' ⟨rfl, hb⟩; obtain ⟨X1, rfl, hl1, hm1⟩ := later (w.heap.size + 3) hb (by go_size); clear hb; (try simp only [World.size_alloc, World.size_setCell, World.size_drew] at hm1)))
    (refine wp_region_later (w.heap.size + 3) (by kernel_rfl) (by kernel_rfl) (by go_size) ?_; (repeat (go_big_quiet_step ((first | (go_at_call 24; exact Later.call _ (Nat.le_trans (by go_size) (Later.is _).size) (HI.out _)) | (go_at_call 14; exact Later.call _ (Nat.le_trans (by go_size) (Later.is _).size) (HH.out _)) | (go_at_call 16; exact Later.call _ (Nat.le_trans (by go_size) (Later.is _).size) (known_any _)))))); refine wpQuiet_nil ?_; intro Xq hlq hmq)
    go_wp2
    go_ret
    exact ⟨rfl, by repeat' (first | (with_reducible exact Below.refl _ _) | (with_reducible assumption) | (with_reducible refine Later.step ?_ ?_ _) | (with_reducible refine Below.alloc ?_ ?_ _) | (with_reducible refine Below.drew ?_) | (with_reducible refine Below.setCell ?_ ?_ _) | go_size)⟩
  · have hd : (!inB a b c d p q r s || !inB a' b' c' d' p q r s) = true := by revert h; cases inB a b c d p q r s <;> cases inB a' b' c' d' p q r s <;> simp
    clear h
    go_enter Try.func6, Try.ntmps6
    go_wp2_with (first
      | (go_at_call 24; refine (in_any _ _ _ _ _ _ _ _ _).mono ?_; rintro e w' ⟨rfl, hb⟩; obtain ⟨X1, rfl, hl1, hm1⟩ := later (w.heap.size + 3) hb (by go_size); clear hb; (try simp only [World.size_alloc, World.size_setCell, World.size_drew] at hm1))
      | (go_at_call 16; refine (known_any _).mono ?_; rintro e w' ⟨rfl, hb⟩; obtain ⟨X2, rfl, hl2, hm2⟩ := later (w.heap.size + 3) hb (by go_size); clear hb; (try simp only [World.size_alloc, World.size_setCell, World.size_drew] at hm2)))
    all_goals first
      | (exfalso; simp_all; done)
      | (go_ret; exact ⟨rfl, by repeat' (first | (with_reducible exact Below.refl _ _) | (with_reducible assumption) | (with_reducible refine Later.step ?_ ?_ _) | (with_reducible refine Below.alloc ?_ ?_ _) | (with_reducible refine Below.drew ?_) | (with_reducible refine Below.setCell ?_ ?_ _) | go_size)⟩)

end Go.Proofs.Ytdomkckdjceaeaa
