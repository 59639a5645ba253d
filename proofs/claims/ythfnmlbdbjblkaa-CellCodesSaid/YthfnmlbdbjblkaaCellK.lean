/- The layer's fixed calls walked. No condition. -/
import Derived.Test.YthfnmlbdbjblkaaCellG
namespace Go.Proofs.Ythfnmlbdbjblkaa
open Go.RowKit
set_option linter.unusedSimpArgs false
set_option linter.unusedVariables false

theorem at_any (l x y : Int) (w : World) :
    Calls Try.prog 50 #[.int .i64 l, .int .i64 x, .int .i64 y] w fun e w' => e = .returned (.agg #[.int .i64 l, .int .i64 x, .int .i64 y]) ∧ Below w.heap.size w w' := by
  go_enter Try.func50, Try.ntmps50
  go_wp2
  refine bodyPost_ret (by simp only [results, Try.results50]; go_simp; all_goals (first | rfl | simp [sel])) rfl ⟨rfl, ?_⟩
  repeat' (first | (with_reducible exact Below.refl _ _) | (with_reducible assumption) | (with_reducible refine Later.step ?_ ?_ _) | (with_reducible refine Below.alloc ?_ ?_ _) | (with_reducible refine Below.drew ?_) | (with_reducible refine Below.setCell ?_ ?_ _) | go_size)
set_option maxHeartbeats 4000000 in
theorem cknown_any (w : World) : Calls Try.prog 18 #[] w fun e w' => e = .returned (.bool true) ∧ Below w.heap.size w w' := by
  have p1 : ∀ X : World, Calls Try.prog 12 #[.agg #[.int .i64 5, .int .i64 9], .int .i64 15] X fun e w' => e = .returned (.tuple #[.agg #[.int .i64 15, .int .i64 2, .int .i64 4], .bool true]) ∧ Below X.heap.size X w' := fun X =>
    (cof_any 5 9 15 X).mono fun _ _ ⟨he, hb⟩ => ⟨he.trans (by kernel_rfl), hb⟩
  have p2 : ∀ X : World, Calls Try.prog 29 #[.agg #[.int .i64 15, .int .i64 2, .int .i64 4]] X fun e w' => e = .returned (.tuple #[.int .u64 36, .bool true]) ∧ Below X.heap.size X w' := fun X =>
    (code_any 15 2 4 X).mono fun _ _ ⟨he, hb⟩ => ⟨he.trans (by kernel_rfl), hb⟩
  have p3 : ∀ X : World, Calls Try.prog 14 #[.agg #[.int .i64 15, .int .i64 2, .int .i64 4]] X fun e w' => e = .returned (.tuple #[.agg #[.int .i64 4, .int .i64 8, .int .i64 5, .int .i64 9], .bool true]) ∧ Below X.heap.size X w' := fun X =>
    (box_any 15 2 4 X).mono fun _ _ ⟨he, hb⟩ => ⟨he.trans (by kernel_rfl), hb⟩
  have p4 : ∀ X : World, Calls Try.prog 21 #[.agg #[.int .i64 5, .int .i64 9, .int .i64 6, .int .i64 9]] X fun e w' => e = .returned (.tuple #[.agg #[.int .i64 14, .int .i64 1, .int .i64 2], .bool true]) ∧ Below X.heap.size X w' := fun X =>
    (home_any 5 9 6 9 X).mono fun _ _ ⟨he, hb⟩ => ⟨he.trans (by kernel_rfl), hb⟩
  have P1 := Lib.hid p1
  have P2 := Lib.hid p2
  have P3 := Lib.hid p3
  have P4 := Lib.hid p4
  clear p1 p2 p3 p4
  go_enter Try.func18, Try.ntmps18
  go_wp2_with (first
    | (go_at_call 12; refine (P1.out _).mono ?_; rintro e w' ⟨rfl, hb⟩; obtain ⟨X1, rfl, hl1, hm1⟩ := later (w.heap.size) hb (by first | exact Nat.le_refl _ | go_size); clear hb; (try simp only [World.size_alloc, World.size_setCell, World.size_drew] at hm1))
    | (go_at_call 29; refine (P2.out _).mono ?_; rintro e w' ⟨rfl, hb⟩; obtain ⟨X2, rfl, hl2, hm2⟩ := later (X1.w.heap.size + 1) hb (by first | exact Nat.le_refl _ | go_size); clear hb; (try simp only [World.size_alloc, World.size_setCell, World.size_drew] at hm2))
    | (go_at_call 14; refine (P3.out _).mono ?_; rintro e w' ⟨rfl, hb⟩; obtain ⟨X3, rfl, hl3, hm3⟩ := later (X1.w.heap.size + 1) hb (by first | exact Nat.le_refl _ | go_size); clear hb; (try simp only [World.size_alloc, World.size_setCell, World.size_drew] at hm3))
    | (go_at_call 21; refine (P4.out _).mono ?_; rintro e w' ⟨rfl, hb⟩; obtain ⟨X4, rfl, hl4, hm4⟩ := later (X3.w.heap.size + 1) hb (by first | exact Nat.le_refl _ | go_size); clear hb; (try simp only [World.size_alloc, World.size_setCell, World.size_drew] at hm4)))
  (refine wp_region_later (X4.w.heap.size + 1) (by kernel_rfl) (by kernel_rfl) (by go_size) ?_; (repeat (go_big_quiet_step ((first | (go_at_call 50; exact Later.call _ (Nat.le_trans (by go_size) (Later.is _).size) (at_any _ _ _ _)))))); refine wpQuiet_nil ?_; intro Xq hlq hmq)
  go_wp2
  go_ret
  exact ⟨rfl, by repeat' (first | (with_reducible exact Below.refl _ _) | (with_reducible assumption) | (with_reducible refine Later.step ?_ ?_ _) | (with_reducible refine Below.alloc ?_ ?_ _) | (with_reducible refine Below.drew ?_) | (with_reducible refine Below.setCell ?_ ?_ _) | go_size)⟩
set_option maxHeartbeats 8000000 in
theorem asks_walk (l x y px py m : Int) (w : World) :
    Calls Try.prog 3 #[.agg #[.int .i64 l, .int .i64 x, .int .i64 y], .agg #[.int .i64 px, .int .i64 py], .int .i64 m] w fun e w' => e = .returned (.bool true) ∧ Below w.heap.size w w' := by
  have p1 := fun X : World => cof_any px py m X
  have p2 := fun X : World => rof_any px py m X
  have p3 := fun X : World => box_any l x y X
  have p4 := fun X : World => rbox_any l x y X
  have p5 := fun X : World => cright_any l x y X
  have p6 := fun X : World => rcright_any l x y X
  generalize sel (lvlB m && fitsB px py) m = a1 at *
  generalize sel (lvlB m && fitsB px py) (px / sd m) = a2 at *
  generalize sel (lvlB m && fitsB px py) (py / sd m) = a3 at *
  generalize (lvlB m && fitsB px py) = a4 at *
  generalize sel (crightB l x y) (x * sd l) = b1 at *
  generalize sel (crightB l x y) (y * sd l) = b2 at *
  generalize sel (crightB l x y) (x * sd l + sd l - 1) = b3 at *
  generalize sel (crightB l x y) (y * sd l + sd l - 1) = b4 at *
  generalize crightB l x y = b5 at *
  have P1 := Lib.hid p1
  have P2 := Lib.hid p2
  have P3 := Lib.hid p3
  have P4 := Lib.hid p4
  have P5 := Lib.hid p5
  have P6 := Lib.hid p6
  clear p1 p2 p3 p4 p5 p6
  go_enter Try.func3, Try.ntmps3
  go_wp2_with (first
    | (go_at_call 12; refine (P1.out _).mono ?_; rintro e w' ⟨rfl, hb⟩; obtain ⟨X1, rfl, hl1, hm1⟩ := later (w.heap.size + 2) hb (by first | exact Nat.le_refl _ | go_size); clear hb; (try simp only [World.size_alloc, World.size_setCell, World.size_drew] at hm1))
    | (go_at_call 13; refine (P2.out _).mono ?_; rintro e w' ⟨rfl, hb⟩; obtain ⟨X2, rfl, hl2, hm2⟩ := later (X1.w.heap.size + 1) hb (by first | exact Nat.le_refl _ | go_size); clear hb; (try simp only [World.size_alloc, World.size_setCell, World.size_drew] at hm2))
    | (go_at_call 14; refine (P3.out _).mono ?_; rintro e w' ⟨rfl, hb⟩; obtain ⟨X3, rfl, hl3, hm3⟩ := later (X2.w.heap.size + 1) hb (by first | exact Nat.le_refl _ | go_size); clear hb; (try simp only [World.size_alloc, World.size_setCell, World.size_drew] at hm3))
    | (go_at_call 15; refine (P4.out _).mono ?_; rintro e w' ⟨rfl, hb⟩; obtain ⟨X4, rfl, hl4, hm4⟩ := later (X3.w.heap.size + 1) hb (by first | exact Nat.le_refl _ | go_size); clear hb; (try simp only [World.size_alloc, World.size_setCell, World.size_drew] at hm4)))
  (refine wp_region_later (X4.w.heap.size + 1) (by kernel_rfl) (by kernel_rfl) (by go_size) ?_; (repeat (go_big_quiet_step ((first | (go_at_call 16; exact Later.call _ (Nat.le_trans (by go_size) (Later.is _).size) (P5.out _)) | (go_at_call 17; exact Later.call _ (Nat.le_trans (by go_size) (Later.is _).size) (P6.out _)) | (go_at_call 18; exact Later.call _ (Nat.le_trans (by go_size) (Later.is _).size) (cknown_any _)))))); refine wpQuiet_nil ?_; intro Xq hlq hmq)
  go_wp2
  go_ret
  exact ⟨rfl, by repeat' (first | (with_reducible exact Below.refl _ _) | (with_reducible assumption) | (with_reducible refine Later.step ?_ ?_ _) | (with_reducible refine Below.alloc ?_ ?_ _) | (with_reducible refine Below.drew ?_) | (with_reducible refine Below.setCell ?_ ?_ _) | go_size)⟩
end Go.Proofs.Ythfnmlbdbjblkaa
