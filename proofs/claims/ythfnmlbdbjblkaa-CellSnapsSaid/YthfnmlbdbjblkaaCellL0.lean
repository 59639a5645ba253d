/- Laws of the layer of cells, walked: snaps. No condition. -/
import Derived.Test.YthfnmlbdbjblkaaCellK
namespace Go.Proofs.Ythfnmlbdbjblkaa
open Go.RowKit
set_option linter.unusedSimpArgs false
set_option linter.unusedVariables false

set_option maxHeartbeats 8000000 in
theorem snaps_walk (a b c d l : Int) (w : World) :
    Calls Try.prog 4 #[.agg #[.int .i64 a, .int .i64 b, .int .i64 c, .int .i64 d], .int .i64 l] w fun e w' => e = .returned (.bool true) ∧ Below w.heap.size w w' := by
  have p1 := fun X : World => snap_any a b c d l X
  have p2 := fun X : World => rsnap_any a b c d l X
  have p3 := fun X : World => home_any a b c d X
  have p4 := fun X : World => rhome_any a b c d X
  generalize sel (snapB a b c d l) (low a l) = a1 at *
  generalize sel (snapB a b c d l) (low b l) = a2 at *
  generalize sel (snapB a b c d l) (high c l) = a3 at *
  generalize sel (snapB a b c d l) (high d l) = a4 at *
  generalize snapB a b c d l = a5 at *
  generalize sel (rightB a b c d) (homeH a b c d) = b1 at *
  generalize sel (rightB a b c d) (a / sd (homeH a b c d)) = b2 at *
  generalize sel (rightB a b c d) (b / sd (homeH a b c d)) = b3 at *
  generalize rightB a b c d = b5 at *
  have P1 := Lib.hid p1
  have P2 := Lib.hid p2
  have P3 := Lib.hid p3
  have P4 := Lib.hid p4
  clear p1 p2 p3 p4
  go_enter Try.func4, Try.ntmps4
  go_wp2_with (first
    | (go_at_call 19; refine (P1.out _).mono ?_; rintro e w' ⟨rfl, hb⟩; obtain ⟨X1, rfl, hl1, hm1⟩ := later (w.heap.size + 1) hb (by first | exact Nat.le_refl _ | go_size); clear hb; (try simp only [World.size_alloc, World.size_setCell, World.size_drew] at hm1))
    | (go_at_call 20; refine (P2.out _).mono ?_; rintro e w' ⟨rfl, hb⟩; obtain ⟨X2, rfl, hl2, hm2⟩ := later (X1.w.heap.size + 1) hb (by first | exact Nat.le_refl _ | go_size); clear hb; (try simp only [World.size_alloc, World.size_setCell, World.size_drew] at hm2))
    | (go_at_call 21; refine (P3.out _).mono ?_; rintro e w' ⟨rfl, hb⟩; obtain ⟨X3, rfl, hl3, hm3⟩ := later (X2.w.heap.size + 1) hb (by first | exact Nat.le_refl _ | go_size); clear hb; (try simp only [World.size_alloc, World.size_setCell, World.size_drew] at hm3))
    | (go_at_call 22; refine (P4.out _).mono ?_; rintro e w' ⟨rfl, hb⟩; obtain ⟨X4, rfl, hl4, hm4⟩ := later (X3.w.heap.size + 1) hb (by first | exact Nat.le_refl _ | go_size); clear hb; (try simp only [World.size_alloc, World.size_setCell, World.size_drew] at hm4))
    | (go_at_call 18; refine (cknown_any _).mono ?_; rintro e w' ⟨rfl, hb⟩; obtain ⟨X5, rfl, hl5, hm5⟩ := later (X4.w.heap.size + 1) hb (by first | exact Nat.le_refl _ | go_size); clear hb; (try simp only [World.size_alloc, World.size_setCell, World.size_drew] at hm5)))
  go_ret
  exact ⟨rfl, by repeat' (first | (with_reducible exact Below.refl _ _) | (with_reducible assumption) | (with_reducible refine Later.step ?_ ?_ _) | (with_reducible refine Below.alloc ?_ ?_ _) | (with_reducible refine Below.drew ?_) | (with_reducible refine Below.setCell ?_ ?_ _) | go_size)⟩
end Go.Proofs.Ythfnmlbdbjblkaa
