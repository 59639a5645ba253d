/- How long an answer is: the statement walked. No condition. -/
import Derived.Test.YtdjkhcnejbinjaaRepK
namespace Go.Proofs.Ytdjkhcnejbinjaa
open Go.RowKit
set_option linter.unusedSimpArgs false
set_option linter.unusedVariables false
set_option maxRecDepth 2000

set_option maxHeartbeats 4000000 in
theorem law_lengths (op m s : Int) (w : World) : Calls Try.prog 3 #[.int .i64 op, .int .i64 m, .int .i64 s] w fun e w' => e = .returned (.bool true) ∧ Below w.heap.size w w' := by
  have p1 := rlength_any op m
  have p2 := rlen20_any op m
  generalize lengthI op m = L at *
  have P1 := Lib.hid p1
  have P2 := Lib.hid p2
  have p3 := fault_any s
  clear p1 p2
  by_cases hs : 0 ≤ s ∧ s ≤ 12
  · obtain ⟨x, rfl⟩ := Int.eq_ofNat_of_zero_le hs.1
    rw [show faultI (x : Int) = (x : Int) from if_pos hs] at p3
    have hw : IntKind.u8.wrap (x : Int) = (x : Int) := IntWalk.u8_in _ (by omega)
    go_enter Try.func3, Try.ntmps3
    go_wp2_with (first
      | (go_at_call 9; refine (P1.out _).mono ?_; rintro e w' ⟨rfl, hb⟩; obtain ⟨X1, rfl, hl1, hm1⟩ := later (w.heap.size) hb (by first | exact Nat.le_refl _ | go_size); clear hb; (try simp only [World.size_alloc, World.size_setCell, World.size_drew] at hm1))
      | (go_at_call 10; refine (P2.out _).mono ?_; rintro e w' ⟨rfl, hb⟩; obtain ⟨X2, rfl, hl2, hm2⟩ := later (X1.w.heap.size) hb (by first | exact Nat.le_refl _ | go_size); clear hb; (try simp only [World.size_alloc, World.size_setCell, World.size_drew] at hm2)))
    refine (p3 _).mono ?_
    rintro e w3 ⟨b, rfl, hb1, g0, g1, g2, hb3⟩
    have hs3 := hb3.size
    obtain ⟨X3, rfl⟩ : ∃ Z : Later X2.w.heap.size X2.w, w3 = Z.w := ⟨⟨w3, hb3⟩, rfl⟩
    clear hb3 p3
    go_wp2_with (first
      | (go_at_call 11; with_reducible refine (same3 x _ _ _ (lit3 (v := (x : Int)) (by go_size) rfl (by go_simp) (by go_simp) (by go_simp)) (lit3 (v := IntKind.u8.wrap (x : Int)) (by go_size) hw (by first | (go_simp; done) | (go_simp; rw [hw])) (by go_simp) (by go_simp))).mono ?_; rintro e w' ⟨rfl, hb⟩; obtain ⟨X5, rfl, hl5, hm5⟩ := later (X3.w.heap.size + 1) hb (by first | exact Nat.le_refl _ | go_size); clear hb; (try simp only [World.size_alloc, World.size_setCell, World.size_drew] at hm5))
      | (go_at_call 13; refine (pknown_any _).mono ?_; rintro e w' ⟨rfl, hb⟩; obtain ⟨X6, rfl, hl6, hm6⟩ := later (X5.w.heap.size) hb (by first | exact Nat.le_refl _ | go_size); clear hb; (try simp only [World.size_alloc, World.size_setCell, World.size_drew] at hm6)))
    go_ret
    exact ⟨rfl, by repeat' (first | (with_reducible exact Below.refl _ _) | (with_reducible assumption) | (with_reducible refine Later.step ?_ ?_ _) | (with_reducible refine Below.alloc ?_ ?_ _) | (with_reducible refine Below.drew ?_) | (with_reducible refine bel_drewN ?_ _) | (with_reducible refine bel_grown ?_ (by assumption) ?_ ?_) | (with_reducible refine Below.setCell ?_ ?_ _) | go_size)⟩
  · rw [show faultI s = 1 from if_neg hs] at p3
    have hs' : s < 0 ∨ (¬ s < 0 ∧ 12 < s) := by omega
    rcases hs' with hs' | ⟨hs', hs2⟩
    all_goals
      go_enter Try.func3, Try.ntmps3
      go_wp2_with (first
        | (go_at_call 9; refine (P1.out _).mono ?_; rintro e w' ⟨rfl, hb⟩; obtain ⟨X1, rfl, hl1, hm1⟩ := later (w.heap.size) hb (by first | exact Nat.le_refl _ | go_size); clear hb; (try simp only [World.size_alloc, World.size_setCell, World.size_drew] at hm1))
        | (go_at_call 10; refine (P2.out _).mono ?_; rintro e w' ⟨rfl, hb⟩; obtain ⟨X2, rfl, hl2, hm2⟩ := later (X1.w.heap.size) hb (by first | exact Nat.le_refl _ | go_size); clear hb; (try simp only [World.size_alloc, World.size_setCell, World.size_drew] at hm2)))
      refine (p3 _).mono ?_
      rintro e w3 ⟨b, rfl, hb1, g0, g1, g2, hb3⟩
      have hs3 := hb3.size
      obtain ⟨X3, rfl⟩ : ∃ Z : Later X2.w.heap.size X2.w, w3 = Z.w := ⟨⟨w3, hb3⟩, rfl⟩
      clear hb3 p3
      go_wp2_with (first
        | (go_at_call 11; with_reducible refine (same3 1 _ _ _ (lit3 (v := 1) (by go_size) rfl (by go_simp) (by go_simp) (by go_simp)) (lit3 (v := 1) (by go_size) rfl (by go_simp) (by go_simp) (by go_simp))).mono ?_; rintro e w' ⟨rfl, hb⟩; obtain ⟨X5, rfl, hl5, hm5⟩ := later (X3.w.heap.size + 1) hb (by first | exact Nat.le_refl _ | go_size); clear hb; (try simp only [World.size_alloc, World.size_setCell, World.size_drew] at hm5))
        | (go_at_call 13; refine (pknown_any _).mono ?_; rintro e w' ⟨rfl, hb⟩; obtain ⟨X6, rfl, hl6, hm6⟩ := later (X5.w.heap.size) hb (by first | exact Nat.le_refl _ | go_size); clear hb; (try simp only [World.size_alloc, World.size_setCell, World.size_drew] at hm6)))
      go_ret
      exact ⟨rfl, by repeat' (first | (with_reducible exact Below.refl _ _) | (with_reducible assumption) | (with_reducible refine Later.step ?_ ?_ _) | (with_reducible refine Below.alloc ?_ ?_ _) | (with_reducible refine Below.drew ?_) | (with_reducible refine bel_drewN ?_ _) | (with_reducible refine bel_grown ?_ (by assumption) ?_ ?_) | (with_reducible refine Below.setCell ?_ ?_ _) | go_size)⟩
end Go.Proofs.Ytdjkhcnejbinjaa
