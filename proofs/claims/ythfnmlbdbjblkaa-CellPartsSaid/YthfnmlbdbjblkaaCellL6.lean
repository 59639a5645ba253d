/- Laws of the layer of cells, walked: children part the box. No condition. -/
import Derived.Test.YthfnmlbdbjblkaaCellK
import Derived.Test.YthfnmlbdbjblkaaCellT2
import Derived.Test.YthfnmlbdbjblkaaBytes
namespace Go.Proofs.Ythfnmlbdbjblkaa
open Go.RowKit
set_option linter.unusedSimpArgs false
set_option linter.unusedVariables false

theorem parts_calls {l x y px py : Int} (h : crightB l x y = true) (hl : l < 16) (k : Nat) (hk : k < 4) :
        (∀ X : World, Calls Try.prog 25 #[.agg #[.int .i64 l, .int .i64 x, .int .i64 y], .int .i64 k] X fun e w' => e = .returned (.tuple #[.agg #[.int .i64 (l + 1), .int .i64 (2 * x + (k : Int) % 2), .int .i64 (2 * y + (k : Int) / 2)], .bool true]) ∧ Below X.heap.size X w')
        ∧ (∀ X : World, Calls Try.prog 14 #[.agg #[.int .i64 (l + 1), .int .i64 (2 * x + (k : Int) % 2), .int .i64 (2 * y + (k : Int) / 2)]] X fun e w' => e = .returned (.tuple #[.agg #[.int .i64 ((2 * x + (k : Int) % 2) * sd (l + 1)), .int .i64 ((2 * y + (k : Int) / 2) * sd (l + 1)), .int .i64 ((2 * x + (k : Int) % 2) * sd (l + 1) + sd (l + 1) - 1), .int .i64 ((2 * y + (k : Int) / 2) * sd (l + 1) + sd (l + 1) - 1)], .bool true]) ∧ Below X.heap.size X w')
        ∧ (∀ X : World, Calls Try.prog 35 #[.agg #[.int .i64 (l + 1), .int .i64 (2 * x + (k : Int) % 2), .int .i64 (2 * y + (k : Int) / 2)]] X fun e w' => e = .returned (.tuple #[.agg #[.int .i64 l, .int .i64 x, .int .i64 y], .bool true]) ∧ Below X.heap.size X w')
        ∧ (∀ X : World, Calls Try.prog 24 #[.agg #[.int .i64 ((2 * x + (k : Int) % 2) * sd (l + 1)), .int .i64 ((2 * y + (k : Int) / 2) * sd (l + 1)), .int .i64 ((2 * x + (k : Int) % 2) * sd (l + 1) + sd (l + 1) - 1), .int .i64 ((2 * y + (k : Int) / 2) * sd (l + 1) + sd (l + 1) - 1)], .agg #[.int .i64 (x * sd l), .int .i64 (y * sd l), .int .i64 (x * sd l + sd l - 1), .int .i64 (y * sd l + sd l - 1)]] X fun e w' => e = .returned (.bool true) ∧ Below X.heap.size X w')
        ∧ (∀ X : World, Calls Try.prog 41 #[.agg #[.int .i64 ((2 * x + (k : Int) % 2) * sd (l + 1)), .int .i64 ((2 * y + (k : Int) / 2) * sd (l + 1)), .int .i64 ((2 * x + (k : Int) % 2) * sd (l + 1) + sd (l + 1) - 1), .int .i64 ((2 * y + (k : Int) / 2) * sd (l + 1) + sd (l + 1) - 1)]] X fun e w' => e = .returned (.int .u64 (sd (l + 1) * sd (l + 1))) ∧ Below X.heap.size X w')
        ∧ (∀ X : World, Calls Try.prog 28 #[.agg #[.int .i64 ((2 * x + (k : Int) % 2) * sd (l + 1)), .int .i64 ((2 * y + (k : Int) / 2) * sd (l + 1)), .int .i64 ((2 * x + (k : Int) % 2) * sd (l + 1) + sd (l + 1) - 1), .int .i64 ((2 * y + (k : Int) / 2) * sd (l + 1) + sd (l + 1) - 1)], .agg #[.int .i64 px, .int .i64 py]] X fun e w' => e = .returned (.bool (hasB ((2 * x + (k : Int) % 2) * sd (l + 1)) ((2 * y + (k : Int) / 2) * sd (l + 1)) ((2 * x + (k : Int) % 2) * sd (l + 1) + sd (l + 1) - 1) ((2 * y + (k : Int) / 2) * sd (l + 1) + sd (l + 1) - 1) px py)) ∧ Below X.heap.size X w') := by
  obtain ⟨r1, r2, r3, r4, r5, r6⟩ := (parts_plain (px := px) (py := py) h hl).1 k hk
  have hc : childB l x y k = true := child_iff.2 ⟨h, hl, by omega, by omega⟩
  refine ⟨fun X => ?_, fun X => ?_, fun X => ?_, fun X => ?_, fun X => ?_, fun X => has_any _ _ _ _ _ _ X⟩
  · have := child_any l x y k X
    rw [hc] at this
    simp only [sel_true] at this
    exact this
  · have := box_any (l + 1) (2 * x + (k : Int) % 2) (2 * y + (k : Int) / 2) X
    rw [r1] at this
    simp only [sel_true] at this
    exact this
  · have := parent_any (l + 1) (2 * x + (k : Int) % 2) (2 * y + (k : Int) / 2) X
    rw [show l + 1 - 1 = l by omega, r2, show pw 1 = 2 from rfl, r3, r4] at this
    simp only [sel_true] at this
    exact this
  · have := in_any ((2 * x + (k : Int) % 2) * sd (l + 1)) ((2 * y + (k : Int) / 2) * sd (l + 1)) ((2 * x + (k : Int) % 2) * sd (l + 1) + sd (l + 1) - 1) ((2 * y + (k : Int) / 2) * sd (l + 1) + sd (l + 1) - 1) (x * sd l) (y * sd l) (x * sd l + sd l - 1) (y * sd l + sd l - 1) X
    rw [r5] at this
    exact this
  · have := area_any ((2 * x + (k : Int) % 2) * sd (l + 1)) ((2 * y + (k : Int) / 2) * sd (l + 1)) ((2 * x + (k : Int) % 2) * sd (l + 1) + sd (l + 1) - 1) ((2 * y + (k : Int) / 2) * sd (l + 1) + sd (l + 1) - 1) X
    rw [r6] at this
    exact this
set_option maxHeartbeats 8000000 in
theorem parts_walk (l x y px py : Int) (w : World) :
    Calls Try.prog 11 #[.agg #[.int .i64 l, .int .i64 x, .int .i64 y], .agg #[.int .i64 px, .int .i64 py]] w fun e w' => e = .returned (.bool true) ∧ Below w.heap.size w w' := by
  have p1 := fun X : World => cright_any l x y X
  rcases Bool.eq_false_or_eq_true (crightB l x y) with h | h
  · by_cases hl : l = 16
    · subst hl
      have p2 := fun X : World => child_any 16 x y 0 X
      rw [show childB 16 x y 0 = false by simp [childB]] at p2
      simp only [sel_false] at p2
      rw [h] at p1
      have P1 := Lib.hid p1
      have P2 := Lib.hid p2
      clear p1 p2 h
      go_enter Try.func11, Try.ntmps11
      go_wp2_with (first
        | (go_at_call 16; with_reducible refine (P1.out _).mono ?_; rintro e w' ⟨rfl, hb⟩; obtain ⟨X1, rfl, hl1, hm1⟩ := later (w.heap.size + 2) hb (by first | exact Nat.le_refl _ | go_size); clear hb; (try simp only [World.size_alloc, World.size_setCell, World.size_drew] at hm1))
        | (go_at_call 25; with_reducible refine (P2.out _).mono ?_; rintro e w' ⟨rfl, hb⟩; obtain ⟨X2, rfl, hl2, hm2⟩ := later (w.heap.size + 2) hb (by first | exact Nat.le_refl _ | go_size); clear hb; (try simp only [World.size_alloc, World.size_setCell, World.size_drew] at hm2))
        | (go_at_call 18; refine (cknown_any _).mono ?_; rintro e w' ⟨rfl, hb⟩; obtain ⟨X9, rfl, hl9, hm9⟩ := later (X2.w.heap.size) hb (by first | exact Nat.le_refl _ | go_size); clear hb; (try simp only [World.size_alloc, World.size_setCell, World.size_drew] at hm9)))
      go_ret
      exact ⟨rfl, by repeat' (first | (with_reducible exact Below.refl _ _) | (with_reducible assumption) | (with_reducible refine Later.step ?_ ?_ _) | (with_reducible refine Below.alloc ?_ ?_ _) | (with_reducible refine Below.drew ?_) | (with_reducible refine bel_drewN ?_ _) | (with_reducible refine bel_grown ?_ (by assumption) ?_ ?_) | (with_reducible refine Below.setCell ?_ ?_ _) | go_size)⟩
    · obtain ⟨l0, l1, _⟩ := cright_iff.1 h
      have hl' : l < 16 := by omega
      obtain ⟨q1, q2, q3⟩ := parts_plain (px := px) (py := py) h hl'
      have e16 : (l == 16) = false := by simp [hl]
      have p2 := fun X : World => box_any l x y X
      have p3 := fun X : World => area_any (x * sd l) (y * sd l) (x * sd l + sd l - 1) (y * sd l + sd l - 1) X
      have p4 := fun X : World => has_any (x * sd l) (y * sd l) (x * sd l + sd l - 1) (y * sd l + sd l - 1) px py X
      have p5 := fun (k : Nat) (hk : k < 4) => parts_calls (px := px) (py := py) h hl' k hk
      clear q1
      rw [q2] at p3
      rw [h] at p1 p2
      simp only [sel_true] at p2
      have hsq := mul_bd (u := sd (l + 1)) (v := sd (l + 1)) (Int.le_of_lt (sd_pos _)) (sd_le (by omega)) (Int.le_of_lt (sd_pos _)) (sd_le (by omega))
      generalize sd (l + 1) * sd (l + 1) = q at *
      generalize hasB (x * sd l) (y * sd l) (x * sd l + sd l - 1) (y * sd l + sd l - 1) px py = hb at *
      generalize x * sd l + sd l - 1 = c1 at *
      generalize y * sd l + sd l - 1 = d1 at *
      generalize x * sd l = a1 at *
      generalize y * sd l = b1 at *
      obtain ⟨f, hf⟩ : ∃ f : Nat → Bool, f = (fun k : Nat => hasB ((2 * x + (k : Int) % 2) * sd (l + 1)) ((2 * y + (k : Int) / 2) * sd (l + 1)) ((2 * x + (k : Int) % 2) * sd (l + 1) + sd (l + 1) - 1) ((2 * y + (k : Int) / 2) * sd (l + 1) + sd (l + 1) - 1) px py) := ⟨_, rfl⟩
      rw [← hf] at q3
      have hf' := fun k : Nat => (congrFun hf k).symm
      have P1 := Lib.hid p1
      have P2 := Lib.hid p2
      have P3 := Lib.hid p3
      have P4 := Lib.hid p4
      have P5 := Lib.hid p5
      have HF := Lib.hid hf'
      have HQ := Lib.hid q3
      clear p1 p2 p3 p4 p5 hf' hf q3 h q2 hl
      go_enter Try.func11, Try.ntmps11
      go_wp2_with (first
        | (go_at_call 16; with_reducible refine (P1.out _).mono ?_; rintro e w' ⟨rfl, hb⟩; obtain ⟨X1, rfl, hl1, hm1⟩ := later (w.heap.size + 2) hb (by first | exact Nat.le_refl _ | go_size); clear hb; (try simp only [World.size_alloc, World.size_setCell, World.size_drew] at hm1))
        | (go_at_call 14; with_reducible refine (P2.out _).mono ?_; rintro e w' ⟨rfl, hb⟩; obtain ⟨X2, rfl, hl2, hm2⟩ := later (X1.w.heap.size) hb (by first | exact Nat.le_refl _ | go_size); clear hb; (try simp only [World.size_alloc, World.size_setCell, World.size_drew] at hm2)))
      go_loopw [9, 10, 11] (fun n ar i wr => ∃ k : Nat, k ≤ 4 ∧ i = .int .i64 k ∧ n = .int .i64 (cntI f k) ∧ ar = .int .u64 ((k : Int) * q) ∧ Below X2.w.heap.size X2.w wr ∧ X2.w.heap.size + 1 ≤ wr.heap.size
          ∧ wr.cell? ⟨X2.w.heap.size, 0, none⟩ = some (.int .i64 a1) ∧ wr.cell? ⟨X2.w.heap.size, 1, none⟩ = some (.int .i64 b1) ∧ wr.cell? ⟨X2.w.heap.size, 2, none⟩ = some (.int .i64 c1) ∧ wr.cell? ⟨X2.w.heap.size, 3, none⟩ = some (.int .i64 d1)) (fun _ _ i _ => 4 - (intOf i).toNat)
      case atStart => exact ⟨0, Nat.zero_le _, rfl, rfl, by simp, by repeat' (first | (with_reducible exact Below.refl _ _) | (with_reducible assumption) | (with_reducible refine Later.step ?_ ?_ _) | (with_reducible refine Below.alloc ?_ ?_ _) | (with_reducible refine Below.drew ?_) | (with_reducible refine bel_drewN ?_ _) | (with_reducible refine bel_grown ?_ (by assumption) ?_ ?_) | (with_reducible refine Below.setCell ?_ ?_ _) | go_size), by go_size, by go_simp, by go_simp, by go_simp, by go_simp⟩
      case round =>
        obtain ⟨k, hk, rfl, rfl, rfl, hbel, hsz, u0, u1, u2, u3⟩ := hrel
        obtain ⟨X, rfl⟩ : ∃ X : Later X2.w.heap.size X2.w, wr = X.w := ⟨⟨wr, hbel⟩, rfl⟩
        clear hbel
        have hcb := cntI_bd f k
        by_cases hlt : k < 4
        · obtain ⟨r1, r2, r3, r4, r5, r6⟩ := P5.out k hlt
          rw [HF.out k] at r6
          have hA0 : 0 ≤ (k : Int) * q := Int.mul_nonneg (by omega) hsq.1
          have hA1 := Int.mul_le_mul_of_nonneg_right (show (k : Int) ≤ 4 by omega) hsq.1
          have hA2 : ((k + 1 : Nat) : Int) * q = (k : Int) * q + q := by push_cast; rw [Int.add_mul, Int.one_mul]
          have hC2 : cntI f (k + 1) = cntI f k + oneI (f k) := rfl
          generalize (k : Int) * q = A at *
          generalize cntI f k = n at *
          generalize 2 * x + (k : Int) % 2 = u at *
          generalize 2 * y + (k : Int) / 2 = v at *
          generalize u * sd (l + 1) + sd (l + 1) - 1 = c2 at *
          generalize v * sd (l + 1) + sd (l + 1) - 1 = d2 at *
          generalize u * sd (l + 1) = a2 at *
          generalize v * sd (l + 1) = b2 at *
          have hl2 : l + 1 ≤ 16 := by omega
          generalize l + 1 = L at *
          rcases Bool.eq_false_or_eq_true (f k) with hfk | hfk
          all_goals
            rw [hfk] at r6 hC2
            have R1 := Lib.hid r1
            have R2 := Lib.hid r2
            have R3 := Lib.hid r3
            have R4 := Lib.hid r4
            have R5 := Lib.hid r5
            have R6 := Lib.hid r6
            have HA := Lib.hid hA2
            have HC := Lib.hid hC2
            clear r1 r2 r3 r4 r5 r6 hA2 hC2 hfk
            go_wp2_with (first
              | (go_at_call 25; with_reducible refine (R1.out _).mono ?_; rintro e w' ⟨rfl, hb⟩; obtain ⟨X3, rfl, hl3, hm3⟩ := later (X.w.heap.size) hb (by first | exact Nat.le_refl _ | go_size); clear hb; (try simp only [World.size_alloc, World.size_setCell, World.size_drew] at hm3))
              | (go_at_call 14; with_reducible refine (R2.out _).mono ?_; rintro e w' ⟨rfl, hb⟩; obtain ⟨X4, rfl, hl4, hm4⟩ := later (X3.w.heap.size + 1) hb (by first | exact Nat.le_refl _ | go_size); clear hb; (try simp only [World.size_alloc, World.size_setCell, World.size_drew] at hm4))
              | (go_at_call 35; with_reducible refine (R3.out _).mono ?_; rintro e w' ⟨rfl, hb⟩; obtain ⟨X5, rfl, hl5, hm5⟩ := later (X4.w.heap.size + 1) hb (by first | exact Nat.le_refl _ | go_size); clear hb; (try simp only [World.size_alloc, World.size_setCell, World.size_drew] at hm5))
              | (go_at_call 24; with_reducible refine (R4.out _).mono ?_; rintro e w' ⟨rfl, hb⟩; obtain ⟨X6, rfl, hl6, hm6⟩ := later (X5.w.heap.size + 1) hb (by first | exact Nat.le_refl _ | go_size); clear hb; (try simp only [World.size_alloc, World.size_setCell, World.size_drew] at hm6))
              | (go_at_call 41; with_reducible refine (R5.out _).mono ?_; rintro e w' ⟨rfl, hb⟩; obtain ⟨X7, rfl, hl7, hm7⟩ := later (X6.w.heap.size) hb (by first | exact Nat.le_refl _ | go_size); clear hb; (try simp only [World.size_alloc, World.size_setCell, World.size_drew] at hm7))
              | (go_at_call 28; with_reducible refine (R6.out _).mono ?_; rintro e w' ⟨rfl, hb⟩; obtain ⟨X8, rfl, hl8, hm8⟩ := later (X7.w.heap.size) hb (by first | exact Nat.le_refl _ | go_size); clear hb; (try simp only [World.size_alloc, World.size_setCell, World.size_drew] at hm8)))
            go_roundw
            case rel =>
              refine ⟨k + 1, by omega, by go_num, ?_, ?_, by repeat' (first | (with_reducible exact Below.refl _ _) | (with_reducible assumption) | (with_reducible refine Later.step ?_ ?_ _) | (with_reducible refine Below.alloc ?_ ?_ _) | (with_reducible refine Below.drew ?_) | (with_reducible refine bel_drewN ?_ _) | (with_reducible refine bel_grown ?_ (by assumption) ?_ ?_) | (with_reducible refine Below.setCell ?_ ?_ _) | go_size), by go_size, by go_simp, by go_simp, by go_simp, by go_simp⟩
              · rw [HC.out]; unfold oneI; simp
              · rw [HA.out]
            case measure => simp [intOf]; omega
        · obtain rfl : k = 4 := by omega
          rcases HQ.out with ⟨hn, hh⟩ | ⟨hn, hh⟩
          all_goals
            rw [hn]
            have p4 := P4.out
            rw [hh] at p4
            have R4 := Lib.hid p4
            clear p4
            go_wp2_with (first
              | (go_at_call 41; with_reducible refine (P3.out _).mono ?_; rintro e w' ⟨rfl, hb⟩; obtain ⟨X3, rfl, hl3, hm3⟩ := later (X.w.heap.size) hb (by first | exact Nat.le_refl _ | go_size); clear hb; (try simp only [World.size_alloc, World.size_setCell, World.size_drew] at hm3))
              | (go_at_call 28; with_reducible refine (R4.out _).mono ?_; rintro e w' ⟨rfl, hb⟩; obtain ⟨X4, rfl, hl4, hm4⟩ := later (X3.w.heap.size) hb (by first | exact Nat.le_refl _ | go_size); clear hb; (try simp only [World.size_alloc, World.size_setCell, World.size_drew] at hm4))
              | (go_at_call 18; refine (cknown_any _).mono ?_; rintro e w' ⟨rfl, hb⟩; obtain ⟨X9, rfl, hl9, hm9⟩ := later (X4.w.heap.size) hb (by first | exact Nat.le_refl _ | go_size); clear hb; (try simp only [World.size_alloc, World.size_setCell, World.size_drew] at hm9)))
            go_ret
            exact ⟨rfl, by repeat' (first | (with_reducible exact Below.refl _ _) | (with_reducible assumption) | (with_reducible refine Later.step ?_ ?_ _) | (with_reducible refine Below.alloc ?_ ?_ _) | (with_reducible refine Below.drew ?_) | (with_reducible refine bel_drewN ?_ _) | (with_reducible refine bel_grown ?_ (by assumption) ?_ ?_) | (with_reducible refine Below.setCell ?_ ?_ _) | go_size)⟩
  · have p2 := fun X : World => child_any l x y 0 X
    rw [show childB l x y 0 = false by simp [childB, h]] at p2
    simp only [sel_false] at p2
    rw [h] at p1
    have P1 := Lib.hid p1
    have P2 := Lib.hid p2
    clear p1 p2 h
    go_enter Try.func11, Try.ntmps11
    go_wp2_with (first
      | (go_at_call 16; with_reducible refine (P1.out _).mono ?_; rintro e w' ⟨rfl, hb⟩; obtain ⟨X1, rfl, hl1, hm1⟩ := later (w.heap.size + 2) hb (by first | exact Nat.le_refl _ | go_size); clear hb; (try simp only [World.size_alloc, World.size_setCell, World.size_drew] at hm1))
      | (go_at_call 25; with_reducible refine (P2.out _).mono ?_; rintro e w' ⟨rfl, hb⟩; obtain ⟨X2, rfl, hl2, hm2⟩ := later (w.heap.size + 2) hb (by first | exact Nat.le_refl _ | go_size); clear hb; (try simp only [World.size_alloc, World.size_setCell, World.size_drew] at hm2))
      | (go_at_call 18; refine (cknown_any _).mono ?_; rintro e w' ⟨rfl, hb⟩; obtain ⟨X9, rfl, hl9, hm9⟩ := later (X2.w.heap.size) hb (by first | exact Nat.le_refl _ | go_size); clear hb; (try simp only [World.size_alloc, World.size_setCell, World.size_drew] at hm9)))
    go_ret
    exact ⟨rfl, by repeat' (first | (with_reducible exact Below.refl _ _) | (with_reducible assumption) | (with_reducible refine Later.step ?_ ?_ _) | (with_reducible refine Below.alloc ?_ ?_ _) | (with_reducible refine Below.drew ?_) | (with_reducible refine bel_drewN ?_ _) | (with_reducible refine bel_grown ?_ (by assumption) ?_ ?_) | (with_reducible refine Below.setCell ?_ ?_ _) | go_size)⟩
end Go.Proofs.Ythfnmlbdbjblkaa
