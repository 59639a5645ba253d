/- Laws of the layer of cells, walked: homes. No condition. -/
import Derived.Test.YthfnmlbdbjblkaaCellK
import Derived.Test.YthfnmlbdbjblkaaCellT2
import Derived.Test.YthfnmlbdbjblkaaBytes
namespace Go.Proofs.Ythfnmlbdbjblkaa
open Go.RowKit
set_option linter.unusedSimpArgs false
set_option linter.unusedVariables false

theorem homeLv_ge {a b c d : Int} {k : Nat} (h : hm a b c d k = true) : ∀ n, k ≤ n → k ≤ homeLv a b c d n
  | 0, hk => by omega
  | n + 1, hk => by
    rw [homeLv]
    split
    · exact hk
    · rename_i hn
      rcases Nat.lt_or_eq_of_le hk with h1 | h1
      · exact homeLv_ge h n (by omega)
      · subst h1; exact absurd h hn
theorem homes_plain {a b c d : Int} (h : rightB a b c d = true) :
    crightB (homeH a b c d) (a / sd (homeH a b c d)) (b / sd (homeH a b c d)) = true
    ∧ inB a b c d (a / sd (homeH a b c d) * sd (homeH a b c d)) (b / sd (homeH a b c d) * sd (homeH a b c d)) (a / sd (homeH a b c d) * sd (homeH a b c d) + sd (homeH a b c d) - 1) (b / sd (homeH a b c d) * sd (homeH a b c d) + sd (homeH a b c d) - 1) = true
    ∧ ∀ x y : Int, homeH a b c d < 16 → inB a b c d (x * sd (homeH a b c d + 1)) (y * sd (homeH a b c d + 1)) (x * sd (homeH a b c d + 1) + sd (homeH a b c d + 1) - 1) (y * sd (homeH a b c d + 1) + sd (homeH a b c d + 1) - 1) = false := by
  have g := right_iff.1 h
  have hle := homeLv_le a b c d 16
  have hh := homeLv_hm (hm_zero h) 16
  have hin := in_home hle h
  rw [hh] at hin
  refine ⟨of_right (by unfold homeH; omega) (by unfold homeH; omega) g.1 g.2.1 g.2.2.1 g.2.2.2.1, hin, fun x y hlt => ?_⟩
  rw [Bool.eq_false_iff]
  intro hi
  have k := in_iff.1 hi
  have hs := sd_pos (homeH a b c d + 1)
  have e1 : a / sd (homeH a b c d + 1) = x := (div_iff hs).1 ⟨by omega, by omega⟩
  have e2 : c / sd (homeH a b c d + 1) = x := (div_iff hs).1 ⟨by omega, by omega⟩
  have e3 : b / sd (homeH a b c d + 1) = y := (div_iff hs).1 ⟨by omega, by omega⟩
  have e4 : d / sd (homeH a b c d + 1) = y := (div_iff hs).1 ⟨by omega, by omega⟩
  have hup : hm a b c d (homeLv a b c d 16 + 1) = true := by
    rw [hm_iff]
    have : ((homeLv a b c d 16 + 1 : Nat) : Int) = homeH a b c d + 1 := by unfold homeH; push_cast; rfl
    rw [this, e1, e2, e3, e4]
    exact ⟨rfl, rfl⟩
  have := homeLv_ge hup 16 (by unfold homeH at hlt; omega)
  omega
set_option maxHeartbeats 8000000 in
theorem homes_walk (a b c d : Int) (w : World) :
    Calls Try.prog 5 #[.agg #[.int .i64 a, .int .i64 b, .int .i64 c, .int .i64 d]] w fun e w' => e = .returned (.bool true) ∧ Below w.heap.size w w' := by
  have p1 := fun X : World => home_any a b c d X
  have p2 := fun X : World => right_any a b c d X
  rcases Bool.eq_false_or_eq_true (rightB a b c d) with h | h
  · obtain ⟨q1, q2, q3⟩ := homes_plain h
    have p3 := fun X : World => box_any (homeH a b c d) (a / sd (homeH a b c d)) (b / sd (homeH a b c d)) X
    have p4 := fun X : World => in_any a b c d (a / sd (homeH a b c d) * sd (homeH a b c d)) (b / sd (homeH a b c d) * sd (homeH a b c d)) (a / sd (homeH a b c d) * sd (homeH a b c d) + sd (homeH a b c d) - 1) (b / sd (homeH a b c d) * sd (homeH a b c d) + sd (homeH a b c d) - 1) X
    have p5 := fun (i : Int) (X : World) => child_any (homeH a b c d) (a / sd (homeH a b c d)) (b / sd (homeH a b c d)) i X
    rw [h] at p1 p2
    rw [q1] at p3
    rw [q2] at p4
    simp only [sel_true] at p1 p3
    clear h q2
    generalize a / sd (homeH a b c d) = u at *
    generalize b / sd (homeH a b c d) = v at *
    generalize homeH a b c d = H at *
    generalize u * sd H + sd H - 1 = c1 at *
    generalize v * sd H + sd H - 1 = d1 at *
    generalize u * sd H = a1 at *
    generalize v * sd H = b1 at *
    have P1 := Lib.hid p1
    have P2 := Lib.hid p2
    have P3 := Lib.hid p3
    have P4 := Lib.hid p4
    have P5 := Lib.hid p5
    have HQ := Lib.hid q1
    have HN := Lib.hid q3
    clear p1 p2 p3 p4 p5 q1 q3
    by_cases hH : H < 16
    · have HH := Lib.hid hH
      clear hH
      go_enter Try.func5, Try.ntmps5
      go_wp2_with (first
        | (go_at_call 21; with_reducible refine (P1.out _).mono ?_; rintro e w' ⟨rfl, hb⟩; obtain ⟨X1, rfl, hl1, hm1⟩ := later (w.heap.size + 1) hb (by first | exact Nat.le_refl _ | go_size); clear hb; (try simp only [World.size_alloc, World.size_setCell, World.size_drew] at hm1))
        | (go_at_call 23; with_reducible refine (P2.out _).mono ?_; rintro e w' ⟨rfl, hb⟩; obtain ⟨X2, rfl, hl2, hm2⟩ := later (X1.w.heap.size + 1) hb (by first | exact Nat.le_refl _ | go_size); clear hb; (try simp only [World.size_alloc, World.size_setCell, World.size_drew] at hm2))
        | (go_at_call 14; with_reducible refine (P3.out _).mono ?_; rintro e w' ⟨rfl, hb⟩; obtain ⟨X3, rfl, hl3, hm3⟩ := later (X2.w.heap.size) hb (by first | exact Nat.le_refl _ | go_size); clear hb; (try simp only [World.size_alloc, World.size_setCell, World.size_drew] at hm3))
        | (go_at_call 24; with_reducible refine (P4.out _).mono ?_; rintro e w' ⟨rfl, hb⟩; obtain ⟨X4, rfl, hl4, hm4⟩ := later (X3.w.heap.size + 1) hb (by first | exact Nat.le_refl _ | go_size); clear hb; (try simp only [World.size_alloc, World.size_setCell, World.size_drew] at hm4)))
      go_loopw [7] (fun i wr => ∃ k : Nat, k ≤ 4 ∧ i = .int .i64 k ∧ Below X4.w.heap.size X4.w wr ∧ X4.w.heap.size ≤ wr.heap.size) (fun i _ => 4 - (intOf i).toNat)
      case atStart => exact ⟨0, Nat.zero_le _, rfl, Below.refl _ _, Nat.le_refl _⟩
      case round =>
        obtain ⟨k, hk, rfl, hbel, hsz⟩ := hrel
        obtain ⟨X, rfl⟩ : ∃ X : Later X4.w.heap.size X4.w, wr = X.w := ⟨⟨wr, hbel⟩, rfl⟩
        clear hbel
        by_cases hlt : k < 4
        · have p6 := P5.out (k : Int)
          have hc : childB H u v (k : Int) = true := child_iff.2 ⟨HQ.out, HH.out, by omega, by omega⟩
          rw [hc] at p6
          simp only [sel_true] at p6
          have p7 := fun X : World => box_any (H + 1) (2 * u + (k : Int) % 2) (2 * v + (k : Int) / 2) X
          rw [child_right HQ.out HH.out (by omega) (by omega)] at p7
          simp only [sel_true] at p7
          have p8 := fun X : World => in_any a b c d ((2 * u + (k : Int) % 2) * sd (H + 1)) ((2 * v + (k : Int) / 2) * sd (H + 1)) ((2 * u + (k : Int) % 2) * sd (H + 1) + sd (H + 1) - 1) ((2 * v + (k : Int) / 2) * sd (H + 1) + sd (H + 1) - 1) X
          rw [HN.out _ _ HH.out] at p8
          generalize 2 * u + (k : Int) % 2 = u' at *
          generalize 2 * v + (k : Int) / 2 = v' at *
          generalize u' * sd (H + 1) + sd (H + 1) - 1 = c2 at *
          generalize v' * sd (H + 1) + sd (H + 1) - 1 = d2 at *
          generalize u' * sd (H + 1) = a2 at *
          generalize v' * sd (H + 1) = b2 at *
          generalize H + 1 = H1 at *
          have P6 := Lib.hid p6
          have P7 := Lib.hid p7
          have P8 := Lib.hid p8
          clear p6 p7 p8 hc
          go_wp2_with (first
            | (go_at_call 25; with_reducible refine (P6.out _).mono ?_; rintro e w' ⟨rfl, hb⟩; obtain ⟨X6, rfl, hl6, hm6⟩ := later (X.w.heap.size) hb (by first | exact Nat.le_refl _ | go_size); clear hb; (try simp only [World.size_alloc, World.size_setCell, World.size_drew] at hm6))
            | (go_at_call 14; with_reducible refine (P7.out _).mono ?_; rintro e w' ⟨rfl, hb⟩; obtain ⟨X7, rfl, hl7, hm7⟩ := later (X6.w.heap.size + 1) hb (by first | exact Nat.le_refl _ | go_size); clear hb; (try simp only [World.size_alloc, World.size_setCell, World.size_drew] at hm7))
            | (go_at_call 24; with_reducible refine (P8.out _).mono ?_; rintro e w' ⟨rfl, hb⟩; obtain ⟨X8, rfl, hl8, hm8⟩ := later (X7.w.heap.size + 1) hb (by first | exact Nat.le_refl _ | go_size); clear hb; (try simp only [World.size_alloc, World.size_setCell, World.size_drew] at hm8)))
          go_roundw
          case rel => exact ⟨k + 1, by omega, by go_num, by repeat' (first | (with_reducible exact Below.refl _ _) | (with_reducible assumption) | (with_reducible refine Later.step ?_ ?_ _) | (with_reducible refine Below.alloc ?_ ?_ _) | (with_reducible refine Below.drew ?_) | (with_reducible refine bel_drewN ?_ _) | (with_reducible refine bel_grown ?_ (by assumption) ?_ ?_) | (with_reducible refine Below.setCell ?_ ?_ _) | go_size), by go_size⟩
          case measure => simp [intOf]; omega
        · obtain rfl : k = 4 := by omega
          go_wp2_with (first
            | (go_at_call 18; refine (cknown_any _).mono ?_; rintro e w' ⟨rfl, hb⟩; obtain ⟨X9, rfl, hl9, hm9⟩ := later (X.w.heap.size) hb (by first | exact Nat.le_refl _ | go_size); clear hb; (try simp only [World.size_alloc, World.size_setCell, World.size_drew] at hm9)))
          go_ret
          exact ⟨rfl, by repeat' (first | (with_reducible exact Below.refl _ _) | (with_reducible assumption) | (with_reducible refine Later.step ?_ ?_ _) | (with_reducible refine Below.alloc ?_ ?_ _) | (with_reducible refine Below.drew ?_) | (with_reducible refine bel_drewN ?_ _) | (with_reducible refine bel_grown ?_ (by assumption) ?_ ?_) | (with_reducible refine Below.setCell ?_ ?_ _) | go_size)⟩
    · have hc : ∀ i, childB H u v i = false := fun i => by
        rw [Bool.eq_false_iff]; intro h'; exact hH (child_iff.1 h').2.1
      have p5' := fun (i : Int) (X : World) => P5.out i X
      simp only [hc, sel_false] at p5'
      have p7 := fun X : World => box_any 0 0 0 X
      rw [show crightB 0 0 0 = true by decide] at p7
      simp only [sel_true] at p7
      generalize (0 : Int) * sd 0 + sd 0 - 1 = c2 at *
      generalize (0 : Int) * sd 0 = a2 at *
      have P6 := Lib.hid p5'
      have P7 := Lib.hid p7
      clear p5' p7 hc hH
      go_enter Try.func5, Try.ntmps5
      go_wp2_with (first
        | (go_at_call 21; with_reducible refine (P1.out _).mono ?_; rintro e w' ⟨rfl, hb⟩; obtain ⟨X1, rfl, hl1, hm1⟩ := later (w.heap.size + 1) hb (by first | exact Nat.le_refl _ | go_size); clear hb; (try simp only [World.size_alloc, World.size_setCell, World.size_drew] at hm1))
        | (go_at_call 23; with_reducible refine (P2.out _).mono ?_; rintro e w' ⟨rfl, hb⟩; obtain ⟨X2, rfl, hl2, hm2⟩ := later (X1.w.heap.size + 1) hb (by first | exact Nat.le_refl _ | go_size); clear hb; (try simp only [World.size_alloc, World.size_setCell, World.size_drew] at hm2))
        | (go_at_call 14; with_reducible refine (P3.out _).mono ?_; rintro e w' ⟨rfl, hb⟩; obtain ⟨X3, rfl, hl3, hm3⟩ := later (X2.w.heap.size) hb (by first | exact Nat.le_refl _ | go_size); clear hb; (try simp only [World.size_alloc, World.size_setCell, World.size_drew] at hm3))
        | (go_at_call 24; with_reducible refine (P4.out _).mono ?_; rintro e w' ⟨rfl, hb⟩; obtain ⟨X4, rfl, hl4, hm4⟩ := later (X3.w.heap.size + 1) hb (by first | exact Nat.le_refl _ | go_size); clear hb; (try simp only [World.size_alloc, World.size_setCell, World.size_drew] at hm4)))
      go_loopw [7] (fun i wr => ∃ k : Nat, k ≤ 4 ∧ i = .int .i64 k ∧ Below X4.w.heap.size X4.w wr ∧ X4.w.heap.size ≤ wr.heap.size) (fun i _ => 4 - (intOf i).toNat)
      case atStart => exact ⟨0, Nat.zero_le _, rfl, Below.refl _ _, Nat.le_refl _⟩
      case round =>
        obtain ⟨k, hk, rfl, hbel, hsz⟩ := hrel
        obtain ⟨X, rfl⟩ : ∃ X : Later X4.w.heap.size X4.w, wr = X.w := ⟨⟨wr, hbel⟩, rfl⟩
        clear hbel
        by_cases hlt : k < 4
        · go_wp2_with (first
            | (go_at_call 25; with_reducible refine (P6.out _ _).mono ?_; rintro e w' ⟨rfl, hb⟩; obtain ⟨X6, rfl, hl6, hm6⟩ := later (X.w.heap.size) hb (by first | exact Nat.le_refl _ | go_size); clear hb; (try simp only [World.size_alloc, World.size_setCell, World.size_drew] at hm6))
            | (go_at_call 14; with_reducible refine (P7.out _).mono ?_; rintro e w' ⟨rfl, hb⟩; obtain ⟨X7, rfl, hl7, hm7⟩ := later (X6.w.heap.size + 1) hb (by first | exact Nat.le_refl _ | go_size); clear hb; (try simp only [World.size_alloc, World.size_setCell, World.size_drew] at hm7)))
          go_roundw
          case rel => exact ⟨k + 1, by omega, by go_num, by repeat' (first | (with_reducible exact Below.refl _ _) | (with_reducible assumption) | (with_reducible refine Later.step ?_ ?_ _) | (with_reducible refine Below.alloc ?_ ?_ _) | (with_reducible refine Below.drew ?_) | (with_reducible refine bel_drewN ?_ _) | (with_reducible refine bel_grown ?_ (by assumption) ?_ ?_) | (with_reducible refine Below.setCell ?_ ?_ _) | go_size), by go_size⟩
          case measure => simp [intOf]; omega
        · obtain rfl : k = 4 := by omega
          go_wp2_with (first
            | (go_at_call 18; refine (cknown_any _).mono ?_; rintro e w' ⟨rfl, hb⟩; obtain ⟨X9, rfl, hl9, hm9⟩ := later (X.w.heap.size) hb (by first | exact Nat.le_refl _ | go_size); clear hb; (try simp only [World.size_alloc, World.size_setCell, World.size_drew] at hm9)))
          go_ret
          exact ⟨rfl, by repeat' (first | (with_reducible exact Below.refl _ _) | (with_reducible assumption) | (with_reducible refine Later.step ?_ ?_ _) | (with_reducible refine Below.alloc ?_ ?_ _) | (with_reducible refine Below.drew ?_) | (with_reducible refine bel_drewN ?_ _) | (with_reducible refine bel_grown ?_ (by assumption) ?_ ?_) | (with_reducible refine Below.setCell ?_ ?_ _) | go_size)⟩
  · rw [h] at p1 p2
    have P1 := Lib.hid p1
    have P2 := Lib.hid p2
    clear p1 p2 h
    go_enter Try.func5, Try.ntmps5
    go_wp2_with (first
      | (go_at_call 21; with_reducible refine (P1.out _).mono ?_; rintro e w' ⟨rfl, hb⟩; obtain ⟨X1, rfl, hl1, hm1⟩ := later (w.heap.size + 1) hb (by first | exact Nat.le_refl _ | go_size); clear hb; (try simp only [World.size_alloc, World.size_setCell, World.size_drew] at hm1))
      | (go_at_call 23; with_reducible refine (P2.out _).mono ?_; rintro e w' ⟨rfl, hb⟩; obtain ⟨X2, rfl, hl2, hm2⟩ := later (X1.w.heap.size + 1) hb (by first | exact Nat.le_refl _ | go_size); clear hb; (try simp only [World.size_alloc, World.size_setCell, World.size_drew] at hm2))
      | (go_at_call 18; refine (cknown_any _).mono ?_; rintro e w' ⟨rfl, hb⟩; obtain ⟨X9, rfl, hl9, hm9⟩ := later (X2.w.heap.size) hb (by first | exact Nat.le_refl _ | go_size); clear hb; (try simp only [World.size_alloc, World.size_setCell, World.size_drew] at hm9)))
    go_ret
    exact ⟨rfl, by repeat' (first | (with_reducible exact Below.refl _ _) | (with_reducible assumption) | (with_reducible refine Later.step ?_ ?_ _) | (with_reducible refine Below.alloc ?_ ?_ _) | (with_reducible refine Below.drew ?_) | (with_reducible refine bel_drewN ?_ _) | (with_reducible refine bel_grown ?_ (by assumption) ?_ ?_) | (with_reducible refine Below.setCell ?_ ?_ _) | go_size)⟩
end Go.Proofs.Ythfnmlbdbjblkaa
