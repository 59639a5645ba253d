/- Laws of the layer of cells, walked: cells that meet. No condition. -/
import Derived.Test.YthfnmlbdbjblkaaCellK
import Derived.Test.YthfnmlbdbjblkaaCellT
namespace Go.Proofs.Ythfnmlbdbjblkaa
open Go.RowKit
set_option linter.unusedSimpArgs false
set_option linter.unusedVariables false

theorem meets_plain {a b c d l px py : Int} (h1 : snapB a b c d l = true) (h2 : (lvlB l && fitsB px py) = true) :
    crightB l (px / sd l) (py / sd l) = true
    ∧ meetsB (px / sd l * sd l) (py / sd l * sd l) (px / sd l * sd l + sd l - 1) (py / sd l * sd l + sd l - 1) a b c d = hasB (low a l) (low b l) (high c l) (high d l) px py
    ∧ inB a b c d (low a l) (low b l) (high c l) (high d l) = true
    ∧ meetsB (px / sd l * sd l) (py / sd l * sd l) (px / sd l * sd l + sd l - 1) (py / sd l * sd l + sd l - 1) (low a l) (low b l) (high c l) (high d l)
      = inB (px / sd l * sd l) (py / sd l * sd l) (px / sd l * sd l + sd l - 1) (py / sd l * sd l + sd l - 1) (low a l) (low b l) (high c l) (high d l) := by
  simp only [snapB, Bool.and_eq_true] at h1 h2
  obtain ⟨hl, hr⟩ := h1
  obtain ⟨_, hf⟩ := h2
  obtain ⟨l0, l1⟩ := lvl_iff.1 hl
  have f := fits_iff.1 hf
  have g := right_iff.1 hr
  have hs := sd_pos l
  have hc := of_right l0 l1 f.1 f.2.1 f.2.2.1 f.2.2.2
  have r1 := snap_right l0 l1 hr
  have r2 := box_right hc
  have A1 := le_div (n := c) (u := px / sd l) hs
  have A2 := last_div (n := a) (u := px / sd l) hs
  have A3 := le_div (n := d) (u := py / sd l) hs
  have A4 := last_div (n := b) (u := py / sd l) hs
  have B1 := le_div (n := px) (u := a / sd l) hs
  have B2 := last_div (n := px) (u := c / sd l) hs
  have B3 := le_div (n := py) (u := b / sd l) hs
  have B4 := last_div (n := py) (u := d / sd l) hs
  have C1 := mul_le_iff (u := px / sd l) (v := c / sd l) hs
  have C2 := mul_le_iff (u := a / sd l) (v := px / sd l) hs
  have C3 := mul_le_iff (u := py / sd l) (v := d / sd l) hs
  have C4 := mul_le_iff (u := b / sd l) (v := py / sd l) hs
  have D1 := last_div (n := px / sd l * sd l) (u := c / sd l) hs
  have D2 := last_div (n := a / sd l * sd l) (u := px / sd l) hs
  have D3 := last_div (n := py / sd l * sd l) (u := d / sd l) hs
  have D4 := last_div (n := b / sd l * sd l) (u := py / sd l) hs
  rw [div_of hs] at D1 D2 D3 D4
  have E1 := (div_iff (n := a) (x := a / sd l) hs).2 rfl
  have E2 := (div_iff (n := b) (x := b / sd l) hs).2 rfl
  have E3 := (div_iff (n := c) (x := c / sd l) hs).2 rfl
  have E4 := (div_iff (n := d) (x := d / sd l) hs).2 rfl
  unfold low high
  refine ⟨hc, ?_, ?_, ?_⟩
  · rw [Bool.eq_iff_iff, has_iff, meets_iff, r1, r2, hr]
    simp only [true_and]
    omega
  · rw [in_iff]
    exact ⟨hr, r1, E1.1, E3.2, E2.1, E4.2⟩
  · rw [Bool.eq_iff_iff, in_iff, meets_iff, r1, r2]
    simp only [true_and]
    omega
set_option maxHeartbeats 8000000 in
theorem meets_walk (a b c d l px py : Int) (w : World) :
    Calls Try.prog 9 #[.agg #[.int .i64 a, .int .i64 b, .int .i64 c, .int .i64 d], .int .i64 l, .agg #[.int .i64 px, .int .i64 py]] w fun e w' => e = .returned (.bool true) ∧ Below w.heap.size w w' := by
  have p1 := fun X : World => snap_any a b c d l X
  have p2 := fun X : World => cof_any px py l X
  rcases Bool.eq_false_or_eq_true (snapB a b c d l) with h1 | h1
  · rcases Bool.eq_false_or_eq_true (lvlB l && fitsB px py) with h2 | h2
    · obtain ⟨hc, e1, e2, e3⟩ := meets_plain h1 h2
      have p3 := fun X : World => box_any l (px / sd l) (py / sd l) X
      have p4 := fun X : World => meets_any (px / sd l * sd l) (py / sd l * sd l) (px / sd l * sd l + sd l - 1) (py / sd l * sd l + sd l - 1) a b c d X
      have p5 := fun X : World => has_any (low a l) (low b l) (high c l) (high d l) px py X
      have p6 := fun X : World => in_any a b c d (low a l) (low b l) (high c l) (high d l) X
      have p7 := fun X : World => meets_any (px / sd l * sd l) (py / sd l * sd l) (px / sd l * sd l + sd l - 1) (py / sd l * sd l + sd l - 1) (low a l) (low b l) (high c l) (high d l) X
      have p8 := fun X : World => in_any (px / sd l * sd l) (py / sd l * sd l) (px / sd l * sd l + sd l - 1) (py / sd l * sd l + sd l - 1) (low a l) (low b l) (high c l) (high d l) X
      rw [hc] at p3
      rw [e1] at p4
      rw [e2] at p6
      rw [e3] at p7
      rw [h1] at p1
      rw [h2] at p2
      simp only [sel_true] at p1 p2 p3
      clear hc e1 e2 e3 h1 h2
      generalize hasB (low a l) (low b l) (high c l) (high d l) px py = t1 at *
      generalize inB (px / sd l * sd l) (py / sd l * sd l) (px / sd l * sd l + sd l - 1) (py / sd l * sd l + sd l - 1) (low a l) (low b l) (high c l) (high d l) = t2 at *
      generalize px / sd l = u at *
      generalize py / sd l = v at *
      generalize u * sd l + sd l - 1 = c2 at *
      generalize v * sd l + sd l - 1 = d2 at *
      generalize u * sd l = a2 at *
      generalize v * sd l = b2 at *
      generalize low a l = a1 at *
      generalize low b l = b1 at *
      generalize high c l = c1 at *
      generalize high d l = d1 at *
      have P1 := Lib.hid p1
      have P2 := Lib.hid p2
      have P3 := Lib.hid p3
      have P4 := Lib.hid p4
      have P5 := Lib.hid p5
      have P6 := Lib.hid p6
      have P7 := Lib.hid p7
      have P8 := Lib.hid p8
      clear p1 p2 p3 p4 p5 p6 p7 p8
      go_enter Try.func9, Try.ntmps9
      go_wp2_with (first
        | (go_at_call 19; with_reducible refine (P1.out _).mono ?_; rintro e w' ⟨rfl, hb⟩; obtain ⟨X1, rfl, hl1, hm1⟩ := later (w.heap.size + 2) hb (by first | exact Nat.le_refl _ | go_size); clear hb; (try simp only [World.size_alloc, World.size_setCell, World.size_drew] at hm1))
        | (go_at_call 12; with_reducible refine (P2.out _).mono ?_; rintro e w' ⟨rfl, hb⟩; obtain ⟨X2, rfl, hl2, hm2⟩ := later (X1.w.heap.size + 1) hb (by first | exact Nat.le_refl _ | go_size); clear hb; (try simp only [World.size_alloc, World.size_setCell, World.size_drew] at hm2))
        | (go_at_call 14; with_reducible refine (P3.out _).mono ?_; rintro e w' ⟨rfl, hb⟩; obtain ⟨X3, rfl, hl3, hm3⟩ := later (X2.w.heap.size + 1) hb (by first | exact Nat.le_refl _ | go_size); clear hb; (try simp only [World.size_alloc, World.size_setCell, World.size_drew] at hm3)))
      (refine wp_region_later (X3.w.heap.size + 1) (by kernel_rfl) (by kernel_rfl) (by go_size) ?_; (repeat (go_big_quiet_step ((first | (go_at_call 34; with_reducible refine Later.call _ ?_ (P4.out _); exact Nat.le_trans (by go_size) (Later.is _).size) | (go_at_call 34; with_reducible refine Later.call _ ?_ (P7.out _); exact Nat.le_trans (by go_size) (Later.is _).size) | (go_at_call 28; with_reducible refine Later.call _ ?_ (P5.out _); exact Nat.le_trans (by go_size) (Later.is _).size) | (go_at_call 24; with_reducible refine Later.call _ ?_ (P6.out _); exact Nat.le_trans (by go_size) (Later.is _).size) | (go_at_call 24; with_reducible refine Later.call _ ?_ (P8.out _); exact Nat.le_trans (by go_size) (Later.is _).size) | (go_at_call 18; exact Later.call _ (Nat.le_trans (by go_size) (Later.is _).size) (cknown_any _)))))); refine wpQuiet_nil ?_; intro Xq hlq hmq)
      go_wp2
      go_ret
      exact ⟨rfl, by repeat' (first | (with_reducible exact Below.refl _ _) | (with_reducible assumption) | (with_reducible refine Later.step ?_ ?_ _) | (with_reducible refine Below.alloc ?_ ?_ _) | (with_reducible refine Below.drew ?_) | (with_reducible refine Below.setCell ?_ ?_ _) | go_size)⟩
    · have p3 := fun X : World => box_any (sel (lvlB l && fitsB px py) l) (sel (lvlB l && fitsB px py) (px / sd l)) (sel (lvlB l && fitsB px py) (py / sd l)) X
      rw [h1] at p1
      rw [h2] at p2 p3
      generalize sel false l = g1 at *
      generalize sel false (px / sd l) = g2 at *
      generalize sel false (py / sd l) = g3 at *
      have P1 := Lib.hid p1
      have P2 := Lib.hid p2
      have P3 := Lib.hid p3
      clear p1 p2 p3 h1 h2
      go_enter Try.func9, Try.ntmps9
      go_wp2_with (first
        | (go_at_call 19; with_reducible refine (P1.out _).mono ?_; rintro e w' ⟨rfl, hb⟩; obtain ⟨X1, rfl, hl1, hm1⟩ := later (w.heap.size + 2) hb (by first | exact Nat.le_refl _ | go_size); clear hb; (try simp only [World.size_alloc, World.size_setCell, World.size_drew] at hm1))
        | (go_at_call 12; with_reducible refine (P2.out _).mono ?_; rintro e w' ⟨rfl, hb⟩; obtain ⟨X2, rfl, hl2, hm2⟩ := later (X1.w.heap.size + 1) hb (by first | exact Nat.le_refl _ | go_size); clear hb; (try simp only [World.size_alloc, World.size_setCell, World.size_drew] at hm2))
        | (go_at_call 14; with_reducible refine (P3.out _).mono ?_; rintro e w' ⟨rfl, hb⟩; obtain ⟨X3, rfl, hl3, hm3⟩ := later (X2.w.heap.size + 1) hb (by first | exact Nat.le_refl _ | go_size); clear hb; (try simp only [World.size_alloc, World.size_setCell, World.size_drew] at hm3))
        | (go_at_call 18; refine (cknown_any _).mono ?_; rintro e w' ⟨rfl, hb⟩; obtain ⟨X4, rfl, hl4, hm4⟩ := later (X3.w.heap.size + 1) hb (by first | exact Nat.le_refl _ | go_size); clear hb; (try simp only [World.size_alloc, World.size_setCell, World.size_drew] at hm4)))
      go_ret
      exact ⟨rfl, by repeat' (first | (with_reducible exact Below.refl _ _) | (with_reducible assumption) | (with_reducible refine Later.step ?_ ?_ _) | (with_reducible refine Below.alloc ?_ ?_ _) | (with_reducible refine Below.drew ?_) | (with_reducible refine Below.setCell ?_ ?_ _) | go_size)⟩
  · have p3 := fun X : World => box_any (sel (lvlB l && fitsB px py) l) (sel (lvlB l && fitsB px py) (px / sd l)) (sel (lvlB l && fitsB px py) (py / sd l)) X
    rw [h1] at p1
    generalize sel (lvlB l && fitsB px py) l = g1 at *
    generalize sel (lvlB l && fitsB px py) (px / sd l) = g2 at *
    generalize sel (lvlB l && fitsB px py) (py / sd l) = g3 at *
    have P1 := Lib.hid p1
    have P2 := Lib.hid p2
    have P3 := Lib.hid p3
    clear p1 p2 p3 h1
    go_enter Try.func9, Try.ntmps9
    go_wp2_with (first
      | (go_at_call 19; with_reducible refine (P1.out _).mono ?_; rintro e w' ⟨rfl, hb⟩; obtain ⟨X1, rfl, hl1, hm1⟩ := later (w.heap.size + 2) hb (by first | exact Nat.le_refl _ | go_size); clear hb; (try simp only [World.size_alloc, World.size_setCell, World.size_drew] at hm1))
      | (go_at_call 12; with_reducible refine (P2.out _).mono ?_; rintro e w' ⟨rfl, hb⟩; obtain ⟨X2, rfl, hl2, hm2⟩ := later (X1.w.heap.size + 1) hb (by first | exact Nat.le_refl _ | go_size); clear hb; (try simp only [World.size_alloc, World.size_setCell, World.size_drew] at hm2))
      | (go_at_call 14; with_reducible refine (P3.out _).mono ?_; rintro e w' ⟨rfl, hb⟩; obtain ⟨X3, rfl, hl3, hm3⟩ := later (X2.w.heap.size + 1) hb (by first | exact Nat.le_refl _ | go_size); clear hb; (try simp only [World.size_alloc, World.size_setCell, World.size_drew] at hm3))
      | (go_at_call 18; refine (cknown_any _).mono ?_; rintro e w' ⟨rfl, hb⟩; obtain ⟨X4, rfl, hl4, hm4⟩ := later (X3.w.heap.size + 1) hb (by first | exact Nat.le_refl _ | go_size); clear hb; (try simp only [World.size_alloc, World.size_setCell, World.size_drew] at hm4)))
    go_ret
    exact ⟨rfl, by repeat' (first | (with_reducible exact Below.refl _ _) | (with_reducible assumption) | (with_reducible refine Later.step ?_ ?_ _) | (with_reducible refine Below.alloc ?_ ?_ _) | (with_reducible refine Below.drew ?_) | (with_reducible refine Below.setCell ?_ ?_ _) | go_size)⟩
end Go.Proofs.Ythfnmlbdbjblkaa
