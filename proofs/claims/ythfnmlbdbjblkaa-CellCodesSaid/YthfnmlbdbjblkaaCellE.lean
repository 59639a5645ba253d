/- A rectangle's home, walked. No condition. -/
import Derived.Test.YthfnmlbdbjblkaaCellD
import Derived.Test.YthfnmlbdbjblkaaBytes
namespace Go.Proofs.Ythfnmlbdbjblkaa
open Go.RowKit
set_option linter.unusedSimpArgs false
set_option linter.unusedVariables false

/-- Both corners are in one cell of a level. -/
def hm (a b c d : Int) (l : Nat) : Bool := decide (a / sd l = c / sd l ∧ b / sd l = d / sd l)
def homeLv (a b c d : Int) : Nat → Nat
  | 0 => 0
  | k + 1 => if hm a b c d (k + 1) = true then k + 1 else homeLv a b c d k
def homeH (a b c d : Int) : Int := ((homeLv a b c d 16 : Nat) : Int)
theorem hm_iff {a b c d : Int} {l : Nat} : hm a b c d l = true ↔ a / sd l = c / sd l ∧ b / sd l = d / sd l := by simp [hm]
theorem sd_up {l : Nat} (h : l < 16) : sd l = sd ((l : Int) + 1) * 2 := by
  unfold sd
  rw [show (16 - (l : Int)).toNat = (16 - ((l : Int) + 1)).toNat + 1 by omega, Int.pow_succ]
theorem div_up {n : Int} {l : Nat} (h : l < 16) : n / sd l = n / sd ((l : Int) + 1) / 2 := by
  rw [sd_up h, ← Int.ediv_ediv_of_nonneg (Int.le_of_lt (sd_pos _))]
theorem hm_down {a b c d : Int} {l : Nat} (h : l < 16) (hh : hm a b c d (l + 1) = true) : hm a b c d l = true := by
  rw [hm_iff] at hh ⊢
  push_cast at hh
  rw [div_up h, div_up h, div_up h, div_up h, hh.1, hh.2]
  exact ⟨rfl, rfl⟩
theorem hm_not {a b c d : Int} {l : Nat} (h : hm a b c d l = false) : ∀ j, l + j ≤ 16 → hm a b c d (l + j) = false
  | 0, _ => h
  | j + 1, hj => by
    rw [Bool.eq_false_iff]
    intro e
    have := hm_down (l := l + j) (by omega) e
    rw [hm_not h j (by omega)] at this; cases this
theorem homeLv_le (a b c d : Int) : ∀ k, homeLv a b c d k ≤ k
  | 0 => Nat.le_refl _
  | k + 1 => by rw [homeLv]; split; · exact Nat.le_refl _
                · have := homeLv_le a b c d k; omega
theorem homeLv_hm {a b c d : Int} (h0 : hm a b c d 0 = true) : ∀ k, hm a b c d (homeLv a b c d k) = true
  | 0 => h0
  | k + 1 => by rw [homeLv]; split; · assumption
                · exact homeLv_hm h0 k
theorem homeLv_top {a b c d : Int} {k : Nat} (h : hm a b c d k = true ∨ k = 0) : homeLv a b c d k = k := by
  cases k with
  | zero => rfl
  | succ k => rw [homeLv, if_pos (h.resolve_right (by omega))]
theorem homeLv_skip {a b c d : Int} {k : Nat} (h : hm a b c d (k + 1) = false) : homeLv a b c d (k + 1) = homeLv a b c d k := by
  rw [homeLv, if_neg (by rw [h]; simp)]
theorem homeLv_stop {a b c d : Int} {k : Nat} (h : hm a b c d (k + 1) = false) : ∀ j, k + j ≤ 16 → homeLv a b c d (k + j) = homeLv a b c d k
  | 0, _ => rfl
  | j + 1, hj => by
    have := hm_not h j (by omega)
    rw [show k + 1 + j = k + j + 1 by omega] at this
    rw [show k + (j + 1) = k + j + 1 by omega, homeLv_skip this, homeLv_stop h j (by omega)]
theorem hm_zero {a b c d : Int} (h : rightB a b c d = true) : hm a b c d 0 = true := by
  have := right_iff.1 h
  rw [hm_iff]
  have e : sd ((0 : Nat) : Int) = 65536 := by decide
  rw [e]; omega

/-- A rectangle is in the box of the cell that has its low corner just if both corners are in one cell. -/
theorem in_home {a b c d : Int} {l : Nat} (hl : l ≤ 16) (h : rightB a b c d = true) :
    inB a b c d (a / sd l * sd l) (b / sd l * sd l) (a / sd l * sd l + sd l - 1) (b / sd l * sd l + sd l - 1) = hm a b c d l := by
  have g := right_iff.1 h
  have hs := sd_pos l
  have l0 : (0 : Int) ≤ l := by omega
  have l1 : (l : Int) ≤ 16 := by omega
  have ga := div_grid l0 l1 (n := a) (by omega) (by omega)
  have gb := div_grid l0 l1 (n := b) (by omega) (by omega)
  have qa := grid_lt l0 l1 ga.1 ga.2
  have qb := grid_lt l0 l1 gb.1 gb.2
  have ia := (div_iff (n := a) (x := a / sd l) hs).2 rfl
  have ib := (div_iff (n := b) (x := b / sd l) hs).2 rfl
  have ic := div_iff (n := c) (x := a / sd l) hs
  have id := div_iff (n := d) (x := b / sd l) hs
  rw [Bool.eq_iff_iff, in_iff, hm_iff]
  rw [h]
  have hr : rightB (a / sd l * sd l) (b / sd l * sd l) (a / sd l * sd l + sd l - 1) (b / sd l * sd l + sd l - 1) = true := by
    rw [right_iff]
    generalize a / sd l * sd l = u at *
    generalize b / sd l * sd l = v at *
    omega
  rw [hr]
  constructor
  · rintro ⟨_, _, h1, h2, h3, h4⟩
    exact ⟨(ic.1 ⟨by omega, h2⟩).symm, (id.1 ⟨by omega, h4⟩).symm⟩
  · rintro ⟨e1, e2⟩
    have c1 := ic.2 e1.symm
    have d1 := id.2 e2.symm
    exact ⟨rfl, rfl, ia.1, c1.2, ib.1, d1.2⟩

set_option maxHeartbeats 8000000 in
theorem rhome_any (a b c d : Int) (w : World) :
    Calls Try.prog 22 #[.agg #[.int .i64 a, .int .i64 b, .int .i64 c, .int .i64 d]] w fun e w' => e = .returned (.tuple #[.agg #[.int .i64 (sel (rightB a b c d) (homeH a b c d)), .int .i64 (sel (rightB a b c d) (a / sd (homeH a b c d))), .int .i64 (sel (rightB a b c d) (b / sd (homeH a b c d)))], .bool (rightB a b c d)]) ∧ Below w.heap.size w w' := by
  have p2 := fun X : World => rright_any a b c d X
  rcases Bool.eq_false_or_eq_true (rightB a b c d) with hr | hr
  · have g := right_iff.1 hr
    have hf : fitsB a b = true := fits_iff.2 ⟨by omega, by omega, by omega, by omega⟩
    have p3 : ∀ k : Nat, k ≤ 16 → ∀ X : World, Calls Try.prog 13 #[.agg #[.int .i64 a, .int .i64 b], .int .i64 k] X fun e w' => e = .returned (.tuple #[.agg #[.int .i64 (k : Int), .int .i64 (a / sd k), .int .i64 (b / sd k)], .bool true]) ∧ Below X.heap.size X w' := fun k hk X => by
      have := rof_any a b k X
      rwa [lvl_iff.2 ⟨by omega, by omega⟩, hf, Bool.and_self, sel_true, sel_true, sel_true] at this
    have p4 : ∀ k : Nat, k ≤ 16 → ∀ X : World, Calls Try.prog 15 #[.agg #[.int .i64 (k : Int), .int .i64 (a / sd k), .int .i64 (b / sd k)]] X fun e w' => e = .returned (.tuple #[.agg #[.int .i64 (a / sd k * sd k), .int .i64 (b / sd k * sd k), .int .i64 (a / sd k * sd k + sd k - 1), .int .i64 (b / sd k * sd k + sd k - 1)], .bool true]) ∧ Below X.heap.size X w' := fun k hk X => by
      have := rbox_any k (a / sd k) (b / sd k) X
      rwa [of_right (by omega) (by omega) (by omega) (by omega) (by omega) (by omega), sel_true, sel_true, sel_true, sel_true] at this
    have p5 : ∀ k : Nat, k ≤ 16 → ∀ X : World, Calls Try.prog 52 #[.agg #[.int .i64 a, .int .i64 b, .int .i64 c, .int .i64 d], .agg #[.int .i64 (a / sd k * sd k), .int .i64 (b / sd k * sd k), .int .i64 (a / sd k * sd k + sd k - 1), .int .i64 (b / sd k * sd k + sd k - 1)]] X fun e w' => e = .returned (.bool (hm a b c d k)) ∧ Below X.heap.size X w' := fun k hk X => by
      have := rin_any a b c d (a / sd k * sd k) (b / sd k * sd k) (a / sd k * sd k + sd k - 1) (b / sd k * sd k + sd k - 1) X
      rwa [in_home hk hr] at this
    rw [hr] at p2 ⊢
    have P2 := Lib.hid p2
    have P3 := Lib.hid p3
    have P4 := Lib.hid p4
    have P5 := Lib.hid p5
    have HG := Lib.hid g
    clear p2 p3 p4 p5 hf hr g
    go_enter Try.func22, Try.ntmps22
    go_wp2_with (first
      | (go_at_call 51; refine (P2.out _).mono ?_; rintro e w' ⟨rfl, hb⟩; obtain ⟨X2, rfl, hl2, hm2⟩ := later (w.heap.size + 2) hb (by first | exact Nat.le_refl _ | go_size); clear hb; (try simp only [World.size_alloc, World.size_setCell, World.size_drew] at hm2)))
    go_loopw [4] (fun i wr => ∃ k : Nat, k ≤ 16 ∧ i = .int .i64 k ∧ Below (w.heap.size + 2) X2.w wr ∧ w.heap.size + 2 ≤ wr.heap.size ∧ Hid (homeLv a b c d 16 = homeLv a b c d k)) (fun i _ => (intOf i).toNat)
    case atStart => exact ⟨16, Nat.le_refl _, rfl, by repeat' (first | (with_reducible exact Below.refl _ _) | (with_reducible assumption) | (with_reducible refine Later.step ?_ ?_ _) | (with_reducible refine Below.alloc ?_ ?_ _) | (with_reducible refine Below.drew ?_) | (with_reducible refine bel_drewN ?_ _) | (with_reducible refine bel_grown ?_ (by assumption) ?_ ?_) | (with_reducible refine Below.setCell ?_ ?_ _) | go_size), hl2, rfl⟩
    case round =>
      obtain ⟨k, hk, rfl, hbel, hsz, hd⟩ := hrel
      obtain ⟨X, rfl⟩ : ∃ X : Later (w.heap.size + 2) X2.w, wr = X.w := ⟨⟨wr, hbel⟩, rfl⟩
      clear hbel
      by_cases h0 : k = 0
      · subst h0
        go_wp2
        have e0 : homeH a b c d = 0 := by unfold homeH; rw [hd.out]; rfl
        have g := HG.out
        have e1 : a / sd 0 = 0 := by rw [show sd 0 = 65536 by decide]; omega
        have e2 : b / sd 0 = 0 := by rw [show sd 0 = 65536 by decide]; omega
        refine bodyPost_ret (by simp only [results, Try.results22]; go_simp; all_goals rfl) rfl ⟨?_, ?_⟩
        · rw [e0, e1, e2]; rfl
        · repeat' (first | (with_reducible exact Below.refl _ _) | (with_reducible assumption) | (with_reducible refine Later.step ?_ ?_ _) | (with_reducible refine Below.alloc ?_ ?_ _) | (with_reducible refine Below.drew ?_) | (with_reducible refine bel_drewN ?_ _) | (with_reducible refine bel_grown ?_ (by assumption) ?_ ?_) | (with_reducible refine Below.setCell ?_ ?_ _) | go_size)
      · have hpos : (0 : Int) < k := by omega
        have p3 := P3.out k hk
        have p4 := P4.out k hk
        have p5 := P5.out k hk
        rcases Bool.eq_false_or_eq_true (hm a b c d k) with hh | hh
        · rw [hh] at p5
          have HH := Lib.hid hh
          have Q3 := Lib.hid p3
          have Q4 := Lib.hid p4
          have Q5 := Lib.hid p5
          clear p3 p4 p5 hh
          go_wp2_with (first
            | (go_at_call 13; with_reducible refine (Q3.out _).mono ?_; rintro e w' ⟨rfl, hb⟩; obtain ⟨X3, rfl, hl3, hm3⟩ := later (w.heap.size + 2) hb (by first | exact Nat.le_refl _ | go_size); clear hb; (try simp only [World.size_alloc, World.size_setCell, World.size_drew] at hm3))
            | (go_at_call 15; with_reducible refine (Q4.out _).mono ?_; rintro e w' ⟨rfl, hb⟩; obtain ⟨X4, rfl, hl4, hm4⟩ := later (X3.w.heap.size + 1) hb (by first | exact Nat.le_refl _ | go_size); clear hb; (try simp only [World.size_alloc, World.size_setCell, World.size_drew] at hm4))
            | (go_at_call 52; with_reducible refine (Q5.out _).mono ?_; rintro e w' ⟨rfl, hb⟩; obtain ⟨X5, rfl, hl5, hm5⟩ := later (X4.w.heap.size + 1) hb (by first | exact Nat.le_refl _ | go_size); clear hb; (try simp only [World.size_alloc, World.size_setCell, World.size_drew] at hm5)))
          have eH : homeH a b c d = k := by unfold homeH; rw [hd.out, homeLv_top (.inl HH.out)]
          refine bodyPost_ret (by simp only [results, Try.results22]; go_simp; all_goals rfl) rfl ⟨?_, ?_⟩
          · rw [eH]; rfl
          · repeat' (first | (with_reducible exact Below.refl _ _) | (with_reducible assumption) | (with_reducible refine Later.step ?_ ?_ _) | (with_reducible refine Below.alloc ?_ ?_ _) | (with_reducible refine Below.drew ?_) | (with_reducible refine bel_drewN ?_ _) | (with_reducible refine bel_grown ?_ (by assumption) ?_ ?_) | (with_reducible refine Below.setCell ?_ ?_ _) | go_size)
        · rw [hh] at p5
          have HH := Lib.hid hh
          have Q3 := Lib.hid p3
          have Q4 := Lib.hid p4
          have Q5 := Lib.hid p5
          clear p3 p4 p5 hh
          go_wp2_with (first
            | (go_at_call 13; with_reducible refine (Q3.out _).mono ?_; rintro e w' ⟨rfl, hb⟩; obtain ⟨X3, rfl, hl3, hm3⟩ := later (w.heap.size + 2) hb (by first | exact Nat.le_refl _ | go_size); clear hb; (try simp only [World.size_alloc, World.size_setCell, World.size_drew] at hm3))
            | (go_at_call 15; with_reducible refine (Q4.out _).mono ?_; rintro e w' ⟨rfl, hb⟩; obtain ⟨X4, rfl, hl4, hm4⟩ := later (X3.w.heap.size + 1) hb (by first | exact Nat.le_refl _ | go_size); clear hb; (try simp only [World.size_alloc, World.size_setCell, World.size_drew] at hm4))
            | (go_at_call 52; with_reducible refine (Q5.out _).mono ?_; rintro e w' ⟨rfl, hb⟩; obtain ⟨X5, rfl, hl5, hm5⟩ := later (X4.w.heap.size + 1) hb (by first | exact Nat.le_refl _ | go_size); clear hb; (try simp only [World.size_alloc, World.size_setCell, World.size_drew] at hm5)))
          go_roundw
          case rel =>
            refine ⟨k - 1, by omega, by congr 1; omega, by repeat' (first | (with_reducible exact Below.refl _ _) | (with_reducible assumption) | (with_reducible refine Later.step ?_ ?_ _) | (with_reducible refine Below.alloc ?_ ?_ _) | (with_reducible refine Below.drew ?_) | (with_reducible refine bel_drewN ?_ _) | (with_reducible refine bel_grown ?_ (by assumption) ?_ ?_) | (with_reducible refine Below.setCell ?_ ?_ _) | go_size), by go_size, ?_⟩
            have := HH.out
            obtain ⟨q, rfl⟩ : ∃ q, k = q + 1 := ⟨k - 1, by omega⟩
            show homeLv a b c d 16 = homeLv a b c d (q + 1 - 1)
            rw [hd.out, homeLv_skip this]; rfl
          case measure => simp [intOf]; omega
  · rw [hr] at p2 ⊢
    have P2 := Lib.hid p2
    clear p2 hr
    go_enter Try.func22, Try.ntmps22
    go_wp2_with (first
      | (go_at_call 51; refine (P2.out _).mono ?_; rintro e w' ⟨rfl, hb⟩; obtain ⟨X2, rfl, hl2, hm2⟩ := later (w.heap.size + 2) hb (by first | exact Nat.le_refl _ | go_size); clear hb; (try simp only [World.size_alloc, World.size_setCell, World.size_drew] at hm2)))
    refine bodyPost_ret (by simp only [results, Try.results22]; go_simp; all_goals (first | rfl | simp [sel])) rfl ⟨rfl, ?_⟩
    repeat' (first | (with_reducible exact Below.refl _ _) | (with_reducible assumption) | (with_reducible refine Later.step ?_ ?_ _) | (with_reducible refine Below.alloc ?_ ?_ _) | (with_reducible refine Below.drew ?_) | (with_reducible refine Below.setCell ?_ ?_ _) | go_size)
end Go.Proofs.Ythfnmlbdbjblkaa
