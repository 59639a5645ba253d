/- A rectangle's home, walked. No condition. -/
import Derived.Test.YthoanoaigfcchaaCellD
import Derived.Test.YthoanoaigfcchaaBytes
namespace Go.Proofs.Ythoanoaigfcchaa
open Go.RowKit
set_option linter.unusedSimpArgs false
set_option linter.unusedVariables false

/-- Both corners are in one cell of a level. -/
def hm (a b c d : Int) (l : Nat) : Bool := decide (a / sd l = c / sd l ∧ b / sd l = d / sd l)
def homeLv (a b c d : Int) : Nat → Nat
  | 0 => 0
  | k + 1 => if hm a b c d (k + 1) = true then k + 1 else homeLv a b c d k
def homeH (a b c d : Int) : Int := ((homeLv a b c d 16 : Nat) : Int)
theorem hm_iff {a b c d : Int} {l : Nat} : hm a b c d l = true ↔ a / sd l = c / sd l ∧ b / sd l = d / sd l := by simp [hm]
theorem sd_up {l : Nat} (h : l < 16) : sd l = sd ((l : Int) + 1) * 2 := by
  unfold sd
  rw [show (16 - (l : Int)).toNat = (16 - ((l : Int) + 1)).toNat + 1 by omega, Int.pow_succ]
theorem div_up {n : Int} {l : Nat} (h : l < 16) : n / sd l = n / sd ((l : Int) + 1) / 2 := by
  rw [sd_up h, ← Int.ediv_ediv_of_nonneg (Int.le_of_lt (sd_pos _))]
theorem hm_down {a b c d : Int} {l : Nat} (h : l < 16) (hh : hm a b c d (l + 1) = true) : hm a b c d l = true := by
  rw [hm_iff] at hh ⊢
  push_cast at hh
  rw [div_up h, div_up h, div_up h, div_up h, hh.1, hh.2]
  exact ⟨rfl, rfl⟩
theorem hm_not {a b c d : Int} {l : Nat} (h : hm a b c d l = false) : ∀ j, l + j ≤ 16 → hm a b c d (l + j) = false
  | 0, _ => h
  | j + 1, hj => by
    rw [Bool.eq_false_iff]
    intro e
    have := hm_down (l := l + j) (by omega) e
    rw [hm_not h j (by omega)] at this; cases this
theorem homeLv_le (a b c d : Int) : ∀ k, homeLv a b c d k ≤ k
  | 0 => Nat.le_refl _
  | k + 1 => by rw [homeLv]; split; · exact Nat.le_refl _
                · have := homeLv_le a b c d k; omega
theorem homeLv_hm {a b c d : Int} (h0 : hm a b c d 0 = true) : ∀ k, hm a b c d (homeLv a b c d k) = true
  | 0 => h0
  | k + 1 => by rw [homeLv]; split; · assumption
                · exact homeLv_hm h0 k
theorem homeLv_top {a b c d : Int} {k : Nat} (h : hm a b c d k = true ∨ k = 0) : homeLv a b c d k = k := by
  cases k with
  | zero => rfl
  | succ k => rw [homeLv, if_pos (h.resolve_right (by omega))]
theorem homeLv_skip {a b c d : Int} {k : Nat} (h : hm a b c d (k + 1) = false) : homeLv a b c d (k + 1) = homeLv a b c d k := by
  rw [homeLv, if_neg (by rw [h]; simp)]
theorem homeLv_stop {a b c d : Int} {k : Nat} (h : hm a b c d (k + 1) = false) : ∀ j, k + j ≤ 16 → homeLv a b c d (k + j) = homeLv a b c d k
  | 0, _ => rfl
  | j + 1, hj => by
    have := hm_not h j (by omega)
    rw [show k + 1 + j = k + j + 1 by omega] at this
    rw [show k + (j + 1) = k + j + 1 by omega, homeLv_skip this, homeLv_stop h j (by omega)]
theorem hm_zero {a b c d : Int} (h : rightB a b c d = true) : hm a b c d 0 = true := by
  have := right_iff.1 h
  rw [hm_iff]
  have e : sd ((0 : Nat) : Int) = 65536 := by decide
  rw [e]; omega

/-- A rectangle is in the box of the cell that has its low corner just if both corners are in one cell. -/
theorem in_home {a b c d : Int} {l : Nat} (hl : l ≤ 16) (h : rightB a b c d = true) :
    inB a b c d (a / sd l * sd l) (b / sd l * sd l) (a / sd l * sd l + sd l - 1) (b / sd l * sd l + sd l - 1) = hm a b c d l := by
  have g := right_iff.1 h
  have hs := sd_pos l
  have l0 : (0 : Int) ≤ l := by omega
  have l1 : (l : Int) ≤ 16 := by omega
  have ga := div_grid l0 l1 (n := a) (by omega) (by omega)
  have gb := div_grid l0 l1 (n := b) (by omega) (by omega)
  have qa := grid_lt l0 l1 ga.1 ga.2
  have qb := grid_lt l0 l1 gb.1 gb.2
  have ia := (div_iff (n := a) (x := a / sd l) hs).2 rfl
  have ib := (div_iff (n := b) (x := b / sd l) hs).2 rfl
  have ic := div_iff (n := c) (x := a / sd l) hs
  have id := div_iff (n := d) (x := b / sd l) hs
  rw [Bool.eq_iff_iff, in_iff, hm_iff]
  rw [h]
  have hr : rightB (a / sd l * sd l) (b / sd l * sd l) (a / sd l * sd l + sd l - 1) (b / sd l * sd l + sd l - 1) = true := by
    rw [right_iff]
    generalize a / sd l * sd l = u at *
    generalize b / sd l * sd l = v at *
    omega
  rw [hr]
  constructor
  · rintro ⟨_, _, h1, h2, h3, h4⟩
    exact ⟨(ic.1 ⟨by omega, h2⟩).symm, (id.1 ⟨by omega, h4⟩).symm⟩
  · rintro ⟨e1, e2⟩
    have c1 := ic.2 e1.symm
    have d1 := id.2 e2.symm
    exact ⟨rfl, rfl, ia.1, c1.2, ib.1, d1.2⟩

end Go.Proofs.Ythoanoaigfcchaa
