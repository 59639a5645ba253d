/- Children part a cell's box; codes and back: plain laws. No condition. -/
import Derived.Test.YthoanoaigfcchaaCellT
import Derived.Test.YthoanoaigfcchaaCellB
namespace Go.Proofs.Ythoanoaigfcchaa
set_option linter.unusedSimpArgs false
set_option linter.unusedVariables false

theorem pw_next {l : Int} (h : 0 ≤ l) : pw (l + 1) = pw l * 2 := by
  unfold pw
  rw [show (l + 1).toNat = l.toNat + 1 by omega, Int.pow_succ]
theorem sd_next {l : Int} (h : l < 16) : sd l = sd (l + 1) * 2 := by
  unfold sd
  rw [show (16 - l).toNat = (16 - (l + 1)).toNat + 1 by omega, Int.pow_succ]
theorem child_right {l x y i : Int} (h : crightB l x y = true) (hl : l < 16) (h0 : 0 ≤ i) (h3 : i ≤ 3) : crightB (l + 1) (2 * x + i % 2) (2 * y + i / 2) = true := by
  obtain ⟨l0, l1, x0, y0, x1, y1⟩ := cright_iff.1 h
  have e := pw_next l0
  rw [cright_iff, e]
  omega
theorem box_area {u v s : Int} (h : rightB u v (u + s - 1) (v + s - 1) = true) : areaI u v (u + s - 1) (v + s - 1) = s * s := by
  unfold areaI
  rw [if_pos h, show u + s - 1 - u + 1 = s by omega, show v + s - 1 - v + 1 = s by omega]
theorem box_has {l x y px py : Int} (h : crightB l x y = true) : hasB (x * sd l) (y * sd l) (x * sd l + sd l - 1) (y * sd l + sd l - 1) px py = decide (px / sd l = x ∧ py / sd l = y) := by
  have r := box_right h
  rw [Bool.eq_iff_iff, has_iff, r, decide_eq_true_eq, ← div_iff (sd_pos l), ← div_iff (sd_pos l)]
  simp only [true_and]
  omega
def oneI (b : Bool) : Int := if b then 1 else 0
def cntI (f : Nat → Bool) : Nat → Int
  | 0 => 0
  | k + 1 => cntI f k + oneI (f k)
theorem cntI_bd (f : Nat → Bool) : ∀ k, 0 ≤ cntI f k ∧ cntI f k ≤ k
  | 0 => by simp [cntI]
  | k + 1 => by
    have := cntI_bd f k
    rw [cntI]; unfold oneI
    split <;> omega
theorem half_iff {px s u : Int} (hs : 0 < s) : px / (s * 2) = px / s / 2 := div_div' hs
/-- The children of a cell part its box. -/
theorem parts_plain {l x y px py : Int} (h : crightB l x y = true) (hl : l < 16) :
    (∀ k : Nat, k < 4 → crightB (l + 1) (2 * x + (k : Int) % 2) (2 * y + (k : Int) / 2) = true
      ∧ aboveB (l + 1) (2 * x + (k : Int) % 2) (2 * y + (k : Int) / 2) l = true ∧ (2 * x + (k : Int) % 2) / 2 = x ∧ (2 * y + (k : Int) / 2) / 2 = y
      ∧ inB ((2 * x + (k : Int) % 2) * sd (l + 1)) ((2 * y + (k : Int) / 2) * sd (l + 1)) ((2 * x + (k : Int) % 2) * sd (l + 1) + sd (l + 1) - 1) ((2 * y + (k : Int) / 2) * sd (l + 1) + sd (l + 1) - 1) (x * sd l) (y * sd l) (x * sd l + sd l - 1) (y * sd l + sd l - 1) = true
      ∧ areaI ((2 * x + (k : Int) % 2) * sd (l + 1)) ((2 * y + (k : Int) / 2) * sd (l + 1)) ((2 * x + (k : Int) % 2) * sd (l + 1) + sd (l + 1) - 1) ((2 * y + (k : Int) / 2) * sd (l + 1) + sd (l + 1) - 1) = sd (l + 1) * sd (l + 1))
    ∧ areaI (x * sd l) (y * sd l) (x * sd l + sd l - 1) (y * sd l + sd l - 1) = 4 * (sd (l + 1) * sd (l + 1))
    ∧ ((cntI (fun k => hasB ((2 * x + (k : Int) % 2) * sd (l + 1)) ((2 * y + (k : Int) / 2) * sd (l + 1)) ((2 * x + (k : Int) % 2) * sd (l + 1) + sd (l + 1) - 1) ((2 * y + (k : Int) / 2) * sd (l + 1) + sd (l + 1) - 1) px py) 4 = 0 ∧ hasB (x * sd l) (y * sd l) (x * sd l + sd l - 1) (y * sd l + sd l - 1) px py = false)
      ∨ (cntI (fun k => hasB ((2 * x + (k : Int) % 2) * sd (l + 1)) ((2 * y + (k : Int) / 2) * sd (l + 1)) ((2 * x + (k : Int) % 2) * sd (l + 1) + sd (l + 1) - 1) ((2 * y + (k : Int) / 2) * sd (l + 1) + sd (l + 1) - 1) px py) 4 = 1 ∧ hasB (x * sd l) (y * sd l) (x * sd l + sd l - 1) (y * sd l + sd l - 1) px py = true)) := by
  obtain ⟨l0, l1, x0, y0, x1, y1⟩ := cright_iff.1 h
  have hs := sd_pos (l + 1)
  have hn := sd_next hl
  have hb := box_right h
  have hc : ∀ k : Nat, k < 4 → crightB (l + 1) (2 * x + (k : Int) % 2) (2 * y + (k : Int) / 2) = true := fun k hk => child_right h hl (by omega) (by omega)
  refine ⟨fun k hk => ⟨hc k hk, ?_, by omega, by omega, ?_, box_area (box_right (hc k hk))⟩, ?_, ?_⟩
  · rw [above_iff]; exact ⟨hc k hk, l0, by omega⟩
  · rw [in_iff]
    have e1 := under_box (x := 2 * x + (k : Int) % 2) (q := 2) hs (by omega)
    have e2 := under_box (x := 2 * y + (k : Int) / 2) (q := 2) hs (by omega)
    rw [show (2 * x + (k : Int) % 2) / 2 = x by omega, ← hn] at e1
    rw [show (2 * y + (k : Int) / 2) / 2 = y by omega, ← hn] at e2
    exact ⟨box_right (hc k hk), hb, e1.1, e1.2, e2.1, e2.2⟩
  · rw [box_area hb, hn]
    rw [show sd (l + 1) * 2 * (sd (l + 1) * 2) = sd (l + 1) * sd (l + 1) * (2 * 2) by generalize sd (l + 1) = q; rw [Int.mul_assoc, Int.mul_comm 2, Int.mul_assoc q 2 2, Int.mul_assoc]]
    omega
  · have hp : px / sd l = px / sd (l + 1) / 2 := by rw [hn]; exact div_div' hs
    have hq : py / sd l = py / sd (l + 1) / 2 := by rw [hn]; exact div_div' hs
    rw [box_has h, hp, hq]
    have h0 := box_has (px := px) (py := py) (hc 0 (by omega))
    have h1 := box_has (px := px) (py := py) (hc 1 (by omega))
    have h2 := box_has (px := px) (py := py) (hc 2 (by omega))
    have h3 := box_has (px := px) (py := py) (hc 3 (by omega))
    simp only [cntI, h0, h1, h2, h3]
    generalize px / sd (l + 1) = u
    generalize py / sd (l + 1) = v
    unfold oneI
    simp only [decide_eq_true_eq, decide_eq_false_iff_not]
    by_cases hu : u / 2 = x ∧ v / 2 = y
    · right
      refine ⟨?_, hu⟩
      obtain ⟨hu, hv⟩ := hu
      repeat' split
      all_goals omega
    · left
      refine ⟨?_, hu⟩
      repeat' split
      all_goals omega

/-- The bits of a code at the even places, and at the odd ones. -/
def fxN (c : Nat) : Nat → Nat
  | 0 => 0
  | k + 1 => 2 ^ k * (c / 2 ^ (2 * k) % 2) + fxN c k
def fyN (c : Nat) : Nat → Nat
  | 0 => 0
  | k + 1 => 2 ^ k * (c / 2 ^ (2 * k + 1) % 2) + fyN c k
theorem fxN_lt (c : Nat) : ∀ k, fxN c k < 2 ^ k
  | 0 => by simp [fxN]
  | k + 1 => by
    have := fxN_lt c k
    rw [fxN, Nat.pow_succ]
    rcases Nat.mod_two_eq_zero_or_one (c / 2 ^ (2 * k)) with e | e <;> rw [e] <;> omega
theorem fyN_lt (c : Nat) : ∀ k, fyN c k < 2 ^ k
  | 0 => by simp [fyN]
  | k + 1 => by
    have := fyN_lt c k
    rw [fyN, Nat.pow_succ 2 k]
    rcases Nat.mod_two_eq_zero_or_one (c / 2 ^ (2 * k + 1)) with e | e <;> rw [e] <;> omega
/-- The lowest bit set apart. -/
theorem fxN_low (c : Nat) : ∀ k, fxN c (k + 1) = 2 * fxN (c / 4) k + c % 2
  | 0 => by simp [fxN]
  | k + 1 => by
    rw [fxN, fxN_low c k, fxN]
    have e : c / 2 ^ (2 * (k + 1)) = c / 4 / 2 ^ (2 * k) := by
      rw [Nat.div_div_eq_div_mul, show 2 * (k + 1) = 2 + 2 * k by omega, Nat.pow_add]
    rw [e, Nat.pow_succ, Nat.mul_add, Nat.mul_comm (2 ^ k) 2, Nat.mul_assoc]
    omega
theorem fyN_low (c : Nat) : ∀ k, fyN c (k + 1) = 2 * fyN (c / 4) k + c / 2 % 2
  | 0 => by simp [fyN]
  | k + 1 => by
    rw [fyN, fyN_low c k, fyN]
    have e : c / 2 ^ (2 * (k + 1) + 1) = c / 4 / 2 ^ (2 * k + 1) := by
      rw [Nat.div_div_eq_div_mul, show 2 * (k + 1) + 1 = 2 + (2 * k + 1) by omega, Nat.pow_add]
    rw [e, Nat.pow_succ, Nat.mul_add, Nat.mul_comm (2 ^ k) 2, Nat.mul_assoc]
    omega
end Go.Proofs.Ythoanoaigfcchaa
