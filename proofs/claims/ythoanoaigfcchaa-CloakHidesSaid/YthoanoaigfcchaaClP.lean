/- How many points are in cells and pairs: plain facts. No condition. -/
import Derived.Test.YthoanoaigfcchaaClR
import Derived.Test.YthoanoaigfcchaaClD
namespace Go.Proofs.Ythoanoaigfcchaa
open Go.RowKit Go.Maps
set_option linter.unusedSimpArgs false
set_option linter.unusedVariables false
set_option maxRecDepth 2000

/-- How many points of a list are in a cell. -/
def cntP (P : List (Int × Int)) (l x y : Int) : Int := if crightB l x y = true then (inL P (x * sd l) (y * sd l) (x * sd l + sd l - 1) (y * sd l + sd l - 1) : Nat) else 0
def GoodP (P : List (Int × Int)) : Prop := ∀ p ∈ P, fitsB p.1 p.2 = true
theorem has_cell {l x y px py : Int} (hc : crightB l x y = true) (hf : fitsB px py = true) : hasB (x * sd l) (y * sd l) (x * sd l + sd l - 1) (y * sd l + sd l - 1) px py = true ↔ px / sd l = x ∧ py / sd l = y := by
  have hs := sd_pos l
  have hr := box_right hc
  have h1 : hasB (x * sd l) (y * sd l) (x * sd l + sd l - 1) (y * sd l + sd l - 1) px py = true ↔ (x * sd l ≤ px ∧ px ≤ x * sd l + sd l - 1) ∧ (y * sd l ≤ py ∧ py ≤ y * sd l + sd l - 1) := by
    rw [has_iff]
    simp only [hr, true_and]
    constructor
    · rintro ⟨a, b, c, d⟩; exact ⟨⟨a, b⟩, c, d⟩
    · rintro ⟨⟨a, b⟩, c, d⟩; exact ⟨a, b, c, d⟩
  rw [h1, div_iff hs, div_iff hs]
theorem countP_add {α : Type} (p q r : α → Bool) : ∀ (L : List α), (∀ a ∈ L, (r a = true ↔ p a = true ∨ q a = true) ∧ ¬ (p a = true ∧ q a = true)) → L.countP r = L.countP p + L.countP q
  | [], _ => rfl
  | a :: L, h => by
    have ih := countP_add p q r L (fun b hb => h b (by simp [hb]))
    have ha := h a (by simp)
    rw [List.countP_cons, List.countP_cons, List.countP_cons, ih]
    cases hp : p a <;> cases hq : q a <;> cases hr : r a <;> simp [hp, hq, hr] at ha ⊢ <;> omega
theorem other_cases (n : Int) (h : 0 ≤ n) : (otherI n = n + 1 ∧ n % 2 = 0) ∨ (otherI n = n - 1 ∧ n % 2 = 1) := by
  unfold otherI
  split <;> omega
theorem pair_axis {s n v : Int} (hs : 0 < s) (hn : 0 ≤ n) : (min (n * s) (otherI n * s) ≤ v ∧ v ≤ max (n * s + s - 1) (otherI n * s + s - 1)) ↔ (v / s = n ∨ v / s = otherI n) := by
  rw [← div_iff hs, ← div_iff hs]
  rcases other_cases n hn with ⟨e, _⟩ | ⟨e, _⟩
  · rw [e, Int.add_mul, Int.one_mul]
    omega
  · rw [e, Int.sub_mul, Int.one_mul]
    omega
theorem hull_right {l x y x' y' : Int} (h : crightB l x y = true) (h' : crightB l x' y' = true) : rightB (hu l x y x' y' 0) (hu l x y x' y' 1) (hu l x y x' y' 2) (hu l x y x' y' 3) = true := by
  have h1 := right_iff.1 (box_right h)
  have h2 := right_iff.1 (box_right h')
  rw [right_iff]
  simp only [hu]
  omega
/-- A pair has the points of both. -/
theorem inL_beside {P : List (Int × Int)} (hg : GoodP P) {l x y : Int} (hc : crightB l x y = true) (hl : 0 < l) :
    (inL P (hu l x y (otherI x) y 0) (hu l x y (otherI x) y 1) (hu l x y (otherI x) y 2) (hu l x y (otherI x) y 3) : Int) = cntP P l x y + cntP P l (otherI x) y := by
  have hc2 := (cright_beside hc hl).1
  have hs := sd_pos l
  have x0 := (cright_iff.1 hc).2.2.1
  have hx := other_cases x x0
  unfold cntP
  rw [if_pos hc, if_pos hc2]
  unfold inL
  rw [countP_add (fun p => hasB (x * sd l) (y * sd l) (x * sd l + sd l - 1) (y * sd l + sd l - 1) p.1 p.2) (fun p => hasB (otherI x * sd l) (y * sd l) (otherI x * sd l + sd l - 1) (y * sd l + sd l - 1) p.1 p.2) _ P (fun p hp => ?_)]
  · push_cast
    rfl
  · have hf := hg p hp
    simp only [has_cell hc hf, has_cell hc2 hf]
    refine ⟨?_, by rintro ⟨⟨a, _⟩, b, _⟩; omega⟩
    have hr := hull_right hc hc2
    have h1 : hasB (hu l x y (otherI x) y 0) (hu l x y (otherI x) y 1) (hu l x y (otherI x) y 2) (hu l x y (otherI x) y 3) p.1 p.2 = true ↔ (min (x * sd l) (otherI x * sd l) ≤ p.1 ∧ p.1 ≤ max (x * sd l + sd l - 1) (otherI x * sd l + sd l - 1)) ∧ (y * sd l ≤ p.2 ∧ p.2 ≤ y * sd l + sd l - 1) := by
      rw [has_iff]
      simp only [hr, true_and]
      simp only [hu]
      omega
    rw [h1, pair_axis hs x0, div_iff hs]
    constructor
    · rintro ⟨a | a, b⟩
      · exact .inl ⟨a, b⟩
      · exact .inr ⟨a, b⟩
    · rintro (⟨a, b⟩ | ⟨a, b⟩)
      · exact ⟨.inl a, b⟩
      · exact ⟨.inr a, b⟩
theorem inL_over {P : List (Int × Int)} (hg : GoodP P) {l x y : Int} (hc : crightB l x y = true) (hl : 0 < l) :
    (inL P (hu l x y x (otherI y) 0) (hu l x y x (otherI y) 1) (hu l x y x (otherI y) 2) (hu l x y x (otherI y) 3) : Int) = cntP P l x y + cntP P l x (otherI y) := by
  have hc2 := (cright_beside hc hl).2
  have hs := sd_pos l
  have y0 := (cright_iff.1 hc).2.2.2.1
  have hy := other_cases y y0
  unfold cntP
  rw [if_pos hc, if_pos hc2]
  unfold inL
  rw [countP_add (fun p => hasB (x * sd l) (y * sd l) (x * sd l + sd l - 1) (y * sd l + sd l - 1) p.1 p.2) (fun p => hasB (x * sd l) (otherI y * sd l) (x * sd l + sd l - 1) (otherI y * sd l + sd l - 1) p.1 p.2) _ P (fun p hp => ?_)]
  · push_cast
    rfl
  · have hf := hg p hp
    simp only [has_cell hc hf, has_cell hc2 hf]
    refine ⟨?_, by rintro ⟨⟨_, a⟩, _, b⟩; omega⟩
    have hr := hull_right hc hc2
    have h1 : hasB (hu l x y x (otherI y) 0) (hu l x y x (otherI y) 1) (hu l x y x (otherI y) 2) (hu l x y x (otherI y) 3) p.1 p.2 = true ↔ (x * sd l ≤ p.1 ∧ p.1 ≤ x * sd l + sd l - 1) ∧ (min (y * sd l) (otherI y * sd l) ≤ p.2 ∧ p.2 ≤ max (y * sd l + sd l - 1) (otherI y * sd l + sd l - 1)) := by
      rw [has_iff]
      simp only [hr, true_and]
      simp only [hu]
      omega
    rw [h1, pair_axis hs y0, div_iff hs]
    constructor
    · rintro ⟨b, a | a⟩
      · exact .inl ⟨b, a⟩
      · exact .inr ⟨b, a⟩
    · rintro (⟨b, a⟩ | ⟨b, a⟩)
      · exact ⟨b, .inl a⟩
      · exact ⟨b, .inr a⟩
/-- A code of a level, of the lowest one's. -/
theorem code_up : ∀ (j x y : Nat), j ≤ 16 → codeN 16 x y / 4 ^ j = codeN (16 - j) (x / 2 ^ j) (y / 2 ^ j)
  | 0, x, y, _ => by simp
  | j + 1, x, y, h => by
    rw [Nat.pow_succ, ← Nat.div_div_eq_div_mul, code_up j x y (by omega)]
    have h1 := code_step j (16 - (j + 1)) x y
    rw [show 16 - (j + 1) + 1 = 16 - j by omega] at h1
    rw [h1]
    omega
end Go.Proofs.Ythoanoaigfcchaa
