/- The counts by codes are those of the points in cells: plain facts. No condition. -/
import Derived.Test.YthoanoaigfcchaaClP
import Derived.Test.YthoanoaigfcchaaCellT3
namespace Go.Proofs.Ythoanoaigfcchaa
open Go.RowKit Go.Maps
set_option linter.unusedSimpArgs false
set_option linter.unusedVariables false
set_option maxRecDepth 2000

/-- The counts are those of a list of points. -/
def FitsF (F : Nat → Nat → Int) (P : List (Int × Int)) : Prop := ∀ l c, l ≤ 16 → F l c = (P.countP fun p => decide (c = ptC p.1 p.2 / 4 ^ (16 - l)) : Nat)
theorem fitsF_nil : FitsF (fun _ _ => 0) [] := fun _ _ _ => rfl
theorem fitsF_put {F : Nat → Nat → Int} {P : List (Int × Int)} (h : FitsF F P) (x y : Int) (i : Nat) : FitsF (stepF F (ptC x y) 17) (P.take i ++ (x, y) :: P.drop i) := fun l c hl => by
  have e : (P.take i ++ (x, y) :: P.drop i).countP (fun p => decide (c = ptC p.1 p.2 / 4 ^ (16 - l))) = P.countP (fun p => decide (c = ptC p.1 p.2 / 4 ^ (16 - l))) + if c = ptC x y / 4 ^ (16 - l) then 1 else 0 := by
    rw [List.countP_append, List.countP_cons]
    conv => rhs; rw [← List.take_append_drop i P, List.countP_append]
    simp only [decide_eq_true_eq]
    omega
  unfold stepF
  rw [h l c hl, e]
  by_cases hc : c = ptC x y / 4 ^ (16 - l)
  · rw [if_pos ⟨by omega, hl, hc⟩, if_pos hc]
    push_cast
    rfl
  · rw [if_neg (fun h => hc h.2.2), if_neg hc]
    simp
theorem sd_nat {l : Nat} (hl : l ≤ 16) : sd (l : Int) = ((2 ^ (16 - l) : Nat) : Int) := by
  unfold sd
  rw [show ((16 : Int) - (l : Int)).toNat = 16 - l by omega]
  push_cast
  rfl
theorem code_inj {k a b a' b' : Nat} (ha : a < 2 ^ k) (hb : b < 2 ^ k) (ha' : a' < 2 ^ k) (hb' : b' < 2 ^ k) (h : codeN k a b = codeN k a' b') : a = a' ∧ b = b' := by
  obtain ⟨h1, h2⟩ := from_back k a b ha hb
  obtain ⟨h3, h4⟩ := from_back k a' b' ha' hb'
  rw [h] at h1 h2
  exact ⟨h1.symm.trans h3, h2.symm.trans h4⟩
theorem cnt_same {F : Nat → Nat → Int} {P : List (Int × Int)} (h : FitsF F P) (hg : GoodP P) (l x y : Int) : cntF F l x y = cntP P l x y := by
  unfold cntF cntP
  by_cases hc : crightB l x y = true
  · rw [if_pos hc, if_pos hc]
    obtain ⟨l0, l1, x0, y0, x1, y1⟩ := cright_iff.1 hc
    obtain ⟨k, rfl⟩ := Int.eq_ofNat_of_zero_le l0
    obtain ⟨a, rfl⟩ := Int.eq_ofNat_of_zero_le x0
    obtain ⟨b, rfl⟩ := Int.eq_ofNat_of_zero_le y0
    simp only [Int.toNat_natCast]
    have hk : k ≤ 16 := by omega
    rw [h k _ hk]
    congr 1
    unfold inL
    refine List.countP_congr fun p hp => ?_
    have hf := hg p hp
    rw [decide_eq_true_eq]
    have hcell := has_cell (l := (k : Int)) (x := (a : Int)) (y := (b : Int)) hc hf
    rw [hcell]
    have hfi := fits_iff.1 hf
    obtain ⟨u, hu⟩ := Int.eq_ofNat_of_zero_le (show 0 ≤ p.1 by omega)
    obtain ⟨v, hv⟩ := Int.eq_ofNat_of_zero_le (show 0 ≤ p.2 by omega)
    rw [hu, hv]
    unfold ptC
    simp only [Int.toNat_natCast]
    rw [code_up (16 - k) u v (by omega), show 16 - (16 - k) = k by omega, sd_nat hk]
    have hp2 : 2 ^ k * 2 ^ (16 - k) = 65536 := by rw [← Nat.pow_add, show k + (16 - k) = 16 by omega]
    have hdiv : ∀ z : Nat, z < 65536 → z / 2 ^ (16 - k) < 2 ^ k := fun z hz => Nat.div_lt_of_lt_mul (by rw [Nat.mul_comm]; omega)
    have hpw : ∀ z : Nat, (z : Int) < pw (k : Int) → z < 2 ^ k := fun z hz => by
      unfold pw at hz
      rw [Int.toNat_natCast] at hz
      have : ((2 : Int) ^ k) = ((2 ^ k : Nat) : Int) := by push_cast; rfl
      omega
    constructor
    · intro e
      obtain ⟨e1, e2⟩ := code_inj (hpw a x1) (hpw b y1) (hdiv u (by omega)) (hdiv v (by omega)) e
      constructor
      · rw [e1]; push_cast; rfl
      · rw [e2]; push_cast; rfl
    · rintro ⟨e1, e2⟩
      have e1' : u / 2 ^ (16 - k) = a := by
        have : ((u / 2 ^ (16 - k) : Nat) : Int) = (a : Int) := by push_cast at e1 ⊢; exact e1
        omega
      have e2' : v / 2 ^ (16 - k) = b := by
        have : ((v / 2 ^ (16 - k) : Nat) : Int) = (b : Int) := by push_cast at e2 ⊢; exact e2
        omega
      rw [e1', e2']
  · rw [if_neg hc, if_neg hc]
theorem put_good {P : List (Int × Int)} (h : GoodP P) {x y : Int} (hf : fitsB x y = true) (i : Nat) : GoodP (P.take i ++ (x, y) :: P.drop i) := fun p hp => by
  rcases List.mem_append.1 hp with h1 | h1
  · exact h p (List.mem_of_mem_take h1)
  · rcases List.mem_cons.1 h1 with rfl | h2
    · exact hf
    · exact h p (List.mem_of_mem_drop h2)
theorem put_perm (P : List (Int × Int)) (p : Int × Int) (i : Nat) : (P.take i ++ p :: P.drop i).Perm (P ++ [p]) := by
  have h1 : (P.take i ++ p :: P.drop i).Perm (p :: (P.take i ++ P.drop i)) := List.perm_middle
  rw [List.take_append_drop] at h1
  exact h1.trans (List.perm_append_singleton p P).symm
theorem put_len (P : List (Int × Int)) (p : Int × Int) {i : Nat} (hi : i ≤ P.length) : (P.take i ++ p :: P.drop i).length = P.length + 1 := by
  simp
  omega
theorem cntP_perm {P Q : List (Int × Int)} (h : P.Perm Q) (l x y : Int) : cntP P l x y = cntP Q l x y := by
  unfold cntP inL
  rw [h.countP_eq]
end Go.Proofs.Ythoanoaigfcchaa
