/- The number of a text, as the document has it: the function walked. No condition. -/
import Derived.Test.YtjfgjlklbepnjaaNumE
namespace Go.Proofs.Ytjfgjlklbepnjaa
open Go.RowKit Go.PlainAid
set_option linter.unusedSimpArgs false
set_option linter.unusedVariables false

/-- Rows of digits of one length are in the order of their numbers. -/
theorem digits_order : ∀ (a b : List UInt8), a.length = b.length → (∀ x ∈ a.map (·.toNat), digitB x = true) → (∀ x ∈ b.map (·.toNat), digitB x = true) →
    (Op.bytesLess a b = true → numL (a.map (·.toNat)) < numL (b.map (·.toNat))) ∧ (Op.bytesLess a b = false → a ≠ b → numL (b.map (·.toNat)) < numL (a.map (·.toNat)))
  | [], [], _, _, _ => ⟨fun h => by simp [Op.bytesLess] at h, fun _ h => absurd rfl h⟩
  | x :: a, y :: b, hl, ha, hb => by
    have hl' : a.length = b.length := by simpa using hl
    have ha' : ∀ z ∈ a.map (·.toNat), digitB z = true := fun z hz => ha z (by rw [List.map_cons]; exact List.mem_cons_of_mem _ hz)
    have hb' : ∀ z ∈ b.map (·.toNat), digitB z = true := fun z hz => hb z (by rw [List.map_cons]; exact List.mem_cons_of_mem _ hz)
    obtain ⟨i1, i2⟩ := digits_order a b hl' ha' hb'
    have hx := ha x.toNat (by simp)
    have hy := hb y.toNat (by simp)
    simp only [digitB, decide_eq_true_eq] at hx hy
    have la := numL_lt _ ha'
    have lb := numL_lt _ hb'
    simp only [List.length_map] at la lb
    rw [List.map_cons, List.map_cons, numL_cons, numL_cons]
    simp only [List.length_map]
    rw [hl'] at la ⊢
    have step : ∀ p q : Nat, p < q → 10 ^ b.length * p + 10 ^ b.length ≤ 10 ^ b.length * q := fun p q h => by
      have := Nat.mul_le_mul_left (10 ^ b.length) (show p + 1 ≤ q from h)
      rwa [Nat.mul_add, Nat.mul_one] at this
    constructor
    · intro h
      simp only [Op.bytesLess, Bool.or_eq_true, decide_eq_true_eq, Bool.and_eq_true, beq_iff_eq] at h
      rcases h with h | ⟨h, h2⟩
      · have := step (x.toNat - 48) (y.toNat - 48) (by have : x.toNat < y.toNat := h; omega)
        omega
      · subst h
        have := i1 h2
        omega
    · intro h hne
      simp only [Op.bytesLess, Bool.or_eq_false_iff, decide_eq_false_iff_not, Bool.and_eq_false_iff] at h
      obtain ⟨h1, h2⟩ := h
      have h1' : y.toNat ≤ x.toNat := by
        rcases Nat.lt_or_ge x.toNat y.toNat with h | h
        · exact absurd h h1
        · exact h
      rcases Nat.lt_or_eq_of_le h1' with h | h
      · have := step (y.toNat - 48) (x.toNat - 48) (by omega)
        omega
      · have e : x = y := (UInt8.toNat_inj.1 h).symm
        subst e
        have := i2 (by rcases h2 with h2 | h2; · simp at h2
                       · exact h2) (fun e => hne (by rw [e]))
        omega

/-- The greatest number's text. -/
def mostL : List UInt8 := [49, 56, 52, 52, 54, 55, 52, 52, 48, 55, 51, 55, 48, 57, 53, 53, 49, 54, 49, 53]
theorem most_num : numL (mostL.map (·.toNat)) = 18446744073709551615 := by decide
theorem most_dig : ∀ x ∈ mostL.map (·.toNat), digitB x = true := by decide
theorem bl_toList (s : ByteArray) : bl s = s.toList.map (·.toNat) := by rw [ByteArray.toList_eq]; rfl
theorem most_gt {s : ByteArray} (hs : s.size = 20) (hd : ∀ x ∈ bl s, digitB x = true) :
    ((!Op.bytesLess s.toList mostL && !(s.toList == mostL)) = true → 18446744073709551616 ≤ numL (bl s)) ∧ ((!Op.bytesLess s.toList mostL && !(s.toList == mostL)) = false → numL (bl s) < 18446744073709551616) := by
  rw [bl_toList] at hd ⊢
  have hl : s.toList.length = mostL.length := by
    have := bl_len s
    rw [bl_toList, List.length_map] at this
    rw [this, hs]; rfl
  obtain ⟨h1, h2⟩ := digits_order s.toList mostL hl hd most_dig
  rw [most_num] at h1 h2
  constructor
  · intro h
    simp only [Bool.and_eq_true, Bool.not_eq_true', beq_eq_false_iff_ne, ne_eq] at h
    have := h2 h.1 h.2
    omega
  · intro h
    simp only [Bool.and_eq_false_iff, Bool.not_eq_false', beq_iff_eq] at h
    rcases h with h | h
    · have := h1 h; omega
    · rw [h, most_num]; omega

theorem short_num {l : List Nat} (hd : ∀ x ∈ l, digitB x = true) (h : l.length ≤ 19) : numL l < 18446744073709551616 := by
  have h1 := numL_lt l hd
  have h2 : 10 ^ l.length ≤ 10 ^ 19 := Nat.pow_le_pow_right (by omega) h
  have h3 : (10 : Nat) ^ 19 = 10000000000000000000 := by decide
  omega
theorem long_text {l : List Nat} (h : 20 < l.length) : textB l = false := by
  rw [Bool.eq_false_iff]
  intro ht
  have := text_len ht
  omega

end Go.Proofs.Ytjfgjlklbepnjaa
