/- The layer's statements walked: bytes. No condition. -/
import Derived.Test.YtjfgjlklbepnjaaNumL1
namespace Go.Proofs.Ytjfgjlklbepnjaa
open Go.RowKit Go.PlainAid
set_option linter.unusedSimpArgs false
set_option linter.unusedVariables false
set_option maxRecDepth 2000

theorem i64_lim {a : Int} (h : (Lit.int .i64 a).wf = true) : -9223372036854775808 ≤ a ∧ a ≤ 9223372036854775807 := by
  simp only [Lit.wf, Bool.and_eq_true, decide_eq_true_eq] at h
  exact h

/-! ### bytes of a number, again as lists -/
theorem putI_nat (n wide j : Nat) : putI n wide j = ((n / 256 ^ (wide - 1 - j) % 256 : Nat) : Int) := by unfold putI; push_cast; rfl
theorem putI_list {n wide j : Nat} (h : j < wide) : putI n wide j = atI (putL n wide) j := by
  rw [putI_nat]; unfold atI; rw [putL_get _ _ _ h]
theorem putI_byte (n : Int) (wide j : Nat) : 0 ≤ putI n wide j ∧ putI n wide j ≤ 255 := by unfold putI; omega
/-- The number of the bytes of a list. -/
theorem getF_list (l : List Nat) : ∀ k, k ≤ l.length → getF (atI l) k = ((getL (l.take k) : Nat) : Int)
  | 0, _ => by simp [getF, getL]
  | k + 1, h => by
    rw [getF, getF_list l k (by omega), take_next (show k < l.length from h), getL_snoc]
    unfold atI; push_cast; rfl
theorem getF_congr {f g : Nat → Int} : ∀ {k : Nat}, (∀ j, j < k → f j = g j) → getF f k = getF g k
  | 0, _ => rfl
  | k + 1, h => by rw [getF, getF, getF_congr (fun j hj => h j (by omega)), h k (by omega)]
theorem getF_put {n wide : Nat} (h : n < 256 ^ wide) : getF (putI n wide) wide = n := by
  rw [getF_congr (g := atI (putL n wide)) (fun j hj => putI_list hj), getF_list _ _ (by rw [putL_len]; exact Nat.le_refl _)]
  rw [show (putL n wide).take wide = putL n wide by conv => lhs; arg 1; rw [← putL_len wide n]
                                                    exact List.take_length, get_put, Nat.mod_eq_of_lt h]
theorem put_fit {n wide : Nat} (h : n < 256 ^ wide) : (n : Int) / (2 : Int) ^ (8 * wide) = 0 := by
  rw [pow8]
  have : ((256 : Int) ^ wide) = ((256 ^ wide : Nat) : Int) := by push_cast; rfl
  rw [this, ← Int.natCast_ediv, Nat.div_eq_of_lt h]; rfl
theorem put_over {n wide : Nat} (h : 256 ^ wide ≤ n) : (n : Int) / (2 : Int) ^ (8 * wide) > 0 := by
  rw [pow8]
  have : ((256 : Int) ^ wide) = ((256 ^ wide : Nat) : Int) := by push_cast; rfl
  rw [this, ← Int.natCast_ediv]
  have := Nat.div_pos h (Nat.pow_pos (by omega))
  omega
theorem ok_fit {n wide : Nat} (h1 : 1 ≤ wide) (h : n < 256 ^ wide) : decide ((n : Int) / (256 : Int) ^ (wide - 1) < 256) = true := by
  have e : ((256 : Int) ^ (wide - 1)) = ((256 ^ (wide - 1) : Nat) : Int) := by push_cast; rfl
  rw [e, ← Int.natCast_ediv, decide_eq_true_eq]
  have := Nat.div_lt_of_lt_mul (show n < 256 ^ (wide - 1) * 256 by rwa [← Nat.pow_succ, show (wide - 1).succ = wide by omega])
  omega
theorem ok_over {n wide : Nat} (h1 : 1 ≤ wide) (h : 256 ^ wide ≤ n) : decide ((n : Int) / (256 : Int) ^ (wide - 1) < 256) = false := by
  have e : ((256 : Int) ^ (wide - 1)) = ((256 ^ (wide - 1) : Nat) : Int) := by push_cast; rfl
  rw [e, ← Int.natCast_ediv, decide_eq_false_iff_not]
  have : 256 ≤ n / 256 ^ (wide - 1) := by
    rw [Nat.le_div_iff_mul_le (Nat.pow_pos (by omega)), Nat.mul_comm, ← Nat.pow_succ, show (wide - 1).succ = wide by omega]
    exact h
  omega
theorem same_self (n : Nat) (f : Nat → Int) : sameF n n f f = true := sameF_true rfl (fun _ _ => rfl)
theorem same_puts {a b wide : Nat} (ha : a < 256 ^ wide) (hb : b < 256 ^ wide) : sameF wide wide (putI a wide) (putI b wide) = decide (a = b) := by
  by_cases e : a = b
  · subst e; rw [same_self]; simp
  · rw [decide_eq_false e, Bool.eq_false_iff]
    intro h
    apply e
    unfold sameF at h
    simp only [Bool.and_eq_true, decide_eq_true_eq, List.all_eq_true, List.mem_range, beq_iff_eq] at h
    have h1 := getF_put ha
    rw [getF_congr (g := putI b wide) h.2, getF_put hb] at h1
    omega
theorem below_list : ∀ (a b : List Nat) (f g : Nat → Int) (k : Nat), a.length = b.length → (∀ j, j < a.length → f (k + j) = atI a j) → (∀ j, j < b.length → g (k + j) = atI b j) → belowF a.length f g k = belowL a b
  | [], [], _, _, _, _, _, _ => rfl
  | x :: a, y :: b, f, g, k, hl, hf, hg => by
    have f0 : f k = (x : Int) := by have := hf 0 (by simp); simpa [atI] using this
    have g0 : g k = (y : Int) := by have := hg 0 (by simp); simpa [atI] using this
    have ih := below_list a b f g (k + 1) (by simpa using hl)
      (fun j hj => by have := hf (j + 1) (by simpa using hj); rw [show k + (j + 1) = k + 1 + j by omega] at this; simpa [atI] using this)
      (fun j hj => by have := hg (j + 1) (by simpa using hj); rw [show k + (j + 1) = k + 1 + j by omega] at this; simpa [atI] using this)
    rw [List.length_cons, belowF, belowL, f0, g0, ih]
    by_cases e : x = y
    · rw [if_pos e, if_pos (by omega)]
    · rw [if_neg e, if_neg (by omega)]; congr 1; rw [eq_iff_iff]; omega
theorem below_puts {a b wide : Nat} (ha : a < 256 ^ wide) (hb : b < 256 ^ wide) : belowF wide (putI a wide) (putI b wide) 0 = decide (a < b) := by
  have h := below_list (putL a wide) (putL b wide) (putI a wide) (putI b wide) 0 (by rw [putL_len, putL_len])
    (fun j hj => by rw [putL_len] at hj; rw [Nat.zero_add]; exact putI_list hj) (fun j hj => by rw [putL_len] at hj; rw [Nat.zero_add]; exact putI_list hj)
  rw [putL_len] at h
  rw [h, below_get _ _ (by rw [putL_len, putL_len]) (putL_lt _ _) (putL_lt _ _), get_put, get_put, Nat.mod_eq_of_lt ha, Nat.mod_eq_of_lt hb]

/-- Is a width right for a number? -/
def Fits (n : Nat) (wide : Int) : Prop := 1 ≤ wide ∧ wide ≤ 8 ∧ n < 256 ^ wide.toNat
theorem fit_cases (n : Nat) (wide : Int) (hn : n < 18446744073709551616) : Fits n wide ∨ (¬ Fits n wide ∧ (wide < 1 ∨ 8 < wide ∨ (1 ≤ wide ∧ wide < 8 ∧ (n : Int) / (2 : Int) ^ (8 * wide.toNat) > 0))) := by
  by_cases h : Fits n wide
  · exact .inl h
  · refine .inr ⟨h, ?_⟩
    by_cases h1 : wide < 1
    · exact .inl h1
    · by_cases h2 : 8 < wide
      · exact .inr (.inl h2)
      · have h3 : 256 ^ wide.toNat ≤ n := by
          rcases Nat.lt_or_ge n (256 ^ wide.toNat) with h3 | h3
          · exact absurd ⟨by omega, by omega, h3⟩ h
          · exact h3
        refine .inr (.inr ⟨by omega, ?_, put_over h3⟩)
        rcases Int.lt_or_le wide 8 with h4 | h4
        · exact h4
        · obtain rfl : wide = 8 := by omega
          have : (256 : Nat) ^ 8 = 18446744073709551616 := by decide
          simp at h3
          omega
end Go.Proofs.Ytjfgjlklbepnjaa
