/- A number's hex text: what it is, and the functions walked. No condition. -/
import Derived.Test.YtjfgjlklbepnjaaNumF
import Derived.Test.YtjfgjlklbepnjaaNumB
namespace Go.Proofs.Ytjfgjlklbepnjaa
open Go.RowKit Go.PlainAid
set_option linter.unusedSimpArgs false
set_option linter.unusedVariables false

/-- A hex digit, and what it is worth. -/
def hexD (x : Nat) : Nat := if x < 10 then 48 + x else 87 + x
def hexB (c : Nat) : Bool := decide ((48 ≤ c ∧ c ≤ 57) ∨ (97 ≤ c ∧ c ≤ 102))
def valX (c : Nat) : Nat := if c ≤ 57 then c - 48 else c - 87
def hexF : Nat → Nat → List Nat
  | 0, _ => []
  | k + 1, n => hexD (n / 16 ^ k % 16) :: hexF k n
def readX (l : List Nat) : Nat := l.foldl (fun a c => 16 * a + valX c) 0
def hexOk (l : List Nat) : Bool := decide (l.length = 16) && l.all hexB
theorem hexF_len : ∀ k n, (hexF k n).length = k
  | 0, _ => rfl
  | k + 1, n => by rw [hexF, List.length_cons, hexF_len k]
theorem hexD_ok {x : Nat} (h : x < 16) : hexB (hexD x) = true ∧ valX (hexD x) = x := by
  unfold hexB hexD valX
  by_cases h1 : x < 10
  · rw [if_pos h1, if_pos (by omega)]
    exact ⟨by simp only [decide_eq_true_eq]; omega, by omega⟩
  · rw [if_neg h1, if_neg (by omega)]
    exact ⟨by simp only [decide_eq_true_eq]; omega, by omega⟩
theorem valX_ok {c : Nat} (h : hexB c = true) : valX c < 16 ∧ hexD (valX c) = c := by
  simp only [hexB, decide_eq_true_eq] at h
  unfold hexD valX
  by_cases h1 : c ≤ 57
  · rw [if_pos h1, if_pos (by omega)]; omega
  · rw [if_neg h1, if_neg (by omega)]; omega
theorem hexF_all : ∀ k n, ∀ x ∈ hexF k n, hexB x = true
  | 0, _, _, h => by cases h
  | k + 1, n, x, h => by
    rw [hexF, List.mem_cons] at h
    rcases h with rfl | h
    · exact (hexD_ok (Nat.mod_lt _ (by omega))).1
    · exact hexF_all k n x h
theorem hexF_get : ∀ k n j, j < k → (hexF k n).getD j 0 = hexD (n / 16 ^ (k - 1 - j) % 16)
  | 0, _, _, h => by omega
  | k + 1, n, 0, _ => by rw [hexF]; simp
  | k + 1, n, j + 1, h => by
    rw [hexF, List.getD_cons_succ, hexF_get k n j (by omega), show k + 1 - 1 - (j + 1) = k - 1 - j by omega]
theorem readX_base : ∀ (l : List Nat) (a : Nat), l.foldl (fun a c => 16 * a + valX c) a = 16 ^ l.length * a + readX l
  | [], a => by simp [readX]
  | c :: l, a => by
    have h : readX (c :: l) = 16 ^ l.length * valX c + readX l := by rw [readX, List.foldl_cons, readX_base l]; simp
    rw [List.foldl_cons, readX_base l, h, List.length_cons, Nat.pow_succ, Nat.mul_add, ← Nat.mul_assoc, Nat.add_assoc]
theorem readX_cons (c : Nat) (l : List Nat) : readX (c :: l) = 16 ^ l.length * valX c + readX l := by
  rw [readX, List.foldl_cons, readX_base]; simp
theorem readX_snoc (l : List Nat) (c : Nat) : readX (l ++ [c]) = 16 * readX l + valX c := by simp [readX]
theorem readX_lt : ∀ l : List Nat, (∀ x ∈ l, hexB x = true) → readX l < 16 ^ l.length
  | [], _ => by simp [readX]
  | c :: l, h => by
    have h1 := (valX_ok (h c (by simp))).1
    have h2 := readX_lt l (fun x hx => h x (by simp [hx]))
    rw [readX_cons, List.length_cons, Nat.pow_succ]
    have := Nat.mul_le_mul_left (16 ^ l.length) (show valX c + 1 ≤ 16 from h1)
    rw [Nat.mul_add, Nat.mul_one] at this
    omega
theorem read_hex (n : Nat) : ∀ k, readX (hexF k n) = n % 16 ^ k
  | 0 => by simp [readX, hexF, Nat.mod_one]
  | k + 1 => by
    rw [hexF, readX_cons, hexF_len, read_hex n k, (hexD_ok (Nat.mod_lt _ (by omega))).2, Nat.pow_succ, Nat.mod_mul]
    omega
theorem hexF_up (v r : Nat) : ∀ (k j : Nat), j ≤ k → hexF j (16 ^ k * v + r) = hexF j r
  | k, 0, _ => rfl
  | k, j + 1, h => by
    rw [hexF, hexF, hexF_up v r k j (by omega)]
    congr 2
    obtain ⟨q, rfl⟩ : ∃ q, k = j + 1 + q := ⟨k - (j + 1), by omega⟩
    rw [Nat.pow_add, Nat.pow_succ, Nat.mul_assoc, Nat.mul_assoc, Nat.mul_add_div (Nat.pow_pos (by omega)), Nat.mul_add_mod]
theorem hex_read : ∀ l : List Nat, (∀ x ∈ l, hexB x = true) → hexF l.length (readX l) = l
  | [], _ => rfl
  | c :: l, h => by
    have h1 := valX_ok (h c (by simp))
    have h2 : ∀ x ∈ l, hexB x = true := fun x hx => h x (by simp [hx])
    have h3 := readX_lt l h2
    rw [readX_cons, List.length_cons, hexF, hexF_up _ _ _ _ (Nat.le_refl _), hex_read l h2, Nat.mul_add_div (Nat.pow_pos (by omega)), Nat.div_eq_of_lt h3, Nat.add_zero, Nat.mod_eq_of_lt h1.1, h1.2]

/-- What reading a hex text answers. -/
def hexV (l : List Nat) : Nat := if hexOk l then readX l else 0
def errX (l : List Nat) : Int := if hexOk l then 0 else 11
theorem hex_no {l : List Nat} (h : hexOk l = false) : hexV l = 0 ∧ errX l = 11 := by simp [hexV, errX, h]
theorem hex_yes {l : List Nat} (h : hexOk l = true) : hexV l = readX l ∧ errX l = 0 := by simp [hexV, errX, h]
theorem hexOk_iff {l : List Nat} : hexOk l = true ↔ l.length = 16 ∧ ∀ j, j < l.length → hexB (l.getD j 0) = true := by
  unfold hexOk
  rw [Bool.and_eq_true, decide_eq_true_eq, List.all_eq_true]
  constructor
  · rintro ⟨h1, h2⟩
    exact ⟨h1, fun j hj => h2 _ (by simp [List.getD, hj])⟩
  · rintro ⟨h1, h2⟩
    refine ⟨h1, fun x hx => ?_⟩
    obtain ⟨j, hj, rfl⟩ := List.getElem_of_mem hx
    have := h2 j hj
    simpa [List.getD, hj] using this
theorem hexOk_hexF (n : Nat) : hexOk (hexF 16 n) = true := by
  unfold hexOk
  rw [Bool.and_eq_true, decide_eq_true_eq, List.all_eq_true]
  exact ⟨hexF_len _ _, hexF_all _ _⟩
theorem hexV_hexF {n : Nat} (h : n < 18446744073709551616) : hexV (hexF 16 n) = n ∧ errX (hexF 16 n) = 0 := by
  obtain ⟨h1, h2⟩ := hex_yes (hexOk_hexF n)
  rw [h1, h2, read_hex]
  exact ⟨Nat.mod_eq_of_lt (by have : (16 : Nat) ^ 16 = 18446744073709551616 := by decide
                              omega), rfl⟩

theorem and15 {E : Int} (h0 : 0 ≤ E) (h1 : E ≤ 18446744073709551615) : bits BinOp.and IntKind.u64 E 15 = E % 16 := by
  have h := bits_and_u64_nat E.toNat 15 (by omega) (by omega)
  rw [show (15 : Nat) = 2 ^ 4 - 1 from rfl, Nat.and_two_pow_sub_one_eq_mod] at h
  rw [Int.toNat_of_nonneg h0] at h
  have h2 : ((E.toNat % 2 ^ 4 : Nat) : Int) = E % 16 := by omega
  exact h.trans h2

/-- The row while it is filled from its end. -/
def rowH (n k j : Nat) : Int := if 16 - k ≤ j ∧ j < 16 then ((hexF 16 n).getD j 0 : Nat) else 0
theorem rowH_zero (n j : Nat) : rowH n 0 j = 0 := by unfold rowH; rw [if_neg (by omega)]
theorem rowH_all {n j : Nat} (h : j < 16) : rowH n 16 j = ((hexF 16 n).getD j 0 : Nat) := by unfold rowH; rw [if_pos (by omega)]
theorem pow4 (k : Nat) : (2 : Int) ^ (4 * k) = 16 ^ k := by rw [Int.pow_mul]; rfl
theorem rowH_step {n k j : Nat} (hk : k < 16) : rowH n (k + 1) j = if j = 15 - k then ((hexD (n / 16 ^ k % 16) : Nat) : Int) else rowH n k j := by
  unfold rowH
  by_cases e : j = 15 - k
  · subst e
    rw [if_pos (by omega), if_pos rfl, hexF_get _ _ _ (by omega), show 16 - 1 - (15 - k) = k by omega]
  · rw [if_neg e]
    by_cases h : 16 - k ≤ j ∧ j < 16
    · rw [if_pos h, if_pos (by omega)]
    · rw [if_neg h, if_neg (by omega)]

theorem hex_cut {k : Nat} (h : k < 16) : (⟨#[48, 49, 50, 51, 52, 53, 54, 55, 56, 57, 97, 98, 99, 100, 101, 102]⟩ : ByteArray).extract k (k + 1) = txt [hexD k] := by
  match k, h with
  | 0, _ | 1, _ | 2, _ | 3, _ | 4, _ | 5, _ | 6, _ | 7, _ | 8, _ | 9, _ | 10, _ | 11, _ | 12, _ | 13, _ | 14, _ | 15, _ => rfl
  | n + 16, h => omega
end Go.Proofs.Ytjfgjlklbepnjaa
