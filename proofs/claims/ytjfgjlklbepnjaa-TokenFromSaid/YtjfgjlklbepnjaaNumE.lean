/- The number of a text: the functions walked. No condition. -/
import Derived.Test.YtjfgjlklbepnjaaNumD
import Derived.PlainAid
namespace Go.Proofs.Ytjfgjlklbepnjaa
open Go.RowKit Go.PlainAid
set_option linter.unusedSimpArgs false
set_option linter.unusedVariables false

/-- A string's bytes. -/
def bl (s : ByteArray) : List Nat := s.data.toList.map (·.toNat)
theorem bl_len (s : ByteArray) : (bl s).length = s.size := by unfold bl; rw [List.length_map, Array.length_toList]; rfl
theorem bl_small (s : ByteArray) : Small (bl s) := by
  intro x hx
  simp only [bl, List.mem_map] at hx
  obtain ⟨c, _, rfl⟩ := hx
  exact c.toNat_lt
theorem bl_bt (s : ByteArray) (k : Nat) : bt s k = (((bl s).getD k 0 : Nat) : Int) := by
  unfold bt bl
  by_cases h : k < s.size
  · rw [dif_pos h]
    have h' : k < s.data.size := h
    rw [List.getD_eq_getElem?_getD, List.getElem?_map, Array.getElem?_toList, Array.getElem?_eq_getElem h']
    rfl
  · rw [dif_neg h]
    have h' : s.data.size ≤ k := Nat.le_of_not_lt h
    rw [List.getD_eq_getElem?_getD, List.getElem?_map, Array.getElem?_toList, Array.getElem?_eq_none h']
    rfl
theorem some_str {s : ByteArray} (h : s.size ≠ 0) : s.toList.isEmpty = false := by
  rw [ByteArray.toList_eq, Bool.eq_false_iff]
  intro e
  rw [List.isEmpty_iff] at e
  apply h
  show s.data.size = 0
  rw [← Array.length_toList, e]; rfl
theorem no_str {s : ByteArray} (h : s.size = 0) : s = ByteArray.empty := by
  apply ByteArray.ext
  apply Array.ext'
  exact List.eq_nil_of_length_eq_zero (by rw [Array.length_toList]; exact h)

/-! ### which rows are texts -/
theorem numL_app (a b : List Nat) : numL (a ++ b) = 10 ^ b.length * numL a + numL b := by
  rw [numL, List.foldl_append, ← numL, numL_base]
theorem numL_take (l : List Nat) (k : Nat) : numL (l.take k) ≤ numL l := by
  conv => rhs; rw [← List.take_append_drop k l]
  rw [numL_app]
  have : 1 * numL (l.take k) ≤ 10 ^ (l.drop k).length * numL (l.take k) := Nat.mul_le_mul_right _ (Nat.pow_pos (by omega))
  omega
theorem take_next {l : List Nat} {k : Nat} (h : k < l.length) : l.take (k + 1) = l.take k ++ [l.getD k 0] := by
  rw [List.take_succ_eq_append_getElem h]; simp [List.getD, h]
theorem text_no_len {l : List Nat} (h : l.length = 0) : textB l = false := by simp [textB, h]
theorem text_no_zero {l : List Nat} (h1 : 1 < l.length) (h0 : l.getD 0 0 = 48) : textB l = false := by
  rw [Bool.eq_false_iff]
  intro ht
  exact (text_parts ht).2.1 h1 h0
theorem text_no_digit {l : List Nat} {k : Nat} (hk : k < l.length) (h : digitB (l.getD k 0) = false) : textB l = false := by
  rw [Bool.eq_false_iff]
  intro ht
  have := (text_parts ht).2.2.1 (l.getD k 0) (by simp [List.getD, hk])
  rw [h] at this; cases this
theorem text_no_big {l : List Nat} {k : Nat} (h : 18446744073709551616 ≤ numL (l.take k)) : textB l = false := by
  rw [Bool.eq_false_iff]
  intro ht
  have := (text_parts ht).2.2.2
  have := numL_take l k
  omega
theorem text_yes {l : List Nat} (h0 : 0 < l.length) (h1 : ¬ (1 < l.length ∧ l.getD 0 0 = 48)) (hd : ∀ j, j < l.length → digitB (l.getD j 0) = true) (hb : numL l < 18446744073709551616) : textB l = true := by
  unfold textB
  simp only [Bool.and_eq_true, decide_eq_true_eq, Bool.not_eq_true', List.all_eq_true]
  refine ⟨⟨⟨h0, ?_⟩, fun x hx => ?_⟩, hb⟩
  · rw [Bool.eq_false_iff]; intro h; exact h1 (by simpa using h)
  · obtain ⟨j, hj, rfl⟩ := List.getElem_of_mem hx
    have := hd j hj
    simpa [List.getD, hj] using this
/-- What reading a text answers. -/
def errI (l : List Nat) : Int := if textB l then 0 else 10
theorem parse_no {l : List Nat} (h : textB l = false) : parseL l = 0 ∧ errI l = 10 := by simp [parseL, errI, h]
theorem parse_yes {l : List Nat} (h : textB l = true) : parseL l = numL l ∧ errI l = 0 := by simp [parseL, errI, h]
theorem ret_pe {a b d : Int} {c : Nat} (h1 : a = (c : Int)) (h2 : b = d) : Ending.returned (.tuple #[.int .u64 a, .int .i64 b]) = .returned (.tuple #[.int .u64 (c : Int), .int .i64 d]) := by rw [h1, h2]

end Go.Proofs.Ytjfgjlklbepnjaa
