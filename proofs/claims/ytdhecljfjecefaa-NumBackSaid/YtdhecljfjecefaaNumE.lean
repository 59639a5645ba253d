/- The number of a text: the functions walked. No condition. -/
import Derived.Test.YtdhecljfjecefaaNumD
import Derived.PlainAid
namespace Go.Proofs.Ytdhecljfjecefaa
open Go.RowKit Go.PlainAid
set_option linter.unusedSimpArgs false
set_option linter.unusedVariables false

/-- A string's bytes. -/
def bl (s : ByteArray) : List Nat := s.data.toList.map (·.toNat)
theorem bl_len (s : ByteArray) : (bl s).length = s.size := by unfold bl; rw [List.length_map, Array.length_toList]; rfl
theorem bl_small (s : ByteArray) : Small (bl s) := by
  intro x hx
  simp only [bl, List.mem_map] at hx
  obtain ⟨c, _, rfl⟩ := hx
  exact c.toNat_lt
theorem bl_bt (s : ByteArray) (k : Nat) : bt s k = (((bl s).getD k 0 : Nat) : Int) := by
  unfold bt bl
  by_cases h : k < s.size
  · rw [dif_pos h]
    have h' : k < s.data.size := h
    rw [List.getD_eq_getElem?_getD, List.getElem?_map, Array.getElem?_toList, Array.getElem?_eq_getElem h']
    rfl
  · rw [dif_neg h]
    have h' : s.data.size ≤ k := Nat.le_of_not_lt h
    rw [List.getD_eq_getElem?_getD, List.getElem?_map, Array.getElem?_toList, Array.getElem?_eq_none h']
    rfl
theorem some_str {s : ByteArray} (h : s.size ≠ 0) : s.toList.isEmpty = false := by
  rw [ByteArray.toList_eq, Bool.eq_false_iff]
  intro e
  rw [List.isEmpty_iff] at e
  apply h
  show s.data.size = 0
  rw [← Array.length_toList, e]; rfl
theorem no_str {s : ByteArray} (h : s.size = 0) : s = ByteArray.empty := by
  apply ByteArray.ext
  apply Array.ext'
  exact List.eq_nil_of_length_eq_zero (by rw [Array.length_toList]; exact h)

/-! ### which rows are texts -/
theorem numL_app (a b : List Nat) : numL (a ++ b) = 10 ^ b.length * numL a + numL b := by
  rw [numL, List.foldl_append, ← numL, numL_base]
theorem numL_take (l : List Nat) (k : Nat) : numL (l.take k) ≤ numL l := by
  conv => rhs; rw [← List.take_append_drop k l]
  rw [numL_app]
  have : 1 * numL (l.take k) ≤ 10 ^ (l.drop k).length * numL (l.take k) := Nat.mul_le_mul_right _ (Nat.pow_pos (by omega))
  omega
theorem take_next {l : List Nat} {k : Nat} (h : k < l.length) : l.take (k + 1) = l.take k ++ [l.getD k 0] := by
  rw [List.take_succ_eq_append_getElem h]; simp [List.getD, h]
theorem text_no_len {l : List Nat} (h : l.length = 0) : textB l = false := by simp [textB, h]
theorem text_no_zero {l : List Nat} (h1 : 1 < l.length) (h0 : l.getD 0 0 = 48) : textB l = false := by
  rw [Bool.eq_false_iff]
  intro ht
  exact (text_parts ht).2.1 h1 h0
theorem text_no_digit {l : List Nat} {k : Nat} (hk : k < l.length) (h : digitB (l.getD k 0) = false) : textB l = false := by
  rw [Bool.eq_false_iff]
  intro ht
  have := (text_parts ht).2.2.1 (l.getD k 0) (by simp [List.getD, hk])
  rw [h] at this; cases this
theorem text_no_big {l : List Nat} {k : Nat} (h : 18446744073709551616 ≤ numL (l.take k)) : textB l = false := by
  rw [Bool.eq_false_iff]
  intro ht
  have := (text_parts ht).2.2.2
  have := numL_take l k
  omega
theorem text_yes {l : List Nat} (h0 : 0 < l.length) (h1 : ¬ (1 < l.length ∧ l.getD 0 0 = 48)) (hd : ∀ j, j < l.length → digitB (l.getD j 0) = true) (hb : numL l < 18446744073709551616) : textB l = true := by
  unfold textB
  simp only [Bool.and_eq_true, decide_eq_true_eq, Bool.not_eq_true', List.all_eq_true]
  refine ⟨⟨⟨h0, ?_⟩, fun x hx => ?_⟩, hb⟩
  · rw [Bool.eq_false_iff]; intro h; exact h1 (by simpa using h)
  · obtain ⟨j, hj, rfl⟩ := List.getElem_of_mem hx
    have := hd j hj
    simpa [List.getD, hj] using this
/-- What reading a text answers. -/
def errI (l : List Nat) : Int := if textB l then 0 else 10
theorem parse_no {l : List Nat} (h : textB l = false) : parseL l = 0 ∧ errI l = 10 := by simp [parseL, errI, h]
theorem parse_yes {l : List Nat} (h : textB l = true) : parseL l = numL l ∧ errI l = 0 := by simp [parseL, errI, h]
theorem ret_pe {a b d : Int} {c : Nat} (h1 : a = (c : Int)) (h2 : b = d) : Ending.returned (.tuple #[.int .u64 a, .int .i64 b]) = .returned (.tuple #[.int .u64 (c : Int), .int .i64 d]) := by rw [h1, h2]

set_option maxHeartbeats 4000000 in
theorem parse_any (s : ByteArray) (w : World) (hs : s.size ≤ 9223372036854775807) :
    Calls Try.prog 10 #[.string s] w fun e w' => e = .returned (.tuple #[.int .u64 (parseL (bl s)), .int .i64 (errI (bl s))]) ∧ Below w.heap.size w w' := by
  by_cases h0 : s.size = 0
  · have hp := parse_no (text_no_len (l := bl s) (by rw [bl_len]; exact h0))
    obtain rfl := no_str h0
    have HP := Lib.hid hp
    clear hp h0
    go_enter Try.func10, Try.ntmps10
    go_wp2
    go_ret2
    exact ⟨ret_pe (by rw [HP.out.1]; rfl) HP.out.2.symm, by repeat' (first | (with_reducible exact Below.refl _ _) | (with_reducible assumption) | (with_reducible refine Later.step ?_ ?_ _) | (with_reducible refine Below.alloc ?_ ?_ _) | (with_reducible refine Below.drew ?_) | (with_reducible refine bel_drewN ?_ _) | (with_reducible refine bel_grown ?_ (by assumption) ?_ ?_) | (with_reducible refine Below.setCell ?_ ?_ _) | go_size)⟩
  · have hbt := get_bt s
    have hb0 := bt_nonneg s
    have hb1 := bt_le s
    have hne := some_str h0
    by_cases hz : 1 < s.size ∧ bt s 0 = 48
    · obtain ⟨z1, z2⟩ := hz
      have hp := parse_no (text_no_zero (l := bl s) (by rw [bl_len]; exact z1) (by have := bl_bt s 0; omega))
      have HP := Lib.hid hp
      have z3 : (bt s 0 == 48) = true := by rw [z2]; rfl
      clear hp z2
      go_enter Try.func10, Try.ntmps10
      go_wp2
      go_ret2
      exact ⟨ret_pe (by rw [HP.out.1]; rfl) HP.out.2.symm, by repeat' (first | (with_reducible exact Below.refl _ _) | (with_reducible assumption) | (with_reducible refine Later.step ?_ ?_ _) | (with_reducible refine Below.alloc ?_ ?_ _) | (with_reducible refine Below.drew ?_) | (with_reducible refine bel_drewN ?_ _) | (with_reducible refine bel_grown ?_ (by assumption) ?_ ?_) | (with_reducible refine Below.setCell ?_ ?_ _) | go_size)⟩
    · have hcase : s.size ≤ 1 ∨ (1 < s.size ∧ (bt s 0 == 48) = false) := by
        by_cases h1 : s.size ≤ 1
        · exact .inl h1
        · exact .inr ⟨by omega, by rw [Bool.eq_false_iff]; intro h; exact hz ⟨by omega, eq_e h⟩⟩
      have HZ := Lib.hid hz
      clear hz
      rcases hcase with h1 | ⟨h1, h2⟩
      all_goals
        go_enter Try.func10, Try.ntmps10
        go_wp2
        go_loop [4, 21] (fun v i => ∃ k : Nat, k ≤ s.size ∧ i = .int .i64 k ∧ v = .int .u64 (numL ((bl s).take k)) ∧ numL ((bl s).take k) < 18446744073709551616 ∧ Hid (∀ j, j < k → digitB ((bl s).getD j 0) = true)) (fun _ i => s.size - (intOf i).toNat)
        case atStart => exact ⟨0, Nat.zero_le _, rfl, by simp [numL], by simp [numL], fun j hj => absurd hj (by omega)⟩
        case round =>
          obtain ⟨k, hk, rfl, rfl, hlt64, hd⟩ := hrel
          by_cases hlt : k < s.size
          · have g0 := hb0 k
            have g1 := hb1 k
            have hx := bl_bt s k
            have hkl : k < (bl s).length := by rw [bl_len]; exact hlt
            have hn : numL ((bl s).take (k + 1)) = 10 * numL ((bl s).take k) + ((bl s).getD k 0 - 48) := by rw [take_next hkl, numL_snoc]
            have HN := Lib.hid hn
            have HX := Lib.hid hx
            have HL := Lib.hid hkl
            obtain ⟨v, hv⟩ : ∃ v, numL ((bl s).take k) = v := ⟨_, rfl⟩
            have HV := Lib.hid hv
            rw [hv] at hlt64
            rw [hv]
            clear hn hx hv hkl
            go_wp2
            all_goals first
              | (have hp := parse_no (text_no_digit HL.out (by simp only [digitB, decide_eq_false_iff_not]; have := HX.out; omega))
                 go_ret2
                 exact ⟨ret_pe (by rw [hp.1]; rfl) hp.2.symm, by repeat' (first | (with_reducible exact Below.refl _ _) | (with_reducible assumption) | (with_reducible refine Later.step ?_ ?_ _) | (with_reducible refine Below.alloc ?_ ?_ _) | (with_reducible refine Below.drew ?_) | (with_reducible refine bel_drewN ?_ _) | (with_reducible refine bel_grown ?_ (by assumption) ?_ ?_) | (with_reducible refine Below.setCell ?_ ?_ _) | go_size)⟩)
              | (have hp := parse_no (text_no_big (l := bl s) (k := k + 1) (by rw [HN.out, HV.out]; have := HX.out; omega))
                 go_ret2
                 exact ⟨ret_pe (by rw [hp.1]; rfl) hp.2.symm, by repeat' (first | (with_reducible exact Below.refl _ _) | (with_reducible assumption) | (with_reducible refine Later.step ?_ ?_ _) | (with_reducible refine Below.alloc ?_ ?_ _) | (with_reducible refine Below.drew ?_) | (with_reducible refine bel_drewN ?_ _) | (with_reducible refine bel_grown ?_ (by assumption) ?_ ?_) | (with_reducible refine Below.setCell ?_ ?_ _) | go_size)⟩)
              | (go_round
                 case rel => exact ⟨k + 1, by omega, by go_num, by rw [HN.out, HV.out]; have := HX.out; congr 1; omega, by rw [HN.out, HV.out]; have := HX.out; omega, fun j hj => by
                   by_cases e : j = k
                   · subst e; simp only [digitB, decide_eq_true_eq]; have := HX.out; omega
                   · exact hd.out j (by omega)⟩
                 case measure => simp [intOf] <;> omega)
          · obtain rfl : k = s.size := by omega
            have ht : (bl s).take s.size = bl s := by rw [← bl_len]; exact List.take_length
            rw [ht] at hlt64
            rw [ht]
            have hp := parse_yes (text_yes (l := bl s) (by rw [bl_len]; omega) (fun h => HZ.out ⟨by have := h.1; rw [bl_len] at this; exact this, by rw [bl_bt, h.2]; rfl⟩) (fun j hj => hd.out j (by rw [bl_len] at hj; exact hj)) hlt64)
            have HP := Lib.hid hp
            obtain ⟨v, hv⟩ : ∃ v, numL (bl s) = v := ⟨_, rfl⟩
            have HV := Lib.hid hv
            rw [hv]
            clear hp hv ht hlt64
            go_wp2
            go_ret2
            exact ⟨ret_pe (by rw [HP.out.1, HV.out]) HP.out.2.symm, by repeat' (first | (with_reducible exact Below.refl _ _) | (with_reducible assumption) | (with_reducible refine Later.step ?_ ?_ _) | (with_reducible refine Below.alloc ?_ ?_ _) | (with_reducible refine Below.drew ?_) | (with_reducible refine bel_drewN ?_ _) | (with_reducible refine bel_grown ?_ (by assumption) ?_ ?_) | (with_reducible refine Below.setCell ?_ ?_ _) | go_size)⟩
end Go.Proofs.Ytdhecljfjecefaa
