/- The number of a text, as the document has it: the function walked. No condition. -/
import Derived.Test.YtdhecljfjecefaaNumE
namespace Go.Proofs.Ytdhecljfjecefaa
open Go.RowKit Go.PlainAid
set_option linter.unusedSimpArgs false
set_option linter.unusedVariables false

/-- Rows of digits of one length are in the order of their numbers. -/
theorem digits_order : ∀ (a b : List UInt8), a.length = b.length → (∀ x ∈ a.map (·.toNat), digitB x = true) → (∀ x ∈ b.map (·.toNat), digitB x = true) →
    (Op.bytesLess a b = true → numL (a.map (·.toNat)) < numL (b.map (·.toNat))) ∧ (Op.bytesLess a b = false → a ≠ b → numL (b.map (·.toNat)) < numL (a.map (·.toNat)))
  | [], [], _, _, _ => ⟨fun h => by simp [Op.bytesLess] at h, fun _ h => absurd rfl h⟩
  | x :: a, y :: b, hl, ha, hb => by
    have hl' : a.length = b.length := by simpa using hl
    have ha' : ∀ z ∈ a.map (·.toNat), digitB z = true := fun z hz => ha z (by rw [List.map_cons]; exact List.mem_cons_of_mem _ hz)
    have hb' : ∀ z ∈ b.map (·.toNat), digitB z = true := fun z hz => hb z (by rw [List.map_cons]; exact List.mem_cons_of_mem _ hz)
    obtain ⟨i1, i2⟩ := digits_order a b hl' ha' hb'
    have hx := ha x.toNat (by simp)
    have hy := hb y.toNat (by simp)
    simp only [digitB, decide_eq_true_eq] at hx hy
    have la := numL_lt _ ha'
    have lb := numL_lt _ hb'
    simp only [List.length_map] at la lb
    rw [List.map_cons, List.map_cons, numL_cons, numL_cons]
    simp only [List.length_map]
    rw [hl'] at la ⊢
    have step : ∀ p q : Nat, p < q → 10 ^ b.length * p + 10 ^ b.length ≤ 10 ^ b.length * q := fun p q h => by
      have := Nat.mul_le_mul_left (10 ^ b.length) (show p + 1 ≤ q from h)
      rwa [Nat.mul_add, Nat.mul_one] at this
    constructor
    · intro h
      simp only [Op.bytesLess, Bool.or_eq_true, decide_eq_true_eq, Bool.and_eq_true, beq_iff_eq] at h
      rcases h with h | ⟨h, h2⟩
      · have := step (x.toNat - 48) (y.toNat - 48) (by have : x.toNat < y.toNat := h; omega)
        omega
      · subst h
        have := i1 h2
        omega
    · intro h hne
      simp only [Op.bytesLess, Bool.or_eq_false_iff, decide_eq_false_iff_not, Bool.and_eq_false_iff] at h
      obtain ⟨h1, h2⟩ := h
      have h1' : y.toNat ≤ x.toNat := by
        rcases Nat.lt_or_ge x.toNat y.toNat with h | h
        · exact absurd h h1
        · exact h
      rcases Nat.lt_or_eq_of_le h1' with h | h
      · have := step (y.toNat - 48) (x.toNat - 48) (by omega)
        omega
      · have e : x = y := (UInt8.toNat_inj.1 h).symm
        subst e
        have := i2 (by rcases h2 with h2 | h2; · simp at h2
                       · exact h2) (fun e => hne (by rw [e]))
        omega

/-- The greatest number's text. -/
def mostL : List UInt8 := [49, 56, 52, 52, 54, 55, 52, 52, 48, 55, 51, 55, 48, 57, 53, 53, 49, 54, 49, 53]
theorem most_num : numL (mostL.map (·.toNat)) = 18446744073709551615 := by decide
theorem most_dig : ∀ x ∈ mostL.map (·.toNat), digitB x = true := by decide
theorem bl_toList (s : ByteArray) : bl s = s.toList.map (·.toNat) := by rw [ByteArray.toList_eq]; rfl
theorem most_gt {s : ByteArray} (hs : s.size = 20) (hd : ∀ x ∈ bl s, digitB x = true) :
    ((!Op.bytesLess s.toList mostL && !(s.toList == mostL)) = true → 18446744073709551616 ≤ numL (bl s)) ∧ ((!Op.bytesLess s.toList mostL && !(s.toList == mostL)) = false → numL (bl s) < 18446744073709551616) := by
  rw [bl_toList] at hd ⊢
  have hl : s.toList.length = mostL.length := by
    have := bl_len s
    rw [bl_toList, List.length_map] at this
    rw [this, hs]; rfl
  obtain ⟨h1, h2⟩ := digits_order s.toList mostL hl hd most_dig
  rw [most_num] at h1 h2
  constructor
  · intro h
    simp only [Bool.and_eq_true, Bool.not_eq_true', beq_eq_false_iff_ne, ne_eq] at h
    have := h2 h.1 h.2
    omega
  · intro h
    simp only [Bool.and_eq_false_iff, Bool.not_eq_false', beq_iff_eq] at h
    rcases h with h | h
    · have := h1 h; omega
    · rw [h, most_num]; omega

theorem short_num {l : List Nat} (hd : ∀ x ∈ l, digitB x = true) (h : l.length ≤ 19) : numL l < 18446744073709551616 := by
  have h1 := numL_lt l hd
  have h2 : 10 ^ l.length ≤ 10 ^ 19 := Nat.pow_le_pow_right (by omega) h
  have h3 : (10 : Nat) ^ 19 = 10000000000000000000 := by decide
  omega
theorem long_text {l : List Nat} (h : 20 < l.length) : textB l = false := by
  rw [Bool.eq_false_iff]
  intro ht
  have := text_len ht
  omega

theorem rparse_err (s : ByteArray) (w : World) (hs : s.size ≤ 9223372036854775807) (h : s.size = 0 ∨ 20 < s.size ∨ (1 < s.size ∧ bt s 0 = 48) ∨ (s.size = 20 ∧ ¬ bt s 0 = 48 ∧ (!Op.bytesLess s.toList mostL && !(s.toList == mostL)) = true)) :
    Calls Try.prog 11 #[.string s] w fun e w' => e = .returned (.tuple #[.int .u64 0, .int .i64 10]) ∧ Below w.heap.size w w' := by
  have hbt := get_bt s
  by_cases h0 : s.size = 0
  · obtain rfl := no_str h0
    clear h h0
    go_enter Try.func11, Try.ntmps11
    go_wp2
    all_goals
      go_ret2
      exact ⟨rfl, by repeat' (first | (with_reducible exact Below.refl _ _) | (with_reducible assumption) | (with_reducible refine Later.step ?_ ?_ _) | (with_reducible refine Below.alloc ?_ ?_ _) | (with_reducible refine Below.drew ?_) | (with_reducible refine bel_drewN ?_ _) | (with_reducible refine bel_grown ?_ (by assumption) ?_ ?_) | (with_reducible refine Below.setCell ?_ ?_ _) | go_size)⟩
  have hn : ((s.size : Int) == 0) = false := by rw [Bool.eq_false_iff]; intro h; exact h0 (by have := eq_e h; omega)
  have hne := some_str h0
  rcases h with h | h | ⟨h1, h2⟩ | ⟨h1, h2, h3⟩
  · exact absurd h h0
  · go_enter Try.func11, Try.ntmps11
    go_wp2
    all_goals
      go_ret2
      exact ⟨rfl, by repeat' (first | (with_reducible exact Below.refl _ _) | (with_reducible assumption) | (with_reducible refine Later.step ?_ ?_ _) | (with_reducible refine Below.alloc ?_ ?_ _) | (with_reducible refine Below.drew ?_) | (with_reducible refine bel_drewN ?_ _) | (with_reducible refine bel_grown ?_ (by assumption) ?_ ?_) | (with_reducible refine Below.setCell ?_ ?_ _) | go_size)⟩
  · have h3 : (bt s 0 == 48) = true := by rw [h2]; rfl
    clear h2
    by_cases h20 : 20 < s.size
    · go_enter Try.func11, Try.ntmps11
      go_wp2
      all_goals
        go_ret2
        exact ⟨rfl, by repeat' (first | (with_reducible exact Below.refl _ _) | (with_reducible assumption) | (with_reducible refine Later.step ?_ ?_ _) | (with_reducible refine Below.alloc ?_ ?_ _) | (with_reducible refine Below.drew ?_) | (with_reducible refine bel_drewN ?_ _) | (with_reducible refine bel_grown ?_ (by assumption) ?_ ?_) | (with_reducible refine Below.setCell ?_ ?_ _) | go_size)⟩
    · go_enter Try.func11, Try.ntmps11
      go_wp2
      all_goals
        go_ret2
        exact ⟨rfl, by repeat' (first | (with_reducible exact Below.refl _ _) | (with_reducible assumption) | (with_reducible refine Later.step ?_ ?_ _) | (with_reducible refine Below.alloc ?_ ?_ _) | (with_reducible refine Below.drew ?_) | (with_reducible refine bel_drewN ?_ _) | (with_reducible refine bel_grown ?_ (by assumption) ?_ ?_) | (with_reducible refine Below.setCell ?_ ?_ _) | go_size)⟩
  · have h4 : (bt s 0 == 48) = false := by rw [Bool.eq_false_iff]; intro h; exact h2 (eq_e h)
    have h7 : ((s.size : Int) == 20) = true := by rw [h1]; rfl
    simp only [Bool.and_eq_true, Bool.not_eq_true'] at h3
    obtain ⟨h5, h6⟩ := h3
    unfold mostL at h5 h6
    clear h2
    go_enter Try.func11, Try.ntmps11
    go_wp2
    all_goals
      go_ret2
      exact ⟨rfl, by repeat' (first | (with_reducible exact Below.refl _ _) | (with_reducible assumption) | (with_reducible refine Later.step ?_ ?_ _) | (with_reducible refine Below.alloc ?_ ?_ _) | (with_reducible refine Below.drew ?_) | (with_reducible refine bel_drewN ?_ _) | (with_reducible refine bel_grown ?_ (by assumption) ?_ ?_) | (with_reducible refine Below.setCell ?_ ?_ _) | go_size)⟩

set_option maxHeartbeats 4000000 in
theorem rparse_any (s : ByteArray) (w : World) (hs : s.size ≤ 9223372036854775807) :
    Calls Try.prog 11 #[.string s] w fun e w' => e = .returned (.tuple #[.int .u64 (parseL (bl s)), .int .i64 (errI (bl s))]) ∧ Below w.heap.size w w' := by
  have hbt := get_bt s
  have hb0 := bt_nonneg s
  have hb1 := bt_le s
  by_cases hno : s.size = 0 ∨ 20 < s.size ∨ (1 < s.size ∧ bt s 0 = 48)
  · have hp : textB (bl s) = false := by
      rcases hno with h | h | ⟨h1, h2⟩
      · exact text_no_len (by rw [bl_len]; exact h)
      · exact long_text (by rw [bl_len]; exact h)
      · exact text_no_zero (by rw [bl_len]; exact h1) (by have := bl_bt s 0; omega)
    obtain ⟨p1, p2⟩ := parse_no hp
    rw [p1, p2]
    exact rparse_err s w hs (by rcases hno with h | h | h; · exact .inl h
                                · exact .inr (.inl h)
                                · exact .inr (.inr (.inl h)))
  have h0 : s.size ≠ 0 := fun h => hno (.inl h)
  have hle : ¬ 20 < s.size := fun h => hno (.inr (.inl h))
  have hz : ¬ (1 < s.size ∧ bt s 0 = 48) := fun h => hno (.inr (.inr h))
  clear hno
  have hn : ((s.size : Int) == 0) = false := by rw [Bool.eq_false_iff]; intro h; exact h0 (by have := eq_e h; omega)
  have hne := some_str h0
  have hcase : s.size ≤ 1 ∨ (1 < s.size ∧ (bt s 0 == 48) = false) := by
    by_cases h1 : s.size ≤ 1
    · exact .inl h1
    · exact .inr ⟨by omega, by rw [Bool.eq_false_iff]; intro h; exact hz ⟨by omega, eq_e h⟩⟩
  by_cases hgt : s.size = 20 ∧ (!Op.bytesLess s.toList mostL && !(s.toList == mostL)) = true
  · by_cases hd : ∀ x ∈ bl s, digitB x = true
    · have hp : textB (bl s) = false := by
        rw [Bool.eq_false_iff]
        intro ht
        have := (text_parts ht).2.2.2
        have := (most_gt hgt.1 hd).1 hgt.2
        omega
      obtain ⟨p1, p2⟩ := parse_no hp
      rw [p1, p2]
      exact rparse_err s w hs (.inr (.inr (.inr ⟨hgt.1, fun h => hz ⟨by omega, h⟩, hgt.2⟩)))
    · have hp : textB (bl s) = false := by
        rw [Bool.eq_false_iff]
        intro ht
        exact hd (text_parts ht).2.2.1
      obtain ⟨p1, p2⟩ := parse_no hp
      rw [p1, p2]
      exact rparse_err s w hs (.inr (.inr (.inr ⟨hgt.1, fun h => hz ⟨by omega, h⟩, hgt.2⟩)))
  -- the loop
  have hmost : s.size = 20 → (Op.bytesLess s.toList mostL = true ∨ (Op.bytesLess s.toList mostL = false ∧ (s.toList == mostL) = true)) := fun e => by
    cases h1 : Op.bytesLess s.toList mostL
    · right
      cases h2 : s.toList == mostL
      · exact absurd ⟨e, by rw [h1, h2]; rfl⟩ hgt
      · exact ⟨rfl, rfl⟩
    · exact .inl rfl
  have hsmall : (∀ x ∈ bl s, digitB x = true) → numL (bl s) < 18446744073709551616 := fun hd => by
    rcases Nat.lt_or_ge s.size 20 with h | h
    · exact short_num hd (by rw [bl_len]; omega)
    · have e : s.size = 20 := by omega
      refine (most_gt e hd).2 ?_
      rw [Bool.eq_false_iff]
      exact fun h => hgt ⟨e, h⟩
  have hcase2 : (s.size ≤ 1 ∧ ((s.size : Int) == 20) = false) ∨ (1 < s.size ∧ (bt s 0 == 48) = false ∧ ((s.size : Int) == 20) = false) ∨ (1 < s.size ∧ (bt s 0 == 48) = false ∧ ((s.size : Int) == 20) = true ∧ Op.bytesLess s.toList mostL = true) ∨ (1 < s.size ∧ (bt s 0 == 48) = false ∧ ((s.size : Int) == 20) = true ∧ Op.bytesLess s.toList mostL = false ∧ (s.toList == mostL) = true) := by
    have f : s.size ≠ 20 → ((s.size : Int) == 20) = false := fun h => by rw [Bool.eq_false_iff]; intro e; exact h (by have := eq_e e; omega)
    by_cases e : s.size = 20
    · have e' : ((s.size : Int) == 20) = true := by rw [e]; rfl
      rcases hcase with h | ⟨h1, h2⟩
      · omega
      · rcases hmost e with h | ⟨h3, h4⟩
        · exact .inr (.inr (.inl ⟨h1, h2, e', h⟩))
        · exact .inr (.inr (.inr ⟨h1, h2, e', h3, h4⟩))
    · rcases hcase with h | ⟨h1, h2⟩
      · exact .inl ⟨h, f e⟩
      · exact .inr (.inl ⟨h1, h2, f e⟩)
  have HS := Lib.hid hsmall
  have HZ := Lib.hid hz
  have HL20 := Lib.hid hle
  clear hsmall hz hcase hgt hmost
  unfold mostL at hcase2
  rcases hcase2 with ⟨q1, q2⟩ | ⟨q1, q2, q3⟩ | ⟨q1, q2, q3, q4⟩ | ⟨q1, q2, q3, q4, q5⟩
  all_goals
    go_enter Try.func11, Try.ntmps11
    go_wp2
    go_loop [5, 6] (fun v i => ∃ k : Nat, k ≤ s.size ∧ i = .int .i64 k ∧ v = .int .u64 (numL ((bl s).take k)) ∧ Hid (∀ j, j < k → digitB ((bl s).getD j 0) = true)) (fun _ i => s.size - (intOf i).toNat)
    case atStart => exact ⟨0, Nat.zero_le _, rfl, by simp [numL], fun j hj => absurd hj (by omega)⟩
    case round =>
      obtain ⟨k, hk, rfl, rfl, hd⟩ := hrel
      by_cases hlt : k < s.size
      · have g0 := hb0 k
        have g1 := hb1 k
        have hx := bl_bt s k
        have hkl : k < (bl s).length := by rw [bl_len]; exact hlt
        have hv20 : numL ((bl s).take k) < 10000000000000000000 := by
          have h1 := numL_lt ((bl s).take k) (fun x hx => by
            obtain ⟨j, hj, rfl⟩ := List.getElem_of_mem hx
            rw [List.length_take] at hj
            have := hd.out j (by omega)
            rw [List.getElem_take]
            simpa [List.getD, show j < (bl s).length by omega] using this)
          have h2 : 10 ^ ((bl s).take k).length ≤ 10 ^ 19 := Nat.pow_le_pow_right (by omega) (by rw [List.length_take]; have := HL20.out; omega)
          have h3 : (10 : Nat) ^ 19 = 10000000000000000000 := by decide
          omega
        have hn' : numL ((bl s).take (k + 1)) = 10 * numL ((bl s).take k) + ((bl s).getD k 0 - 48) := by rw [take_next hkl, numL_snoc]
        have hn64 : (k + 1 = s.size → (∀ j, j < k + 1 → digitB ((bl s).getD j 0) = true) → numL ((bl s).take (k + 1)) < 18446744073709551616) := fun e hd => by
          rw [e, ← bl_len, List.take_length]
          refine HS.out fun x hx => ?_
          obtain ⟨j, hj, rfl⟩ := List.getElem_of_mem hx
          have := hd j (by rw [bl_len] at hj; omega)
          simpa [List.getD, hj] using this
        have hs64 : (k + 1 < s.size → (∀ j, j < k + 1 → digitB ((bl s).getD j 0) = true) → numL ((bl s).take (k + 1)) < 18446744073709551616) := fun e hd => by
          refine short_num (fun x hx => ?_) (by rw [List.length_take]; have := HL20.out; omega)
          obtain ⟨j, hj, rfl⟩ := List.getElem_of_mem hx
          rw [List.length_take] at hj
          have := hd j (by omega)
          rw [List.getElem_take]
          simpa [List.getD, show j < (bl s).length by omega] using this
        have h64 : digitB ((bl s).getD k 0) = true → 10 * numL ((bl s).take k) + ((bl s).getD k 0 - 48) < 18446744073709551616 := fun h => by
          rw [← hn']
          have hall : ∀ j, j < k + 1 → digitB ((bl s).getD j 0) = true := fun j hj => by
            by_cases e : j = k
            · subst e; exact h
            · exact hd.out j (by omega)
          rcases Nat.lt_or_ge (k + 1) s.size with h | h
          · exact hs64 h hall
          · exact hn64 (by omega) hall
        clear hn64 hs64
        have HN := Lib.hid hn'
        have HX := Lib.hid hx
        have HL := Lib.hid hkl
        have H64 := Lib.hid h64
        obtain ⟨v, hv⟩ : ∃ v, numL ((bl s).take k) = v := ⟨_, rfl⟩
        have HV := Lib.hid hv
        rw [hv] at hv20
        rw [hv]
        clear hn' hx hv hkl h64
        go_wp2
        all_goals first
          | (have hp := parse_no (text_no_digit HL.out (by simp only [digitB, decide_eq_false_iff_not]; have := HX.out; omega))
             go_ret2
             exact ⟨ret_pe (by rw [hp.1]; rfl) hp.2.symm, by repeat' (first | (with_reducible exact Below.refl _ _) | (with_reducible assumption) | (with_reducible refine Later.step ?_ ?_ _) | (with_reducible refine Below.alloc ?_ ?_ _) | (with_reducible refine Below.drew ?_) | (with_reducible refine bel_drewN ?_ _) | (with_reducible refine bel_grown ?_ (by assumption) ?_ ?_) | (with_reducible refine Below.setCell ?_ ?_ _) | go_size)⟩)
          | (go_round
             case rel => exact ⟨k + 1, by omega, by go_num, by
                 have e := HX.out
                 have hdg : digitB ((bl s).getD k 0) = true := by simp only [digitB, decide_eq_true_eq]; omega
                 have h6 := H64.out hdg
                 rw [HV.out] at h6
                 rw [HN.out, HV.out]
                 congr 1
                 simp only [IntKind.wrap_u64]
                 omega, fun j hj => by
               by_cases e : j = k
               · subst e; simp only [digitB, decide_eq_true_eq]; have := HX.out; omega
               · exact hd.out j (by omega)⟩
             case measure => simp [intOf] <;> omega)
      · obtain rfl : k = s.size := by omega
        have ht : (bl s).take s.size = bl s := by rw [← bl_len]; exact List.take_length
        rw [ht]
        have hall : ∀ x ∈ bl s, digitB x = true := fun x hx => by
          obtain ⟨j, hj, rfl⟩ := List.getElem_of_mem hx
          have := hd.out j (by rw [bl_len] at hj; exact hj)
          simpa [List.getD, hj] using this
        have hp := parse_yes (text_yes (l := bl s) (by rw [bl_len]; omega) (fun h => HZ.out ⟨by have := h.1; rw [bl_len] at this; exact this, by rw [bl_bt, h.2]; rfl⟩) (fun j hj => hd.out j (by rw [bl_len] at hj; exact hj)) (HS.out hall))
        have HP := Lib.hid hp
        obtain ⟨v, hv⟩ : ∃ v, numL (bl s) = v := ⟨_, rfl⟩
        have HV := Lib.hid hv
        rw [hv]
        clear hp hv ht hall
        go_wp2
        go_ret2
        exact ⟨ret_pe (by rw [HP.out.1, HV.out]) HP.out.2.symm, by repeat' (first | (with_reducible exact Below.refl _ _) | (with_reducible assumption) | (with_reducible refine Later.step ?_ ?_ _) | (with_reducible refine Below.alloc ?_ ?_ _) | (with_reducible refine Below.drew ?_) | (with_reducible refine bel_drewN ?_ _) | (with_reducible refine bel_grown ?_ (by assumption) ?_ ?_) | (with_reducible refine Below.setCell ?_ ?_ _) | go_size)⟩
end Go.Proofs.Ytdhecljfjecefaa
