/- The layer's statements walked: texts, sums, hex texts. No condition. -/
import Derived.Test.YtdhecljfjecefaaNumK
namespace Go.Proofs.Ytdhecljfjecefaa
open Go.RowKit Go.PlainAid
set_option linter.unusedSimpArgs false
set_option linter.unusedVariables false

theorem u64_lim {a : Int} (h : (Lit.int .u64 a).wf = true) : 0 ≤ a ∧ a ≤ 18446744073709551615 := by
  simp only [Lit.wf, Bool.and_eq_true, decide_eq_true_eq] at h
  exact h
theorem max_lim {n : Nat} (h : n ≤ maxLen) : n ≤ 9223372036854775807 := h

set_option maxHeartbeats 4000000 in
theorem texts_walk (a : Int) (s : ByteArray) (w : World) (ha : (Lit.int .u64 a).wf = true) (hs : s.size ≤ maxLen) :
    Calls Try.prog 3 #[.int .u64 a, .string s] w fun e w' => e = .returned (.bool true) ∧ Below w.heap.size w w' := by
  obtain ⟨N, rfl⟩ := Int.eq_ofNat_of_zero_le (u64_lim ha).1
  have hN : N < 18446744073709551616 := by have := (u64_lim ha).2; omega
  have p1 := fun X : World => parse_any s X (max_lim hs)
  have p2 := fun X : World => rparse_any s X (max_lim hs)
  have p3 := fun X : World => text_any N X hN
  have p4 : ∀ X : World, Calls Try.prog 13 #[.int .u64 N] X fun e w' => e = .returned (.string (txt (decL N))) ∧ Below X.heap.size X w' := fun X => rtext_any 20 N X (by omega) (by omega) (by omega) hN
  obtain ⟨t, ht⟩ : ∃ t, txt (decL N) = t := ⟨_, rfl⟩
  obtain ⟨v, hv⟩ : ∃ v, parseL (bl s) = v := ⟨_, rfl⟩
  obtain ⟨r, hr⟩ : ∃ r, errI (bl s) = r := ⟨_, rfl⟩
  rw [hv, hr] at p1 p2
  rw [ht] at p3 p4
  have P1 := Lib.hid p1
  have P2 := Lib.hid p2
  have P3 := Lib.hid p3
  have P4 := Lib.hid p4
  clear p1 p2 p3 p4 ht hv hr ha hs
  go_enter Try.func3, Try.ntmps3
  go_wp2_with (first
    | (go_at_call 10; with_reducible refine (P1.out _).mono ?_; rintro e w' ⟨rfl, hb⟩; obtain ⟨X1, rfl, hl1, hm1⟩ := later (w.heap.size) hb (by go_size); clear hb; (try simp only [World.size_alloc, World.size_setCell, World.size_drew] at hm1))
    | (go_at_call 11; with_reducible refine (P2.out _).mono ?_; rintro e w' ⟨rfl, hb⟩; obtain ⟨X2, rfl, hl2, hm2⟩ := later (w.heap.size) hb (by go_size); clear hb; (try simp only [World.size_alloc, World.size_setCell, World.size_drew] at hm2))
    | (go_at_call 12; with_reducible refine (P3.out _).mono ?_; rintro e w' ⟨rfl, hb⟩; obtain ⟨X3, rfl, hl3, hm3⟩ := later (w.heap.size) hb (by go_size); clear hb; (try simp only [World.size_alloc, World.size_setCell, World.size_drew] at hm3))
    | (go_at_call 13; with_reducible refine (P4.out _).mono ?_; rintro e w' ⟨rfl, hb⟩; obtain ⟨X4, rfl, hl4, hm4⟩ := later (w.heap.size) hb (by go_size); clear hb; (try simp only [World.size_alloc, World.size_setCell, World.size_drew] at hm4))
    | (go_at_call 14; refine (known_any _).mono ?_; rintro e w' ⟨rfl, hb⟩; obtain ⟨X5, rfl, hl5, hm5⟩ := later (w.heap.size) hb (by go_size); clear hb; (try simp only [World.size_alloc, World.size_setCell, World.size_drew] at hm5)))
  go_ret
  exact ⟨rfl, by repeat' (first | (with_reducible exact Below.refl _ _) | (with_reducible assumption) | (with_reducible refine Later.step ?_ ?_ _) | (with_reducible refine Below.alloc ?_ ?_ _) | (with_reducible refine Below.drew ?_) | (with_reducible refine bel_drewN ?_ _) | (with_reducible refine bel_grown ?_ (by assumption) ?_ ?_) | (with_reducible refine Below.setCell ?_ ?_ _) | go_size)⟩
set_option maxHeartbeats 4000000 in
theorem plus_walk (a b m : Int) (w : World) (ha : (Lit.int .u64 a).wf = true) (hb : (Lit.int .u64 b).wf = true) (hm : (Lit.int .u64 m).wf = true) :
    Calls Try.prog 5 #[.int .u64 a, .int .u64 b, .int .u64 m] w fun e w' => e = .returned (.bool true) ∧ Below w.heap.size w w' := by
  obtain ⟨a0, a1⟩ := u64_lim ha
  obtain ⟨b0, b1⟩ := u64_lim hb
  obtain ⟨m0, m1⟩ := u64_lim hm
  clear ha hb hm
  have p1 := fun X : World => plus_any a b m X a0 a1 b0 b1 m0 m1
  have p2 : ∀ X : World, Calls Try.prog 18 #[.int .u64 b, .int .u64 a, .int .u64 m] X fun e w' => e = .returned (.int .u64 (min m (a + b))) ∧ Below X.heap.size X w' := fun X => by
    have := plus_any b a m X b0 b1 a0 a1 m0 m1
    rwa [Int.add_comm b a] at this
  have P1 := Lib.hid p1
  have P2 := Lib.hid p2
  clear p1 p2
  by_cases hc : a ≤ m ∧ b ≤ m - a
  · obtain ⟨c1, c2⟩ := hc
    have hv : min m (a + b) = a + b := by omega
    rw [hv] at P1 P2
    go_enter Try.func5, Try.ntmps5
    go_wp2_with (first
      | (go_at_call 18; with_reducible refine (P1.out _).mono ?_; rintro e w' ⟨rfl, hb⟩; obtain ⟨X1, rfl, hl1, hm1⟩ := later (w.heap.size) hb (by go_size); clear hb; (try simp only [World.size_alloc, World.size_setCell, World.size_drew] at hm1))
      | (go_at_call 18; with_reducible refine (P2.out _).mono ?_; rintro e w' ⟨rfl, hb⟩; obtain ⟨X2, rfl, hl2, hm2⟩ := later (w.heap.size) hb (by go_size); clear hb; (try simp only [World.size_alloc, World.size_setCell, World.size_drew] at hm2))
      | (go_at_call 14; refine (known_any _).mono ?_; rintro e w' ⟨rfl, hb⟩; obtain ⟨X3, rfl, hl3, hm3⟩ := later (w.heap.size) hb (by go_size); clear hb; (try simp only [World.size_alloc, World.size_setCell, World.size_drew] at hm3)))
    all_goals
      go_ret
      exact ⟨rfl, by repeat' (first | (with_reducible exact Below.refl _ _) | (with_reducible assumption) | (with_reducible refine Later.step ?_ ?_ _) | (with_reducible refine Below.alloc ?_ ?_ _) | (with_reducible refine Below.drew ?_) | (with_reducible refine bel_drewN ?_ _) | (with_reducible refine bel_grown ?_ (by assumption) ?_ ?_) | (with_reducible refine Below.setCell ?_ ?_ _) | go_size)⟩
  · have hv : min m (a + b) = m := by omega
    have hcase : m < a ∨ (a ≤ m ∧ m - a < b) := by omega
    rw [hv] at P1 P2
    clear hv hc
    rcases hcase with c1 | ⟨c1, c2⟩
    all_goals
      go_enter Try.func5, Try.ntmps5
      go_wp2_with (first
        | (go_at_call 18; with_reducible refine (P1.out _).mono ?_; rintro e w' ⟨rfl, hb⟩; obtain ⟨X1, rfl, hl1, hm1⟩ := later (w.heap.size) hb (by go_size); clear hb; (try simp only [World.size_alloc, World.size_setCell, World.size_drew] at hm1))
        | (go_at_call 18; with_reducible refine (P2.out _).mono ?_; rintro e w' ⟨rfl, hb⟩; obtain ⟨X2, rfl, hl2, hm2⟩ := later (w.heap.size) hb (by go_size); clear hb; (try simp only [World.size_alloc, World.size_setCell, World.size_drew] at hm2))
        | (go_at_call 14; refine (known_any _).mono ?_; rintro e w' ⟨rfl, hb⟩; obtain ⟨X3, rfl, hl3, hm3⟩ := later (w.heap.size) hb (by go_size); clear hb; (try simp only [World.size_alloc, World.size_setCell, World.size_drew] at hm3)))
      all_goals
        go_ret
        exact ⟨rfl, by repeat' (first | (with_reducible exact Below.refl _ _) | (with_reducible assumption) | (with_reducible refine Later.step ?_ ?_ _) | (with_reducible refine Below.alloc ?_ ?_ _) | (with_reducible refine Below.drew ?_) | (with_reducible refine bel_drewN ?_ _) | (with_reducible refine bel_grown ?_ (by assumption) ?_ ?_) | (with_reducible refine Below.setCell ?_ ?_ _) | go_size)⟩
theorem txt_bl (s : ByteArray) : txt (bl s) = s := by
  apply ByteArray.ext
  unfold txt bl
  rw [List.map_map]
  have : ((UInt8.ofNat ∘ fun x : UInt8 => x.toNat) : UInt8 → UInt8) = id := by funext x; simp
  show (List.map (UInt8.ofNat ∘ fun x : UInt8 => x.toNat) s.data.toList).toArray = s.data
  rw [this, List.map_id]
theorem bl_txt {l : List Nat} (h : Small l) : bl (txt l) = l := by
  unfold bl txt
  simp only [List.map_map]
  conv => rhs; rw [← List.map_id l]
  apply List.map_congr_left
  intro x hx
  have := h x hx
  simp [Nat.mod_eq_of_lt this]
set_option maxHeartbeats 4000000 in
theorem hex_walk (a : Int) (s : ByteArray) (w : World) (ha : (Lit.int .u64 a).wf = true) (hs : s.size ≤ maxLen) :
    Calls Try.prog 9 #[.int .u64 a, .string s] w fun e w' => e = .returned (.bool true) ∧ Below w.heap.size w w' := by
  obtain ⟨N, rfl⟩ := Int.eq_ofNat_of_zero_le (u64_lim ha).1
  have hN : N < 18446744073709551616 := by have := (u64_lim ha).2; omega
  have hs' := max_lim hs
  have p1 := fun X : World => readhex_any s X hs'
  have p3 := fun X : World => hex_any N X hN
  have p4 := fun X : World => rhex_any N X hN
  obtain ⟨t, ht⟩ : ∃ t, txt (hexF 16 N) = t := ⟨_, rfl⟩
  rw [ht] at p3 p4
  have P3 := Lib.hid p3
  have P4 := Lib.hid p4
  clear p3 p4 ht
  by_cases hx : hexOk (bl s) = true
  · obtain ⟨e1, e2⟩ := hex_yes hx
    obtain ⟨h1, h2⟩ := hexOk_iff.1 hx
    have hall : ∀ x ∈ bl s, hexB x = true := by
      intro x hx
      obtain ⟨j, hj, rfl⟩ := List.getElem_of_mem hx
      have := h2 j hj
      simpa [List.getD, hj] using this
    have hv := readX_lt (bl s) hall
    rw [h1] at hv
    have hv' : readX (bl s) < 18446744073709551616 := by have : (16 : Nat) ^ 16 = 18446744073709551616 := by decide
                                                         omega
    have p5 : ∀ X : World, Calls Try.prog 24 #[.int .u64 (readX (bl s))] X fun e w' => e = .returned (.string s) ∧ Below X.heap.size X w' := fun X => by
      have := rhex_any (readX (bl s)) X hv'
      have e := hex_read (bl s) hall
      rw [h1] at e
      rwa [e, txt_bl] at this
    rw [e1, e2] at p1
    obtain ⟨v, hv⟩ : ∃ v, readX (bl s) = v := ⟨_, rfl⟩
    rw [hv] at p1 p5
    have P1 := Lib.hid p1
    have P5 := Lib.hid p5
    clear p1 p5 e1 e2 h1 h2 hall hv hv' ha hs hx
    go_enter Try.func9, Try.ntmps9
    go_wp2_with (first
      | (go_at_call 22; with_reducible refine (P1.out _).mono ?_; rintro e w' ⟨rfl, hb⟩; obtain ⟨X1, rfl, hl1, hm1⟩ := later (w.heap.size) hb (by go_size); clear hb; (try simp only [World.size_alloc, World.size_setCell, World.size_drew] at hm1))
      | (go_at_call 23; with_reducible refine (P3.out _).mono ?_; rintro e w' ⟨rfl, hb⟩; obtain ⟨X3, rfl, hl3, hm3⟩ := later (w.heap.size) hb (by go_size); clear hb; (try simp only [World.size_alloc, World.size_setCell, World.size_drew] at hm3))
      | (go_at_call 24; with_reducible refine (P4.out _).mono ?_; rintro e w' ⟨rfl, hb⟩; obtain ⟨X4, rfl, hl4, hm4⟩ := later (w.heap.size) hb (by go_size); clear hb; (try simp only [World.size_alloc, World.size_setCell, World.size_drew] at hm4))
      | (go_at_call 24; with_reducible refine (P5.out _).mono ?_; rintro e w' ⟨rfl, hb⟩; obtain ⟨X5, rfl, hl5, hm5⟩ := later (w.heap.size) hb (by go_size); clear hb; (try simp only [World.size_alloc, World.size_setCell, World.size_drew] at hm5))
      | (go_at_call 14; refine (known_any _).mono ?_; rintro e w' ⟨rfl, hb⟩; obtain ⟨X6, rfl, hl6, hm6⟩ := later (w.heap.size) hb (by go_size); clear hb; (try simp only [World.size_alloc, World.size_setCell, World.size_drew] at hm6)))
    go_ret
    exact ⟨rfl, by repeat' (first | (with_reducible exact Below.refl _ _) | (with_reducible assumption) | (with_reducible refine Later.step ?_ ?_ _) | (with_reducible refine Below.alloc ?_ ?_ _) | (with_reducible refine Below.drew ?_) | (with_reducible refine bel_drewN ?_ _) | (with_reducible refine bel_grown ?_ (by assumption) ?_ ?_) | (with_reducible refine Below.setCell ?_ ?_ _) | go_size)⟩
  · have hx' : hexOk (bl s) = false := by simpa using hx
    obtain ⟨e1, e2⟩ := hex_no hx'
    rw [e1, e2] at p1
    have P1 := Lib.hid p1
    have HX := Lib.hid hx'
    clear p1 e1 e2 hx hx' ha hs
    by_cases h16 : s.size = 16
    · have hbt := get_bt s
      have hb0 := bt_nonneg s
      have hb1 := bt_le s
      have hn : ((s.size : Int) == 16) = true := by rw [h16]; rfl
      go_enter Try.func9, Try.ntmps9
      go_wp2_with (first
        | (go_at_call 22; refine (P1.out _).mono ?_; rintro e w' ⟨rfl, hb⟩; obtain ⟨X1, rfl, hl1, hm1⟩ := later (w.heap.size) hb (by go_size); clear hb; (try simp only [World.size_alloc, World.size_setCell, World.size_drew] at hm1)))
      go_loop [7, 8] (fun r i => ∃ (k : Nat) (b : Bool), k ≤ 16 ∧ i = .int .i64 k ∧ r = .bool b ∧ Hid (b = true → ∀ j, j < k → hexB ((bl s).getD j 0) = true)) (fun _ i => 16 - (intOf i).toNat)
      case atStart => exact ⟨0, true, Nat.zero_le _, rfl, by simp, fun _ j hj => absurd hj (by omega)⟩
      case round =>
        obtain ⟨k, b, hk, rfl, rfl, hd⟩ := hrel
        cases b with
        | false =>
          go_wp2_with (first
          | (go_at_call 23; with_reducible refine (P3.out _).mono ?_; rintro e w' ⟨rfl, hb⟩; obtain ⟨X3, rfl, hl3, hm3⟩ := later (w.heap.size) hb (by go_size); clear hb; (try simp only [World.size_alloc, World.size_setCell, World.size_drew] at hm3))
          | (go_at_call 24; with_reducible refine (P4.out _).mono ?_; rintro e w' ⟨rfl, hb⟩; obtain ⟨X4, rfl, hl4, hm4⟩ := later (w.heap.size) hb (by go_size); clear hb; (try simp only [World.size_alloc, World.size_setCell, World.size_drew] at hm4))
          | (go_at_call 14; refine (known_any _).mono ?_; rintro e w' ⟨rfl, hb⟩; obtain ⟨X6, rfl, hl6, hm6⟩ := later (w.heap.size) hb (by go_size); clear hb; (try simp only [World.size_alloc, World.size_setCell, World.size_drew] at hm6)))
          all_goals
            go_ret
            exact ⟨rfl, by repeat' (first | (with_reducible exact Below.refl _ _) | (with_reducible assumption) | (with_reducible refine Later.step ?_ ?_ _) | (with_reducible refine Below.alloc ?_ ?_ _) | (with_reducible refine Below.drew ?_) | (with_reducible refine bel_drewN ?_ _) | (with_reducible refine bel_grown ?_ (by assumption) ?_ ?_) | (with_reducible refine Below.setCell ?_ ?_ _) | go_size)⟩
        | true =>
          by_cases hlt : k < 16
          · have g0 := hb0 k
            have g1 := hb1 k
            have hx := bl_bt s k
            have HXB := Lib.hid hx
            clear hx
            have hcase : bt s k < 48 ∨ (48 ≤ bt s k ∧ bt s k ≤ 57) ∨ (58 ≤ bt s k ∧ bt s k < 97) ∨ (97 ≤ bt s k ∧ bt s k ≤ 102) ∨ 102 < bt s k := by omega
            rcases hcase with c1 | ⟨c1, c2⟩ | ⟨c1, c2⟩ | ⟨c1, c2⟩ | c1
            · go_wp2
              go_round
              case rel => exact ⟨k + 1, false, by omega, by go_num, by first | rfl | (simp; done) | (simp; omega), fun h => by cases h⟩
              case measure => simp [intOf]; omega
            · go_wp2
              go_round
              case rel => exact ⟨k + 1, true, by omega, by go_num, by first | rfl | (simp; done) | (simp; omega), fun _ j hj => by
                by_cases e : j = k
                · subst e; simp only [hexB, decide_eq_true_eq]; have := HXB.out; omega
                · exact hd.out rfl j (by omega)⟩
              case measure => simp [intOf]; omega
            · go_wp2
              go_round
              case rel => exact ⟨k + 1, false, by omega, by go_num, by first | rfl | (simp; done) | (simp; omega), fun h => by cases h⟩
              case measure => simp [intOf]; omega
            · go_wp2
              go_round
              case rel => exact ⟨k + 1, true, by omega, by go_num, by first | rfl | (simp; done) | (simp; omega), fun _ j hj => by
                by_cases e : j = k
                · subst e; simp only [hexB, decide_eq_true_eq]; have := HXB.out; omega
                · exact hd.out rfl j (by omega)⟩
              case measure => simp [intOf]; omega
            · go_wp2
              go_round
              case rel => exact ⟨k + 1, false, by omega, by go_num, by first | rfl | (simp; done) | (simp; omega), fun h => by cases h⟩
              case measure => simp [intOf]; omega
          · obtain rfl : k = 16 := by omega
            exfalso
            have := hexOk_iff.2 ⟨by rw [bl_len]; exact h16, fun j hj => hd.out rfl j (by rw [bl_len] at hj; omega)⟩
            rw [HX.out] at this; cases this
    · have hn : ((s.size : Int) == 16) = false := by rw [Bool.eq_false_iff]; intro h; exact h16 (by have := eq_e h; omega)
      go_enter Try.func9, Try.ntmps9
      go_wp2_with (first
        | (go_at_call 22; refine (P1.out _).mono ?_; rintro e w' ⟨rfl, hb⟩; obtain ⟨X1, rfl, hl1, hm1⟩ := later (w.heap.size) hb (by go_size); clear hb; (try simp only [World.size_alloc, World.size_setCell, World.size_drew] at hm1)))
      go_loop [7, 8] (fun r i => i = .int .i64 0 ∧ r = .bool false) (fun _ _ => 0)
      case atStart => exact ⟨rfl, by simp [hn]⟩
      case round =>
        obtain ⟨rfl, rfl⟩ := hrel
        go_wp2_with (first
          | (go_at_call 23; with_reducible refine (P3.out _).mono ?_; rintro e w' ⟨rfl, hb⟩; obtain ⟨X3, rfl, hl3, hm3⟩ := later (w.heap.size) hb (by go_size); clear hb; (try simp only [World.size_alloc, World.size_setCell, World.size_drew] at hm3))
          | (go_at_call 24; with_reducible refine (P4.out _).mono ?_; rintro e w' ⟨rfl, hb⟩; obtain ⟨X4, rfl, hl4, hm4⟩ := later (w.heap.size) hb (by go_size); clear hb; (try simp only [World.size_alloc, World.size_setCell, World.size_drew] at hm4))
          | (go_at_call 14; refine (known_any _).mono ?_; rintro e w' ⟨rfl, hb⟩; obtain ⟨X6, rfl, hl6, hm6⟩ := later (w.heap.size) hb (by go_size); clear hb; (try simp only [World.size_alloc, World.size_setCell, World.size_drew] at hm6)))
        all_goals
          go_ret
          exact ⟨rfl, by repeat' (first | (with_reducible exact Below.refl _ _) | (with_reducible assumption) | (with_reducible refine Later.step ?_ ?_ _) | (with_reducible refine Below.alloc ?_ ?_ _) | (with_reducible refine Below.drew ?_) | (with_reducible refine bel_drewN ?_ _) | (with_reducible refine bel_grown ?_ (by assumption) ?_ ?_) | (with_reducible refine Below.setCell ?_ ?_ _) | go_size)⟩
end Go.Proofs.Ytdhecljfjecefaa
