/- Laws of the layer of cells, walked: codes. No condition. -/
import Derived.Test.YthfnmlbdbjblkaaCellH
import Derived.Test.YthfnmlbdbjblkaaBytes
namespace Go.Proofs.Ythfnmlbdbjblkaa
open Go.RowKit
set_option linter.unusedSimpArgs false
set_option linter.unusedVariables false

theorem four_pw (k : Nat) : pw (k : Int) * pw (k : Int) = ((4 ^ k : Nat) : Int) := by
  rw [pw_nat, ← Int.natCast_mul, ← Nat.mul_pow]
theorem code_from (k c : Nat) (hk : k ≤ 16) (h : c < 4 ^ k) (X : World) :
    Calls Try.prog 29 #[.agg #[.int .i64 ((k : Int)), .int .i64 ((fxN c k : Nat)), .int .i64 ((fyN c k : Nat))]] X fun e w' => e = .returned (.tuple #[.int .u64 (c : Int), .bool true]) ∧ Below X.heap.size X w' := by
  have := code_any k (fxN c k : Nat) (fyN c k : Nat) X
  rw [from_right hk, code_of_from h] at this
  simp only [sel_true] at this
  exact this
theorem cright_nat {k a b : Nat} (h : crightB k a b = true) : k ≤ 16 ∧ a < 2 ^ k ∧ b < 2 ^ k := by
  have g := cright_iff.1 h
  rw [pw_nat] at g
  omega
theorem from_code (k a b : Nat) (h : crightB k a b = true) (X : World) :
    Calls Try.prog 31 #[.int .i64 k, .int .u64 (codeN k a b : Nat)] X fun e w' => e = .returned (.tuple #[.agg #[.int .i64 ((k : Int)), .int .i64 ((a : Int)), .int .i64 ((b : Int))], .bool true]) ∧ Below X.heap.size X w' := by
  obtain ⟨hk, ha, hb⟩ := cright_nat h
  have hl := code_lt (k := k) (x := a) (y := b) hk
  have := from_yes k (codeN k a b) X hk (by omega) (codeN_lt k a b)
  rw [(from_back k a b ha hb).1, (from_back k a b ha hb).2] at this
  exact this
theorem code_kid (k a b i : Nat) (h : crightB k a b = true) (hk : k < 16) (hi : i ≤ 3) (X : World) :
    Calls Try.prog 29 #[.agg #[.int .i64 ((k : Int) + 1), .int .i64 (2 * (a : Int) + (i : Int) % 2), .int .i64 (2 * (b : Int) + (i : Int) / 2)]] X fun e w' => e = .returned (.tuple #[.int .u64 (4 * (codeN k a b : Nat) + (i : Int)), .bool true]) ∧ Below X.heap.size X w' := by
  have := code_any ((k : Int) + 1) (2 * (a : Int) + (i : Int) % 2) (2 * (b : Int) + (i : Int) / 2) X
  have e : codeI ((k : Int) + 1) (2 * (a : Int) + (i : Int) % 2) (2 * (b : Int) + (i : Int) / 2) = 4 * (codeN k a b : Nat) + (i : Int) := by
    unfold codeI
    rw [show ((k : Int) + 1).toNat = k + 1 by omega, show (2 * (a : Int) + (i : Int) % 2).toNat = 2 * a + i % 2 by omega, show (2 * (b : Int) + (i : Int) / 2).toNat = 2 * b + i / 2 by omega, code_child hi]
    push_cast; rfl
  rw [child_right h (by omega) (by omega) (by omega), e] at this
  simp only [sel_true] at this
  exact this
theorem code_yes2 (k a b : Nat) (h : crightB k a b = true) (X : World) :
    Calls Try.prog 29 #[.agg #[.int .i64 ((k : Int)), .int .i64 ((a : Int)), .int .i64 ((b : Int))]] X fun e w' => e = .returned (.tuple #[.int .u64 (codeN k a b : Nat), .bool true]) ∧ Below X.heap.size X w' :=
  code_yes k a b X (cright_nat h).1 h
theorem code_no (l x y : Int) (h : crightB l x y = false) (X : World) :
    Calls Try.prog 29 #[.agg #[.int .i64 l, .int .i64 x, .int .i64 y]] X fun e w' => e = .returned (.tuple #[.int .u64 0, .bool false]) ∧ Below X.heap.size X w' := by
  have := code_any l x y X
  rw [h] at this
  simp only [sel_false] at this
  exact this
theorem rcode_no (l x y : Int) (h : crightB l x y = false) (X : World) :
    Calls Try.prog 30 #[.agg #[.int .i64 l, .int .i64 x, .int .i64 y]] X fun e w' => e = .returned (.tuple #[.int .u64 0, .bool false]) ∧ Below X.heap.size X w' := by
  have := rcode_any l x y X
  rw [h] at this
  simp only [sel_false] at this
  exact this
theorem child_yes (k a b i : Nat) (h : crightB k a b = true) (hk : k < 16) (hi : i ≤ 3) (X : World) :
    Calls Try.prog 25 #[.agg #[.int .i64 ((k : Int)), .int .i64 ((a : Int)), .int .i64 ((b : Int))], .int .i64 i] X fun e w' => e = .returned (.tuple #[.agg #[.int .i64 ((k : Int) + 1), .int .i64 (2 * (a : Int) + (i : Int) % 2), .int .i64 (2 * (b : Int) + (i : Int) / 2)], .bool true]) ∧ Below X.heap.size X w' := by
  have := child_any k a b i X
  rw [child_iff.2 ⟨h, by omega, by omega, by omega⟩] at this
  simp only [sel_true] at this
  exact this
theorem child_no (l x y i : Int) (h : childB l x y i = false) (X : World) :
    Calls Try.prog 25 #[.agg #[.int .i64 l, .int .i64 x, .int .i64 y], .int .i64 i] X fun e w' => e = .returned (.tuple #[.agg #[.int .i64 0, .int .i64 0, .int .i64 0], .bool false]) ∧ Below X.heap.size X w' := by
  have := child_any l x y i X
  rw [h] at this
  simp only [sel_false] at this
  exact this
set_option maxHeartbeats 4000000 in
theorem codes_ln (l x y : Int) (i : Int) (code : Nat) (w : World) (hco : code < 18446744073709551616) (hc : crightB l x y = false) (hl : lvlB l = false) :
    Calls Try.prog 8 #[.agg #[.int .i64 l, .int .i64 x, .int .i64 y], .int .i64 i, .int .u64 code] w fun e w' => e = .returned (.bool true) ∧ Below w.heap.size w w' := by
  have P1 := Lib.hid (fun X : World => code_no l x y hc X)
  have P2 := Lib.hid (fun X : World => rcode_no l x y hc X)
  have P3 := Lib.hid (fun X : World => from_no l code X hco (by simp [fromB, hl]))
  have p8 := fun X : World => rlvl_any l X
  rw [hl] at p8
  have P8 := Lib.hid p8
  clear p8
  clear hc hl
  go_enter Try.func8, Try.ntmps8
  go_wp2_with (first
    | (go_at_call 29; with_reducible refine (P1.out _).mono ?_; rintro e w' ⟨rfl, hb⟩; obtain ⟨X1, rfl, hl1, hm1⟩ := later (w.heap.size + 1) hb (by first | exact Nat.le_refl _ | go_size); clear hb; (try simp only [World.size_alloc, World.size_setCell, World.size_drew] at hm1))
    | (go_at_call 30; with_reducible refine (P2.out _).mono ?_; rintro e w' ⟨rfl, hb⟩; obtain ⟨X2, rfl, hl2, hm2⟩ := later (w.heap.size + 1) hb (by first | exact Nat.le_refl _ | go_size); clear hb; (try simp only [World.size_alloc, World.size_setCell, World.size_drew] at hm2))
    | (go_at_call 31; with_reducible refine (P3.out _).mono ?_; rintro e w' ⟨rfl, hb⟩; obtain ⟨X3, rfl, hl3, hm3⟩ := later (w.heap.size + 1) hb (by first | exact Nat.le_refl _ | go_size); clear hb; (try simp only [World.size_alloc, World.size_setCell, World.size_drew] at hm3)))
  (refine wp_region_later (w.heap.size + 1) (by kernel_rfl) (by kernel_rfl) (by go_size) ?_; (repeat (go_big_quiet_step ((first | (go_at_call 32; exact Later.call _ (Nat.le_trans (by go_size) (Later.is _).size) (P8.out _)))))); refine wpQuiet_nil ?_; intro Xq hlq hmq)
  go_wp2_with (first
    | (go_at_call 18; refine (cknown_any _).mono ?_; rintro e w' ⟨rfl, hb⟩; obtain ⟨X9, rfl, hl9, hm9⟩ := later (w.heap.size + 1) hb (by first | exact Nat.le_refl _ | go_size); clear hb; (try simp only [World.size_alloc, World.size_setCell, World.size_drew] at hm9)))
  go_ret
  exact ⟨rfl, by repeat' (first | (with_reducible exact Below.refl _ _) | (with_reducible assumption) | (with_reducible refine Later.step ?_ ?_ _) | (with_reducible refine Below.alloc ?_ ?_ _) | (with_reducible refine Below.drew ?_) | (with_reducible refine bel_drewN ?_ _) | (with_reducible refine bel_grown ?_ (by assumption) ?_ ?_) | (with_reducible refine Below.setCell ?_ ?_ _) | go_size)⟩
set_option maxHeartbeats 4000000 in
theorem codes_yn (k : Nat) (x y : Int) (i : Int) (code : Nat) (w : World) (hco : code < 18446744073709551616) (hc : crightB (k : Int) x y = false) (hk : k ≤ 16) (hf : code < 4 ^ k) :
    Calls Try.prog 8 #[.agg #[.int .i64 ((k : Int)), .int .i64 x, .int .i64 y], .int .i64 i, .int .u64 code] w fun e w' => e = .returned (.bool true) ∧ Below w.heap.size w w' := by
  have P1 := Lib.hid (fun X : World => code_no (k : Int) x y hc X)
  have P2 := Lib.hid (fun X : World => rcode_no (k : Int) x y hc X)
  have p3 := fun X : World => from_yes k code X hk hco hf
  have p4 := fun X : World => code_from k code hk hf X
  generalize fxN code k = fx at *
  generalize fyN code k = fy at *
  have P3 := Lib.hid p3
  have P4 := Lib.hid p4
  clear p3 p4
  clear hc hf
  go_enter Try.func8, Try.ntmps8
  go_wp2_with (first
    | (go_at_call 29; with_reducible refine (P1.out _).mono ?_; rintro e w' ⟨rfl, hb⟩; obtain ⟨X1, rfl, hl1, hm1⟩ := later (w.heap.size + 1) hb (by first | exact Nat.le_refl _ | go_size); clear hb; (try simp only [World.size_alloc, World.size_setCell, World.size_drew] at hm1))
    | (go_at_call 30; with_reducible refine (P2.out _).mono ?_; rintro e w' ⟨rfl, hb⟩; obtain ⟨X2, rfl, hl2, hm2⟩ := later (w.heap.size + 1) hb (by first | exact Nat.le_refl _ | go_size); clear hb; (try simp only [World.size_alloc, World.size_setCell, World.size_drew] at hm2))
    | (go_at_call 31; with_reducible refine (P3.out _).mono ?_; rintro e w' ⟨rfl, hb⟩; obtain ⟨X3, rfl, hl3, hm3⟩ := later (w.heap.size + 1) hb (by first | exact Nat.le_refl _ | go_size); clear hb; (try simp only [World.size_alloc, World.size_setCell, World.size_drew] at hm3))
    | (go_at_call 29; with_reducible refine (P4.out _).mono ?_; rintro e w' ⟨rfl, hb⟩; obtain ⟨X4, rfl, hl4, hm4⟩ := later (X3.w.heap.size + 1) hb (by first | exact Nat.le_refl _ | go_size); clear hb; (try simp only [World.size_alloc, World.size_setCell, World.size_drew] at hm4))
    | (go_at_call 18; refine (cknown_any _).mono ?_; rintro e w' ⟨rfl, hb⟩; obtain ⟨X9, rfl, hl9, hm9⟩ := later (w.heap.size + 1) hb (by first | exact Nat.le_refl _ | go_size); clear hb; (try simp only [World.size_alloc, World.size_setCell, World.size_drew] at hm9)))
  go_ret
  exact ⟨rfl, by repeat' (first | (with_reducible exact Below.refl _ _) | (with_reducible assumption) | (with_reducible refine Later.step ?_ ?_ _) | (with_reducible refine Below.alloc ?_ ?_ _) | (with_reducible refine Below.drew ?_) | (with_reducible refine bel_drewN ?_ _) | (with_reducible refine bel_grown ?_ (by assumption) ?_ ?_) | (with_reducible refine Below.setCell ?_ ?_ _) | go_size)⟩
set_option maxHeartbeats 4000000 in
theorem codes_yk (k a b : Nat) (i : Int) (code : Nat) (w : World) (hco : code < 18446744073709551616) (hc : crightB k a b = true) (hk : k ≤ 16) (hf : code < 4 ^ k) (hn : childB k a b i = false) :
    Calls Try.prog 8 #[.agg #[.int .i64 ((k : Int)), .int .i64 ((a : Int)), .int .i64 ((b : Int))], .int .i64 i, .int .u64 code] w fun e w' => e = .returned (.bool true) ∧ Below w.heap.size w w' := by
  have P1 := Lib.hid (fun X : World => code_yes2 k a b hc X)
  have P2 := Lib.hid (fun X : World => rcode_yes k a b X (cright_nat hc).1 hc)
  have P5 := Lib.hid (fun X : World => from_code k a b hc X)
  have hcl := code_lt (k := k) (x := a) (y := b) (cright_nat hc).1
  have p3 := fun X : World => from_yes k code X hk hco hf
  have p4 := fun X : World => code_from k code hk hf X
  generalize fxN code k = fx at *
  generalize fyN code k = fy at *
  have P3 := Lib.hid p3
  have P4 := Lib.hid p4
  clear p3 p4
  have P6 := Lib.hid (fun X : World => child_no k a b i hn X)
  clear hc hf hn
  generalize codeN k a b = n at *
  go_enter Try.func8, Try.ntmps8
  go_wp2_with (first
    | (go_at_call 29; with_reducible refine (P1.out _).mono ?_; rintro e w' ⟨rfl, hb⟩; obtain ⟨X1, rfl, hl1, hm1⟩ := later (w.heap.size + 1) hb (by first | exact Nat.le_refl _ | go_size); clear hb; (try simp only [World.size_alloc, World.size_setCell, World.size_drew] at hm1))
    | (go_at_call 30; with_reducible refine (P2.out _).mono ?_; rintro e w' ⟨rfl, hb⟩; obtain ⟨X2, rfl, hl2, hm2⟩ := later (w.heap.size + 1) hb (by first | exact Nat.le_refl _ | go_size); clear hb; (try simp only [World.size_alloc, World.size_setCell, World.size_drew] at hm2))
    | (go_at_call 31; with_reducible refine (P3.out _).mono ?_; rintro e w' ⟨rfl, hb⟩; obtain ⟨X3, rfl, hl3, hm3⟩ := later (w.heap.size + 1) hb (by first | exact Nat.le_refl _ | go_size); clear hb; (try simp only [World.size_alloc, World.size_setCell, World.size_drew] at hm3))
    | (go_at_call 29; with_reducible refine (P4.out _).mono ?_; rintro e w' ⟨rfl, hb⟩; obtain ⟨X4, rfl, hl4, hm4⟩ := later (X3.w.heap.size + 1) hb (by first | exact Nat.le_refl _ | go_size); clear hb; (try simp only [World.size_alloc, World.size_setCell, World.size_drew] at hm4))
    | (go_at_call 31; with_reducible refine (P5.out _).mono ?_; rintro e w' ⟨rfl, hb⟩; obtain ⟨X5, rfl, hl5, hm5⟩ := later (w.heap.size + 1) hb (by first | exact Nat.le_refl _ | go_size); clear hb; (try simp only [World.size_alloc, World.size_setCell, World.size_drew] at hm5))
    | (go_at_call 25; with_reducible refine (P6.out _).mono ?_; rintro e w' ⟨rfl, hb⟩; obtain ⟨X6, rfl, hl6, hm6⟩ := later (w.heap.size + 1) hb (by first | exact Nat.le_refl _ | go_size); clear hb; (try simp only [World.size_alloc, World.size_setCell, World.size_drew] at hm6))
    | (go_at_call 18; refine (cknown_any _).mono ?_; rintro e w' ⟨rfl, hb⟩; obtain ⟨X9, rfl, hl9, hm9⟩ := later (w.heap.size + 1) hb (by first | exact Nat.le_refl _ | go_size); clear hb; (try simp only [World.size_alloc, World.size_setCell, World.size_drew] at hm9)))
  go_ret
  exact ⟨rfl, by repeat' (first | (with_reducible exact Below.refl _ _) | (with_reducible assumption) | (with_reducible refine Later.step ?_ ?_ _) | (with_reducible refine Below.alloc ?_ ?_ _) | (with_reducible refine Below.drew ?_) | (with_reducible refine bel_drewN ?_ _) | (with_reducible refine bel_grown ?_ (by assumption) ?_ ?_) | (with_reducible refine Below.setCell ?_ ?_ _) | go_size)⟩
set_option maxHeartbeats 4000000 in
theorem codes_yc (k a b : Nat) (i : Nat) (code : Nat) (w : World) (hco : code < 18446744073709551616) (hc : crightB k a b = true) (hk : k ≤ 16) (hf : code < 4 ^ k) (hk' : k < 16) (hi : i ≤ 3) :
    Calls Try.prog 8 #[.agg #[.int .i64 ((k : Int)), .int .i64 ((a : Int)), .int .i64 ((b : Int))], .int .i64 i, .int .u64 code] w fun e w' => e = .returned (.bool true) ∧ Below w.heap.size w w' := by
  have P1 := Lib.hid (fun X : World => code_yes2 k a b hc X)
  have P2 := Lib.hid (fun X : World => rcode_yes k a b X (cright_nat hc).1 hc)
  have P5 := Lib.hid (fun X : World => from_code k a b hc X)
  have hcl := code_lt (k := k) (x := a) (y := b) (cright_nat hc).1
  have p3 := fun X : World => from_yes k code X hk hco hf
  have p4 := fun X : World => code_from k code hk hf X
  generalize fxN code k = fx at *
  generalize fyN code k = fy at *
  have P3 := Lib.hid p3
  have P4 := Lib.hid p4
  clear p3 p4
  have P6 := Lib.hid (fun X : World => child_yes k a b i hc hk' hi X)
  have P7 := Lib.hid (fun X : World => code_kid k a b i hc hk' hi X)
  have hi0 : (0 : Int) ≤ (i : Int) := by omega
  have hi1 : (i : Int) ≤ 3 := by omega
  clear hc hf
  generalize codeN k a b = n at *
  generalize 2 * (a : Int) + (i : Int) % 2 = u at *
  generalize 2 * (b : Int) + (i : Int) / 2 = v at *
  go_enter Try.func8, Try.ntmps8
  go_wp2_with (first
    | (go_at_call 29; with_reducible refine (P1.out _).mono ?_; rintro e w' ⟨rfl, hb⟩; obtain ⟨X1, rfl, hl1, hm1⟩ := later (w.heap.size + 1) hb (by first | exact Nat.le_refl _ | go_size); clear hb; (try simp only [World.size_alloc, World.size_setCell, World.size_drew] at hm1))
    | (go_at_call 30; with_reducible refine (P2.out _).mono ?_; rintro e w' ⟨rfl, hb⟩; obtain ⟨X2, rfl, hl2, hm2⟩ := later (w.heap.size + 1) hb (by first | exact Nat.le_refl _ | go_size); clear hb; (try simp only [World.size_alloc, World.size_setCell, World.size_drew] at hm2))
    | (go_at_call 31; with_reducible refine (P3.out _).mono ?_; rintro e w' ⟨rfl, hb⟩; obtain ⟨X3, rfl, hl3, hm3⟩ := later (w.heap.size + 1) hb (by first | exact Nat.le_refl _ | go_size); clear hb; (try simp only [World.size_alloc, World.size_setCell, World.size_drew] at hm3))
    | (go_at_call 29; with_reducible refine (P4.out _).mono ?_; rintro e w' ⟨rfl, hb⟩; obtain ⟨X4, rfl, hl4, hm4⟩ := later (X3.w.heap.size + 1) hb (by first | exact Nat.le_refl _ | go_size); clear hb; (try simp only [World.size_alloc, World.size_setCell, World.size_drew] at hm4))
    | (go_at_call 31; with_reducible refine (P5.out _).mono ?_; rintro e w' ⟨rfl, hb⟩; obtain ⟨X5, rfl, hl5, hm5⟩ := later (w.heap.size + 1) hb (by first | exact Nat.le_refl _ | go_size); clear hb; (try simp only [World.size_alloc, World.size_setCell, World.size_drew] at hm5))
    | (go_at_call 25; with_reducible refine (P6.out _).mono ?_; rintro e w' ⟨rfl, hb⟩; obtain ⟨X6, rfl, hl6, hm6⟩ := later (w.heap.size + 1) hb (by first | exact Nat.le_refl _ | go_size); clear hb; (try simp only [World.size_alloc, World.size_setCell, World.size_drew] at hm6))
    | (go_at_call 29; with_reducible refine (P7.out _).mono ?_; rintro e w' ⟨rfl, hb⟩; obtain ⟨X7, rfl, hl7, hm7⟩ := later (w.heap.size + 1) hb (by first | exact Nat.le_refl _ | go_size); clear hb; (try simp only [World.size_alloc, World.size_setCell, World.size_drew] at hm7))
    | (go_at_call 18; refine (cknown_any _).mono ?_; rintro e w' ⟨rfl, hb⟩; obtain ⟨X9, rfl, hl9, hm9⟩ := later (w.heap.size + 1) hb (by first | exact Nat.le_refl _ | go_size); clear hb; (try simp only [World.size_alloc, World.size_setCell, World.size_drew] at hm9)))
  go_ret
  exact ⟨rfl, by repeat' (first | (with_reducible exact Below.refl _ _) | (with_reducible assumption) | (with_reducible refine Later.step ?_ ?_ _) | (with_reducible refine Below.alloc ?_ ?_ _) | (with_reducible refine Below.drew ?_) | (with_reducible refine bel_drewN ?_ _) | (with_reducible refine bel_grown ?_ (by assumption) ?_ ?_) | (with_reducible refine Below.setCell ?_ ?_ _) | go_size)⟩
set_option maxHeartbeats 4000000 in
theorem codes_cn (k : Nat) (x y : Int) (i : Int) (code : Nat) (w : World) (hco : code < 18446744073709551616) (hc : crightB (k : Int) x y = false) (hk : k ≤ 16) (hf : ¬ code < 4 ^ k) :
    Calls Try.prog 8 #[.agg #[.int .i64 ((k : Int)), .int .i64 x, .int .i64 y], .int .i64 i, .int .u64 code] w fun e w' => e = .returned (.bool true) ∧ Below w.heap.size w w' := by
  have P1 := Lib.hid (fun X : World => code_no (k : Int) x y hc X)
  have P2 := Lib.hid (fun X : World => rcode_no (k : Int) x y hc X)
  have P3 := Lib.hid (fun X : World => from_no k code X hco (by rw [Bool.eq_false_iff]; intro h; exact hf (by simpa using (from_iff.1 h).2)))
  have p8 := fun X : World => rlvl_any k X
  rw [show lvlB (k : Int) = true from lvl_iff.2 ⟨by omega, by omega⟩] at p8
  have P8 := Lib.hid p8
  have p9 := fun X : World => two_any k X (by omega)
  have hq0 := pw_pos (k : Int)
  have hq1 := pw_le (l := (k : Int)) (by omega)
  have hq2 := mul_bd (Int.le_of_lt hq0) hq1 (Int.le_of_lt hq0) hq1
  have hq3 : ¬ (code : Int) < pw (k : Int) * pw (k : Int) := by rw [four_pw]; omega
  generalize pw (k : Int) = q at *
  have P9 := Lib.hid p9
  clear p8 p9
  clear hc hf
  go_enter Try.func8, Try.ntmps8
  go_wp2_with (first
    | (go_at_call 29; with_reducible refine (P1.out _).mono ?_; rintro e w' ⟨rfl, hb⟩; obtain ⟨X1, rfl, hl1, hm1⟩ := later (w.heap.size + 1) hb (by first | exact Nat.le_refl _ | go_size); clear hb; (try simp only [World.size_alloc, World.size_setCell, World.size_drew] at hm1))
    | (go_at_call 30; with_reducible refine (P2.out _).mono ?_; rintro e w' ⟨rfl, hb⟩; obtain ⟨X2, rfl, hl2, hm2⟩ := later (w.heap.size + 1) hb (by first | exact Nat.le_refl _ | go_size); clear hb; (try simp only [World.size_alloc, World.size_setCell, World.size_drew] at hm2))
    | (go_at_call 31; with_reducible refine (P3.out _).mono ?_; rintro e w' ⟨rfl, hb⟩; obtain ⟨X3, rfl, hl3, hm3⟩ := later (w.heap.size + 1) hb (by first | exact Nat.le_refl _ | go_size); clear hb; (try simp only [World.size_alloc, World.size_setCell, World.size_drew] at hm3)))
  (refine wp_region_later (w.heap.size + 1) (by kernel_rfl) (by kernel_rfl) (by go_size) ?_; (repeat (go_big_quiet_step ((first | (go_at_call 32; exact Later.call _ (Nat.le_trans (by go_size) (Later.is _).size) (P8.out _)) | (go_at_call 33; exact Later.call _ (Nat.le_trans (by go_size) (Later.is _).size) (P9.out _)))))); refine wpQuiet_nil ?_; intro Xq hlq hmq)
  go_wp2_with (first
    | (go_at_call 18; refine (cknown_any _).mono ?_; rintro e w' ⟨rfl, hb⟩; obtain ⟨X9, rfl, hl9, hm9⟩ := later (w.heap.size + 1) hb (by first | exact Nat.le_refl _ | go_size); clear hb; (try simp only [World.size_alloc, World.size_setCell, World.size_drew] at hm9)))
  go_ret
  exact ⟨rfl, by repeat' (first | (with_reducible exact Below.refl _ _) | (with_reducible assumption) | (with_reducible refine Later.step ?_ ?_ _) | (with_reducible refine Below.alloc ?_ ?_ _) | (with_reducible refine Below.drew ?_) | (with_reducible refine bel_drewN ?_ _) | (with_reducible refine bel_grown ?_ (by assumption) ?_ ?_) | (with_reducible refine Below.setCell ?_ ?_ _) | go_size)⟩
set_option maxHeartbeats 4000000 in
theorem codes_ck (k a b : Nat) (i : Int) (code : Nat) (w : World) (hco : code < 18446744073709551616) (hc : crightB k a b = true) (hk : k ≤ 16) (hf : ¬ code < 4 ^ k) (hn : childB k a b i = false) :
    Calls Try.prog 8 #[.agg #[.int .i64 ((k : Int)), .int .i64 ((a : Int)), .int .i64 ((b : Int))], .int .i64 i, .int .u64 code] w fun e w' => e = .returned (.bool true) ∧ Below w.heap.size w w' := by
  have P1 := Lib.hid (fun X : World => code_yes2 k a b hc X)
  have P2 := Lib.hid (fun X : World => rcode_yes k a b X (cright_nat hc).1 hc)
  have P5 := Lib.hid (fun X : World => from_code k a b hc X)
  have hcl := code_lt (k := k) (x := a) (y := b) (cright_nat hc).1
  have P3 := Lib.hid (fun X : World => from_no k code X hco (by rw [Bool.eq_false_iff]; intro h; exact hf (by simpa using (from_iff.1 h).2)))
  have p8 := fun X : World => rlvl_any k X
  rw [show lvlB (k : Int) = true from lvl_iff.2 ⟨by omega, by omega⟩] at p8
  have P8 := Lib.hid p8
  have p9 := fun X : World => two_any k X (by omega)
  have hq0 := pw_pos (k : Int)
  have hq1 := pw_le (l := (k : Int)) (by omega)
  have hq2 := mul_bd (Int.le_of_lt hq0) hq1 (Int.le_of_lt hq0) hq1
  have hq3 : ¬ (code : Int) < pw (k : Int) * pw (k : Int) := by rw [four_pw]; omega
  generalize pw (k : Int) = q at *
  have P9 := Lib.hid p9
  clear p8 p9
  have P6 := Lib.hid (fun X : World => child_no k a b i hn X)
  clear hc hf hn
  generalize codeN k a b = n at *
  go_enter Try.func8, Try.ntmps8
  go_wp2_with (first
    | (go_at_call 29; with_reducible refine (P1.out _).mono ?_; rintro e w' ⟨rfl, hb⟩; obtain ⟨X1, rfl, hl1, hm1⟩ := later (w.heap.size + 1) hb (by first | exact Nat.le_refl _ | go_size); clear hb; (try simp only [World.size_alloc, World.size_setCell, World.size_drew] at hm1))
    | (go_at_call 30; with_reducible refine (P2.out _).mono ?_; rintro e w' ⟨rfl, hb⟩; obtain ⟨X2, rfl, hl2, hm2⟩ := later (w.heap.size + 1) hb (by first | exact Nat.le_refl _ | go_size); clear hb; (try simp only [World.size_alloc, World.size_setCell, World.size_drew] at hm2))
    | (go_at_call 31; with_reducible refine (P3.out _).mono ?_; rintro e w' ⟨rfl, hb⟩; obtain ⟨X3, rfl, hl3, hm3⟩ := later (w.heap.size + 1) hb (by first | exact Nat.le_refl _ | go_size); clear hb; (try simp only [World.size_alloc, World.size_setCell, World.size_drew] at hm3)))
  (refine wp_region_later (w.heap.size + 1) (by kernel_rfl) (by kernel_rfl) (by go_size) ?_; (repeat (go_big_quiet_step ((first | (go_at_call 32; exact Later.call _ (Nat.le_trans (by go_size) (Later.is _).size) (P8.out _)) | (go_at_call 33; exact Later.call _ (Nat.le_trans (by go_size) (Later.is _).size) (P9.out _)))))); refine wpQuiet_nil ?_; intro Xq hlq hmq)
  go_wp2_with (first
    | (go_at_call 31; with_reducible refine (P5.out _).mono ?_; rintro e w' ⟨rfl, hb⟩; obtain ⟨X5, rfl, hl5, hm5⟩ := later (w.heap.size + 1) hb (by first | exact Nat.le_refl _ | go_size); clear hb; (try simp only [World.size_alloc, World.size_setCell, World.size_drew] at hm5))
    | (go_at_call 25; with_reducible refine (P6.out _).mono ?_; rintro e w' ⟨rfl, hb⟩; obtain ⟨X6, rfl, hl6, hm6⟩ := later (w.heap.size + 1) hb (by first | exact Nat.le_refl _ | go_size); clear hb; (try simp only [World.size_alloc, World.size_setCell, World.size_drew] at hm6))
    | (go_at_call 18; refine (cknown_any _).mono ?_; rintro e w' ⟨rfl, hb⟩; obtain ⟨X9, rfl, hl9, hm9⟩ := later (w.heap.size + 1) hb (by first | exact Nat.le_refl _ | go_size); clear hb; (try simp only [World.size_alloc, World.size_setCell, World.size_drew] at hm9)))
  go_ret
  exact ⟨rfl, by repeat' (first | (with_reducible exact Below.refl _ _) | (with_reducible assumption) | (with_reducible refine Later.step ?_ ?_ _) | (with_reducible refine Below.alloc ?_ ?_ _) | (with_reducible refine Below.drew ?_) | (with_reducible refine bel_drewN ?_ _) | (with_reducible refine bel_grown ?_ (by assumption) ?_ ?_) | (with_reducible refine Below.setCell ?_ ?_ _) | go_size)⟩
set_option maxHeartbeats 4000000 in
theorem codes_cc (k a b : Nat) (i : Nat) (code : Nat) (w : World) (hco : code < 18446744073709551616) (hc : crightB k a b = true) (hk : k ≤ 16) (hf : ¬ code < 4 ^ k) (hk' : k < 16) (hi : i ≤ 3) :
    Calls Try.prog 8 #[.agg #[.int .i64 ((k : Int)), .int .i64 ((a : Int)), .int .i64 ((b : Int))], .int .i64 i, .int .u64 code] w fun e w' => e = .returned (.bool true) ∧ Below w.heap.size w w' := by
  have P1 := Lib.hid (fun X : World => code_yes2 k a b hc X)
  have P2 := Lib.hid (fun X : World => rcode_yes k a b X (cright_nat hc).1 hc)
  have P5 := Lib.hid (fun X : World => from_code k a b hc X)
  have hcl := code_lt (k := k) (x := a) (y := b) (cright_nat hc).1
  have P3 := Lib.hid (fun X : World => from_no k code X hco (by rw [Bool.eq_false_iff]; intro h; exact hf (by simpa using (from_iff.1 h).2)))
  have p8 := fun X : World => rlvl_any k X
  rw [show lvlB (k : Int) = true from lvl_iff.2 ⟨by omega, by omega⟩] at p8
  have P8 := Lib.hid p8
  have p9 := fun X : World => two_any k X (by omega)
  have hq0 := pw_pos (k : Int)
  have hq1 := pw_le (l := (k : Int)) (by omega)
  have hq2 := mul_bd (Int.le_of_lt hq0) hq1 (Int.le_of_lt hq0) hq1
  have hq3 : ¬ (code : Int) < pw (k : Int) * pw (k : Int) := by rw [four_pw]; omega
  generalize pw (k : Int) = q at *
  have P9 := Lib.hid p9
  clear p8 p9
  have P6 := Lib.hid (fun X : World => child_yes k a b i hc hk' hi X)
  have P7 := Lib.hid (fun X : World => code_kid k a b i hc hk' hi X)
  have hi0 : (0 : Int) ≤ (i : Int) := by omega
  have hi1 : (i : Int) ≤ 3 := by omega
  clear hc hf
  generalize codeN k a b = n at *
  generalize 2 * (a : Int) + (i : Int) % 2 = u at *
  generalize 2 * (b : Int) + (i : Int) / 2 = v at *
  go_enter Try.func8, Try.ntmps8
  go_wp2_with (first
    | (go_at_call 29; with_reducible refine (P1.out _).mono ?_; rintro e w' ⟨rfl, hb⟩; obtain ⟨X1, rfl, hl1, hm1⟩ := later (w.heap.size + 1) hb (by first | exact Nat.le_refl _ | go_size); clear hb; (try simp only [World.size_alloc, World.size_setCell, World.size_drew] at hm1))
    | (go_at_call 30; with_reducible refine (P2.out _).mono ?_; rintro e w' ⟨rfl, hb⟩; obtain ⟨X2, rfl, hl2, hm2⟩ := later (w.heap.size + 1) hb (by first | exact Nat.le_refl _ | go_size); clear hb; (try simp only [World.size_alloc, World.size_setCell, World.size_drew] at hm2))
    | (go_at_call 31; with_reducible refine (P3.out _).mono ?_; rintro e w' ⟨rfl, hb⟩; obtain ⟨X3, rfl, hl3, hm3⟩ := later (w.heap.size + 1) hb (by first | exact Nat.le_refl _ | go_size); clear hb; (try simp only [World.size_alloc, World.size_setCell, World.size_drew] at hm3)))
  (refine wp_region_later (w.heap.size + 1) (by kernel_rfl) (by kernel_rfl) (by go_size) ?_; (repeat (go_big_quiet_step ((first | (go_at_call 32; exact Later.call _ (Nat.le_trans (by go_size) (Later.is _).size) (P8.out _)) | (go_at_call 33; exact Later.call _ (Nat.le_trans (by go_size) (Later.is _).size) (P9.out _)))))); refine wpQuiet_nil ?_; intro Xq hlq hmq)
  go_wp2_with (first
    | (go_at_call 31; with_reducible refine (P5.out _).mono ?_; rintro e w' ⟨rfl, hb⟩; obtain ⟨X5, rfl, hl5, hm5⟩ := later (w.heap.size + 1) hb (by first | exact Nat.le_refl _ | go_size); clear hb; (try simp only [World.size_alloc, World.size_setCell, World.size_drew] at hm5))
    | (go_at_call 25; with_reducible refine (P6.out _).mono ?_; rintro e w' ⟨rfl, hb⟩; obtain ⟨X6, rfl, hl6, hm6⟩ := later (w.heap.size + 1) hb (by first | exact Nat.le_refl _ | go_size); clear hb; (try simp only [World.size_alloc, World.size_setCell, World.size_drew] at hm6))
    | (go_at_call 29; with_reducible refine (P7.out _).mono ?_; rintro e w' ⟨rfl, hb⟩; obtain ⟨X7, rfl, hl7, hm7⟩ := later (w.heap.size + 1) hb (by first | exact Nat.le_refl _ | go_size); clear hb; (try simp only [World.size_alloc, World.size_setCell, World.size_drew] at hm7))
    | (go_at_call 18; refine (cknown_any _).mono ?_; rintro e w' ⟨rfl, hb⟩; obtain ⟨X9, rfl, hl9, hm9⟩ := later (w.heap.size + 1) hb (by first | exact Nat.le_refl _ | go_size); clear hb; (try simp only [World.size_alloc, World.size_setCell, World.size_drew] at hm9)))
  go_ret
  exact ⟨rfl, by repeat' (first | (with_reducible exact Below.refl _ _) | (with_reducible assumption) | (with_reducible refine Later.step ?_ ?_ _) | (with_reducible refine Below.alloc ?_ ?_ _) | (with_reducible refine Below.drew ?_) | (with_reducible refine bel_drewN ?_ _) | (with_reducible refine bel_grown ?_ (by assumption) ?_ ?_) | (with_reducible refine Below.setCell ?_ ?_ _) | go_size)⟩
theorem cu64_lim {a : Int} (h : (Lit.int .u64 a).wf = true) : 0 ≤ a ∧ a ≤ 18446744073709551615 := by
  simp only [Lit.wf, Bool.and_eq_true, decide_eq_true_eq] at h
  exact h
theorem codes_walk (l x y i code : Int) (w : World) (wl : (Lit.int .i64 l).wf = true) (wx : (Lit.int .i64 x).wf = true) (wy : (Lit.int .i64 y).wf = true) (wi : (Lit.int .i64 i).wf = true) (wc : (Lit.int .u64 code).wf = true) :
    Calls Try.prog 8 #[.agg #[.int .i64 l, .int .i64 x, .int .i64 y], .int .i64 i, .int .u64 code] w fun e w' => e = .returned (.bool true) ∧ Below w.heap.size w w' := by
  have wc' := cu64_lim wc
  obtain ⟨n, rfl⟩ := Int.eq_ofNat_of_zero_le wc'.1
  have hco : n < 18446744073709551616 := by omega
  clear wl wx wy wi wc
  rcases Bool.eq_false_or_eq_true (lvlB l) with hl | hl
  · obtain ⟨l0, l1⟩ := lvl_iff.1 hl
    obtain ⟨k, rfl⟩ := Int.eq_ofNat_of_zero_le l0
    have hk : k ≤ 16 := by omega
    rcases Bool.eq_false_or_eq_true (crightB k x y) with hc | hc
    · have g := cright_iff.1 hc
      obtain ⟨a, rfl⟩ := Int.eq_ofNat_of_zero_le g.2.2.1
      obtain ⟨b, rfl⟩ := Int.eq_ofNat_of_zero_le g.2.2.2.1
      rcases Bool.eq_false_or_eq_true (childB k a b i) with hn | hn
      · obtain ⟨_, h1, h2, h3⟩ := child_iff.1 hn
        obtain ⟨j, rfl⟩ := Int.eq_ofNat_of_zero_le h2
        by_cases hf : n < 4 ^ k
        · exact codes_yc k a b j n w hco hc hk hf (by omega) (by omega)
        · exact codes_cc k a b j n w hco hc hk hf (by omega) (by omega)
      · by_cases hf : n < 4 ^ k
        · exact codes_yk k a b i n w hco hc hk hf hn
        · exact codes_ck k a b i n w hco hc hk hf hn
    · by_cases hf : n < 4 ^ k
      · exact codes_yn k x y i n w hco hc hk hf
      · exact codes_cn k x y i n w hco hc hk hf
  · exact codes_ln l x y i n w hco (by simp only [crightB, decide_eq_false_iff_not]; intro h; rw [lvl_iff.2 ⟨h.1, h.2.1⟩] at hl; cases hl) hl
end Go.Proofs.Ythfnmlbdbjblkaa
