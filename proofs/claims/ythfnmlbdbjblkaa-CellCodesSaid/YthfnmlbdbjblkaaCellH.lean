/- A cell of a level and a code, as the program finds it, walked. No condition. -/
import Derived.Test.YthfnmlbdbjblkaaCellK
import Derived.Test.YthfnmlbdbjblkaaCellT3
namespace Go.Proofs.Ythfnmlbdbjblkaa
open Go.RowKit
set_option linter.unusedSimpArgs false
set_option linter.unusedVariables false

def fromB (l : Int) (c : Nat) : Bool := lvlB l && decide (c < 4 ^ l.toNat)
theorem from_iff {l : Int} {c : Nat} : fromB l c = true ↔ lvlB l = true ∧ c < 4 ^ l.toNat := by simp [fromB]
theorem shr_zero {k c : Nat} : ((c : Int) / (2 : Int) ^ (2 * k) = 0) ↔ c < 4 ^ k := by
  have e : (2 : Int) ^ (2 * k) = ((4 ^ k : Nat) : Int) := by rw [Int.pow_mul]; push_cast; rfl
  rw [e, ← Int.natCast_ediv]
  have hp : 0 < 4 ^ k := Nat.pow_pos (by omega)
  constructor
  · intro h
    have h' : c / 4 ^ k = 0 := by omega
    rcases (Nat.div_eq_zero_iff).1 h' with h | h <;> omega
  · intro h
    rw [Nat.div_eq_of_lt h]; rfl
theorem pow_16 {j : Nat} (h : j ≤ 16) : 2 ^ j ≤ 65536 := by
  have h2 := Nat.pow_le_pow_right (n := 2) (by omega) h
  have h4 : (2 : Nat) ^ 16 = 65536 := by decide
  omega
theorem bit_or {b f j : Nat} (hb : b < 2) (hf : f < 2 ^ j) (hj : j ≤ 16) : bits .or .i64 (f : Int) (wrap64 ((b : Int) * 2 ^ j)) = ((2 ^ j * b + f : Nat) : Int) := by
  have hp := pow_16 hj
  have hm : 2 ^ j * b ≤ 2 ^ j * 1 := Nat.mul_le_mul_left _ (by omega)
  have e : (b : Int) * 2 ^ j = ((2 ^ j * b : Nat) : Int) := by push_cast; rw [Int.mul_comm]
  rw [e, wrap_small (n := ((2 ^ j * b : Nat) : Int)) (by omega) (by omega)]
  exact i64_or_low hf (by omega)
set_option maxHeartbeats 4000000 in
theorem from_yes (k c : Nat) (w : World) (hk : k ≤ 16) (hc : c < 18446744073709551616) (h : c < 4 ^ k) :
    Calls Try.prog 31 #[.int .i64 k, .int .u64 c] w fun e w' => e = .returned (.tuple #[.agg #[.int .i64 ((k : Int)), .int .i64 ((fxN c k : Nat)), .int .i64 ((fyN c k : Nat))], .bool true]) ∧ Below w.heap.size w w' := by
  have p1 := fun X : World => lvl_any k X
  rw [show lvlB (k : Int) = true from lvl_iff.2 ⟨by omega, by omega⟩] at p1
  have P1 := Lib.hid p1
  have h0 := (shr_zero (k := k) (c := c)).2 h
  clear p1 h
  go_enter Try.func31, Try.ntmps31
  go_wp2_with (first
    | (go_at_call 42; with_reducible refine (P1.out _).mono ?_; rintro e w' ⟨rfl, hb⟩; obtain ⟨X1, rfl, hl1, hm1⟩ := later (w.heap.size + 1) hb (by first | exact Nat.le_refl _ | go_size); clear hb; (try simp only [World.size_alloc, World.size_setCell, World.size_drew] at hm1)))
  go_loopw [22] (fun i wr => ∃ j : Nat, j ≤ k ∧ i = .int .i64 j ∧ Below (w.heap.size + 1) X1.w wr ∧ X1.w.heap.size + 1 ≤ wr.heap.size
      ∧ wr.cell? ⟨X1.w.heap.size, 0, none⟩ = some (.int .i64 k) ∧ wr.cell? ⟨X1.w.heap.size, 1, none⟩ = some (.int .i64 (fxN c j : Nat)) ∧ wr.frozen? ⟨X1.w.heap.size, 1, none⟩ = false
      ∧ wr.cell? ⟨X1.w.heap.size, 2, none⟩ = some (.int .i64 (fyN c j : Nat)) ∧ wr.frozen? ⟨X1.w.heap.size, 2, none⟩ = false) (fun i _ => k - (intOf i).toNat)
  case atStart => exact ⟨0, Nat.zero_le _, rfl, by repeat' (first | (with_reducible exact Below.refl _ _) | (with_reducible assumption) | (with_reducible refine Later.step ?_ ?_ _) | (with_reducible refine Below.alloc ?_ ?_ _) | (with_reducible refine Below.drew ?_) | (with_reducible refine bel_drewN ?_ _) | (with_reducible refine bel_grown ?_ (by assumption) ?_ ?_) | (with_reducible refine Below.setCell ?_ ?_ _) | go_size), by go_size, by go_simp, by go_simp; rfl, by go_simp, by go_simp; rfl, by go_simp⟩
  case round =>
    obtain ⟨j, hj, rfl, hbel, hsz, c0, c1, f1, c2, f2⟩ := hrel
    obtain ⟨X, rfl⟩ : ∃ X : Later (w.heap.size + 1) X1.w, wr = X.w := ⟨⟨wr, hbel⟩, rfl⟩
    clear hbel
    by_cases hlt : j < k
    · have hx := fxN_lt c j
      have hy := fyN_lt c j
      have ex : bits .and .u64 ((c : Int) / 2 ^ (2 * j)) 1 = ((c / 2 ^ (2 * j) % 2 : Nat) : Int) := by
        have := u64_and_one (c / 2 ^ (2 * j)) (Nat.lt_of_le_of_lt (Nat.div_le_self _ _) hc)
        rw [← this]; push_cast; rfl
      have ey : bits .and .u64 ((c : Int) / 2 ^ (2 * j + 1)) 1 = ((c / 2 ^ (2 * j + 1) % 2 : Nat) : Int) := by
        have := u64_and_one (c / 2 ^ (2 * j + 1)) (Nat.lt_of_le_of_lt (Nat.div_le_self _ _) hc)
        rw [← this]; push_cast; rfl
      have bx1 : c / 2 ^ (2 * j) % 2 < 2 := Nat.mod_lt _ (by omega)
      have by1 : c / 2 ^ (2 * j + 1) % 2 < 2 := Nat.mod_lt _ (by omega)
      have sx : fxN c (j + 1) = 2 ^ j * (c / 2 ^ (2 * j) % 2) + fxN c j := rfl
      have sy : fyN c (j + 1) = 2 ^ j * (c / 2 ^ (2 * j + 1) % 2) + fyN c j := rfl
      generalize c / 2 ^ (2 * j) % 2 = b at *
      generalize c / 2 ^ (2 * j + 1) % 2 = e at *
      generalize fxN c j = fx at *
      generalize fyN c j = fy at *
      have ox := bit_or bx1 hx (show j ≤ 16 by omega)
      have oy := bit_or by1 hy (show j ≤ 16 by omega)
      rw [← sx] at ox
      rw [← sy] at oy
      clear sx sy hx hy
      obtain ⟨fx', hfx⟩ : ∃ v, fxN c (j + 1) = v := ⟨_, rfl⟩
      obtain ⟨fy', hfy⟩ : ∃ v, fyN c (j + 1) = v := ⟨_, rfl⟩
      rw [hfx] at ox
      rw [hfy] at oy
      have HFX := Lib.hid hfx
      have HFY := Lib.hid hfy
      clear hfx hfy
      go_wp2
      (refine wp_region_later_tail 12 (X.w.heap.size) (by kernel_rfl) (by kernel_rfl) (by go_size) ?_; simp only [List.take_succ_cons, List.take_zero, List.drop_succ_cons, List.drop_zero]; (repeat (go_big_quiet_step (fail))); refine wpQuiet_nil ?_; intro Xq hlq hmq)
      go_wp2
      (refine wp_region_later_tail 13 (X.w.heap.size) (by kernel_rfl) (by kernel_rfl) (by go_size) ?_; simp only [List.take_succ_cons, List.take_zero, List.drop_succ_cons, List.drop_zero]; (repeat (go_big_quiet_step (fail))); refine wpQuiet_nil ?_; intro Xq hlq hmq)
      go_wp2
      go_roundw
      case rel =>
        refine ⟨j + 1, by omega, by go_num, by repeat' (first | (with_reducible exact Below.refl _ _) | (with_reducible assumption) | (with_reducible refine Later.step ?_ ?_ _) | (with_reducible refine Below.alloc ?_ ?_ _) | (with_reducible refine Below.drew ?_) | (with_reducible refine bel_drewN ?_ _) | (with_reducible refine bel_grown ?_ (by assumption) ?_ ?_) | (with_reducible refine Below.setCell ?_ ?_ _) | go_size), by go_size, by go_simp, ?_, by go_simp, ?_, by go_simp⟩
        · rw [HFX.out]; go_simp
        · rw [HFY.out]; go_simp
      case measure => simp [intOf]; omega
    · obtain rfl : j = k := by omega
      go_wp2
      (try rw [Exit.noGoto_ret])
      refine bodyPost_ret (by simp only [results, Try.results31]; go_simp; all_goals rfl) rfl ⟨rfl, ?_⟩
      repeat' (first | (with_reducible exact Below.refl _ _) | (with_reducible assumption) | (with_reducible refine Later.step ?_ ?_ _) | (with_reducible refine Below.alloc ?_ ?_ _) | (with_reducible refine Below.drew ?_) | (with_reducible refine bel_drewN ?_ _) | (with_reducible refine bel_grown ?_ (by assumption) ?_ ?_) | (with_reducible refine Below.setCell ?_ ?_ _) | go_size)
set_option maxHeartbeats 4000000 in
theorem from_no (l : Int) (c : Nat) (w : World) (hc : c < 18446744073709551616) (h : fromB l c = false) :
    Calls Try.prog 31 #[.int .i64 l, .int .u64 c] w fun e w' => e = .returned (.tuple #[.agg #[.int .i64 0, .int .i64 0, .int .i64 0], .bool false]) ∧ Below w.heap.size w w' := by
  have p1 := fun X : World => lvl_any l X
  rcases Bool.eq_false_or_eq_true (lvlB l) with hl | hl
  · obtain ⟨l0, l1⟩ := lvl_iff.1 hl
    obtain ⟨k, rfl⟩ := Int.eq_ofNat_of_zero_le l0
    have hk : k ≤ 16 := by omega
    rw [hl] at p1
    have P1 := Lib.hid p1
    have h0 : 0 < (c : Int) / 2 ^ (2 * k) := by
      have hn : ¬ ((c : Int) / 2 ^ (2 * k) = 0) := fun e => by
        rw [from_iff.2 ⟨hl, by simpa using shr_zero.1 e⟩] at h; cases h
      have := Int.ediv_nonneg (a := (c : Int)) (b := 2 ^ (2 * k)) (by omega) (Int.le_of_lt (Int.pow_pos (by omega)))
      omega
    clear p1 h hl l0 l1
    go_enter Try.func31, Try.ntmps31
    go_wp2_with (first
      | (go_at_call 42; with_reducible refine (P1.out _).mono ?_; rintro e w' ⟨rfl, hb⟩; obtain ⟨X1, rfl, hl1, hm1⟩ := later (w.heap.size + 1) hb (by first | exact Nat.le_refl _ | go_size); clear hb; (try simp only [World.size_alloc, World.size_setCell, World.size_drew] at hm1)))
    refine bodyPost_ret (by simp only [results, Try.results31]; go_simp; all_goals (first | rfl | simp [sel])) rfl ⟨rfl, ?_⟩
    repeat' (first | (with_reducible exact Below.refl _ _) | (with_reducible assumption) | (with_reducible refine Later.step ?_ ?_ _) | (with_reducible refine Below.alloc ?_ ?_ _) | (with_reducible refine Below.drew ?_) | (with_reducible refine Below.setCell ?_ ?_ _) | go_size)
  · rw [hl] at p1
    have P1 := Lib.hid p1
    clear p1 h hl
    go_enter Try.func31, Try.ntmps31
    go_wp2_with (first
      | (go_at_call 42; with_reducible refine (P1.out _).mono ?_; rintro e w' ⟨rfl, hb⟩; obtain ⟨X1, rfl, hl1, hm1⟩ := later (w.heap.size + 1) hb (by first | exact Nat.le_refl _ | go_size); clear hb; (try simp only [World.size_alloc, World.size_setCell, World.size_drew] at hm1)))
    refine bodyPost_ret (by simp only [results, Try.results31]; go_simp; all_goals (first | rfl | simp [sel])) rfl ⟨rfl, ?_⟩
    repeat' (first | (with_reducible exact Below.refl _ _) | (with_reducible assumption) | (with_reducible refine Later.step ?_ ?_ _) | (with_reducible refine Below.alloc ?_ ?_ _) | (with_reducible refine Below.drew ?_) | (with_reducible refine Below.setCell ?_ ?_ _) | go_size)
end Go.Proofs.Ythfnmlbdbjblkaa
