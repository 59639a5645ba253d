/- A cell's code, walked. No condition. -/
import Derived.Test.YthoanoaigfcchaaCellF
namespace Go.Proofs.Ythoanoaigfcchaa
open Go.RowKit
set_option linter.unusedSimpArgs false
set_option linter.unusedVariables false

def codeN : Nat → Nat → Nat → Nat
  | 0, _, _ => 0
  | k + 1, x, y => 4 * codeN k (x / 2) (y / 2) + (2 * (y % 2) + x % 2)
theorem codeN_lt : ∀ k x y, codeN k x y < 4 ^ k
  | 0, _, _ => by simp [codeN]
  | k + 1, x, y => by have := codeN_lt k (x / 2) (y / 2); rw [codeN, Nat.pow_succ]; omega
def codeI (l x y : Int) : Int := ((codeN l.toNat x.toNat y.toNat : Nat) : Int)
theorem pow4_le {k : Nat} (h : k ≤ 16) : (4 : Nat) ^ k ≤ 4294967296 := by
  have h1 := Nat.pow_le_pow_right (n := 4) (by omega) h
  have h2 : (4 : Nat) ^ 16 = 4294967296 := by decide
  omega
theorem code_lt {k x y : Nat} (h : k ≤ 16) : codeN k x y < 4294967296 := Nat.lt_of_lt_of_le (codeN_lt k x y) (pow4_le h)

theorem ret_ub {a : Int} {c : Nat} {b : Bool} (h1 : a = (c : Int)) : Ending.returned (.tuple #[.int .u64 a, .bool b]) = .returned (.tuple #[.int .u64 (c : Int), .bool b]) := by rw [h1]
set_option maxHeartbeats 4000000 in
theorem rcode_yes : ∀ (k x y : Nat) (w : World), k ≤ 16 → crightB k x y = true →
    Calls Try.prog 57 #[.agg #[.int .i64 ((k : Int)), .int .i64 ((x : Int)), .int .i64 ((y : Int))]] w fun e w' => e = .returned (.tuple #[.int .u64 (codeN k x y), .bool true]) ∧ Below w.heap.size w w' := by
  intro k
  induction k with
  | zero =>
    intro x y w hk h
    have p1 := fun X : World => rcright_any 0 x y X
    have h' : crightB 0 x y = true := h
    rw [h'] at p1
    have P1 := Lib.hid p1
    clear p1 h h'
    go_enter Try.func57, Try.ntmps57
    go_wp2_with (first
      | (go_at_call 35; refine (P1.out _).mono ?_; rintro e w' ⟨rfl, hb⟩; obtain ⟨X1, rfl, hl1, hm1⟩ := later (w.heap.size + 1) hb (by first | exact Nat.le_refl _ | go_size); clear hb; (try simp only [World.size_alloc, World.size_setCell, World.size_drew] at hm1)))
    go_ret2
    exact ⟨rfl, by repeat' (first | (with_reducible exact Below.refl _ _) | (with_reducible assumption) | (with_reducible refine Later.step ?_ ?_ _) | (with_reducible refine Below.alloc ?_ ?_ _) | (with_reducible refine Below.drew ?_) | (with_reducible refine Below.setCell ?_ ?_ _) | go_size)⟩
  | succ k ih =>
    intro x y w hk h
    have p1 := fun X : World => rcright_any ((k + 1 : Nat) : Int) x y X
    rw [h] at p1
    have g := cright_iff.1 h
    have hpw := pw_le (l := ((k + 1 : Nat) : Int)) (by omega)
    have hx : x ≤ 65535 := by omega
    have hy : y ≤ 65535 := by omega
    have h2 : crightB k ((x / 2 : Nat) : Int) ((y / 2 : Nat) : Int) = true := by
      have e : pw ((k + 1 : Nat) : Int) = pw (k : Int) * 2 := by unfold pw; rw [Int.toNat_natCast, Int.toNat_natCast, Int.pow_succ]
      rw [e] at g
      rw [cright_iff]; omega
    have p2 := fun X : World => ih (x / 2) (y / 2) X (by omega) h2
    have hc : codeN (k + 1) x y = 4 * codeN k (x / 2) (y / 2) + (2 * (y % 2) + x % 2) := rfl
    have hb := code_lt (k := k) (x := x / 2) (y := y / 2) (by omega)
    obtain ⟨v, hv⟩ : ∃ v, codeN k (x / 2) (y / 2) = v := ⟨_, rfl⟩
    rw [hv] at hc hb p2
    push_cast at p1 p2
    have P1 := Lib.hid p1
    have P2 := Lib.hid p2
    have HC := Lib.hid hc
    have hk0 : ((k : Int) + 1 == 0) = false := by rw [Bool.eq_false_iff]; intro h; simp at h; omega
    clear ih p1 p2 h h2 g hpw hc hv
    go_enter Try.func57, Try.ntmps57
    go_wp2_with (first
      | (go_at_call 35; refine (P1.out _).mono ?_; rintro e w' ⟨rfl, hb⟩; obtain ⟨X1, rfl, hl1, hm1⟩ := later (w.heap.size + 1) hb (by first | exact Nat.le_refl _ | go_size); clear hb; (try simp only [World.size_alloc, World.size_setCell, World.size_drew] at hm1))
      | (go_at_call 57; refine (P2.out _).mono ?_; rintro e w' ⟨rfl, hb⟩; obtain ⟨X2, rfl, hl2, hm2⟩ := later (w.heap.size + 1) hb (by first | exact Nat.le_refl _ | go_size); clear hb; (try simp only [World.size_alloc, World.size_setCell, World.size_drew] at hm2)))
    go_ret2
    exact ⟨ret_ub (by rw [HC.out]; push_cast; rfl), by repeat' (first | (with_reducible exact Below.refl _ _) | (with_reducible assumption) | (with_reducible refine Later.step ?_ ?_ _) | (with_reducible refine Below.alloc ?_ ?_ _) | (with_reducible refine Below.drew ?_) | (with_reducible refine Below.setCell ?_ ?_ _) | go_size)⟩
theorem code_step (j m x y : Nat) : codeN (m + 1) (x / 2 ^ j) (y / 2 ^ j) = 4 * codeN m (x / 2 ^ (j + 1)) (y / 2 ^ (j + 1)) + (2 * (y / 2 ^ j % 2) + x / 2 ^ j % 2) := by
  rw [codeN, Nat.div_div_eq_div_mul, Nat.div_div_eq_div_mul, ← Nat.pow_succ]
set_option maxHeartbeats 4000000 in
theorem code_yes (k x y : Nat) (w : World) (hk : k ≤ 16) (h : crightB k x y = true) :
    Calls Try.prog 52 #[.agg #[.int .i64 ((k : Int)), .int .i64 ((x : Int)), .int .i64 ((y : Int))]] w fun e w' => e = .returned (.tuple #[.int .u64 (codeN k x y), .bool true]) ∧ Below w.heap.size w w' := by
  have p1 := fun X : World => cright_any k x y X
  rw [h] at p1
  have g := cright_iff.1 h
  have hpw := pw_le (l := (k : Int)) (by omega)
  have hx : x ≤ 65535 := by omega
  have hy : y ≤ 65535 := by omega
  have P1 := Lib.hid p1
  clear p1 h g hpw
  go_enter Try.func52, Try.ntmps52
  go_wp2_with (first
    | (go_at_call 62; refine (P1.out _).mono ?_; rintro e w' ⟨rfl, hb⟩; obtain ⟨X1, rfl, hl1, hm1⟩ := later (w.heap.size + 1) hb (by first | exact Nat.le_refl _ | go_size); clear hb; (try simp only [World.size_alloc, World.size_setCell, World.size_drew] at hm1)))
  go_loopw [4, 5] (fun c i wr => ∃ j : Nat, j ≤ k ∧ i = .int .i64 ((j : Int) - 1) ∧ c = .int .u64 (codeN (k - j) (x / 2 ^ j) (y / 2 ^ j)) ∧ (∃ d, wr = X1.w.drewN d)) (fun _ i _ => (intOf i + 1).toNat)
  case atStart => exact ⟨k, Nat.le_refl _, rfl, by simp [codeN], ⟨0, rfl⟩⟩
  case round =>
    obtain ⟨j, hj, rfl, rfl, ⟨dd, rfl⟩⟩ := hrel
    cases j with
    | zero =>
      go_wp2
      go_ret2
      exact ⟨ret_ub (by simp), by repeat' (first | (with_reducible exact Below.refl _ _) | (with_reducible assumption) | (with_reducible refine Later.step ?_ ?_ _) | (with_reducible refine Below.alloc ?_ ?_ _) | (with_reducible refine Below.drew ?_) | (with_reducible refine bel_drewN ?_ _) | (with_reducible refine bel_grown ?_ (by assumption) ?_ ?_) | (with_reducible refine Below.setCell ?_ ?_ _) | go_size)⟩
    | succ q =>
      have hy2 : y / 2 ^ q ≤ y := Nat.div_le_self _ _
      have hx2 : x / 2 ^ q ≤ x := Nat.div_le_self _ _
      have hs := code_step q (k - (q + 1)) x y
      rw [show k - (q + 1) + 1 = k - q by omega] at hs
      have hb := code_lt (k := k - (q + 1)) (x := x / 2 ^ (q + 1)) (y := y / 2 ^ (q + 1)) (by omega)
      have ey : bits .and .i64 ((y : Int) / 2 ^ q) 1 = ((y / 2 ^ q % 2 : Nat) : Int) := by
        have := i64_and_one (y / 2 ^ q) (by omega)
        rw [← this]; push_cast; rfl
      have ex : bits .and .i64 ((x : Int) / 2 ^ q) 1 = ((x / 2 ^ q % 2 : Nat) : Int) := by
        have := i64_and_one (x / 2 ^ q) (by omega)
        rw [← this]; push_cast; rfl
      have by1 : y / 2 ^ q % 2 < 2 := Nat.mod_lt _ (by omega)
      have bx1 : x / 2 ^ q % 2 < 2 := Nat.mod_lt _ (by omega)
      obtain ⟨v, hv⟩ : ∃ v, codeN (k - (q + 1)) (x / 2 ^ (q + 1)) (y / 2 ^ (q + 1)) = v := ⟨_, rfl⟩
      obtain ⟨b, hb'⟩ : ∃ b, y / 2 ^ q % 2 = b := ⟨_, rfl⟩
      obtain ⟨e, he⟩ : ∃ e, x / 2 ^ q % 2 = e := ⟨_, rfl⟩
      rw [hv] at hs hb ⊢
      rw [hb'] at ey by1 hs
      rw [he] at ex bx1 hs
      have o1 : bits .or .u64 ((v : Int) * 4) ((b : Int) * 2) = 4 * (v : Int) + 2 * (b : Int) := by
        have := u64_or_low (a := v) (b := 2 * b) (k := 2) (by simp; omega) (by simp; omega)
        push_cast at this
        rw [show (v : Int) * 4 = 4 * (v : Int) by omega, show (b : Int) * 2 = 2 * (b : Int) by omega]; exact this
      have o2 : bits .or .u64 (4 * (v : Int) + 2 * (b : Int)) (e : Int) = 4 * (v : Int) + 2 * (b : Int) + (e : Int) := by
        have := u64_or_low (a := 2 * v + b) (b := e) (k := 1) (by simp; omega) (by simp; omega)
        push_cast at this
        rw [show 4 * (v : Int) + 2 * (b : Int) = 2 * (2 * (v : Int) + b) by omega]; exact this
      have HS := Lib.hid hs
      clear hs hv hb' he hy2 hx2
      go_wp2
      go_quiet (fail)
      go_wp2
      go_roundw
      case rel => exact ⟨q, by omega, by first | rfl | (congr 1; done) | (congr 1; omega), by rw [HS.out]; congr 1; push_cast; omega, ⟨_, rfl⟩⟩
      case measure => simp [intOf] <;> omega
theorem code_any (l x y : Int) (w : World) :
    Calls Try.prog 52 #[.agg #[.int .i64 l, .int .i64 x, .int .i64 y]] w fun e w' => e = .returned (.tuple #[.int .u64 (sel (crightB l x y) (codeI l x y)), .bool (crightB l x y)]) ∧ Below w.heap.size w w' := by
  rcases Bool.eq_false_or_eq_true (crightB l x y) with h | h
  · have g := cright_iff.1 h
    obtain ⟨k, rfl⟩ := Int.eq_ofNat_of_zero_le g.1
    obtain ⟨a, rfl⟩ := Int.eq_ofNat_of_zero_le g.2.2.1
    obtain ⟨b, rfl⟩ := Int.eq_ofNat_of_zero_le g.2.2.2.1
    have := code_yes k a b w (by omega) h
    rw [h, sel_true]
    unfold codeI
    rwa [Int.toNat_natCast, Int.toNat_natCast, Int.toNat_natCast]
  · have p1 := fun X : World => cright_any l x y X
    rw [h] at p1 ⊢
    have P1 := Lib.hid p1
    clear p1 h
    go_enter Try.func52, Try.ntmps52
    go_wp2_with (first
      | (go_at_call 62; refine (P1.out _).mono ?_; rintro e w' ⟨rfl, hb⟩; obtain ⟨X1, rfl, hl1, hm1⟩ := later (w.heap.size + 1) hb (by first | exact Nat.le_refl _ | go_size); clear hb; (try simp only [World.size_alloc, World.size_setCell, World.size_drew] at hm1)))
    go_ret2
    exact ⟨rfl, by repeat' (first | (with_reducible exact Below.refl _ _) | (with_reducible assumption) | (with_reducible refine Later.step ?_ ?_ _) | (with_reducible refine Below.alloc ?_ ?_ _) | (with_reducible refine Below.drew ?_) | (with_reducible refine Below.setCell ?_ ?_ _) | go_size)⟩
theorem rcode_any (l x y : Int) (w : World) :
    Calls Try.prog 57 #[.agg #[.int .i64 l, .int .i64 x, .int .i64 y]] w fun e w' => e = .returned (.tuple #[.int .u64 (sel (crightB l x y) (codeI l x y)), .bool (crightB l x y)]) ∧ Below w.heap.size w w' := by
  rcases Bool.eq_false_or_eq_true (crightB l x y) with h | h
  · have g := cright_iff.1 h
    obtain ⟨k, rfl⟩ := Int.eq_ofNat_of_zero_le g.1
    obtain ⟨a, rfl⟩ := Int.eq_ofNat_of_zero_le g.2.2.1
    obtain ⟨b, rfl⟩ := Int.eq_ofNat_of_zero_le g.2.2.2.1
    have := rcode_yes k a b w (by omega) h
    rw [h, sel_true]
    unfold codeI
    rwa [Int.toNat_natCast, Int.toNat_natCast, Int.toNat_natCast]
  · have p1 := fun X : World => rcright_any l x y X
    rw [h] at p1 ⊢
    have P1 := Lib.hid p1
    clear p1 h
    go_enter Try.func57, Try.ntmps57
    go_wp2_with (first
      | (go_at_call 35; refine (P1.out _).mono ?_; rintro e w' ⟨rfl, hb⟩; obtain ⟨X1, rfl, hl1, hm1⟩ := later (w.heap.size + 1) hb (by first | exact Nat.le_refl _ | go_size); clear hb; (try simp only [World.size_alloc, World.size_setCell, World.size_drew] at hm1)))
    go_ret2
    exact ⟨rfl, by repeat' (first | (with_reducible exact Below.refl _ _) | (with_reducible assumption) | (with_reducible refine Later.step ?_ ?_ _) | (with_reducible refine Below.alloc ?_ ?_ _) | (with_reducible refine Below.drew ?_) | (with_reducible refine Below.setCell ?_ ?_ _) | go_size)⟩
end Go.Proofs.Ythoanoaigfcchaa
