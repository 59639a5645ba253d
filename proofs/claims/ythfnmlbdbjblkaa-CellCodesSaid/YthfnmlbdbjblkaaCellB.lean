/- The layer of cells, walked, further. No condition. -/
import Derived.Test.YthfnmlbdbjblkaaCellR
import Derived.Test.YthfnmlbdbjblkaaBits
namespace Go.Proofs.Ythfnmlbdbjblkaa
open Go.RowKit
set_option linter.unusedSimpArgs false
set_option linter.unusedVariables false

def childB (l x y i : Int) : Bool := crightB l x y && decide (l < 16 ∧ 0 ≤ i ∧ i ≤ 3)
def aboveB (l x y m : Int) : Bool := crightB l x y && decide (0 ≤ m ∧ m ≤ l)
def besideB (l x y : Int) : Bool := crightB l x y && decide (0 < l)
def otherI (n : Int) : Int := if n % 2 = 0 then n + 1 else n - 1
theorem child_iff {l x y i : Int} : childB l x y i = true ↔ crightB l x y = true ∧ l < 16 ∧ 0 ≤ i ∧ i ≤ 3 := by simp [childB]
theorem above_iff {l x y m : Int} : aboveB l x y m = true ↔ crightB l x y = true ∧ 0 ≤ m ∧ m ≤ l := by simp [aboveB]
theorem beside_iff {l x y : Int} : besideB l x y = true ↔ crightB l x y = true ∧ 0 < l := by simp [besideB]
theorem xor_one {n : Int} (h0 : 0 ≤ n) (h1 : n ≤ 65535) : bits .xor .i64 n 1 = otherI n := by
  obtain ⟨m, rfl⟩ := Int.eq_ofNat_of_zero_le h0
  have := i64_xor_nat m 1 (by omega) (by omega)
  rw [xor1] at this
  refine this.trans ?_
  unfold otherI
  split
  · rw [if_pos (by omega)]; push_cast; rfl
  · rw [if_neg (by omega)]; omega

set_option maxHeartbeats 4000000 in
theorem child_any (l x y i : Int) (w : World) :
    Calls Try.prog 25 #[.agg #[.int .i64 l, .int .i64 x, .int .i64 y], .int .i64 i] w fun e w' => e = .returned (.tuple #[.agg #[.int .i64 (sel (childB l x y i) (l + 1)), .int .i64 (sel (childB l x y i) (2 * x + i % 2)), .int .i64 (sel (childB l x y i) (2 * y + i / 2))], .bool (childB l x y i)]) ∧ Below w.heap.size w w' := by
  have p1 := fun X : World => cright_any l x y X
  rcases Bool.eq_false_or_eq_true (crightB l x y) with h | h
  · obtain ⟨l0, l1, x0, y0, x1, y1⟩ := cright_iff.1 h
    have hp := pw_le l1
    have g1 : x ≤ 65535 := by omega
    have g2 : y ≤ 65535 := by omega
    rw [h] at p1
    have P1 := Lib.hid p1
    have hc : childB l x y i = decide (l < 16 ∧ 0 ≤ i ∧ i ≤ 3) := by simp [childB, h]
    rw [hc]
    clear p1 h hc hp x1 y1
    have hcase : (l = 16) ∨ (l < 16 ∧ (l == 16) = false ∧ (i < 0 ∨ (¬ i < 0 ∧ 3 < i) ∨ (0 ≤ i ∧ i ≤ 3))) := by
      by_cases e : l = 16
      · exact .inl e
      · exact .inr ⟨by omega, by simp [e], by omega⟩
    rcases hcase with rfl | ⟨c1, c2, c3 | ⟨c3, c4⟩ | ⟨c3, c4⟩⟩
    · rw [show decide ((16 : Int) < 16 ∧ 0 ≤ i ∧ i ≤ 3) = false by simp]
      go_enter Try.func25, Try.ntmps25
      go_wp2_with (first
        | (go_at_call 16; refine (P1.out _).mono ?_; rintro e w' ⟨rfl, hb⟩; obtain ⟨X1, rfl, hl1, hm1⟩ := later (w.heap.size + 2) hb (by first | exact Nat.le_refl _ | go_size); clear hb; (try simp only [World.size_alloc, World.size_setCell, World.size_drew] at hm1)))
      refine bodyPost_ret (by simp only [results, Try.results25]; go_simp; all_goals (first | rfl | simp [sel])) rfl ⟨rfl, ?_⟩
      repeat' (first | (with_reducible exact Below.refl _ _) | (with_reducible assumption) | (with_reducible refine Later.step ?_ ?_ _) | (with_reducible refine Below.alloc ?_ ?_ _) | (with_reducible refine Below.drew ?_) | (with_reducible refine Below.setCell ?_ ?_ _) | go_size)
    · rw [show decide (l < 16 ∧ 0 ≤ i ∧ i ≤ 3) = false by simp; omega]
      go_enter Try.func25, Try.ntmps25
      go_wp2_with (first
        | (go_at_call 16; refine (P1.out _).mono ?_; rintro e w' ⟨rfl, hb⟩; obtain ⟨X1, rfl, hl1, hm1⟩ := later (w.heap.size + 2) hb (by first | exact Nat.le_refl _ | go_size); clear hb; (try simp only [World.size_alloc, World.size_setCell, World.size_drew] at hm1)))
      refine bodyPost_ret (by simp only [results, Try.results25]; go_simp; all_goals (first | rfl | simp [sel])) rfl ⟨rfl, ?_⟩
      repeat' (first | (with_reducible exact Below.refl _ _) | (with_reducible assumption) | (with_reducible refine Later.step ?_ ?_ _) | (with_reducible refine Below.alloc ?_ ?_ _) | (with_reducible refine Below.drew ?_) | (with_reducible refine Below.setCell ?_ ?_ _) | go_size)
    · rw [show decide (l < 16 ∧ 0 ≤ i ∧ i ≤ 3) = false by simp; omega]
      go_enter Try.func25, Try.ntmps25
      go_wp2_with (first
        | (go_at_call 16; refine (P1.out _).mono ?_; rintro e w' ⟨rfl, hb⟩; obtain ⟨X1, rfl, hl1, hm1⟩ := later (w.heap.size + 2) hb (by first | exact Nat.le_refl _ | go_size); clear hb; (try simp only [World.size_alloc, World.size_setCell, World.size_drew] at hm1)))
      refine bodyPost_ret (by simp only [results, Try.results25]; go_simp; all_goals (first | rfl | simp [sel])) rfl ⟨rfl, ?_⟩
      repeat' (first | (with_reducible exact Below.refl _ _) | (with_reducible assumption) | (with_reducible refine Later.step ?_ ?_ _) | (with_reducible refine Below.alloc ?_ ?_ _) | (with_reducible refine Below.drew ?_) | (with_reducible refine Below.setCell ?_ ?_ _) | go_size)
    · rw [show decide (l < 16 ∧ 0 ≤ i ∧ i ≤ 3) = true by simp; omega]
      go_enter Try.func25, Try.ntmps25
      go_wp2_with (first
        | (go_at_call 16; refine (P1.out _).mono ?_; rintro e w' ⟨rfl, hb⟩; obtain ⟨X1, rfl, hl1, hm1⟩ := later (w.heap.size + 2) hb (by first | exact Nat.le_refl _ | go_size); clear hb; (try simp only [World.size_alloc, World.size_setCell, World.size_drew] at hm1)))
      refine bodyPost_ret (by simp only [results, Try.results25]; go_simp; all_goals (first | rfl | simp [sel])) rfl ⟨rfl, ?_⟩
      repeat' (first | (with_reducible exact Below.refl _ _) | (with_reducible assumption) | (with_reducible refine Later.step ?_ ?_ _) | (with_reducible refine Below.alloc ?_ ?_ _) | (with_reducible refine Below.drew ?_) | (with_reducible refine Below.setCell ?_ ?_ _) | go_size)
  · rw [h] at p1
    have P1 := Lib.hid p1
    rw [show childB l x y i = false by simp [childB, h]]
    clear p1 h
    go_enter Try.func25, Try.ntmps25
    go_wp2_with (first
      | (go_at_call 16; refine (P1.out _).mono ?_; rintro e w' ⟨rfl, hb⟩; obtain ⟨X1, rfl, hl1, hm1⟩ := later (w.heap.size + 2) hb (by first | exact Nat.le_refl _ | go_size); clear hb; (try simp only [World.size_alloc, World.size_setCell, World.size_drew] at hm1)))
    refine bodyPost_ret (by simp only [results, Try.results25]; go_simp; all_goals (first | rfl | simp [sel])) rfl ⟨rfl, ?_⟩
    repeat' (first | (with_reducible exact Below.refl _ _) | (with_reducible assumption) | (with_reducible refine Later.step ?_ ?_ _) | (with_reducible refine Below.alloc ?_ ?_ _) | (with_reducible refine Below.drew ?_) | (with_reducible refine Below.setCell ?_ ?_ _) | go_size)
set_option maxHeartbeats 4000000 in
theorem above_any (l x y m : Int) (w : World) :
    Calls Try.prog 26 #[.agg #[.int .i64 l, .int .i64 x, .int .i64 y], .int .i64 m] w fun e w' => e = .returned (.tuple #[.agg #[.int .i64 (sel (aboveB l x y m) m), .int .i64 (sel (aboveB l x y m) (x / pw (l - m))), .int .i64 (sel (aboveB l x y m) (y / pw (l - m)))], .bool (aboveB l x y m)]) ∧ Below w.heap.size w w' := by
  have p1 := fun X : World => cright_any l x y X
  rcases Bool.eq_false_or_eq_true (crightB l x y) with h | h
  · obtain ⟨l0, l1, x0, y0, x1, y1⟩ := cright_iff.1 h
    rw [h] at p1
    have P1 := Lib.hid p1
    have hc : aboveB l x y m = decide (0 ≤ m ∧ m ≤ l) := by simp [aboveB, h]
    rw [hc]
    have p2 := fun X : World => lvl_any m X
    have hcase : lvlB m = false ∨ (lvlB m = true ∧ 0 ≤ m ∧ m ≤ 16 ∧ (l < m ∨ m ≤ l)) := by
      rcases Bool.eq_false_or_eq_true (lvlB m) with h | h
      · have := lvl_iff.1 h
        exact .inr ⟨h, this.1, this.2, by omega⟩
      · exact .inl h
    clear p1 h hc x1 y1
    rcases hcase with c1 | ⟨c1, c2, c3, c4 | c4⟩
    · rw [c1] at p2
      rw [show decide (0 ≤ m ∧ m ≤ l) = false by
        rw [decide_eq_false_iff_not]; intro hh
        rw [lvl_iff.2 ⟨hh.1, by omega⟩] at c1; cases c1]
      have P2 := Lib.hid p2
      clear p2 c1
      go_enter Try.func26, Try.ntmps26
      go_wp2_with (first
        | (go_at_call 16; refine (P1.out _).mono ?_; rintro e w' ⟨rfl, hb⟩; obtain ⟨X1, rfl, hl1, hm1⟩ := later (w.heap.size + 2) hb (by first | exact Nat.le_refl _ | go_size); clear hb; (try simp only [World.size_alloc, World.size_setCell, World.size_drew] at hm1))
        | (go_at_call 42; refine (P2.out _).mono ?_; rintro e w' ⟨rfl, hb⟩; obtain ⟨X2, rfl, hl2, hm2⟩ := later (w.heap.size + 2) hb (by first | exact Nat.le_refl _ | go_size); clear hb; (try simp only [World.size_alloc, World.size_setCell, World.size_drew] at hm2)))
      refine bodyPost_ret (by simp only [results, Try.results26]; go_simp; all_goals (first | rfl | simp [sel])) rfl ⟨rfl, ?_⟩
      repeat' (first | (with_reducible exact Below.refl _ _) | (with_reducible assumption) | (with_reducible refine Later.step ?_ ?_ _) | (with_reducible refine Below.alloc ?_ ?_ _) | (with_reducible refine Below.drew ?_) | (with_reducible refine Below.setCell ?_ ?_ _) | go_size)
    · rw [c1] at p2
      rw [show decide (0 ≤ m ∧ m ≤ l) = false by simp; omega]
      have P2 := Lib.hid p2
      clear p2 c1
      go_enter Try.func26, Try.ntmps26
      go_wp2_with (first
        | (go_at_call 16; refine (P1.out _).mono ?_; rintro e w' ⟨rfl, hb⟩; obtain ⟨X1, rfl, hl1, hm1⟩ := later (w.heap.size + 2) hb (by first | exact Nat.le_refl _ | go_size); clear hb; (try simp only [World.size_alloc, World.size_setCell, World.size_drew] at hm1))
        | (go_at_call 42; refine (P2.out _).mono ?_; rintro e w' ⟨rfl, hb⟩; obtain ⟨X2, rfl, hl2, hm2⟩ := later (w.heap.size + 2) hb (by first | exact Nat.le_refl _ | go_size); clear hb; (try simp only [World.size_alloc, World.size_setCell, World.size_drew] at hm2)))
      refine bodyPost_ret (by simp only [results, Try.results26]; go_simp; all_goals (first | rfl | simp [sel])) rfl ⟨rfl, ?_⟩
      repeat' (first | (with_reducible exact Below.refl _ _) | (with_reducible assumption) | (with_reducible refine Later.step ?_ ?_ _) | (with_reducible refine Below.alloc ?_ ?_ _) | (with_reducible refine Below.drew ?_) | (with_reducible refine Below.setCell ?_ ?_ _) | go_size)
    · rw [c1] at p2
      rw [show decide (0 ≤ m ∧ m ≤ l) = true by simp; omega]
      have P2 := Lib.hid p2
      clear p2 c1
      go_enter Try.func26, Try.ntmps26
      go_wp2_with (first
        | (go_at_call 16; refine (P1.out _).mono ?_; rintro e w' ⟨rfl, hb⟩; obtain ⟨X1, rfl, hl1, hm1⟩ := later (w.heap.size + 2) hb (by first | exact Nat.le_refl _ | go_size); clear hb; (try simp only [World.size_alloc, World.size_setCell, World.size_drew] at hm1))
        | (go_at_call 42; refine (P2.out _).mono ?_; rintro e w' ⟨rfl, hb⟩; obtain ⟨X2, rfl, hl2, hm2⟩ := later (w.heap.size + 2) hb (by first | exact Nat.le_refl _ | go_size); clear hb; (try simp only [World.size_alloc, World.size_setCell, World.size_drew] at hm2)))
      go_region
      all_goals
        go_wp2
        refine bodyPost_ret (by simp only [results, Try.results26]; go_simp; all_goals (first | rfl | simp [sel, pw])) rfl ⟨rfl, ?_⟩
        repeat' (first | (with_reducible exact Below.refl _ _) | (with_reducible assumption) | (with_reducible refine Later.step ?_ ?_ _) | (with_reducible refine Below.alloc ?_ ?_ _) | (with_reducible refine Below.drew ?_) | (with_reducible refine Below.setCell ?_ ?_ _) | go_size)
  · rw [h] at p1
    have P1 := Lib.hid p1
    rw [show aboveB l x y m = false by simp [aboveB, h]]
    clear p1 h
    go_enter Try.func26, Try.ntmps26
    go_wp2_with (first
      | (go_at_call 16; refine (P1.out _).mono ?_; rintro e w' ⟨rfl, hb⟩; obtain ⟨X1, rfl, hl1, hm1⟩ := later (w.heap.size + 2) hb (by first | exact Nat.le_refl _ | go_size); clear hb; (try simp only [World.size_alloc, World.size_setCell, World.size_drew] at hm1)))
    refine bodyPost_ret (by simp only [results, Try.results26]; go_simp; all_goals (first | rfl | simp [sel])) rfl ⟨rfl, ?_⟩
    repeat' (first | (with_reducible exact Below.refl _ _) | (with_reducible assumption) | (with_reducible refine Later.step ?_ ?_ _) | (with_reducible refine Below.alloc ?_ ?_ _) | (with_reducible refine Below.drew ?_) | (with_reducible refine Below.setCell ?_ ?_ _) | go_size)
set_option maxHeartbeats 4000000 in
theorem beside_any (l x y : Int) (w : World) :
    Calls Try.prog 37 #[.agg #[.int .i64 l, .int .i64 x, .int .i64 y]] w fun e w' => e = .returned (.tuple #[.agg #[.int .i64 (sel (besideB l x y) l), .int .i64 (sel (besideB l x y) (otherI x)), .int .i64 (sel (besideB l x y) y)], .bool (besideB l x y)]) ∧ Below w.heap.size w w' := by
  have p1 := fun X : World => cright_any l x y X
  rcases Bool.eq_false_or_eq_true (crightB l x y) with h | h
  · obtain ⟨l0, l1, x0, y0, x1, y1⟩ := cright_iff.1 h
    have hp := pw_le l1
    rw [h] at p1
    have P1 := Lib.hid p1
    have hX := xor_one (n := x) (by omega) (by omega)
    
    by_cases e : l = 0
    · subst e
      rw [show besideB 0 x y = false by simp [besideB]]
      clear p1 h hp x1 y1 hX
      go_enter Try.func37, Try.ntmps37
      go_wp2_with (first
        | (go_at_call 16; refine (P1.out _).mono ?_; rintro e w' ⟨rfl, hb⟩; obtain ⟨X1, rfl, hl1, hm1⟩ := later (w.heap.size + 2) hb (by first | exact Nat.le_refl _ | go_size); clear hb; (try simp only [World.size_alloc, World.size_setCell, World.size_drew] at hm1)))
      refine bodyPost_ret (by simp only [results, Try.results37]; go_simp; all_goals (first | rfl | simp [sel])) rfl ⟨rfl, ?_⟩
      repeat' (first | (with_reducible exact Below.refl _ _) | (with_reducible assumption) | (with_reducible refine Later.step ?_ ?_ _) | (with_reducible refine Below.alloc ?_ ?_ _) | (with_reducible refine Below.drew ?_) | (with_reducible refine Below.setCell ?_ ?_ _) | go_size)
    · have e' : (l == 0) = false := by simp [e]
      rw [show besideB l x y = true from beside_iff.2 ⟨h, by omega⟩]
      clear p1 h hp x1 y1 
      go_enter Try.func37, Try.ntmps37
      go_wp2_with (first
        | (go_at_call 16; refine (P1.out _).mono ?_; rintro e w' ⟨rfl, hb⟩; obtain ⟨X1, rfl, hl1, hm1⟩ := later (w.heap.size + 2) hb (by first | exact Nat.le_refl _ | go_size); clear hb; (try simp only [World.size_alloc, World.size_setCell, World.size_drew] at hm1)))
      refine bodyPost_ret (by simp only [results, Try.results37]; go_simp; all_goals (first | rfl | simp [sel, hX])) rfl ⟨rfl, ?_⟩
      repeat' (first | (with_reducible exact Below.refl _ _) | (with_reducible assumption) | (with_reducible refine Later.step ?_ ?_ _) | (with_reducible refine Below.alloc ?_ ?_ _) | (with_reducible refine Below.drew ?_) | (with_reducible refine Below.setCell ?_ ?_ _) | go_size)
  · rw [h] at p1
    have P1 := Lib.hid p1
    rw [show besideB l x y = false by simp [besideB, h]]
    clear p1 h
    go_enter Try.func37, Try.ntmps37
    go_wp2_with (first
      | (go_at_call 16; refine (P1.out _).mono ?_; rintro e w' ⟨rfl, hb⟩; obtain ⟨X1, rfl, hl1, hm1⟩ := later (w.heap.size + 2) hb (by first | exact Nat.le_refl _ | go_size); clear hb; (try simp only [World.size_alloc, World.size_setCell, World.size_drew] at hm1)))
    refine bodyPost_ret (by simp only [results, Try.results37]; go_simp; all_goals (first | rfl | simp [sel])) rfl ⟨rfl, ?_⟩
    repeat' (first | (with_reducible exact Below.refl _ _) | (with_reducible assumption) | (with_reducible refine Later.step ?_ ?_ _) | (with_reducible refine Below.alloc ?_ ?_ _) | (with_reducible refine Below.drew ?_) | (with_reducible refine Below.setCell ?_ ?_ _) | go_size)
set_option maxHeartbeats 4000000 in
theorem over_any (l x y : Int) (w : World) :
    Calls Try.prog 39 #[.agg #[.int .i64 l, .int .i64 x, .int .i64 y]] w fun e w' => e = .returned (.tuple #[.agg #[.int .i64 (sel (besideB l x y) l), .int .i64 (sel (besideB l x y) x), .int .i64 (sel (besideB l x y) (otherI y))], .bool (besideB l x y)]) ∧ Below w.heap.size w w' := by
  have p1 := fun X : World => cright_any l x y X
  rcases Bool.eq_false_or_eq_true (crightB l x y) with h | h
  · obtain ⟨l0, l1, x0, y0, x1, y1⟩ := cright_iff.1 h
    have hp := pw_le l1
    rw [h] at p1
    have P1 := Lib.hid p1
    have hX := xor_one (n := y) (by omega) (by omega)
    
    by_cases e : l = 0
    · subst e
      rw [show besideB 0 x y = false by simp [besideB]]
      clear p1 h hp x1 y1 hX
      go_enter Try.func39, Try.ntmps39
      go_wp2_with (first
        | (go_at_call 16; refine (P1.out _).mono ?_; rintro e w' ⟨rfl, hb⟩; obtain ⟨X1, rfl, hl1, hm1⟩ := later (w.heap.size + 2) hb (by first | exact Nat.le_refl _ | go_size); clear hb; (try simp only [World.size_alloc, World.size_setCell, World.size_drew] at hm1)))
      refine bodyPost_ret (by simp only [results, Try.results39]; go_simp; all_goals (first | rfl | simp [sel])) rfl ⟨rfl, ?_⟩
      repeat' (first | (with_reducible exact Below.refl _ _) | (with_reducible assumption) | (with_reducible refine Later.step ?_ ?_ _) | (with_reducible refine Below.alloc ?_ ?_ _) | (with_reducible refine Below.drew ?_) | (with_reducible refine Below.setCell ?_ ?_ _) | go_size)
    · have e' : (l == 0) = false := by simp [e]
      rw [show besideB l x y = true from beside_iff.2 ⟨h, by omega⟩]
      clear p1 h hp x1 y1 
      go_enter Try.func39, Try.ntmps39
      go_wp2_with (first
        | (go_at_call 16; refine (P1.out _).mono ?_; rintro e w' ⟨rfl, hb⟩; obtain ⟨X1, rfl, hl1, hm1⟩ := later (w.heap.size + 2) hb (by first | exact Nat.le_refl _ | go_size); clear hb; (try simp only [World.size_alloc, World.size_setCell, World.size_drew] at hm1)))
      refine bodyPost_ret (by simp only [results, Try.results39]; go_simp; all_goals (first | rfl | simp [sel, hX])) rfl ⟨rfl, ?_⟩
      repeat' (first | (with_reducible exact Below.refl _ _) | (with_reducible assumption) | (with_reducible refine Later.step ?_ ?_ _) | (with_reducible refine Below.alloc ?_ ?_ _) | (with_reducible refine Below.drew ?_) | (with_reducible refine Below.setCell ?_ ?_ _) | go_size)
  · rw [h] at p1
    have P1 := Lib.hid p1
    rw [show besideB l x y = false by simp [besideB, h]]
    clear p1 h
    go_enter Try.func39, Try.ntmps39
    go_wp2_with (first
      | (go_at_call 16; refine (P1.out _).mono ?_; rintro e w' ⟨rfl, hb⟩; obtain ⟨X1, rfl, hl1, hm1⟩ := later (w.heap.size + 2) hb (by first | exact Nat.le_refl _ | go_size); clear hb; (try simp only [World.size_alloc, World.size_setCell, World.size_drew] at hm1)))
    refine bodyPost_ret (by simp only [results, Try.results39]; go_simp; all_goals (first | rfl | simp [sel])) rfl ⟨rfl, ?_⟩
    repeat' (first | (with_reducible exact Below.refl _ _) | (with_reducible assumption) | (with_reducible refine Later.step ?_ ?_ _) | (with_reducible refine Below.alloc ?_ ?_ _) | (with_reducible refine Below.drew ?_) | (with_reducible refine Below.setCell ?_ ?_ _) | go_size)
set_option maxHeartbeats 4000000 in
theorem parent_any (l x y : Int) (w : World) :
    Calls Try.prog 35 #[.agg #[.int .i64 l, .int .i64 x, .int .i64 y]] w fun e w' => e = .returned (.tuple #[.agg #[.int .i64 (sel (aboveB l x y (l - 1)) (l - 1)), .int .i64 (sel (aboveB l x y (l - 1)) (x / pw 1)), .int .i64 (sel (aboveB l x y (l - 1)) (y / pw 1))], .bool (aboveB l x y (l - 1))]) ∧ Below w.heap.size w w' := by
  rcases Bool.eq_false_or_eq_true (crightB l x y) with h | h
  · obtain ⟨l0, l1, x0, y0, x1, y1⟩ := cright_iff.1 h
    have p1 := fun X : World => above_any l x y (l - 1) X
    rw [show l - (l - 1) = 1 by omega] at p1
    have P1 := Lib.hid p1
    clear p1 h x1 y1
    go_enter Try.func35, Try.ntmps35
    go_wp2_with (first
      | (go_at_call 26; refine (P1.out _).mono ?_; rintro e w' ⟨rfl, hb⟩; obtain ⟨X1, rfl, hl1, hm1⟩ := later (w.heap.size + 2) hb (by first | exact Nat.le_refl _ | go_size); clear hb; (try simp only [World.size_alloc, World.size_setCell, World.size_drew] at hm1)))
    refine bodyPost_ret (by simp only [results, Try.results35]; go_simp; all_goals (first | rfl | simp [sel])) rfl ⟨rfl, ?_⟩
    repeat' (first | (with_reducible exact Below.refl _ _) | (with_reducible assumption) | (with_reducible refine Later.step ?_ ?_ _) | (with_reducible refine Below.alloc ?_ ?_ _) | (with_reducible refine Below.drew ?_) | (with_reducible refine Below.setCell ?_ ?_ _) | go_size)
  · have hv : ∀ m, aboveB l x y m = false := fun m => by simp [aboveB, h]
    have p1 := fun (m : Int) (X : World) => above_any l x y m X
    simp only [hv] at p1
    rw [hv]
    have P1 := Lib.hid p1
    clear p1 h hv
    go_enter Try.func35, Try.ntmps35
    go_wp2_with (first
      | (go_at_call 26; refine (P1.out _ _).mono ?_; rintro e w' ⟨rfl, hb⟩; obtain ⟨X1, rfl, hl1, hm1⟩ := later (w.heap.size + 2) hb (by first | exact Nat.le_refl _ | go_size); clear hb; (try simp only [World.size_alloc, World.size_setCell, World.size_drew] at hm1)))
    refine bodyPost_ret (by simp only [results, Try.results35]; go_simp; all_goals (first | rfl | simp [sel])) rfl ⟨rfl, ?_⟩
    repeat' (first | (with_reducible exact Below.refl _ _) | (with_reducible assumption) | (with_reducible refine Later.step ?_ ?_ _) | (with_reducible refine Below.alloc ?_ ?_ _) | (with_reducible refine Below.drew ?_) | (with_reducible refine Below.setCell ?_ ?_ _) | go_size)
end Go.Proofs.Ythfnmlbdbjblkaa
