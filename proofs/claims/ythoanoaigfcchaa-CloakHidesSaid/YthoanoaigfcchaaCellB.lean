/- The layer of cells, walked, further. No condition. -/
import Derived.Test.YthoanoaigfcchaaCellR
import Derived.Test.YthoanoaigfcchaaBits
namespace Go.Proofs.Ythoanoaigfcchaa
open Go.RowKit
set_option linter.unusedSimpArgs false
set_option linter.unusedVariables false

def childB (l x y i : Int) : Bool := crightB l x y && decide (l < 16 ∧ 0 ≤ i ∧ i ≤ 3)
def aboveB (l x y m : Int) : Bool := crightB l x y && decide (0 ≤ m ∧ m ≤ l)
def besideB (l x y : Int) : Bool := crightB l x y && decide (0 < l)
def otherI (n : Int) : Int := if n % 2 = 0 then n + 1 else n - 1
theorem child_iff {l x y i : Int} : childB l x y i = true ↔ crightB l x y = true ∧ l < 16 ∧ 0 ≤ i ∧ i ≤ 3 := by simp [childB]
theorem above_iff {l x y m : Int} : aboveB l x y m = true ↔ crightB l x y = true ∧ 0 ≤ m ∧ m ≤ l := by simp [aboveB]
theorem beside_iff {l x y : Int} : besideB l x y = true ↔ crightB l x y = true ∧ 0 < l := by simp [besideB]
theorem xor_one {n : Int} (h0 : 0 ≤ n) (h1 : n ≤ 65535) : bits .xor .i64 n 1 = otherI n := by
  obtain ⟨m, rfl⟩ := Int.eq_ofNat_of_zero_le h0
  have := i64_xor_nat m 1 (by omega) (by omega)
  rw [xor1] at this
  refine this.trans ?_
  unfold otherI
  split
  · rw [if_pos (by omega)]; push_cast; rfl
  · rw [if_neg (by omega)]; omega

set_option maxHeartbeats 4000000 in
theorem beside_any (l x y : Int) (w : World) :
    Calls Try.prog 48 #[.agg #[.int .i64 l, .int .i64 x, .int .i64 y]] w fun e w' => e = .returned (.tuple #[.agg #[.int .i64 (sel (besideB l x y) l), .int .i64 (sel (besideB l x y) (otherI x)), .int .i64 (sel (besideB l x y) y)], .bool (besideB l x y)]) ∧ Below w.heap.size w w' := by
  have p1 := fun X : World => cright_any l x y X
  rcases Bool.eq_false_or_eq_true (crightB l x y) with h | h
  · obtain ⟨l0, l1, x0, y0, x1, y1⟩ := cright_iff.1 h
    have hp := pw_le l1
    rw [h] at p1
    have P1 := Lib.hid p1
    have hX := xor_one (n := x) (by omega) (by omega)
    
    by_cases e : l = 0
    · subst e
      rw [show besideB 0 x y = false by simp [besideB]]
      clear p1 h hp x1 y1 hX
      go_enter Try.func48, Try.ntmps48
      go_wp2_with (first
        | (go_at_call 62; refine (P1.out _).mono ?_; rintro e w' ⟨rfl, hb⟩; obtain ⟨X1, rfl, hl1, hm1⟩ := later (w.heap.size + 2) hb (by first | exact Nat.le_refl _ | go_size); clear hb; (try simp only [World.size_alloc, World.size_setCell, World.size_drew] at hm1)))
      refine bodyPost_ret (by simp only [results, Try.results48]; go_simp; all_goals (first | rfl | simp [sel])) rfl ⟨rfl, ?_⟩
      repeat' (first | (with_reducible exact Below.refl _ _) | (with_reducible assumption) | (with_reducible refine Later.step ?_ ?_ _) | (with_reducible refine Below.alloc ?_ ?_ _) | (with_reducible refine Below.drew ?_) | (with_reducible refine Below.setCell ?_ ?_ _) | go_size)
    · have e' : (l == 0) = false := by simp [e]
      rw [show besideB l x y = true from beside_iff.2 ⟨h, by omega⟩]
      clear p1 h hp x1 y1 
      go_enter Try.func48, Try.ntmps48
      go_wp2_with (first
        | (go_at_call 62; refine (P1.out _).mono ?_; rintro e w' ⟨rfl, hb⟩; obtain ⟨X1, rfl, hl1, hm1⟩ := later (w.heap.size + 2) hb (by first | exact Nat.le_refl _ | go_size); clear hb; (try simp only [World.size_alloc, World.size_setCell, World.size_drew] at hm1)))
      refine bodyPost_ret (by simp only [results, Try.results48]; go_simp; all_goals (first | rfl | simp [sel, hX])) rfl ⟨rfl, ?_⟩
      repeat' (first | (with_reducible exact Below.refl _ _) | (with_reducible assumption) | (with_reducible refine Later.step ?_ ?_ _) | (with_reducible refine Below.alloc ?_ ?_ _) | (with_reducible refine Below.drew ?_) | (with_reducible refine Below.setCell ?_ ?_ _) | go_size)
  · rw [h] at p1
    have P1 := Lib.hid p1
    rw [show besideB l x y = false by simp [besideB, h]]
    clear p1 h
    go_enter Try.func48, Try.ntmps48
    go_wp2_with (first
      | (go_at_call 62; refine (P1.out _).mono ?_; rintro e w' ⟨rfl, hb⟩; obtain ⟨X1, rfl, hl1, hm1⟩ := later (w.heap.size + 2) hb (by first | exact Nat.le_refl _ | go_size); clear hb; (try simp only [World.size_alloc, World.size_setCell, World.size_drew] at hm1)))
    refine bodyPost_ret (by simp only [results, Try.results48]; go_simp; all_goals (first | rfl | simp [sel])) rfl ⟨rfl, ?_⟩
    repeat' (first | (with_reducible exact Below.refl _ _) | (with_reducible assumption) | (with_reducible refine Later.step ?_ ?_ _) | (with_reducible refine Below.alloc ?_ ?_ _) | (with_reducible refine Below.drew ?_) | (with_reducible refine Below.setCell ?_ ?_ _) | go_size)
set_option maxHeartbeats 4000000 in
theorem over_any (l x y : Int) (w : World) :
    Calls Try.prog 49 #[.agg #[.int .i64 l, .int .i64 x, .int .i64 y]] w fun e w' => e = .returned (.tuple #[.agg #[.int .i64 (sel (besideB l x y) l), .int .i64 (sel (besideB l x y) x), .int .i64 (sel (besideB l x y) (otherI y))], .bool (besideB l x y)]) ∧ Below w.heap.size w w' := by
  have p1 := fun X : World => cright_any l x y X
  rcases Bool.eq_false_or_eq_true (crightB l x y) with h | h
  · obtain ⟨l0, l1, x0, y0, x1, y1⟩ := cright_iff.1 h
    have hp := pw_le l1
    rw [h] at p1
    have P1 := Lib.hid p1
    have hX := xor_one (n := y) (by omega) (by omega)
    
    by_cases e : l = 0
    · subst e
      rw [show besideB 0 x y = false by simp [besideB]]
      clear p1 h hp x1 y1 hX
      go_enter Try.func49, Try.ntmps49
      go_wp2_with (first
        | (go_at_call 62; refine (P1.out _).mono ?_; rintro e w' ⟨rfl, hb⟩; obtain ⟨X1, rfl, hl1, hm1⟩ := later (w.heap.size + 2) hb (by first | exact Nat.le_refl _ | go_size); clear hb; (try simp only [World.size_alloc, World.size_setCell, World.size_drew] at hm1)))
      refine bodyPost_ret (by simp only [results, Try.results49]; go_simp; all_goals (first | rfl | simp [sel])) rfl ⟨rfl, ?_⟩
      repeat' (first | (with_reducible exact Below.refl _ _) | (with_reducible assumption) | (with_reducible refine Later.step ?_ ?_ _) | (with_reducible refine Below.alloc ?_ ?_ _) | (with_reducible refine Below.drew ?_) | (with_reducible refine Below.setCell ?_ ?_ _) | go_size)
    · have e' : (l == 0) = false := by simp [e]
      rw [show besideB l x y = true from beside_iff.2 ⟨h, by omega⟩]
      clear p1 h hp x1 y1 
      go_enter Try.func49, Try.ntmps49
      go_wp2_with (first
        | (go_at_call 62; refine (P1.out _).mono ?_; rintro e w' ⟨rfl, hb⟩; obtain ⟨X1, rfl, hl1, hm1⟩ := later (w.heap.size + 2) hb (by first | exact Nat.le_refl _ | go_size); clear hb; (try simp only [World.size_alloc, World.size_setCell, World.size_drew] at hm1)))
      refine bodyPost_ret (by simp only [results, Try.results49]; go_simp; all_goals (first | rfl | simp [sel, hX])) rfl ⟨rfl, ?_⟩
      repeat' (first | (with_reducible exact Below.refl _ _) | (with_reducible assumption) | (with_reducible refine Later.step ?_ ?_ _) | (with_reducible refine Below.alloc ?_ ?_ _) | (with_reducible refine Below.drew ?_) | (with_reducible refine Below.setCell ?_ ?_ _) | go_size)
  · rw [h] at p1
    have P1 := Lib.hid p1
    rw [show besideB l x y = false by simp [besideB, h]]
    clear p1 h
    go_enter Try.func49, Try.ntmps49
    go_wp2_with (first
      | (go_at_call 62; refine (P1.out _).mono ?_; rintro e w' ⟨rfl, hb⟩; obtain ⟨X1, rfl, hl1, hm1⟩ := later (w.heap.size + 2) hb (by first | exact Nat.le_refl _ | go_size); clear hb; (try simp only [World.size_alloc, World.size_setCell, World.size_drew] at hm1)))
    refine bodyPost_ret (by simp only [results, Try.results49]; go_simp; all_goals (first | rfl | simp [sel])) rfl ⟨rfl, ?_⟩
    repeat' (first | (with_reducible exact Below.refl _ _) | (with_reducible assumption) | (with_reducible refine Later.step ?_ ?_ _) | (with_reducible refine Below.alloc ?_ ?_ _) | (with_reducible refine Below.drew ?_) | (with_reducible refine Below.setCell ?_ ?_ _) | go_size)
end Go.Proofs.Ythoanoaigfcchaa
