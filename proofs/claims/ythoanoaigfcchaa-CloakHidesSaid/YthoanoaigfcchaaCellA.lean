/- The layer of cells, walked. No condition. -/
import Derived.Test.YthoanoaigfcchaaGeomA
import Derived.Test.YthoanoaigfcchaaCellS
namespace Go.Proofs.Ythoanoaigfcchaa
open Go.RowKit
set_option linter.unusedSimpArgs false
set_option linter.unusedVariables false

theorem wrap_small {n : Int} (h0 : -9223372036854775808 ≤ n) (h1 : n ≤ 9223372036854775807) : wrap64 n = n := by
  unfold wrap64; omega
theorem pw_wrap {l : Int} (h1 : l ≤ 16) : wrap64 ((2 : Int) ^ l.toNat) = pw l := by
  have h2 := pw_le h1
  have h3 := pw_pos l
  exact wrap_small (show -9223372036854775808 ≤ pw l by omega) (show pw l ≤ 9223372036854775807 by omega)
/-- Which test of a cell fails first, if one does. -/
theorem cright_cases (l x y : Int) : (lvlB l = false ∧ crightB l x y = false) ∨ ((0 ≤ l ∧ l ≤ 16) ∧ lvlB l = true ∧ ((decide (0 ≤ x) = false ∧ crightB l x y = false) ∨ (decide (0 ≤ x) = true ∧ ((decide (0 ≤ y) = false ∧ crightB l x y = false) ∨ (decide (0 ≤ y) = true ∧ ((decide (x < pw l) = false ∧ crightB l x y = false) ∨ (decide (x < pw l) = true ∧ crightB l x y = decide (y < pw l)))))))) := by
  by_cases h : 0 ≤ l ∧ l ≤ 16
  · refine .inr ⟨h, lvl_iff.2 h, ?_⟩
    by_cases hx : 0 ≤ x
    · refine .inr ⟨by simp [hx], ?_⟩
      by_cases hy : 0 ≤ y
      · refine .inr ⟨by simp [hy], ?_⟩
        by_cases hp : x < pw l
        · exact .inr ⟨by simp [hp], by simp [crightB, h, hx, hy, hp]⟩
        · exact .inl ⟨by simp [hp], by simp [crightB, hp]⟩
      · exact .inl ⟨by simp [hy], by simp [crightB, hy]⟩
    · exact .inl ⟨by simp [hx], by simp [crightB, hx]⟩
  · refine .inl ⟨?_, ?_⟩
    · rw [Bool.eq_false_iff]; intro h'; exact h (lvl_iff.1 h')
    · rw [Bool.eq_false_iff]; intro h'; have := cright_iff.1 h'; exact h ⟨this.1, this.2.1⟩

theorem lvl_any (l : Int) (w : World) :
    Calls Try.prog 44 #[.int .i64 l] w fun e w' => e = .returned (.bool (lvlB l)) ∧ Below w.heap.size w w' := by
  go_enter Try.func44, Try.ntmps44
  go_wp2
  all_goals
    go_ret
    exact ⟨ret_b (iff_b (by simp only [lvl_iff]; first | omega | (simp; done) | (simp; omega))), Below.refl _ _⟩
theorem down_any (l n : Int) (w : World) (h0 : 0 ≤ l) (h1 : l ≤ 16) :
    Calls Try.prog 59 #[.int .i64 l, .int .i64 n] w fun e w' => e = .returned (.int .i64 (n / sd l)) ∧ Below w.heap.size w w' := by
  go_enter Try.func59, Try.ntmps59
  go_wp2
  go_ret
  exact ⟨ret_i (by unfold sd; rfl), Below.refl _ _⟩
theorem first_any (l n : Int) (w : World) (h0 : 0 ≤ l) (h1 : l ≤ 16) (n0 : 0 ≤ n) (n1 : n < pw l) :
    Calls Try.prog 67 #[.int .i64 l, .int .i64 n] w fun e w' => e = .returned (.int .i64 (n * sd l)) ∧ Below w.heap.size w w' := by
  have hg := grid_lt h0 h1 n0 n1
  have hv : wrap64 (n * (2 : Int) ^ (16 - l).toNat) = n * sd l := wrap_small (show -9223372036854775808 ≤ n * sd l by omega) (show n * sd l ≤ 9223372036854775807 by have := sd_pos l; omega)
  go_enter Try.func67, Try.ntmps67
  go_wp2
  go_ret
  exact ⟨ret_i hv, Below.refl _ _⟩
theorem last_any (l n : Int) (w : World) (h0 : 0 ≤ l) (h1 : l ≤ 16) (n0 : 0 ≤ n) (n1 : n < pw l) :
    Calls Try.prog 68 #[.int .i64 l, .int .i64 n] w fun e w' => e = .returned (.int .i64 (n * sd l + sd l - 1)) ∧ Below w.heap.size w w' := by
  have hg := grid_lt h0 h1 n0 n1
  have hp := pw_le h1
  have hv : wrap64 ((n + 1) * (2 : Int) ^ (16 - l).toNat) = n * sd l + sd l := by
    show wrap64 ((n + 1) * sd l) = _
    rw [Int.add_mul, Int.one_mul]
    exact wrap_small (by have := sd_pos l; omega) (by omega)
  go_enter Try.func68, Try.ntmps68
  go_wp2
  go_ret
  exact ⟨ret_i (wrap_small (by have := sd_pos l; omega) (by omega)), Below.refl _ _⟩
set_option maxHeartbeats 2000000 in
theorem cright_any (l x y : Int) (w : World) :
    Calls Try.prog 62 #[.agg #[.int .i64 l, .int .i64 x, .int .i64 y]] w fun e w' => e = .returned (.bool (crightB l x y)) ∧ Below w.heap.size w w' := by
  rcases cright_cases l x y with ⟨h1, h2⟩ | ⟨⟨l0, l1⟩, h1, ⟨h2, h3⟩ | ⟨h2, ⟨h3, h4⟩ | ⟨h3, ⟨h4, h5⟩ | ⟨h4, h5⟩⟩⟩⟩
  · have p1 : ∀ X : World, Calls Try.prog 44 #[.int .i64 l] X fun e w' => e = .returned (.bool false) ∧ Below X.heap.size X w' := fun X => by
      have := lvl_any l X; rwa [h1] at this
    have P1 := Lib.hid p1
    rw [h2]
    clear p1 h1 h2
    go_enter Try.func62, Try.ntmps62
    go_wp2_with fail
    (refine wp_region_later (w.heap.size + 1) (by kernel_rfl) (by kernel_rfl) (by go_size) ?_; (repeat (go_big_quiet_step ((first | (go_at_call 44; exact Later.call _ (Nat.le_trans (by go_size) (Later.is _).size) (P1.out _)))))); refine wpQuiet_nil ?_; intro Xq hlq hmq)
    go_wp2
    go_ret
    exact ⟨rfl, by repeat' (first | (with_reducible exact Below.refl _ _) | (with_reducible assumption) | (with_reducible refine Later.step ?_ ?_ _) | (with_reducible refine Below.alloc ?_ ?_ _) | (with_reducible refine Below.drew ?_) | (with_reducible refine Below.setCell ?_ ?_ _) | go_size)⟩
  all_goals
    have p1 : ∀ X : World, Calls Try.prog 44 #[.int .i64 l] X fun e w' => e = .returned (.bool true) ∧ Below X.heap.size X w' := fun X => by
      have := lvl_any l X; rwa [h1] at this
    have P1 := Lib.hid p1
    have hw := pw_wrap l1
    first | rw [h5] | rw [h4] | rw [h3]
    clear p1 h1
    go_enter Try.func62, Try.ntmps62
    go_wp2_with fail
    (refine wp_region_later (w.heap.size + 1) (by kernel_rfl) (by kernel_rfl) (by go_size) ?_; (repeat (go_big_quiet_step ((first | (go_at_call 44; exact Later.call _ (Nat.le_trans (by go_size) (Later.is _).size) (P1.out _)))))); refine wpQuiet_nil ?_; intro Xq hlq hmq)
    go_wp2
    go_ret
    exact ⟨by first | rfl | (simp [hw]; done), by repeat' (first | (with_reducible exact Below.refl _ _) | (with_reducible assumption) | (with_reducible refine Later.step ?_ ?_ _) | (with_reducible refine Below.alloc ?_ ?_ _) | (with_reducible refine Below.drew ?_) | (with_reducible refine Below.setCell ?_ ?_ _) | go_size)⟩
set_option maxHeartbeats 2000000 in
theorem of_any (x y l : Int) (w : World) (h0 : 0 ≤ l) (h1 : l ≤ 16) :
    Calls Try.prog 45 #[.agg #[.int .i64 x, .int .i64 y], .int .i64 l] w fun e w' => e = .returned (.agg #[.int .i64 l, .int .i64 (x / sd l), .int .i64 (y / sd l)]) ∧ Below w.heap.size w w' := by
  have hmf : ∀ (fn : Fn) (first cap : Array Value) (w : World), (Instr.makeFunc fn first cap).run Try.prog w = .ok (.func fn first cap) w := fun _ _ _ _ => rfl
  go_enter Try.func45, Try.ntmps45
  go_wp2_with go_in
  refine bodyPost_ret (by simp only [results, Try.results45]; go_simp; all_goals (first | rfl | simp [sd])) rfl ⟨rfl, ?_⟩
  repeat' (first | (with_reducible exact Below.refl _ _) | (with_reducible assumption) | (with_reducible refine Later.step ?_ ?_ _) | (with_reducible refine Below.alloc ?_ ?_ _) | (with_reducible refine Below.drew ?_) | (with_reducible refine Below.setCell ?_ ?_ _) | go_size)
set_option maxHeartbeats 2000000 in
theorem cof_any (x y l : Int) (w : World) :
    Calls Try.prog 29 #[.agg #[.int .i64 x, .int .i64 y], .int .i64 l] w fun e w' => e = .returned (.tuple #[.agg #[.int .i64 (sel (lvlB l && fitsB x y) l), .int .i64 (sel (lvlB l && fitsB x y) (x / sd l)), .int .i64 (sel (lvlB l && fitsB x y) (y / sd l))], .bool (lvlB l && fitsB x y)]) ∧ Below w.heap.size w w' := by
  rcases Bool.eq_false_or_eq_true (lvlB l) with h | h
  · obtain ⟨l0, l1⟩ := lvl_iff.1 h
    have p1 : ∀ X : World, Calls Try.prog 44 #[.int .i64 l] X fun e w' => e = .returned (.bool true) ∧ Below X.heap.size X w' := fun X => by
      have := lvl_any l X; rwa [h] at this
    have P1 := Lib.hid p1
    rcases Bool.eq_false_or_eq_true (fitsB x y) with hf | hf
    all_goals
      rw [h, hf]
      have p2 := fun X : World => fits_any x y X
      rw [hf] at p2
      have P2 := Lib.hid p2
      clear p1 p2 h hf
      go_enter Try.func29, Try.ntmps29
      go_wp2_with (first
        | (go_at_call 44; refine (P1.out _).mono ?_; rintro e w' ⟨rfl, hb⟩; obtain ⟨X1, rfl, hl1, hm1⟩ := later (w.heap.size + 2) hb (by first | exact Nat.le_refl _ | go_size); clear hb; (try simp only [World.size_alloc, World.size_setCell, World.size_drew] at hm1))
        | (go_at_call 28; refine (P2.out _).mono ?_; rintro e w' ⟨rfl, hb⟩; obtain ⟨X2, rfl, hl2, hm2⟩ := later (w.heap.size + 2) hb (by first | exact Nat.le_refl _ | go_size); clear hb; (try simp only [World.size_alloc, World.size_setCell, World.size_drew] at hm2))
        | (go_at_call 45; refine (of_any _ _ _ _ l0 l1).mono ?_; rintro e w' ⟨rfl, hb⟩; obtain ⟨X3, rfl, hl3, hm3⟩ := later (w.heap.size + 2) hb (by first | exact Nat.le_refl _ | go_size); clear hb; (try simp only [World.size_alloc, World.size_setCell, World.size_drew] at hm3)))
      refine bodyPost_ret (by simp only [results, Try.results29]; go_simp; all_goals (first | rfl | simp [sel])) rfl ⟨rfl, ?_⟩
      repeat' (first | (with_reducible exact Below.refl _ _) | (with_reducible assumption) | (with_reducible refine Later.step ?_ ?_ _) | (with_reducible refine Below.alloc ?_ ?_ _) | (with_reducible refine Below.drew ?_) | (with_reducible refine Below.setCell ?_ ?_ _) | go_size)
  · have p1 : ∀ X : World, Calls Try.prog 44 #[.int .i64 l] X fun e w' => e = .returned (.bool false) ∧ Below X.heap.size X w' := fun X => by
      have := lvl_any l X; rwa [h] at this
    have P1 := Lib.hid p1
    rw [h]
    clear p1 h
    go_enter Try.func29, Try.ntmps29
    go_wp2_with (first
      | (go_at_call 44; refine (P1.out _).mono ?_; rintro e w' ⟨rfl, hb⟩; obtain ⟨X1, rfl, hl1, hm1⟩ := later (w.heap.size + 2) hb (by first | exact Nat.le_refl _ | go_size); clear hb; (try simp only [World.size_alloc, World.size_setCell, World.size_drew] at hm1)))
    refine bodyPost_ret (by simp only [results, Try.results29]; go_simp; all_goals (first | rfl | simp [sel])) rfl ⟨rfl, ?_⟩
    repeat' (first | (with_reducible exact Below.refl _ _) | (with_reducible assumption) | (with_reducible refine Later.step ?_ ?_ _) | (with_reducible refine Below.alloc ?_ ?_ _) | (with_reducible refine Below.drew ?_) | (with_reducible refine Below.setCell ?_ ?_ _) | go_size)
set_option maxHeartbeats 4000000 in
theorem box_any (l x y : Int) (w : World) :
    Calls Try.prog 60 #[.agg #[.int .i64 l, .int .i64 x, .int .i64 y]] w fun e w' => e = .returned (.tuple #[.agg #[.int .i64 (sel (crightB l x y) (x * sd l)), .int .i64 (sel (crightB l x y) (y * sd l)), .int .i64 (sel (crightB l x y) (x * sd l + sd l - 1)), .int .i64 (sel (crightB l x y) (y * sd l + sd l - 1))], .bool (crightB l x y)]) ∧ Below w.heap.size w w' := by
  have hmf : ∀ (fn : Fn) (first cap : Array Value) (w : World), (Instr.makeFunc fn first cap).run Try.prog w = .ok (.func fn first cap) w := fun _ _ _ _ => rfl
  have p1 := fun X : World => cright_any l x y X
  rcases Bool.eq_false_or_eq_true (crightB l x y) with h | h
  · obtain ⟨l0, l1, x0, y0, x1, y1⟩ := cright_iff.1 h
    rw [h] at p1 ⊢
    have P1 := Lib.hid p1
    clear p1 h
    go_enter Try.func60, Try.ntmps60
    go_wp2_with (first
      | (go_at_call 62; refine (P1.out _).mono ?_; rintro e w' ⟨rfl, hb⟩; obtain ⟨X1, rfl, hl1, hm1⟩ := later (w.heap.size + 2) hb (by first | exact Nat.le_refl _ | go_size); clear hb; (try simp only [World.size_alloc, World.size_setCell, World.size_drew] at hm1))
      | (go_at_call 67; with_reducible refine (first_any l x _ l0 l1 x0 x1).mono ?_; rintro e w' ⟨rfl, hb⟩; obtain ⟨X2, rfl, hl2, hm2⟩ := later (w.heap.size + 2) hb (by first | exact Nat.le_refl _ | go_size); clear hb; (try simp only [World.size_alloc, World.size_setCell, World.size_drew] at hm2))
      | (go_at_call 67; with_reducible refine (first_any l y _ l0 l1 y0 y1).mono ?_; rintro e w' ⟨rfl, hb⟩; obtain ⟨X3, rfl, hl3, hm3⟩ := later (w.heap.size + 2) hb (by first | exact Nat.le_refl _ | go_size); clear hb; (try simp only [World.size_alloc, World.size_setCell, World.size_drew] at hm3))
      | (go_at_call 68; with_reducible refine (last_any l x _ l0 l1 x0 x1).mono ?_; rintro e w' ⟨rfl, hb⟩; obtain ⟨X4, rfl, hl4, hm4⟩ := later (w.heap.size + 2) hb (by first | exact Nat.le_refl _ | go_size); clear hb; (try simp only [World.size_alloc, World.size_setCell, World.size_drew] at hm4))
      | (go_at_call 68; with_reducible refine (last_any l y _ l0 l1 y0 y1).mono ?_; rintro e w' ⟨rfl, hb⟩; obtain ⟨X5, rfl, hl5, hm5⟩ := later (w.heap.size + 2) hb (by first | exact Nat.le_refl _ | go_size); clear hb; (try simp only [World.size_alloc, World.size_setCell, World.size_drew] at hm5))
      | go_in)
    refine bodyPost_ret (by simp only [results, Try.results60]; go_simp; all_goals (first | rfl | simp [sel])) rfl ⟨rfl, ?_⟩
    repeat' (first | (with_reducible exact Below.refl _ _) | (with_reducible assumption) | (with_reducible refine Later.step ?_ ?_ _) | (with_reducible refine Below.alloc ?_ ?_ _) | (with_reducible refine Below.drew ?_) | (with_reducible refine Below.setCell ?_ ?_ _) | go_size)
  · rw [h] at p1 ⊢
    have P1 := Lib.hid p1
    clear p1 h
    go_enter Try.func60, Try.ntmps60
    go_wp2_with (first
      | (go_at_call 62; refine (P1.out _).mono ?_; rintro e w' ⟨rfl, hb⟩; obtain ⟨X1, rfl, hl1, hm1⟩ := later (w.heap.size + 2) hb (by first | exact Nat.le_refl _ | go_size); clear hb; (try simp only [World.size_alloc, World.size_setCell, World.size_drew] at hm1)))
    refine bodyPost_ret (by simp only [results, Try.results60]; go_simp; all_goals (first | rfl | simp [sel])) rfl ⟨rfl, ?_⟩
    repeat' (first | (with_reducible exact Below.refl _ _) | (with_reducible assumption) | (with_reducible refine Later.step ?_ ?_ _) | (with_reducible refine Below.alloc ?_ ?_ _) | (with_reducible refine Below.drew ?_) | (with_reducible refine Below.setCell ?_ ?_ _) | go_size)
end Go.Proofs.Ythoanoaigfcchaa
