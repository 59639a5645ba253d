/- The document's answers for the layer of cells, walked, further. No condition. -/
import Derived.Test.YthoanoaigfcchaaCellB
namespace Go.Proofs.Ythoanoaigfcchaa
open Go.RowKit
set_option linter.unusedSimpArgs false
set_option linter.unusedVariables false

theorem quo_small {x s : Int} (h0 : 0 ≤ x) (h1 : x ≤ 65535) (hs : 0 < s) : wrap64 (x.tdiv s) = x / s := by
  rw [Int.tdiv_eq_ediv_of_nonneg h0]
  have a := Int.ediv_nonneg h0 (Int.le_of_lt hs)
  have b := Int.ediv_le_self s h0
  exact wrap_small (by omega) (by omega)
set_option maxHeartbeats 4000000 in
theorem rabove_any (l x y m : Int) (w : World) :
    Calls Try.prog 20 #[.agg #[.int .i64 l, .int .i64 x, .int .i64 y], .int .i64 m] w fun e w' => e = .returned (.tuple #[.agg #[.int .i64 (sel (aboveB l x y m) m), .int .i64 (sel (aboveB l x y m) (x / pw (l - m))), .int .i64 (sel (aboveB l x y m) (y / pw (l - m)))], .bool (aboveB l x y m)]) ∧ Below w.heap.size w w' := by
  have p1 := fun X : World => rcright_any l x y X
  rcases Bool.eq_false_or_eq_true (crightB l x y) with h | h
  · obtain ⟨l0, l1, x0, y0, x1, y1⟩ := cright_iff.1 h
    rw [h] at p1
    have P1 := Lib.hid p1
    have hc : aboveB l x y m = decide (0 ≤ m ∧ m ≤ l) := by simp [aboveB, h]
    rw [hc]
    have hcase : m < 0 ∨ (0 ≤ m ∧ l < m) ∨ (0 ≤ m ∧ m ≤ l) := by omega
    have xb : x ≤ 65535 := by have := pw_le l1; omega
    have yb : y ≤ 65535 := by have := pw_le l1; omega
    clear p1 h hc x1 y1
    rcases hcase with c1 | ⟨c1, c2⟩ | ⟨c1, c2⟩
    · rw [show decide (0 ≤ m ∧ m ≤ l) = false by simp; omega]
      go_enter Try.func20, Try.ntmps20
      go_wp2_with (first
        | (go_at_call 35; refine (P1.out _).mono ?_; rintro e w' ⟨rfl, hb⟩; obtain ⟨X1, rfl, hl1, hm1⟩ := later (w.heap.size + 2) hb (by first | exact Nat.le_refl _ | go_size); clear hb; (try simp only [World.size_alloc, World.size_setCell, World.size_drew] at hm1)))
      refine bodyPost_ret (by simp only [results, Try.results20]; go_simp; all_goals (first | rfl | simp [sel])) rfl ⟨rfl, ?_⟩
      repeat' (first | (with_reducible exact Below.refl _ _) | (with_reducible assumption) | (with_reducible refine Later.step ?_ ?_ _) | (with_reducible refine Below.alloc ?_ ?_ _) | (with_reducible refine Below.drew ?_) | (with_reducible refine Below.setCell ?_ ?_ _) | go_size)
    · rw [show decide (0 ≤ m ∧ m ≤ l) = false by simp; omega]
      go_enter Try.func20, Try.ntmps20
      go_wp2_with (first
        | (go_at_call 35; refine (P1.out _).mono ?_; rintro e w' ⟨rfl, hb⟩; obtain ⟨X1, rfl, hl1, hm1⟩ := later (w.heap.size + 2) hb (by first | exact Nat.le_refl _ | go_size); clear hb; (try simp only [World.size_alloc, World.size_setCell, World.size_drew] at hm1)))
      refine bodyPost_ret (by simp only [results, Try.results20]; go_simp; all_goals (first | rfl | simp [sel])) rfl ⟨rfl, ?_⟩
      repeat' (first | (with_reducible exact Below.refl _ _) | (with_reducible assumption) | (with_reducible refine Later.step ?_ ?_ _) | (with_reducible refine Below.alloc ?_ ?_ _) | (with_reducible refine Below.drew ?_) | (with_reducible refine Below.setCell ?_ ?_ _) | go_size)
    · rw [show decide (0 ≤ m ∧ m ≤ l) = true by simp; omega]
      have P2 := Lib.hid (fun X : World => two_any (l - m) X (by omega))
      have hs := pw_pos (l - m)
      have hne : (pw (l - m) == 0) = false := by rw [Bool.eq_false_iff]; intro h; simp at h; omega
      obtain ⟨s, hv⟩ : ∃ s, pw (l - m) = s := ⟨_, rfl⟩
      rw [hv] at P2 hs hne ⊢
      have hx := quo_small x0 xb hs
      have hy := quo_small y0 yb hs
      clear hv
      go_enter Try.func20, Try.ntmps20
      go_wp2_with (first
        | (go_at_call 35; refine (P1.out _).mono ?_; rintro e w' ⟨rfl, hb⟩; obtain ⟨X1, rfl, hl1, hm1⟩ := later (w.heap.size + 2) hb (by first | exact Nat.le_refl _ | go_size); clear hb; (try simp only [World.size_alloc, World.size_setCell, World.size_drew] at hm1))
        | (go_at_call 37; refine (P2.out _).mono ?_; rintro e w' ⟨rfl, hb⟩; obtain ⟨X2, rfl, hl2, hm2⟩ := later (w.heap.size + 2) hb (by first | exact Nat.le_refl _ | go_size); clear hb; (try simp only [World.size_alloc, World.size_setCell, World.size_drew] at hm2)))
      go_region
      all_goals
        go_wp2
        refine bodyPost_ret (by simp only [results, Try.results20]; go_simp; all_goals (first | rfl | simp [sel, hx, hy])) rfl ⟨rfl, ?_⟩
        repeat' (first | (with_reducible exact Below.refl _ _) | (with_reducible assumption) | (with_reducible refine Later.step ?_ ?_ _) | (with_reducible refine Below.alloc ?_ ?_ _) | (with_reducible refine Below.drew ?_) | (with_reducible refine Below.setCell ?_ ?_ _) | go_size)
  · rw [h] at p1
    have P1 := Lib.hid p1
    rw [show aboveB l x y m = false by simp [aboveB, h]]
    clear p1 h
    go_enter Try.func20, Try.ntmps20
    go_wp2_with (first
      | (go_at_call 35; refine (P1.out _).mono ?_; rintro e w' ⟨rfl, hb⟩; obtain ⟨X1, rfl, hl1, hm1⟩ := later (w.heap.size + 2) hb (by first | exact Nat.le_refl _ | go_size); clear hb; (try simp only [World.size_alloc, World.size_setCell, World.size_drew] at hm1)))
    refine bodyPost_ret (by simp only [results, Try.results20]; go_simp; all_goals (first | rfl | simp [sel])) rfl ⟨rfl, ?_⟩
    repeat' (first | (with_reducible exact Below.refl _ _) | (with_reducible assumption) | (with_reducible refine Later.step ?_ ?_ _) | (with_reducible refine Below.alloc ?_ ?_ _) | (with_reducible refine Below.drew ?_) | (with_reducible refine Below.setCell ?_ ?_ _) | go_size)
theorem other_any (n : Int) (w : World) (h0 : 0 ≤ n) (h1 : n ≤ 65535) :
    Calls Try.prog 64 #[.int .i64 n] w fun e w' => e = .returned (.int .i64 (otherI n)) ∧ Below w.heap.size w w' := by
  go_enter Try.func64, Try.ntmps64
  go_wp2
  all_goals
    go_ret
    exact ⟨ret_i (by unfold otherI; split <;> first | rfl | (exfalso; simp_all; done) | (exfalso; omega) | omega), by repeat' (first | (with_reducible exact Below.refl _ _) | (with_reducible assumption) | (with_reducible refine Later.step ?_ ?_ _) | (with_reducible refine Below.alloc ?_ ?_ _) | (with_reducible refine Below.drew ?_) | (with_reducible refine Below.setCell ?_ ?_ _) | go_size)⟩
set_option maxHeartbeats 4000000 in
theorem rbeside_any (l x y : Int) (w : World) :
    Calls Try.prog 54 #[.agg #[.int .i64 l, .int .i64 x, .int .i64 y]] w fun e w' => e = .returned (.tuple #[.agg #[.int .i64 (sel (besideB l x y) l), .int .i64 (sel (besideB l x y) (otherI x)), .int .i64 (sel (besideB l x y) y)], .bool (besideB l x y)]) ∧ Below w.heap.size w w' := by
  have p1 := fun X : World => rcright_any l x y X
  rcases Bool.eq_false_or_eq_true (crightB l x y) with h | h
  · obtain ⟨l0, l1, x0, y0, x1, y1⟩ := cright_iff.1 h
    have hp := pw_le l1
    rw [h] at p1
    have P1 := Lib.hid p1
    have hX := xor_one (n := x) (by omega) (by omega)
    have P2 := Lib.hid (fun X : World => other_any x X (by omega) (by omega))
    by_cases e : l = 0
    · subst e
      rw [show besideB 0 x y = false by simp [besideB]]
      clear p1 h hp x1 y1 hX
      go_enter Try.func54, Try.ntmps54
      go_wp2_with (first
        | (go_at_call 35; refine (P1.out _).mono ?_; rintro e w' ⟨rfl, hb⟩; obtain ⟨X1, rfl, hl1, hm1⟩ := later (w.heap.size + 2) hb (by first | exact Nat.le_refl _ | go_size); clear hb; (try simp only [World.size_alloc, World.size_setCell, World.size_drew] at hm1)))
      refine bodyPost_ret (by simp only [results, Try.results54]; go_simp; all_goals (first | rfl | simp [sel])) rfl ⟨rfl, ?_⟩
      repeat' (first | (with_reducible exact Below.refl _ _) | (with_reducible assumption) | (with_reducible refine Later.step ?_ ?_ _) | (with_reducible refine Below.alloc ?_ ?_ _) | (with_reducible refine Below.drew ?_) | (with_reducible refine Below.setCell ?_ ?_ _) | go_size)
    · have e' : (l == 0) = false := by simp [e]
      rw [show besideB l x y = true from beside_iff.2 ⟨h, by omega⟩]
      clear p1 h hp x1 y1 hX
      go_enter Try.func54, Try.ntmps54
      go_wp2_with (first
        | (go_at_call 35; refine (P1.out _).mono ?_; rintro e w' ⟨rfl, hb⟩; obtain ⟨X1, rfl, hl1, hm1⟩ := later (w.heap.size + 2) hb (by first | exact Nat.le_refl _ | go_size); clear hb; (try simp only [World.size_alloc, World.size_setCell, World.size_drew] at hm1)))
      (refine wp_region_later_tail 8 (w.heap.size + 2) (by kernel_rfl) (by kernel_rfl) (by go_size) ?_; simp only [List.take_succ_cons, List.take_zero, List.drop_succ_cons, List.drop_zero]; (repeat (go_big_quiet_step ((first | (go_at_call 64; exact Later.call _ (Nat.le_trans (by go_size) (Later.is _).size) (P2.out _)))))); refine wpQuiet_nil ?_; intro Xq hlq hmq)
      go_wp2
      refine bodyPost_ret (by simp only [results, Try.results54]; go_simp; all_goals (first | rfl | simp [sel])) rfl ⟨rfl, ?_⟩
      repeat' (first | (with_reducible exact Below.refl _ _) | (with_reducible assumption) | (with_reducible refine Later.step ?_ ?_ _) | (with_reducible refine Below.alloc ?_ ?_ _) | (with_reducible refine Below.drew ?_) | (with_reducible refine Below.setCell ?_ ?_ _) | go_size)
  · rw [h] at p1
    have P1 := Lib.hid p1
    rw [show besideB l x y = false by simp [besideB, h]]
    clear p1 h
    go_enter Try.func54, Try.ntmps54
    go_wp2_with (first
      | (go_at_call 35; refine (P1.out _).mono ?_; rintro e w' ⟨rfl, hb⟩; obtain ⟨X1, rfl, hl1, hm1⟩ := later (w.heap.size + 2) hb (by first | exact Nat.le_refl _ | go_size); clear hb; (try simp only [World.size_alloc, World.size_setCell, World.size_drew] at hm1)))
    refine bodyPost_ret (by simp only [results, Try.results54]; go_simp; all_goals (first | rfl | simp [sel])) rfl ⟨rfl, ?_⟩
    repeat' (first | (with_reducible exact Below.refl _ _) | (with_reducible assumption) | (with_reducible refine Later.step ?_ ?_ _) | (with_reducible refine Below.alloc ?_ ?_ _) | (with_reducible refine Below.drew ?_) | (with_reducible refine Below.setCell ?_ ?_ _) | go_size)
set_option maxHeartbeats 4000000 in
theorem rover_any (l x y : Int) (w : World) :
    Calls Try.prog 55 #[.agg #[.int .i64 l, .int .i64 x, .int .i64 y]] w fun e w' => e = .returned (.tuple #[.agg #[.int .i64 (sel (besideB l x y) l), .int .i64 (sel (besideB l x y) x), .int .i64 (sel (besideB l x y) (otherI y))], .bool (besideB l x y)]) ∧ Below w.heap.size w w' := by
  have p1 := fun X : World => rcright_any l x y X
  rcases Bool.eq_false_or_eq_true (crightB l x y) with h | h
  · obtain ⟨l0, l1, x0, y0, x1, y1⟩ := cright_iff.1 h
    have hp := pw_le l1
    rw [h] at p1
    have P1 := Lib.hid p1
    have hX := xor_one (n := y) (by omega) (by omega)
    have P2 := Lib.hid (fun X : World => other_any y X (by omega) (by omega))
    by_cases e : l = 0
    · subst e
      rw [show besideB 0 x y = false by simp [besideB]]
      clear p1 h hp x1 y1 hX
      go_enter Try.func55, Try.ntmps55
      go_wp2_with (first
        | (go_at_call 35; refine (P1.out _).mono ?_; rintro e w' ⟨rfl, hb⟩; obtain ⟨X1, rfl, hl1, hm1⟩ := later (w.heap.size + 2) hb (by first | exact Nat.le_refl _ | go_size); clear hb; (try simp only [World.size_alloc, World.size_setCell, World.size_drew] at hm1)))
      refine bodyPost_ret (by simp only [results, Try.results55]; go_simp; all_goals (first | rfl | simp [sel])) rfl ⟨rfl, ?_⟩
      repeat' (first | (with_reducible exact Below.refl _ _) | (with_reducible assumption) | (with_reducible refine Later.step ?_ ?_ _) | (with_reducible refine Below.alloc ?_ ?_ _) | (with_reducible refine Below.drew ?_) | (with_reducible refine Below.setCell ?_ ?_ _) | go_size)
    · have e' : (l == 0) = false := by simp [e]
      rw [show besideB l x y = true from beside_iff.2 ⟨h, by omega⟩]
      clear p1 h hp x1 y1 hX
      go_enter Try.func55, Try.ntmps55
      go_wp2_with (first
        | (go_at_call 35; refine (P1.out _).mono ?_; rintro e w' ⟨rfl, hb⟩; obtain ⟨X1, rfl, hl1, hm1⟩ := later (w.heap.size + 2) hb (by first | exact Nat.le_refl _ | go_size); clear hb; (try simp only [World.size_alloc, World.size_setCell, World.size_drew] at hm1)))
      (refine wp_region_later_tail 8 (w.heap.size + 2) (by kernel_rfl) (by kernel_rfl) (by go_size) ?_; simp only [List.take_succ_cons, List.take_zero, List.drop_succ_cons, List.drop_zero]; (repeat (go_big_quiet_step ((first | (go_at_call 64; exact Later.call _ (Nat.le_trans (by go_size) (Later.is _).size) (P2.out _)))))); refine wpQuiet_nil ?_; intro Xq hlq hmq)
      go_wp2
      refine bodyPost_ret (by simp only [results, Try.results55]; go_simp; all_goals (first | rfl | simp [sel])) rfl ⟨rfl, ?_⟩
      repeat' (first | (with_reducible exact Below.refl _ _) | (with_reducible assumption) | (with_reducible refine Later.step ?_ ?_ _) | (with_reducible refine Below.alloc ?_ ?_ _) | (with_reducible refine Below.drew ?_) | (with_reducible refine Below.setCell ?_ ?_ _) | go_size)
  · rw [h] at p1
    have P1 := Lib.hid p1
    rw [show besideB l x y = false by simp [besideB, h]]
    clear p1 h
    go_enter Try.func55, Try.ntmps55
    go_wp2_with (first
      | (go_at_call 35; refine (P1.out _).mono ?_; rintro e w' ⟨rfl, hb⟩; obtain ⟨X1, rfl, hl1, hm1⟩ := later (w.heap.size + 2) hb (by first | exact Nat.le_refl _ | go_size); clear hb; (try simp only [World.size_alloc, World.size_setCell, World.size_drew] at hm1)))
    refine bodyPost_ret (by simp only [results, Try.results55]; go_simp; all_goals (first | rfl | simp [sel])) rfl ⟨rfl, ?_⟩
    repeat' (first | (with_reducible exact Below.refl _ _) | (with_reducible assumption) | (with_reducible refine Later.step ?_ ?_ _) | (with_reducible refine Below.alloc ?_ ?_ _) | (with_reducible refine Below.drew ?_) | (with_reducible refine Below.setCell ?_ ?_ _) | go_size)
end Go.Proofs.Ythoanoaigfcchaa
