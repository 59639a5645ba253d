/- Grants: the functions walked. No condition. -/
import Derived.Test.YtjfgjlklbepnjaaGeomA
import Derived.Test.YtjfgjlklbepnjaaTkE
import Derived.Test.YtjfgjlklbepnjaaBits
import Derived.Lib.MinMax
namespace Go.Proofs.Ytjfgjlklbepnjaa
open Go.RowKit
set_option linter.unusedSimpArgs false
set_option linter.unusedVariables false
set_option maxRecDepth 2000

set_option maxHeartbeats 8000000 in
theorem tright_any (g : Gr) (w : World) : Calls Try.prog 27 #[.agg #[.int .i64 g.ops, .int .i64 g.zoom, .int .i64 g.a, .int .i64 g.b, .int .i64 g.c, .int .i64 g.d, .bool g.void, .int .i64 g.til]] w fun e w' => e = .returned (.bool (rightG g)) ∧ Below w.heap.size w w' := by
  obtain ⟨o, z, a, b, c, d, v, t⟩ := g
  obtain ⟨r, hr⟩ : ∃ r, rightB a b c d = r := ⟨_, rfl⟩
  have p1 := right_any a b c d
  rw [hr] at p1
  have P1 := Lib.hid p1
  have hE : rightG ⟨o, z, a, b, c, d, v, t⟩ = decide (0 ≤ o ∧ o ≤ 31 ∧ 0 ≤ z ∧ z ≤ 16 ∧ 0 ≤ t ∧ t ≤ 4294967295 ∧ ((v = true ∧ a = 0 ∧ b = 0 ∧ c = 0 ∧ d = 0) ∨ (v = false ∧ r = true))) := by unfold rightG; rw [hr]
  rw [hE]
  clear p1 hr hE
  go_enter Try.func27, Try.ntmps27
  cases v
  · go_wp2_with (first
      | (go_at_call 42; refine (P1.out _).mono ?_; rintro e w' ⟨rfl, hb⟩; obtain ⟨X1, rfl, hl1, hm1⟩ := later (w.heap.size + 1) hb (by first | exact Nat.le_refl _ | go_size); clear hb; (try simp only [World.size_alloc, World.size_setCell, World.size_drew] at hm1)))
    all_goals
      go_ret
      exact ⟨ret_b (by cases r <;> simp <;> omega), by repeat' (first | (with_reducible exact Below.refl _ _) | (with_reducible assumption) | (with_reducible refine Later.step ?_ ?_ _) | (with_reducible refine Below.alloc ?_ ?_ _) | (with_reducible refine Below.drew ?_) | (with_reducible refine Below.setCell ?_ ?_ _) | go_size)⟩
  · go_wp2_with (first
      | (go_at_call 42; refine (P1.out _).mono ?_; rintro e w' ⟨rfl, hb⟩; obtain ⟨X1, rfl, hl1, hm1⟩ := later (w.heap.size + 1) hb (by first | exact Nat.le_refl _ | go_size); clear hb; (try simp only [World.size_alloc, World.size_setCell, World.size_drew] at hm1)))
    all_goals
      go_ret
      exact ⟨ret_b (by cases r <;> simp <;> omega), by repeat' (first | (with_reducible exact Below.refl _ _) | (with_reducible assumption) | (with_reducible refine Later.step ?_ ?_ _) | (with_reducible refine Below.alloc ?_ ?_ _) | (with_reducible refine Below.drew ?_) | (with_reducible refine Below.setCell ?_ ?_ _) | go_size)⟩
theorem and_land {a b : Int} (h0 : 0 ≤ a) (h1 : a ≤ 31) (h2 : 0 ≤ b) (h3 : b ≤ 31) : bits .and .i64 a b = landI a b := by
  have := i64_and_nat a.toNat b.toNat (by omega) (by omega)
  rw [Int.toNat_of_nonneg h0, Int.toNat_of_nonneg h2] at this
  exact this
set_option maxHeartbeats 8000000 in
theorem tmeet_any (g h : Gr) (w : World) (hg : rightG g = true) (hh : rightG h = true) : Calls Try.prog 41 #[.agg #[.int .i64 g.ops, .int .i64 g.zoom, .int .i64 g.a, .int .i64 g.b, .int .i64 g.c, .int .i64 g.d, .bool g.void, .int .i64 g.til], .agg #[.int .i64 h.ops, .int .i64 h.zoom, .int .i64 h.a, .int .i64 h.b, .int .i64 h.c, .int .i64 h.d, .bool h.void, .int .i64 h.til]] w fun e w' => e = .returned (.agg #[.int .i64 (meetG g h).ops, .int .i64 (meetG g h).zoom, .int .i64 (meetG g h).a, .int .i64 (meetG g h).b, .int .i64 (meetG g h).c, .int .i64 (meetG g h).d, .bool (meetG g h).void, .int .i64 (meetG g h).til]) ∧ Below w.heap.size w w' := by
  have hl := and_land (rightG_iff.1 hg).1 (rightG_iff.1 hg).2.1 (rightG_iff.1 hh).1 (rightG_iff.1 hh).2.1
  clear hg hh
  have hm : mB g h = (!g.void && !h.void && meetsB g.a g.b g.c g.d h.a h.b h.c h.d) := rfl
  have p1 := meet_any g.a g.b g.c g.d h.a h.b h.c h.d
  unfold meetG
  rw [hm]
  obtain ⟨o, z, a, b, c, d, v, t⟩ := g
  obtain ⟨o', z', a', b', c', d', v', t'⟩ := h
  simp only at *
  obtain ⟨m, hm'⟩ : ∃ m, meetsB a b c d a' b' c' d' = m := ⟨_, rfl⟩
  obtain ⟨lo, hlo⟩ : ∃ m, landI o o' = m := ⟨_, rfl⟩
  obtain ⟨x0, h0⟩ : ∃ m, max a a' = m := ⟨_, rfl⟩
  obtain ⟨x1, h1⟩ : ∃ m, max b b' = m := ⟨_, rfl⟩
  obtain ⟨x2, h2⟩ : ∃ m, min c c' = m := ⟨_, rfl⟩
  obtain ⟨x3, h3⟩ : ∃ m, min d d' = m := ⟨_, rfl⟩
  rw [hm', h0, h1, h2, h3] at p1
  rw [hm', hlo, h0, h1, h2, h3]
  rw [hlo] at hl
  clear hm hm' hlo h0 h1 h2 h3
  cases v <;> cases v' <;> cases m <;>
  · simp only [sel, Bool.not_true, Bool.not_false, Bool.and_true, Bool.and_false, Bool.true_and, Bool.false_and, if_true, Bool.false_eq_true, if_false] at p1 ⊢
    have P1 := Lib.hid p1
    clear p1
    go_enter Try.func41, Try.ntmps41
    go_wp2_with (first
      | (go_at_call 53; refine (P1.out _).mono ?_; rintro e w' ⟨rfl, hb⟩; obtain ⟨X1, rfl, hl1, hm1⟩ := later _ hb (Nat.le_refl _); clear hb; (try simp only [World.size_alloc, World.size_setCell, World.size_drew] at hm1 hl1)))
    refine bodyPost_ret (by simp only [results, Try.results41]; go_simp; all_goals (first | rfl | simp [sel])) rfl ⟨rfl, ?_⟩
    repeat' (first | (with_reducible exact Below.refl _ _) | (with_reducible assumption) | (with_reducible refine Later.step ?_ ?_ _) | (with_reducible refine Below.alloc ?_ ?_ _) | (with_reducible refine Below.drew ?_) | (with_reducible refine bel_drewN ?_ _) | (with_reducible refine bel_grown ?_ (by assumption) ?_ ?_) | (with_reducible refine Below.setCell ?_ ?_ _) | go_size)
def zeroG : Gr := ⟨0, 0, 0, 0, 0, 0, false, 0⟩
def tMeet (g h : Gr) : Gr := if (rightG g && rightG h) = true then meetG g h else zeroG
set_option maxHeartbeats 8000000 in
theorem tMeet_any (g h : Gr) (w : World) : Calls Try.prog 26 #[.agg #[.int .i64 g.ops, .int .i64 g.zoom, .int .i64 g.a, .int .i64 g.b, .int .i64 g.c, .int .i64 g.d, .bool g.void, .int .i64 g.til], .agg #[.int .i64 h.ops, .int .i64 h.zoom, .int .i64 h.a, .int .i64 h.b, .int .i64 h.c, .int .i64 h.d, .bool h.void, .int .i64 h.til]] w fun e w' => e = .returned (.agg #[.int .i64 (tMeet g h).ops, .int .i64 (tMeet g h).zoom, .int .i64 (tMeet g h).a, .int .i64 (tMeet g h).b, .int .i64 (tMeet g h).c, .int .i64 (tMeet g h).d, .bool (tMeet g h).void, .int .i64 (tMeet g h).til]) ∧ Below w.heap.size w w' := by
  have p1 := tright_any g
  have p2 := tright_any h
  cases h1 : rightG g with
  | false =>
    have e : tMeet g h = zeroG := by unfold tMeet; rw [h1]; rfl
    rw [e]
    rw [h1] at p1
    have P1 := Lib.hid p1
    clear p1 p2 e h1
    unfold zeroG
    go_enter Try.func26, Try.ntmps26
    go_wp2_with (first
      | (go_at_call 27; refine (P1.out _).mono ?_; rintro e w' ⟨rfl, hb⟩; obtain ⟨X1, rfl, hl1, hm1⟩ := later _ hb (Nat.le_refl _); clear hb; (try simp only [World.size_alloc, World.size_setCell, World.size_drew] at hm1 hl1)))
    refine bodyPost_ret (by simp only [results, Try.results26]; go_simp; all_goals (first | rfl | simp [sel])) rfl ⟨rfl, ?_⟩
    repeat' (first | (with_reducible exact Below.refl _ _) | (with_reducible assumption) | (with_reducible refine Later.step ?_ ?_ _) | (with_reducible refine Below.alloc ?_ ?_ _) | (with_reducible refine Below.drew ?_) | (with_reducible refine bel_drewN ?_ _) | (with_reducible refine bel_grown ?_ (by assumption) ?_ ?_) | (with_reducible refine Below.setCell ?_ ?_ _) | go_size)
  | true =>
    cases h2 : rightG h with
    | false =>
      have e : tMeet g h = zeroG := by unfold tMeet; rw [h1, h2]; rfl
      rw [e]
      rw [h1] at p1
      rw [h2] at p2
      have P1 := Lib.hid p1
      have P2 := Lib.hid p2
      clear p1 p2 e h1 h2
      unfold zeroG
      go_enter Try.func26, Try.ntmps26
      go_wp2_with (first
        | (go_at_call 27; with_reducible refine (P1.out _).mono ?_; rintro e w' ⟨rfl, hb⟩; obtain ⟨X1, rfl, hl1, hm1⟩ := later _ hb (Nat.le_refl _); clear hb; (try simp only [World.size_alloc, World.size_setCell, World.size_drew] at hm1 hl1))
        | (go_at_call 27; with_reducible refine (P2.out _).mono ?_; rintro e w' ⟨rfl, hb⟩; obtain ⟨X2, rfl, hl2, hm2⟩ := later _ hb (Nat.le_refl _); clear hb; (try simp only [World.size_alloc, World.size_setCell, World.size_drew] at hm2 hl2)))
      refine bodyPost_ret (by simp only [results, Try.results26]; go_simp; all_goals (first | rfl | simp [sel])) rfl ⟨rfl, ?_⟩
      repeat' (first | (with_reducible exact Below.refl _ _) | (with_reducible assumption) | (with_reducible refine Later.step ?_ ?_ _) | (with_reducible refine Below.alloc ?_ ?_ _) | (with_reducible refine Below.drew ?_) | (with_reducible refine bel_drewN ?_ _) | (with_reducible refine bel_grown ?_ (by assumption) ?_ ?_) | (with_reducible refine Below.setCell ?_ ?_ _) | go_size)
    | true =>
      have e : tMeet g h = meetG g h := by unfold tMeet; rw [h1, h2]; rfl
      have P3 := Lib.hid (fun Y => tmeet_any g h Y h1 h2)
      rw [e]
      rw [h1] at p1
      rw [h2] at p2
      have P1 := Lib.hid p1
      have P2 := Lib.hid p2
      clear p1 p2 e h1 h2
      generalize meetG g h = k at *
      go_enter Try.func26, Try.ntmps26
      go_wp2_with (first
        | (go_at_call 27; with_reducible refine (P1.out _).mono ?_; rintro e w' ⟨rfl, hb⟩; obtain ⟨X1, rfl, hl1, hm1⟩ := later _ hb (Nat.le_refl _); clear hb; (try simp only [World.size_alloc, World.size_setCell, World.size_drew] at hm1 hl1))
        | (go_at_call 27; with_reducible refine (P2.out _).mono ?_; rintro e w' ⟨rfl, hb⟩; obtain ⟨X2, rfl, hl2, hm2⟩ := later _ hb (Nat.le_refl _); clear hb; (try simp only [World.size_alloc, World.size_setCell, World.size_drew] at hm2 hl2))
        | (go_at_call 41; refine (P3.out _).mono ?_; rintro e w' ⟨rfl, hb⟩; obtain ⟨X3, rfl, hl3, hm3⟩ := later _ hb (Nat.le_refl _); clear hb; (try simp only [World.size_alloc, World.size_setCell, World.size_drew] at hm3 hl3)))
      refine bodyPost_ret (by simp only [results, Try.results26]; go_simp; all_goals (first | rfl | simp [sel])) rfl ⟨rfl, ?_⟩
      repeat' (first | (with_reducible exact Below.refl _ _) | (with_reducible assumption) | (with_reducible refine Later.step ?_ ?_ _) | (with_reducible refine Below.alloc ?_ ?_ _) | (with_reducible refine Below.drew ?_) | (with_reducible refine bel_drewN ?_ _) | (with_reducible refine bel_grown ?_ (by assumption) ?_ ?_) | (with_reducible refine Below.setCell ?_ ?_ _) | go_size)
set_option maxHeartbeats 8000000 in
theorem narrow_any (g h : Gr) (w : World) : Calls Try.prog 25 #[.agg #[.int .i64 g.ops, .int .i64 g.zoom, .int .i64 g.a, .int .i64 g.b, .int .i64 g.c, .int .i64 g.d, .bool g.void, .int .i64 g.til], .agg #[.int .i64 h.ops, .int .i64 h.zoom, .int .i64 h.a, .int .i64 h.b, .int .i64 h.c, .int .i64 h.d, .bool h.void, .int .i64 h.til]] w fun e w' => e = .returned (.bool (narrowB g h)) ∧ Below w.heap.size w w' := by
  have p1 := tright_any g
  have p2 := tright_any h
  cases h1 : rightG g with
  | false =>
    have e : narrowB g h = false := by unfold narrowB; rw [h1]; rfl
    rw [e]
    rw [h1] at p1
    have P1 := Lib.hid p1
    clear p1 p2 e h1
    go_enter Try.func25, Try.ntmps25
    go_wp2_with fail
    (refine wp_region_later (w.heap.size + 2) (by kernel_rfl) (by kernel_rfl) (by go_size) ?_; (repeat (go_big_quiet_step ((first | (go_at_call 27; with_reducible refine Later.call _ ?_ (P1.out _); exact Nat.le_trans (by go_size) (Later.is _).size))))); refine wpQuiet_nil ?_; intro Xq hlq hmq)
    go_wp2
    go_ret
    exact ⟨rfl, by repeat' (first | (with_reducible exact Below.refl _ _) | (with_reducible assumption) | (with_reducible refine Later.step ?_ ?_ _) | (with_reducible refine Below.alloc ?_ ?_ _) | (with_reducible refine Below.drew ?_) | (with_reducible refine bel_drewN ?_ _) | (with_reducible refine bel_grown ?_ (by assumption) ?_ ?_) | (with_reducible refine Below.setCell ?_ ?_ _) | go_size)⟩
  | true =>
    cases h2 : rightG h with
    | false =>
      have e : narrowB g h = false := by unfold narrowB; rw [h1, h2]; rfl
      rw [e]
      rw [h1] at p1
      rw [h2] at p2
      have P1 := Lib.hid p1
      have P2 := Lib.hid p2
      clear p1 p2 e h1 h2
      go_enter Try.func25, Try.ntmps25
      go_wp2_with fail
      (refine wp_region_later (w.heap.size + 2) (by kernel_rfl) (by kernel_rfl) (by go_size) ?_; (repeat (go_big_quiet_step ((first | (go_at_call 27; with_reducible refine Later.call _ ?_ (P1.out _); exact Nat.le_trans (by go_size) (Later.is _).size) | (go_at_call 27; with_reducible refine Later.call _ ?_ (P2.out _); exact Nat.le_trans (by go_size) (Later.is _).size))))); refine wpQuiet_nil ?_; intro Xq hlq hmq)
      go_wp2
      go_ret
      exact ⟨rfl, by repeat' (first | (with_reducible exact Below.refl _ _) | (with_reducible assumption) | (with_reducible refine Later.step ?_ ?_ _) | (with_reducible refine Below.alloc ?_ ?_ _) | (with_reducible refine Below.drew ?_) | (with_reducible refine bel_drewN ?_ _) | (with_reducible refine bel_grown ?_ (by assumption) ?_ ?_) | (with_reducible refine Below.setCell ?_ ?_ _) | go_size)⟩
    | true =>
      have e : narrowB g h = eqG (meetG g h) g := by unfold narrowB; rw [h1, h2]; rfl
      have P3 := Lib.hid (fun Y => tmeet_any g h Y h1 h2)
      rw [e]
      rw [h1] at p1
      rw [h2] at p2
      have P1 := Lib.hid p1
      have P2 := Lib.hid p2
      clear p1 p2 e h1 h2
      generalize meetG g h = k at *
      have hq := fun Y : World => eql_grant k g Y
      go_enter Try.func25, Try.ntmps25
      go_wp2_with fail
      (refine wp_region_later (w.heap.size + 2) (by kernel_rfl) (by kernel_rfl) (by go_size) ?_; (repeat (go_big_quiet_step ((first | (go_at_call 27; with_reducible refine Later.call _ ?_ (P1.out _); exact Nat.le_trans (by go_size) (Later.is _).size) | (go_at_call 27; with_reducible refine Later.call _ ?_ (P2.out _); exact Nat.le_trans (by go_size) (Later.is _).size) | (go_at_call 41; exact Later.call _ (Nat.le_trans (by go_size) (Later.is _).size) (P3.out _)))))); refine wpQuiet_nil ?_; intro Xq hlq hmq)
      go_wp2
      go_ret
      exact ⟨rfl, by repeat' (first | (with_reducible exact Below.refl _ _) | (with_reducible assumption) | (with_reducible refine Later.step ?_ ?_ _) | (with_reducible refine Below.alloc ?_ ?_ _) | (with_reducible refine Below.drew ?_) | (with_reducible refine bel_drewN ?_ _) | (with_reducible refine bel_grown ?_ (by assumption) ?_ ?_) | (with_reducible refine Below.setCell ?_ ?_ _) | go_size)⟩
end Go.Proofs.Ytjfgjlklbepnjaa
