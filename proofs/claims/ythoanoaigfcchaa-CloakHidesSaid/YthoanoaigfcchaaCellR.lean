/- The document's answers for the layer of cells, walked. No condition. -/
import Derived.Test.YthoanoaigfcchaaGeomR
import Derived.Test.YthoanoaigfcchaaCellA
namespace Go.Proofs.Ythoanoaigfcchaa
open Go.RowKit
set_option linter.unusedSimpArgs false
set_option linter.unusedVariables false

theorem rlvl_any (l : Int) (w : World) :
    Calls Try.prog 38 #[.int .i64 l] w fun e w' => e = .returned (.bool (lvlB l)) ∧ Below w.heap.size w w' := by
  go_enter Try.func38, Try.ntmps38
  go_wp2
  all_goals
    go_ret
    exact ⟨ret_b (iff_b (by simp only [lvl_iff]; first | omega | (simp; done) | (simp; omega))), Below.refl _ _⟩
theorem two_any (n : Int) (w : World) (h : n ≤ 16) :
    Calls Try.prog 37 #[.int .i64 n] w fun e w' => e = .returned (.int .i64 (pw n)) ∧ Below w.heap.size w w' := by
  go_enter Try.func37, Try.ntmps37
  go_wp2
  go_loop [3, 4] (fun p i => ∃ k : Nat, k ≤ n.toNat ∧ i = .int .i64 k ∧ p = .int .i64 ((2 : Int) ^ k)) (fun _ i => n.toNat - (intOf i).toNat)
  case atStart => exact ⟨0, Nat.zero_le _, rfl, rfl⟩
  case round =>
    obtain ⟨k, hk, rfl, rfl⟩ := hrel
    have hp : (2 : Int) ^ k ≤ 65536 := by
      have := pw_le (l := (k : Int)) (by omega)
      unfold pw at this
      rwa [Int.toNat_natCast] at this
    have hp0 : 0 < (2 : Int) ^ k := Int.pow_pos (by omega)
    by_cases hlt : (k : Int) < n
    · obtain ⟨v, hv⟩ : ∃ v, (2 : Int) ^ k = v := ⟨_, rfl⟩
      have HV := Lib.hid hv
      rw [hv] at hp hp0 ⊢
      clear hv
      go_wp2
      go_round
      case rel => exact ⟨k + 1, by omega, by go_num, by rw [Int.pow_succ, HV.out]; congr 1; omega⟩
      case measure => simp [intOf]; omega
    · have hk' : k = n.toNat := by omega
      go_wp2
      go_ret
      exact ⟨ret_i rfl, Below.refl _ _⟩
theorem side_any (l : Int) (w : World) (h0 : 0 ≤ l) (h1 : l ≤ 16) :
    Calls Try.prog 36 #[.int .i64 l] w fun e w' => e = .returned (.int .i64 (sd l)) ∧ Below w.heap.size w w' := by
  go_enter Try.func36, Try.ntmps36
  go_wp2_with (first
    | (go_at_call 37; refine (two_any _ _ (by omega)).mono ?_; rintro e w' ⟨rfl, hb⟩; obtain ⟨X1, rfl, hl1, hm1⟩ := later (w.heap.size) hb (by first | exact Nat.le_refl _ | go_size); clear hb; (try simp only [World.size_alloc, World.size_setCell, World.size_drew] at hm1)))
  go_ret
  exact ⟨rfl, by repeat' (first | (with_reducible exact Below.refl _ _) | (with_reducible assumption) | (with_reducible refine Later.step ?_ ?_ _) | (with_reducible refine Below.alloc ?_ ?_ _) | (with_reducible refine Below.drew ?_) | (with_reducible refine Below.setCell ?_ ?_ _) | go_size)⟩
set_option maxHeartbeats 2000000 in
theorem rcright_any (l x y : Int) (w : World) :
    Calls Try.prog 35 #[.agg #[.int .i64 l, .int .i64 x, .int .i64 y]] w fun e w' => e = .returned (.bool (crightB l x y)) ∧ Below w.heap.size w w' := by
  rcases cright_cases l x y with ⟨h1, h2⟩ | ⟨⟨l0, l1⟩, h1, ⟨h2, h3⟩ | ⟨h2, ⟨h3, h4⟩ | ⟨h3, ⟨h4, h5⟩ | ⟨h4, h5⟩⟩⟩⟩
  · have p1 : ∀ X : World, Calls Try.prog 38 #[.int .i64 l] X fun e w' => e = .returned (.bool false) ∧ Below X.heap.size X w' := fun X => by
      have := rlvl_any l X; rwa [h1] at this
    have P1 := Lib.hid p1
    rw [h2]
    clear p1 h1 h2
    go_enter Try.func35, Try.ntmps35
    go_wp2_with fail
    (refine wp_region_later (w.heap.size + 1) (by kernel_rfl) (by kernel_rfl) (by go_size) ?_; (repeat (go_big_quiet_step ((first | (go_at_call 38; exact Later.call _ (Nat.le_trans (by go_size) (Later.is _).size) (P1.out _)))))); refine wpQuiet_nil ?_; intro Xq hlq hmq)
    go_wp2
    go_ret
    exact ⟨rfl, by repeat' (first | (with_reducible exact Below.refl _ _) | (with_reducible assumption) | (with_reducible refine Later.step ?_ ?_ _) | (with_reducible refine Below.alloc ?_ ?_ _) | (with_reducible refine Below.drew ?_) | (with_reducible refine Below.setCell ?_ ?_ _) | go_size)⟩
  all_goals
    have p1 : ∀ X : World, Calls Try.prog 38 #[.int .i64 l] X fun e w' => e = .returned (.bool true) ∧ Below X.heap.size X w' := fun X => by
      have := rlvl_any l X; rwa [h1] at this
    have P1 := Lib.hid p1
    have P2 := Lib.hid (fun X : World => two_any l X l1)
    first | rw [h5] | rw [h4] | rw [h3]
    clear p1 h1
    go_enter Try.func35, Try.ntmps35
    go_wp2_with fail
    (refine wp_region_later (w.heap.size + 1) (by kernel_rfl) (by kernel_rfl) (by go_size) ?_; (repeat (go_big_quiet_step ((first | (go_at_call 38; exact Later.call _ (Nat.le_trans (by go_size) (Later.is _).size) (P1.out _)) | (go_at_call 37; exact Later.call _ (Nat.le_trans (by go_size) (Later.is _).size) (P2.out _)))))); refine wpQuiet_nil ?_; intro Xq hlq hmq)
    go_wp2
    go_ret
    exact ⟨by first | rfl | (simp; done), by repeat' (first | (with_reducible exact Below.refl _ _) | (with_reducible assumption) | (with_reducible refine Later.step ?_ ?_ _) | (with_reducible refine Below.alloc ?_ ?_ _) | (with_reducible refine Below.drew ?_) | (with_reducible refine Below.setCell ?_ ?_ _) | go_size)⟩
set_option maxHeartbeats 2000000 in
theorem rof_any (x y l : Int) (w : World) :
    Calls Try.prog 21 #[.agg #[.int .i64 x, .int .i64 y], .int .i64 l] w fun e w' => e = .returned (.tuple #[.agg #[.int .i64 (sel (lvlB l && fitsB x y) l), .int .i64 (sel (lvlB l && fitsB x y) (x / sd l)), .int .i64 (sel (lvlB l && fitsB x y) (y / sd l))], .bool (lvlB l && fitsB x y)]) ∧ Below w.heap.size w w' := by
  rcases Bool.eq_false_or_eq_true (lvlB l) with h | h
  · obtain ⟨l0, l1⟩ := lvl_iff.1 h
    have p1 : ∀ X : World, Calls Try.prog 38 #[.int .i64 l] X fun e w' => e = .returned (.bool true) ∧ Below X.heap.size X w' := fun X => by
      have := rlvl_any l X; rwa [h] at this
    have P1 := Lib.hid p1
    have p2 := fun X : World => rfits_any x y X
    rcases Bool.eq_false_or_eq_true (fitsB x y) with hf | hf
    · rw [hf] at p2
      have P2 := Lib.hid p2
      obtain ⟨f1, f2, f3, f4⟩ := fits_iff.1 hf
      have P3 := Lib.hid (fun X : World => side_any l X l0 l1)
      rw [h, hf]
      have hs := sd_pos l
      have hne : (sd l == 0) = false := by rw [Bool.eq_false_iff]; intro h; simp at h; omega
      obtain ⟨s, hv⟩ : ∃ s, sd l = s := ⟨_, rfl⟩
      rw [hv] at P3 hs hne ⊢
      clear p1 p2 h hf hv
      go_enter Try.func21, Try.ntmps21
      go_wp2_with (first
        | (go_at_call 38; refine (P1.out _).mono ?_; rintro e w' ⟨rfl, hb⟩; obtain ⟨X1, rfl, hl1, hm1⟩ := later (w.heap.size + 2) hb (by first | exact Nat.le_refl _ | go_size); clear hb; (try simp only [World.size_alloc, World.size_setCell, World.size_drew] at hm1))
        | (go_at_call 12; refine (P2.out _).mono ?_; rintro e w' ⟨rfl, hb⟩; obtain ⟨X2, rfl, hl2, hm2⟩ := later (w.heap.size + 2) hb (by first | exact Nat.le_refl _ | go_size); clear hb; (try simp only [World.size_alloc, World.size_setCell, World.size_drew] at hm2)))
      (refine wp_region_later_tail 12 (w.heap.size + 2) (by kernel_rfl) (by kernel_rfl) (by go_size) ?_; simp only [List.take_succ_cons, List.take_zero, List.drop_succ_cons, List.drop_zero]; (repeat (go_big_quiet_step ((first | (go_at_call 36; exact Later.call _ (Nat.le_trans (by go_size) (Later.is _).size) (P3.out _)))))); refine wpQuiet_nil ?_; intro Xq hlq hmq)
      go_wp2
      refine bodyPost_ret (by simp only [results, Try.results21]; go_simp; all_goals (first | rfl | simp [sel])) rfl ⟨rfl, ?_⟩
      repeat' (first | (with_reducible exact Below.refl _ _) | (with_reducible assumption) | (with_reducible refine Later.step ?_ ?_ _) | (with_reducible refine Below.alloc ?_ ?_ _) | (with_reducible refine Below.drew ?_) | (with_reducible refine Below.setCell ?_ ?_ _) | go_size)
    · rw [h, hf]
      rw [hf] at p2
      have P2 := Lib.hid p2
      clear p1 p2 h hf
      go_enter Try.func21, Try.ntmps21
      go_wp2_with (first
        | (go_at_call 38; refine (P1.out _).mono ?_; rintro e w' ⟨rfl, hb⟩; obtain ⟨X1, rfl, hl1, hm1⟩ := later (w.heap.size + 2) hb (by first | exact Nat.le_refl _ | go_size); clear hb; (try simp only [World.size_alloc, World.size_setCell, World.size_drew] at hm1))
        | (go_at_call 12; refine (P2.out _).mono ?_; rintro e w' ⟨rfl, hb⟩; obtain ⟨X2, rfl, hl2, hm2⟩ := later (w.heap.size + 2) hb (by first | exact Nat.le_refl _ | go_size); clear hb; (try simp only [World.size_alloc, World.size_setCell, World.size_drew] at hm2)))
      refine bodyPost_ret (by simp only [results, Try.results21]; go_simp; all_goals (first | rfl | simp [sel])) rfl ⟨rfl, ?_⟩
      repeat' (first | (with_reducible exact Below.refl _ _) | (with_reducible assumption) | (with_reducible refine Later.step ?_ ?_ _) | (with_reducible refine Below.alloc ?_ ?_ _) | (with_reducible refine Below.drew ?_) | (with_reducible refine Below.setCell ?_ ?_ _) | go_size)
  · have p1 : ∀ X : World, Calls Try.prog 38 #[.int .i64 l] X fun e w' => e = .returned (.bool false) ∧ Below X.heap.size X w' := fun X => by
      have := rlvl_any l X; rwa [h] at this
    have P1 := Lib.hid p1
    rw [h]
    clear p1 h
    go_enter Try.func21, Try.ntmps21
    go_wp2_with (first
      | (go_at_call 38; refine (P1.out _).mono ?_; rintro e w' ⟨rfl, hb⟩; obtain ⟨X1, rfl, hl1, hm1⟩ := later (w.heap.size + 2) hb (by first | exact Nat.le_refl _ | go_size); clear hb; (try simp only [World.size_alloc, World.size_setCell, World.size_drew] at hm1)))
    refine bodyPost_ret (by simp only [results, Try.results21]; go_simp; all_goals (first | rfl | simp [sel])) rfl ⟨rfl, ?_⟩
    repeat' (first | (with_reducible exact Below.refl _ _) | (with_reducible assumption) | (with_reducible refine Later.step ?_ ?_ _) | (with_reducible refine Below.alloc ?_ ?_ _) | (with_reducible refine Below.drew ?_) | (with_reducible refine Below.setCell ?_ ?_ _) | go_size)
set_option maxHeartbeats 4000000 in
theorem rbox_any (l x y : Int) (w : World) :
    Calls Try.prog 18 #[.agg #[.int .i64 l, .int .i64 x, .int .i64 y]] w fun e w' => e = .returned (.tuple #[.agg #[.int .i64 (sel (crightB l x y) (x * sd l)), .int .i64 (sel (crightB l x y) (y * sd l)), .int .i64 (sel (crightB l x y) (x * sd l + sd l - 1)), .int .i64 (sel (crightB l x y) (y * sd l + sd l - 1))], .bool (crightB l x y)]) ∧ Below w.heap.size w w' := by
  have p1 := fun X : World => rcright_any l x y X
  rcases Bool.eq_false_or_eq_true (crightB l x y) with h | h
  · obtain ⟨l0, l1, x0, y0, x1, y1⟩ := cright_iff.1 h
    rw [h] at p1 ⊢
    have P1 := Lib.hid p1
    have P3 := Lib.hid (fun X : World => side_any l X l0 l1)
    have gx := grid_lt l0 l1 x0 x1
    have gy := grid_lt l0 l1 y0 y1
    have hs := sd_pos l
    have ex : sd l * x = x * sd l := Int.mul_comm _ _
    have ey : sd l * y = y * sd l := Int.mul_comm _ _
    obtain ⟨s, hv⟩ : ∃ s, sd l = s := ⟨_, rfl⟩
    rw [hv] at P3 gx gy hs ex ey ⊢
    obtain ⟨u, hu⟩ : ∃ u, x * s = u := ⟨_, rfl⟩
    obtain ⟨v, hv2⟩ : ∃ v, y * s = v := ⟨_, rfl⟩
    rw [hu] at gx ex ⊢
    rw [hv2] at gy ey ⊢
    clear p1 h hv hu hv2 x0 y0 x1 y1
    go_enter Try.func18, Try.ntmps18
    go_wp2_with (first
      | (go_at_call 35; refine (P1.out _).mono ?_; rintro e w' ⟨rfl, hb⟩; obtain ⟨X1, rfl, hl1, hm1⟩ := later (w.heap.size + 2) hb (by first | exact Nat.le_refl _ | go_size); clear hb; (try simp only [World.size_alloc, World.size_setCell, World.size_drew] at hm1))
      | (go_at_call 36; refine (P3.out _).mono ?_; rintro e w' ⟨rfl, hb⟩; obtain ⟨X2, rfl, hl2, hm2⟩ := later (w.heap.size + 2) hb (by first | exact Nat.le_refl _ | go_size); clear hb; (try simp only [World.size_alloc, World.size_setCell, World.size_drew] at hm2)))
    refine bodyPost_ret (by simp only [results, Try.results18]; go_simp; all_goals (first | rfl | simp [sel])) rfl ⟨rfl, ?_⟩
    repeat' (first | (with_reducible exact Below.refl _ _) | (with_reducible assumption) | (with_reducible refine Later.step ?_ ?_ _) | (with_reducible refine Below.alloc ?_ ?_ _) | (with_reducible refine Below.drew ?_) | (with_reducible refine Below.setCell ?_ ?_ _) | go_size)
  · rw [h] at p1 ⊢
    have P1 := Lib.hid p1
    clear p1 h
    go_enter Try.func18, Try.ntmps18
    go_wp2_with (first
      | (go_at_call 35; refine (P1.out _).mono ?_; rintro e w' ⟨rfl, hb⟩; obtain ⟨X1, rfl, hl1, hm1⟩ := later (w.heap.size + 2) hb (by first | exact Nat.le_refl _ | go_size); clear hb; (try simp only [World.size_alloc, World.size_setCell, World.size_drew] at hm1)))
    refine bodyPost_ret (by simp only [results, Try.results18]; go_simp; all_goals (first | rfl | simp [sel])) rfl ⟨rfl, ?_⟩
    repeat' (first | (with_reducible exact Below.refl _ _) | (with_reducible assumption) | (with_reducible refine Later.step ?_ ?_ _) | (with_reducible refine Below.alloc ?_ ?_ _) | (with_reducible refine Below.drew ?_) | (with_reducible refine Below.setCell ?_ ?_ _) | go_size)
end Go.Proofs.Ythoanoaigfcchaa
