/- Several texts of one proof, joined: What follows of the geometry layer's plain functions: hulls, cuts, nearest points. No condition. | What the layer of cells answers, as plain functions. No condition. | The layer of cells, walked. No condition. | plan: who may see, at which level, what is shown: walked. No condition. -/
import Derived.Test.YthlijfligikciaaGreatZ01
import Derived.Test.YthlijfligikciaaGreatZ10
import Derived.Lib.MinMax
/- What follows of the geometry layer's plain functions: hulls, cuts, nearest points. No condition. -/
namespace Go.Proofs.YthlijfligikciaaGreat
theorem in_hull {a b c d a' b' c' d' p q r s : Int} (h1 : inB a b c d p q r s = true) (h2 : inB a' b' c' d' p q r s = true) :
    bothB a b c d a' b' c' d' = true ∧ inB (min a a') (min b b') (max c c') (max d d') p q r s = true := by
  have g1 := in_iff.1 h1
  have g2 := in_iff.1 h2
  refine ⟨by simp [bothB, g1.1, g2.1], in_iff.2 ⟨?_, g1.2.1, by omega, by omega, by omega, by omega⟩⟩
  have r1 := right_iff.1 g1.1
  have r2 := right_iff.1 g2.1
  exact right_iff.2 (by omega)

theorem hull_has {a b c d a' b' c' d' : Int} (h1 : rightB a b c d = true) (h2 : rightB a' b' c' d' = true) :
    inB a b c d (min a a') (min b b') (max c c') (max d d') = true ∧ inB a' b' c' d' (min a a') (min b b') (max c c') (max d d') = true := by
  have r1 := right_iff.1 h1
  have r2 := right_iff.1 h2
  have r3 : rightB (min a a') (min b b') (max c c') (max d d') = true := right_iff.2 (by omega)
  exact ⟨in_iff.2 ⟨h1, r3, by omega, by omega, by omega, by omega⟩, in_iff.2 ⟨h2, r3, by omega, by omega, by omega, by omega⟩⟩

theorem has_hull {a b c d a' b' c' d' x y : Int} (h1 : rightB a b c d = true) (h2 : rightB a' b' c' d' = true) (h : hasB a b c d x y = true ∨ hasB a' b' c' d' x y = true) :
    hasB (min a a') (min b b') (max c c') (max d d') x y = true := by
  have r1 := right_iff.1 h1
  have r2 := right_iff.1 h2
  rw [has_iff]
  refine ⟨right_iff.2 (by omega), ?_⟩
  rcases h with h | h
  all_goals
    have := has_iff.1 h
    omega

theorem has_meet {a b c d a' b' c' d' x y : Int} (h : meetsB a b c d a' b' c' d' = true) :
    hasB (max a a') (max b b') (min c c') (min d d') x y = (hasB a b c d x y && hasB a' b' c' d' x y) := by
  have g := meets_iff.1 h
  have r1 := right_iff.1 g.1
  have r2 := right_iff.1 g.2.1
  have r3 : rightB (max a a') (max b b') (min c c') (min d d') = true := right_iff.2 (by omega)
  rw [Bool.eq_iff_iff, Bool.and_eq_true, has_iff, has_iff, has_iff, r3, g.1, g.2.1]
  simp only [true_and]; omega

theorem meet_none {a b c d a' b' c' d' x y : Int} (h : meetsB a b c d a' b' c' d' = false) : (hasB a b c d x y && hasB a' b' c' d' x y) = false := by
  rw [Bool.eq_false_iff] at h ⊢
  intro k
  rw [Bool.and_eq_true, has_iff, has_iff] at k
  exact h (meets_iff.2 ⟨k.1.1, k.2.1, by omega, by omega, by omega, by omega⟩)

theorem has_none {a b c d x y : Int} (h : rightB a b c d = false) : hasB a b c d x y = false := by
  rw [Bool.eq_false_iff, Ne, has_iff, h]; simp

theorem area_bd (a b c d : Int) : 0 ≤ areaI a b c d ∧ areaI a b c d ≤ 4294967296 := by
  unfold areaI
  split
  · rename_i h
    have g := right_iff.1 h
    exact mul_bd (by omega) (by omega) (by omega) (by omega)
  · omega

theorem cut_down {a b c d m : Int} (h : rightB a b c d = true) (h0 : b ≤ m) (h1 : m < d) :
    rightB a b c m = true ∧ rightB a (m + 1) c d = true ∧ areaI a b c m + areaI a (m + 1) c d = areaI a b c d ∧ meetsB a b c m a (m + 1) c d = false := by
  have g := right_iff.1 h
  have r1 : rightB a b c m = true := right_iff.2 (by omega)
  have r2 : rightB a (m + 1) c d = true := right_iff.2 (by omega)
  refine ⟨r1, r2, ?_, ?_⟩
  · unfold areaI
    rw [h, r1, r2, if_pos rfl, if_pos rfl, if_pos rfl, ← Int.mul_add]
    congr 1; omega
  · rw [Bool.eq_false_iff, Ne, meets_iff]; omega

theorem cut_side {a b c d m : Int} (h : rightB a b c d = true) (h0 : a ≤ m) (h1 : m < c) :
    rightB a b m d = true ∧ rightB (m + 1) b c d = true ∧ areaI a b m d + areaI (m + 1) b c d = areaI a b c d ∧ meetsB a b m d (m + 1) b c d = false := by
  have g := right_iff.1 h
  have r1 : rightB a b m d = true := right_iff.2 (by omega)
  have r2 : rightB (m + 1) b c d = true := right_iff.2 (by omega)
  refine ⟨r1, r2, ?_, ?_⟩
  · unfold areaI
    rw [h, r1, r2, if_pos rfl, if_pos rfl, if_pos rfl, ← Int.add_mul]
    congr 1; omega
  · rw [Bool.eq_false_iff, Ne, meets_iff]; omega

theorem near_has {a b c d x y : Int} (h : rightB a b c d = true) : hasB a b c d (clampI x a c) (clampI y b d) = true := by
  have g := right_iff.1 h
  exact has_iff.2 ⟨h, by unfold clampI; omega, by unfold clampI; omega, by unfold clampI; omega, by unfold clampI; omega⟩

theorem sq_zero {u : Int} : u * u = 0 ↔ u = 0 := by
  constructor
  · intro h; rcases Int.mul_eq_zero.1 h with h | h <;> exact h
  · rintro rfl; rfl
theorem sq_nonneg (u : Int) : 0 ≤ u * u := by
  rcases Int.le_total 0 u with h | h
  · exact Int.mul_nonneg h h
  · exact Int.mul_nonneg_of_nonpos_of_nonpos h h
theorem sq_le {u v : Int} (h0 : 0 ≤ u) (h : u ≤ v ∨ u ≤ -v) : u * u ≤ v * v := by
  rcases h with h | h
  · exact Int.mul_le_mul h h h0 (by omega)
  · have e : v * v = (-v) * (-v) := by rw [Int.neg_mul_neg]
    rw [e]; exact Int.mul_le_mul h h h0 (by omega)
theorem sq_lt {u v : Int} (h0 : 0 ≤ u) (h : u < v ∨ u < -v) : u * u < v * v := by
  have h1 : (u + 1) * (u + 1) ≤ v * v := sq_le (by omega) (by omega)
  have h2 : (u + 1) * (u + 1) = u * u + 2 * u + 1 := by rw [Int.add_mul, Int.mul_add]; omega
  omega

theorem gap_nn (n a b : Int) : 0 ≤ gapI n a b := by unfold gapI; split <;> (try split) <;> omega

theorem dist_zero {a b c d x y : Int} (h : rightB a b c d = true) (hf : fitsB x y = true) : (distI a b c d x y == 0) = hasB a b c d x y := by
  have g := right_iff.1 h
  have s1 := sq_nonneg (gapI x a c)
  have s2 := sq_nonneg (gapI y b d)
  rw [Bool.eq_iff_iff, beq_iff_eq, has_iff, h]
  unfold distI
  rw [h, hf, Bool.and_self, if_pos rfl]
  have e : gapI x a c * gapI x a c + gapI y b d * gapI y b d = 0 ↔ gapI x a c * gapI x a c = 0 ∧ gapI y b d * gapI y b d = 0 := by omega
  rw [e, sq_zero, sq_zero]
  simp only [true_and]
  unfold gapI
  constructor
  · rintro ⟨h1, h2⟩
    split at h1 <;> (try split at h1) <;> split at h2 <;> (try split at h2) <;> omega
  · intro h
    refine ⟨?_, ?_⟩
    · rw [if_neg (by omega), if_neg (by omega)]
    · rw [if_neg (by omega), if_neg (by omega)]

/-- A point of the rectangle is no nearer than the nearest one; only that one is as near. -/
theorem near_least {a b c d x y x' y' : Int} (h : rightB a b c d = true) (hf : fitsB x y = true) (hq : hasB a b c d x' y' = true) :
    distI a b c d x y ≤ apartI x y x' y' ∧ (¬ (x' = clampI x a c ∧ y' = clampI y b d) → distI a b c d x y < apartI x y x' y') := by
  have g := right_iff.1 h
  have q := has_iff.1 hq
  have fq : fitsB x' y' = true := fits_iff.2 (by omega)
  have gx := gap_nn x a c
  have gy := gap_nn y b d
  have kx : gapI x a c ≤ x - x' ∨ gapI x a c ≤ -(x - x') := by unfold gapI; split <;> (try split) <;> omega
  have ky : gapI y b d ≤ y - y' ∨ gapI y b d ≤ -(y - y') := by unfold gapI; split <;> (try split) <;> omega
  have lx := sq_le gx kx
  have ly := sq_le gy ky
  unfold distI apartI
  rw [h, hf, fq, Bool.and_self, if_pos rfl, if_pos rfl]
  refine ⟨by omega, fun hne => ?_⟩
  by_cases ex : x' = clampI x a c
  · have ey : ¬ y' = clampI y b d := fun e => hne ⟨ex, e⟩
    have : gapI y b d < y - y' ∨ gapI y b d < -(y - y') := by
      unfold clampI at ey
      unfold gapI; split <;> (try split) <;> omega
    have := sq_lt gy this
    omega
  · have : gapI x a c < x - x' ∨ gapI x a c < -(x - x') := by
      unfold clampI at ex
      unfold gapI; split <;> (try split) <;> omega
    have := sq_lt gx this
    omega
end Go.Proofs.YthlijfligikciaaGreat

/- What the layer of cells answers, as plain functions. No condition. -/
namespace Go.Proofs.YthlijfligikciaaGreat
set_option linter.unusedSimpArgs false
set_option linter.unusedVariables false

/-- Two so many times, and the side of a level's cells. -/
def pw (l : Int) : Int := (2 : Int) ^ l.toNat
def sd (l : Int) : Int := (2 : Int) ^ (16 - l).toNat
def lvlB (l : Int) : Bool := decide (0 ≤ l ∧ l ≤ 16)
def crightB (l x y : Int) : Bool := decide (0 ≤ l ∧ l ≤ 16 ∧ 0 ≤ x ∧ 0 ≤ y ∧ x < pw l ∧ y < pw l)
theorem pw_pos (l : Int) : 0 < pw l := Int.pow_pos (by omega)
theorem sd_pos (l : Int) : 0 < sd l := Int.pow_pos (by omega)
theorem pw_sd {l : Int} (h0 : 0 ≤ l) (h1 : l ≤ 16) : pw l * sd l = 65536 := by
  unfold pw sd
  rw [← Int.pow_add, show l.toNat + (16 - l).toNat = 16 by omega]; rfl
theorem lvl_iff {l : Int} : lvlB l = true ↔ 0 ≤ l ∧ l ≤ 16 := by simp [lvlB]
theorem cright_iff {l x y : Int} : crightB l x y = true ↔ 0 ≤ l ∧ l ≤ 16 ∧ 0 ≤ x ∧ 0 ≤ y ∧ x < pw l ∧ y < pw l := by simp [crightB]
theorem pw_le {l : Int} (h1 : l ≤ 16) : pw l ≤ 65536 := by
  unfold pw
  obtain ⟨n, hn⟩ : ∃ n, l.toNat = n := ⟨_, rfl⟩
  have hn' : n ≤ 16 := by omega
  rw [hn]
  have h2 := Nat.pow_le_pow_right (n := 2) (by omega) hn'
  have h3 : ((2 : Int) ^ n) = ((2 ^ n : Nat) : Int) := by push_cast; rfl
  have h4 : (2 : Nat) ^ 16 = 65536 := by decide
  omega
theorem sd_le {l : Int} (h1 : 0 ≤ l) : sd l ≤ 65536 := by
  have := pw_le (l := 16 - l) (by omega)
  exact this
theorem sd_pw (l : Int) : sd l = pw (16 - l) := rfl
/-- A cell's numbers, times the side, are the grid's. -/
theorem grid_lt {l x : Int} (h0 : 0 ≤ l) (h1 : l ≤ 16) (x0 : 0 ≤ x) (x1 : x < pw l) : 0 ≤ x * sd l ∧ x * sd l + sd l ≤ 65536 := by
  have h := pw_sd h0 h1
  have hs := sd_pos l
  refine ⟨Int.mul_nonneg x0 (by omega), ?_⟩
  have := Int.mul_le_mul_of_nonneg_right (show x + 1 ≤ pw l by omega) (show 0 ≤ sd l by omega)
  rw [Int.add_mul] at this
  omega
/-- A number of the grid is of the cell that its division by the side tells. -/
theorem div_iff {n s x : Int} (hs : 0 < s) : (x * s ≤ n ∧ n ≤ x * s + s - 1) ↔ n / s = x := by
  constructor
  · rintro ⟨h1, h2⟩
    have e := Int.emod_add_mul_ediv n s
    rw [Int.le_antisymm_iff]
    constructor
    · have : n / s < x + 1 := Int.ediv_lt_of_lt_mul hs (by rw [Int.add_mul]; omega)
      omega
    · exact Int.le_ediv_of_mul_le hs h1
  · rintro rfl
    have h1 := Int.emod_nonneg n (show s ≠ 0 by omega)
    have h2 := Int.emod_lt_of_pos n hs
    have e := Int.emod_add_mul_ediv n s
    rw [Int.mul_comm] at e
    omega
theorem div_grid {l n : Int} (h0 : 0 ≤ l) (h1 : l ≤ 16) (n0 : 0 ≤ n) (n1 : n ≤ 65535) : 0 ≤ n / sd l ∧ n / sd l < pw l := by
  refine ⟨Int.ediv_nonneg n0 (by have := sd_pos l; omega), Int.ediv_lt_of_lt_mul (sd_pos l) ?_⟩
  rw [pw_sd h0 h1]; omega
end Go.Proofs.YthlijfligikciaaGreat

/- The layer of cells, walked. No condition. -/
namespace Go.Proofs.YthlijfligikciaaGreat
open Go.RowKit
set_option linter.unusedSimpArgs false
set_option linter.unusedVariables false

theorem wrap_small {n : Int} (h0 : -9223372036854775808 ≤ n) (h1 : n ≤ 9223372036854775807) : wrap64 n = n := by
  unfold wrap64; omega
theorem pw_wrap {l : Int} (h1 : l ≤ 16) : wrap64 ((2 : Int) ^ l.toNat) = pw l := by
  have h2 := pw_le h1
  have h3 := pw_pos l
  exact wrap_small (show -9223372036854775808 ≤ pw l by omega) (show pw l ≤ 9223372036854775807 by omega)
/-- Which test of a cell fails first, if one does. -/
theorem cright_cases (l x y : Int) : (lvlB l = false ∧ crightB l x y = false) ∨ ((0 ≤ l ∧ l ≤ 16) ∧ lvlB l = true ∧ ((decide (0 ≤ x) = false ∧ crightB l x y = false) ∨ (decide (0 ≤ x) = true ∧ ((decide (0 ≤ y) = false ∧ crightB l x y = false) ∨ (decide (0 ≤ y) = true ∧ ((decide (x < pw l) = false ∧ crightB l x y = false) ∨ (decide (x < pw l) = true ∧ crightB l x y = decide (y < pw l)))))))) := by
  by_cases h : 0 ≤ l ∧ l ≤ 16
  · refine .inr ⟨h, lvl_iff.2 h, ?_⟩
    by_cases hx : 0 ≤ x
    · refine .inr ⟨by simp [hx], ?_⟩
      by_cases hy : 0 ≤ y
      · refine .inr ⟨by simp [hy], ?_⟩
        by_cases hp : x < pw l
        · exact .inr ⟨by simp [hp], by simp [crightB, h, hx, hy, hp]⟩
        · exact .inl ⟨by simp [hp], by simp [crightB, hp]⟩
      · exact .inl ⟨by simp [hy], by simp [crightB, hy]⟩
    · exact .inl ⟨by simp [hx], by simp [crightB, hx]⟩
  · refine .inl ⟨?_, ?_⟩
    · rw [Bool.eq_false_iff]; intro h'; exact h (lvl_iff.1 h')
    · rw [Bool.eq_false_iff]; intro h'; have := cright_iff.1 h'; exact h ⟨this.1, this.2.1⟩

theorem lvl_any (l : Int) (w : World) :
    Calls Tryz.prog 73 #[.int .i64 l] w fun e w' => e = .returned (.bool (lvlB l)) ∧ Below w.heap.size w w' := by
  go_enter Tryz.func73, Tryz.ntmps73
  go_wp2
  all_goals
    go_ret
    exact ⟨ret_b (iff_b (by simp only [lvl_iff]; first | omega | (simp; done) | (simp; omega))), Below.refl _ _⟩
theorem down_any (l n : Int) (w : World) (h0 : 0 ≤ l) (h1 : l ≤ 16) :
    Calls Tryz.prog 112 #[.int .i64 l, .int .i64 n] w fun e w' => e = .returned (.int .i64 (n / sd l)) ∧ Below w.heap.size w w' := by
  go_enter Tryz.func112, Tryz.ntmps112
  go_wp2
  go_ret
  exact ⟨ret_i (by unfold sd; rfl), Below.refl _ _⟩
theorem first_any (l n : Int) (w : World) (h0 : 0 ≤ l) (h1 : l ≤ 16) (n0 : 0 ≤ n) (n1 : n < pw l) :
    Calls Tryz.prog 77 #[.int .i64 l, .int .i64 n] w fun e w' => e = .returned (.int .i64 (n * sd l)) ∧ Below w.heap.size w w' := by
  have hg := grid_lt h0 h1 n0 n1
  have hv : wrap64 (n * (2 : Int) ^ (16 - l).toNat) = n * sd l := wrap_small (show -9223372036854775808 ≤ n * sd l by omega) (show n * sd l ≤ 9223372036854775807 by have := sd_pos l; omega)
  go_enter Tryz.func77, Tryz.ntmps77
  go_wp2
  go_ret
  exact ⟨ret_i hv, Below.refl _ _⟩
theorem last_any (l n : Int) (w : World) (h0 : 0 ≤ l) (h1 : l ≤ 16) (n0 : 0 ≤ n) (n1 : n < pw l) :
    Calls Tryz.prog 78 #[.int .i64 l, .int .i64 n] w fun e w' => e = .returned (.int .i64 (n * sd l + sd l - 1)) ∧ Below w.heap.size w w' := by
  have hg := grid_lt h0 h1 n0 n1
  have hp := pw_le h1
  have hv : wrap64 ((n + 1) * (2 : Int) ^ (16 - l).toNat) = n * sd l + sd l := by
    show wrap64 ((n + 1) * sd l) = _
    rw [Int.add_mul, Int.one_mul]
    exact wrap_small (by have := sd_pos l; omega) (by omega)
  go_enter Tryz.func78, Tryz.ntmps78
  go_wp2
  go_ret
  exact ⟨ret_i (wrap_small (by have := sd_pos l; omega) (by omega)), Below.refl _ _⟩
set_option maxHeartbeats 2000000 in
theorem cright_any (l x y : Int) (w : World) :
    Calls Tryz.prog 75 #[.agg #[.int .i64 l, .int .i64 x, .int .i64 y]] w fun e w' => e = .returned (.bool (crightB l x y)) ∧ Below w.heap.size w w' := by
  rcases cright_cases l x y with ⟨h1, h2⟩ | ⟨⟨l0, l1⟩, h1, ⟨h2, h3⟩ | ⟨h2, ⟨h3, h4⟩ | ⟨h3, ⟨h4, h5⟩ | ⟨h4, h5⟩⟩⟩⟩
  · have p1 : ∀ X : World, Calls Tryz.prog 73 #[.int .i64 l] X fun e w' => e = .returned (.bool false) ∧ Below X.heap.size X w' := fun X => by
      have := lvl_any l X; rwa [h1] at this
    have P1 := Lib.hid p1
    rw [h2]
    clear p1 h1 h2
    go_enter Tryz.func75, Tryz.ntmps75
    go_wp2_with fail
    (refine wp_region_later (w.heap.size + 1) (by kernel_rfl) (by kernel_rfl) (by go_size) ?_; (repeat (go_big_quiet_step ((first | (go_at_call 73; exact Later.call _ (Nat.le_trans (by go_size) (Later.is _).size) (P1.out _)))))); refine wpQuiet_nil ?_; intro Xq hlq hmq)
    go_wp2
    go_ret
    exact ⟨rfl, by repeat' (first | (with_reducible exact Below.refl _ _) | (with_reducible assumption) | (with_reducible refine Later.step ?_ ?_ _) | (with_reducible refine Below.alloc ?_ ?_ _) | (with_reducible refine Below.drew ?_) | (with_reducible refine Below.setCell ?_ ?_ _) | go_size)⟩
  all_goals
    have p1 : ∀ X : World, Calls Tryz.prog 73 #[.int .i64 l] X fun e w' => e = .returned (.bool true) ∧ Below X.heap.size X w' := fun X => by
      have := lvl_any l X; rwa [h1] at this
    have P1 := Lib.hid p1
    have hw := pw_wrap l1
    first | rw [h5] | rw [h4] | rw [h3]
    clear p1 h1
    go_enter Tryz.func75, Tryz.ntmps75
    go_wp2_with fail
    (refine wp_region_later (w.heap.size + 1) (by kernel_rfl) (by kernel_rfl) (by go_size) ?_; (repeat (go_big_quiet_step ((first | (go_at_call 73; exact Later.call _ (Nat.le_trans (by go_size) (Later.is _).size) (P1.out _)))))); refine wpQuiet_nil ?_; intro Xq hlq hmq)
    go_wp2
    go_ret
    exact ⟨by first | rfl | (simp [hw]; done), by repeat' (first | (with_reducible exact Below.refl _ _) | (with_reducible assumption) | (with_reducible refine Later.step ?_ ?_ _) | (with_reducible refine Below.alloc ?_ ?_ _) | (with_reducible refine Below.drew ?_) | (with_reducible refine Below.setCell ?_ ?_ _) | go_size)⟩
set_option maxHeartbeats 2000000 in
theorem of_any (x y l : Int) (w : World) (h0 : 0 ≤ l) (h1 : l ≤ 16) :
    Calls Tryz.prog 74 #[.agg #[.int .i64 x, .int .i64 y], .int .i64 l] w fun e w' => e = .returned (.agg #[.int .i64 l, .int .i64 (x / sd l), .int .i64 (y / sd l)]) ∧ Below w.heap.size w w' := by
  have hmf : ∀ (fn : Fn) (first cap : Array Value) (w : World), (Instr.makeFunc fn first cap).run Tryz.prog w = .ok (.func fn first cap) w := fun _ _ _ _ => rfl
  go_enter Tryz.func74, Tryz.ntmps74
  go_wp2_with go_in
  refine bodyPost_ret (by simp only [results, Tryz.results74]; go_simp; all_goals (first | rfl | simp [sd])) rfl ⟨rfl, ?_⟩
  repeat' (first | (with_reducible exact Below.refl _ _) | (with_reducible assumption) | (with_reducible refine Later.step ?_ ?_ _) | (with_reducible refine Below.alloc ?_ ?_ _) | (with_reducible refine Below.drew ?_) | (with_reducible refine Below.setCell ?_ ?_ _) | go_size)
set_option maxHeartbeats 2000000 in
theorem cof_any (x y l : Int) (w : World) :
    Calls Tryz.prog 29 #[.agg #[.int .i64 x, .int .i64 y], .int .i64 l] w fun e w' => e = .returned (.tuple #[.agg #[.int .i64 (sel (lvlB l && fitsB x y) l), .int .i64 (sel (lvlB l && fitsB x y) (x / sd l)), .int .i64 (sel (lvlB l && fitsB x y) (y / sd l))], .bool (lvlB l && fitsB x y)]) ∧ Below w.heap.size w w' := by
  rcases Bool.eq_false_or_eq_true (lvlB l) with h | h
  · obtain ⟨l0, l1⟩ := lvl_iff.1 h
    have p1 : ∀ X : World, Calls Tryz.prog 73 #[.int .i64 l] X fun e w' => e = .returned (.bool true) ∧ Below X.heap.size X w' := fun X => by
      have := lvl_any l X; rwa [h] at this
    have P1 := Lib.hid p1
    rcases Bool.eq_false_or_eq_true (fitsB x y) with hf | hf
    all_goals
      rw [h, hf]
      have p2 := fun X : World => fits_any x y X
      rw [hf] at p2
      have P2 := Lib.hid p2
      clear p1 p2 h hf
      go_enter Tryz.func29, Tryz.ntmps29
      go_wp2_with (first
        | (go_at_call 73; refine (P1.out _).mono ?_; rintro e w' ⟨rfl, hb⟩; obtain ⟨X1, rfl, hl1, hm1⟩ := later (w.heap.size + 2) hb (by first | exact Nat.le_refl _ | go_size); clear hb; (try simp only [World.size_alloc, World.size_setCell, World.size_drew] at hm1))
        | (go_at_call 10; refine (P2.out _).mono ?_; rintro e w' ⟨rfl, hb⟩; obtain ⟨X2, rfl, hl2, hm2⟩ := later (w.heap.size + 2) hb (by first | exact Nat.le_refl _ | go_size); clear hb; (try simp only [World.size_alloc, World.size_setCell, World.size_drew] at hm2))
        | (go_at_call 74; refine (of_any _ _ _ _ l0 l1).mono ?_; rintro e w' ⟨rfl, hb⟩; obtain ⟨X3, rfl, hl3, hm3⟩ := later (w.heap.size + 2) hb (by first | exact Nat.le_refl _ | go_size); clear hb; (try simp only [World.size_alloc, World.size_setCell, World.size_drew] at hm3)))
      refine bodyPost_ret (by simp only [results, Tryz.results29]; go_simp; all_goals (first | rfl | simp [sel])) rfl ⟨rfl, ?_⟩
      repeat' (first | (with_reducible exact Below.refl _ _) | (with_reducible assumption) | (with_reducible refine Later.step ?_ ?_ _) | (with_reducible refine Below.alloc ?_ ?_ _) | (with_reducible refine Below.drew ?_) | (with_reducible refine Below.setCell ?_ ?_ _) | go_size)
  · have p1 : ∀ X : World, Calls Tryz.prog 73 #[.int .i64 l] X fun e w' => e = .returned (.bool false) ∧ Below X.heap.size X w' := fun X => by
      have := lvl_any l X; rwa [h] at this
    have P1 := Lib.hid p1
    rw [h]
    clear p1 h
    go_enter Tryz.func29, Tryz.ntmps29
    go_wp2_with (first
      | (go_at_call 73; refine (P1.out _).mono ?_; rintro e w' ⟨rfl, hb⟩; obtain ⟨X1, rfl, hl1, hm1⟩ := later (w.heap.size + 2) hb (by first | exact Nat.le_refl _ | go_size); clear hb; (try simp only [World.size_alloc, World.size_setCell, World.size_drew] at hm1)))
    refine bodyPost_ret (by simp only [results, Tryz.results29]; go_simp; all_goals (first | rfl | simp [sel])) rfl ⟨rfl, ?_⟩
    repeat' (first | (with_reducible exact Below.refl _ _) | (with_reducible assumption) | (with_reducible refine Later.step ?_ ?_ _) | (with_reducible refine Below.alloc ?_ ?_ _) | (with_reducible refine Below.drew ?_) | (with_reducible refine Below.setCell ?_ ?_ _) | go_size)
set_option maxHeartbeats 4000000 in
theorem box_any (l x y : Int) (w : World) :
    Calls Tryz.prog 30 #[.agg #[.int .i64 l, .int .i64 x, .int .i64 y]] w fun e w' => e = .returned (.tuple #[.agg #[.int .i64 (sel (crightB l x y) (x * sd l)), .int .i64 (sel (crightB l x y) (y * sd l)), .int .i64 (sel (crightB l x y) (x * sd l + sd l - 1)), .int .i64 (sel (crightB l x y) (y * sd l + sd l - 1))], .bool (crightB l x y)]) ∧ Below w.heap.size w w' := by
  have hmf : ∀ (fn : Fn) (first cap : Array Value) (w : World), (Instr.makeFunc fn first cap).run Tryz.prog w = .ok (.func fn first cap) w := fun _ _ _ _ => rfl
  have p1 := fun X : World => cright_any l x y X
  rcases Bool.eq_false_or_eq_true (crightB l x y) with h | h
  · obtain ⟨l0, l1, x0, y0, x1, y1⟩ := cright_iff.1 h
    rw [h] at p1 ⊢
    have P1 := Lib.hid p1
    clear p1 h
    go_enter Tryz.func30, Tryz.ntmps30
    go_wp2_with (first
      | (go_at_call 75; refine (P1.out _).mono ?_; rintro e w' ⟨rfl, hb⟩; obtain ⟨X1, rfl, hl1, hm1⟩ := later (w.heap.size + 2) hb (by first | exact Nat.le_refl _ | go_size); clear hb; (try simp only [World.size_alloc, World.size_setCell, World.size_drew] at hm1))
      | (go_at_call 77; with_reducible refine (first_any l x _ l0 l1 x0 x1).mono ?_; rintro e w' ⟨rfl, hb⟩; obtain ⟨X2, rfl, hl2, hm2⟩ := later (w.heap.size + 2) hb (by first | exact Nat.le_refl _ | go_size); clear hb; (try simp only [World.size_alloc, World.size_setCell, World.size_drew] at hm2))
      | (go_at_call 77; with_reducible refine (first_any l y _ l0 l1 y0 y1).mono ?_; rintro e w' ⟨rfl, hb⟩; obtain ⟨X3, rfl, hl3, hm3⟩ := later (w.heap.size + 2) hb (by first | exact Nat.le_refl _ | go_size); clear hb; (try simp only [World.size_alloc, World.size_setCell, World.size_drew] at hm3))
      | (go_at_call 78; with_reducible refine (last_any l x _ l0 l1 x0 x1).mono ?_; rintro e w' ⟨rfl, hb⟩; obtain ⟨X4, rfl, hl4, hm4⟩ := later (w.heap.size + 2) hb (by first | exact Nat.le_refl _ | go_size); clear hb; (try simp only [World.size_alloc, World.size_setCell, World.size_drew] at hm4))
      | (go_at_call 78; with_reducible refine (last_any l y _ l0 l1 y0 y1).mono ?_; rintro e w' ⟨rfl, hb⟩; obtain ⟨X5, rfl, hl5, hm5⟩ := later (w.heap.size + 2) hb (by first | exact Nat.le_refl _ | go_size); clear hb; (try simp only [World.size_alloc, World.size_setCell, World.size_drew] at hm5))
      | go_in)
    refine bodyPost_ret (by simp only [results, Tryz.results30]; go_simp; all_goals (first | rfl | simp [sel])) rfl ⟨rfl, ?_⟩
    repeat' (first | (with_reducible exact Below.refl _ _) | (with_reducible assumption) | (with_reducible refine Later.step ?_ ?_ _) | (with_reducible refine Below.alloc ?_ ?_ _) | (with_reducible refine Below.drew ?_) | (with_reducible refine Below.setCell ?_ ?_ _) | go_size)
  · rw [h] at p1 ⊢
    have P1 := Lib.hid p1
    clear p1 h
    go_enter Tryz.func30, Tryz.ntmps30
    go_wp2_with (first
      | (go_at_call 75; refine (P1.out _).mono ?_; rintro e w' ⟨rfl, hb⟩; obtain ⟨X1, rfl, hl1, hm1⟩ := later (w.heap.size + 2) hb (by first | exact Nat.le_refl _ | go_size); clear hb; (try simp only [World.size_alloc, World.size_setCell, World.size_drew] at hm1)))
    refine bodyPost_ret (by simp only [results, Tryz.results30]; go_simp; all_goals (first | rfl | simp [sel])) rfl ⟨rfl, ?_⟩
    repeat' (first | (with_reducible exact Below.refl _ _) | (with_reducible assumption) | (with_reducible refine Later.step ?_ ?_ _) | (with_reducible refine Below.alloc ?_ ?_ _) | (with_reducible refine Below.drew ?_) | (with_reducible refine Below.setCell ?_ ?_ _) | go_size)
end Go.Proofs.YthlijfligikciaaGreat

/- plan: who may see, at which level, what is shown: walked. No condition. -/
namespace Go.Proofs.YthlijfligikciaaGreat
open Go.RowKit Go.Maps
set_option linter.unusedSimpArgs false
set_option linter.unusedVariables false
set_option maxRecDepth 2000

/-- A grant. -/
structure Gr where
  ops : Int
  zoom : Int
  a : Int
  b : Int
  c : Int
  d : Int
  void : Bool
  til : Int
def rightG (g : Gr) : Bool := decide (0 ≤ g.ops ∧ g.ops ≤ 31 ∧ 0 ≤ g.zoom ∧ g.zoom ≤ 16 ∧ 0 ≤ g.til ∧ g.til ≤ 4294967295 ∧ ((g.void = true ∧ g.a = 0 ∧ g.b = 0 ∧ g.c = 0 ∧ g.d = 0) ∨ (g.void = false ∧ rightB g.a g.b g.c g.d = true)))
theorem rightG_iff {g : Gr} : rightG g = true ↔ 0 ≤ g.ops ∧ g.ops ≤ 31 ∧ 0 ≤ g.zoom ∧ g.zoom ≤ 16 ∧ 0 ≤ g.til ∧ g.til ≤ 4294967295 ∧ ((g.void = true ∧ g.a = 0 ∧ g.b = 0 ∧ g.c = 0 ∧ g.d = 0) ∨ (g.void = false ∧ rightB g.a g.b g.c g.d = true)) := by simp [rightG]
set_option maxHeartbeats 8000000 in
theorem tright_any (g : Gr) (w : World) : Calls Tryz.prog 68 #[.agg #[.int .i64 g.ops, .int .i64 g.zoom, .int .i64 g.a, .int .i64 g.b, .int .i64 g.c, .int .i64 g.d, .bool g.void, .int .i64 g.til]] w fun e w' => e = .returned (.bool (rightG g)) ∧ Below w.heap.size w w' := by
  obtain ⟨o, z, a, b, c, d, v, t⟩ := g
  obtain ⟨r, hr⟩ : ∃ r, rightB a b c d = r := ⟨_, rfl⟩
  have p1 := right_any a b c d
  rw [hr] at p1
  have P1 := Lib.hid p1
  have hE : rightG ⟨o, z, a, b, c, d, v, t⟩ = decide (0 ≤ o ∧ o ≤ 31 ∧ 0 ≤ z ∧ z ≤ 16 ∧ 0 ≤ t ∧ t ≤ 4294967295 ∧ ((v = true ∧ a = 0 ∧ b = 0 ∧ c = 0 ∧ d = 0) ∨ (v = false ∧ r = true))) := by unfold rightG; rw [hr]
  rw [hE]
  clear p1 hr hE
  go_enter Tryz.func68, Tryz.ntmps68
  cases v
  · go_wp2_with (first
      | (go_at_call 32; refine (P1.out _).mono ?_; rintro e w' ⟨rfl, hb⟩; obtain ⟨X1, rfl, hl1, hm1⟩ := later (w.heap.size + 1) hb (by first | exact Nat.le_refl _ | go_size); clear hb; (try simp only [World.size_alloc, World.size_setCell, World.size_drew] at hm1)))
    all_goals
      go_ret
      exact ⟨ret_b (by cases r <;> simp <;> omega), by repeat' (first | (with_reducible exact Below.refl _ _) | (with_reducible assumption) | (with_reducible refine Later.step ?_ ?_ _) | (with_reducible refine Below.alloc ?_ ?_ _) | (with_reducible refine Below.drew ?_) | (with_reducible refine Below.setCell ?_ ?_ _) | go_size)⟩
  · go_wp2_with (first
      | (go_at_call 32; refine (P1.out _).mono ?_; rintro e w' ⟨rfl, hb⟩; obtain ⟨X1, rfl, hl1, hm1⟩ := later (w.heap.size + 1) hb (by first | exact Nat.le_refl _ | go_size); clear hb; (try simp only [World.size_alloc, World.size_setCell, World.size_drew] at hm1)))
    all_goals
      go_ret
      exact ⟨ret_b (by cases r <;> simp <;> omega), by repeat' (first | (with_reducible exact Below.refl _ _) | (with_reducible assumption) | (with_reducible refine Later.step ?_ ?_ _) | (with_reducible refine Below.alloc ?_ ?_ _) | (with_reducible refine Below.drew ?_) | (with_reducible refine Below.setCell ?_ ?_ _) | go_size)⟩
/-- Whether a viewer may be. -/
def rightW (role tier : Int) (g : Gr) : Bool := smallB role 7 && smallB tier 7 && rightG g
set_option maxHeartbeats 4000000 in
theorem pright_any (role tier : Int) (g : Gr) (w : World) : Calls Tryz.prog 26 #[.agg #[.int .i64 role, .int .i64 tier, .int .i64 g.ops, .int .i64 g.zoom, .int .i64 g.a, .int .i64 g.b, .int .i64 g.c, .int .i64 g.d, .bool g.void, .int .i64 g.til]] w fun e w' => e = .returned (.bool (rightW role tier g)) ∧ Below w.heap.size w w' := by
  unfold rightW smallB
  have e : ∀ x : Int, decide (0 ≤ x ∧ x ≤ 7) = (decide (0 ≤ x) && decide (x ≤ 7)) := fun x => Bool.decide_and _ _
  rw [e role, e tier]
  clear e
  have p1 := fun (Y : World) => tright_any g Y
  obtain ⟨q1, h1⟩ : ∃ q, decide (0 ≤ role) = q := ⟨_, rfl⟩
  obtain ⟨q2, h2⟩ : ∃ q, decide (role ≤ 7) = q := ⟨_, rfl⟩
  obtain ⟨q3, h3⟩ : ∃ q, decide (0 ≤ tier) = q := ⟨_, rfl⟩
  obtain ⟨q4, h4⟩ : ∃ q, decide (tier ≤ 7) = q := ⟨_, rfl⟩
  obtain ⟨q5, h5⟩ : ∃ q, rightG g = q := ⟨_, rfl⟩
  rw [h5] at p1
  rw [h1, h2, h3, h4, h5]
  have P1 := Lib.hid p1
  clear p1 h5
  cases q1 with
  | false => go_enter Tryz.func26, Tryz.ntmps26; go_wp2; go_ret; exact ⟨by simp, by repeat' (first | (with_reducible exact Below.refl _ _) | (with_reducible assumption) | (with_reducible refine Later.step ?_ ?_ _) | (with_reducible refine Below.alloc ?_ ?_ _) | (with_reducible refine Below.drew ?_) | (with_reducible refine Below.setCell ?_ ?_ _) | go_size)⟩
  | true =>
  cases q2 with
  | false => go_enter Tryz.func26, Tryz.ntmps26; go_wp2; go_ret; exact ⟨by simp, by repeat' (first | (with_reducible exact Below.refl _ _) | (with_reducible assumption) | (with_reducible refine Later.step ?_ ?_ _) | (with_reducible refine Below.alloc ?_ ?_ _) | (with_reducible refine Below.drew ?_) | (with_reducible refine Below.setCell ?_ ?_ _) | go_size)⟩
  | true =>
  cases q3 with
  | false => go_enter Tryz.func26, Tryz.ntmps26; go_wp2; go_ret; exact ⟨by simp, by repeat' (first | (with_reducible exact Below.refl _ _) | (with_reducible assumption) | (with_reducible refine Later.step ?_ ?_ _) | (with_reducible refine Below.alloc ?_ ?_ _) | (with_reducible refine Below.drew ?_) | (with_reducible refine Below.setCell ?_ ?_ _) | go_size)⟩
  | true =>
  cases q4 with
  | false => go_enter Tryz.func26, Tryz.ntmps26; go_wp2; go_ret; exact ⟨by simp, by repeat' (first | (with_reducible exact Below.refl _ _) | (with_reducible assumption) | (with_reducible refine Later.step ?_ ?_ _) | (with_reducible refine Below.alloc ?_ ?_ _) | (with_reducible refine Below.drew ?_) | (with_reducible refine Below.setCell ?_ ?_ _) | go_size)⟩
  | true =>
    go_enter Tryz.func26, Tryz.ntmps26
    go_wp2_with (first
      | (go_at_call 68; refine (P1.out _).mono ?_; rintro e w' ⟨rfl, hb⟩; obtain ⟨X1, rfl, hl1, hm1⟩ := later _ hb (Nat.le_refl _); clear hb; (try simp only [World.size_alloc, World.size_setCell, World.size_drew] at hm1 hl1)))
    go_ret
    exact ⟨by simp, by repeat' (first | (with_reducible exact Below.refl _ _) | (with_reducible assumption) | (with_reducible refine Later.step ?_ ?_ _) | (with_reducible refine Below.alloc ?_ ?_ _) | (with_reducible refine Below.drew ?_) | (with_reducible refine Below.setCell ?_ ?_ _) | go_size)⟩
set_option maxHeartbeats 4000000 in
theorem plevel_any (role tier z : Int) (g : Gr) (w : World) : Calls Tryz.prog 27 #[.agg #[.int .i64 role, .int .i64 tier, .int .i64 g.ops, .int .i64 g.zoom, .int .i64 g.a, .int .i64 g.b, .int .i64 g.c, .int .i64 g.d, .bool g.void, .int .i64 g.til], .int .i64 z] w fun e w' => e = .returned (.int .i64 (min z g.zoom)) ∧ Below w.heap.size w w' := by
  go_enter Tryz.func27, Tryz.ntmps27
  go_wp2
  go_ret
  exact ⟨by simp, by repeat' (first | (with_reducible exact Below.refl _ _) | (with_reducible assumption) | (with_reducible refine Later.step ?_ ?_ _) | (with_reducible refine Below.alloc ?_ ?_ _) | (with_reducible refine Below.drew ?_) | (with_reducible refine Below.setCell ?_ ?_ _) | go_size)⟩
/-- Whether a box is shown. -/
def showB (l a b c d : Int) (g : Gr) : Bool := decide (l ≠ 0) && !g.void && inB a b c d g.a g.b g.c g.d
set_option maxHeartbeats 8000000 in
theorem pshown_any (role tier id l a b c d : Int) (g : Gr) (w : World) : Calls Tryz.prog 31 #[.agg #[.int .i64 role, .int .i64 tier, .int .i64 g.ops, .int .i64 g.zoom, .int .i64 g.a, .int .i64 g.b, .int .i64 g.c, .int .i64 g.d, .bool g.void, .int .i64 g.til], .int .i64 id, .int .i64 l, .agg #[.int .i64 a, .int .i64 b, .int .i64 c, .int .i64 d]] w fun e w' => e = .returned (.tuple #[.agg #[.int .i64 (sel (showB l a b c d g) id), .int .i64 (sel (showB l a b c d g) l), .int .i64 (sel (showB l a b c d g) a), .int .i64 (sel (showB l a b c d g) b), .int .i64 (sel (showB l a b c d g) c), .int .i64 (sel (showB l a b c d g) d)], .bool (showB l a b c d g)]) ∧ Below w.heap.size w w' := by
  obtain ⟨go, gz, ga, gb, gc, gd, gv, gt⟩ := g
  unfold showB
  simp only
  have p1 := fun (Y : World) => in_any a b c d ga gb gc gd Y
  obtain ⟨q, hq⟩ : ∃ q, inB a b c d ga gb gc gd = q := ⟨_, rfl⟩
  rw [hq] at p1
  rw [hq]
  have P1 := Lib.hid p1
  clear p1 hq
  by_cases hl : l = 0
  · have e0 : (l == 0) = true := by simp [hl]
    rw [show decide (l ≠ 0) = false by simp [hl]]
    clear hl
    go_enter Tryz.func31, Tryz.ntmps31
    go_wp2
    refine bodyPost_ret (by simp only [results, Tryz.results31]; go_simp; all_goals (first | rfl | simp [sel])) rfl ⟨by simp [sel], ?_⟩
    repeat' (first | (with_reducible exact Below.refl _ _) | (with_reducible assumption) | (with_reducible refine Later.step ?_ ?_ _) | (with_reducible refine Below.alloc ?_ ?_ _) | (with_reducible refine Below.drew ?_) | (with_reducible refine Below.setCell ?_ ?_ _) | go_size)
  · have e0 : (l == 0) = false := by simpa using hl
    rw [show decide (l ≠ 0) = true by simpa using hl]
    clear hl
    cases gv with
    | true =>
      go_enter Tryz.func31, Tryz.ntmps31
      go_wp2
      refine bodyPost_ret (by simp only [results, Tryz.results31]; go_simp; all_goals (first | rfl | simp [sel])) rfl ⟨by simp [sel], ?_⟩
      repeat' (first | (with_reducible exact Below.refl _ _) | (with_reducible assumption) | (with_reducible refine Later.step ?_ ?_ _) | (with_reducible refine Below.alloc ?_ ?_ _) | (with_reducible refine Below.drew ?_) | (with_reducible refine Below.setCell ?_ ?_ _) | go_size)
    | false =>
      cases q with
      | false =>
        go_enter Tryz.func31, Tryz.ntmps31
        go_wp2_with (first
          | (go_at_call 9; refine (P1.out _).mono ?_; rintro e w' ⟨rfl, hb⟩; obtain ⟨X1, rfl, hl1, hm1⟩ := later _ hb (Nat.le_refl _); clear hb; (try simp only [World.size_alloc, World.size_setCell, World.size_drew] at hm1 hl1)))
        refine bodyPost_ret (by simp only [results, Tryz.results31]; go_simp; all_goals (first | rfl | simp [sel])) rfl ⟨by simp [sel], ?_⟩
        repeat' (first | (with_reducible exact Below.refl _ _) | (with_reducible assumption) | (with_reducible refine Later.step ?_ ?_ _) | (with_reducible refine Below.alloc ?_ ?_ _) | (with_reducible refine Below.drew ?_) | (with_reducible refine Below.setCell ?_ ?_ _) | go_size)
      | true =>
        go_enter Tryz.func31, Tryz.ntmps31
        go_wp2_with (first
          | (go_at_call 9; refine (P1.out _).mono ?_; rintro e w' ⟨rfl, hb⟩; obtain ⟨X1, rfl, hl1, hm1⟩ := later _ hb (Nat.le_refl _); clear hb; (try simp only [World.size_alloc, World.size_setCell, World.size_drew] at hm1 hl1)))
        refine bodyPost_ret (by simp only [results, Tryz.results31]; go_simp; all_goals (first | rfl | simp [sel])) rfl ⟨by simp [sel], ?_⟩
        repeat' (first | (with_reducible exact Below.refl _ _) | (with_reducible assumption) | (with_reducible refine Later.step ?_ ?_ _) | (with_reducible refine Below.alloc ?_ ?_ _) | (with_reducible refine Below.drew ?_) | (with_reducible refine Below.setCell ?_ ?_ _) | go_size)
end Go.Proofs.YthlijfligikciaaGreat
