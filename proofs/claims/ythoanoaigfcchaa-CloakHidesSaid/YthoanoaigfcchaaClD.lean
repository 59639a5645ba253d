/- The cloak at a cell, walked. No condition beyond what the memory holds. -/
import Derived.Test.YthoanoaigfcchaaClC
namespace Go.Proofs.Ythoanoaigfcchaa
open Go.RowKit Go.Maps
set_option linter.unusedSimpArgs false
set_option linter.unusedVariables false
set_option maxRecDepth 2000

/-- Which of two does: 1, 2, or none (3). -/
def betterK (d1 d2 : Bool) (n1 n2 : Int) : Int := if d1 = true ∧ (d2 = false ∨ n1 ≤ n2) then 1 else if d2 = true then 2 else 3
def zeroCK : Value := .agg #[.int .i64 0, .int .i64 0, .int .i64 0, .int .i64 0, .int .i64 0, .int .i64 0, .int .i64 0, .int .i64 0, .int .i64 0]
set_option maxHeartbeats 8000000 in
theorem better_any (a b c d l x y k n a' b' c' d' l' x' y' k' n' K A : Int) (w : World) : Calls Try.prog 50 #[.agg #[.int .i64 a, .int .i64 b, .int .i64 c, .int .i64 d, .int .i64 l, .int .i64 x, .int .i64 y, .int .i64 k, .int .i64 n], .agg #[.int .i64 a', .int .i64 b', .int .i64 c', .int .i64 d', .int .i64 l', .int .i64 x', .int .i64 y', .int .i64 k', .int .i64 n'], .agg #[.int .i64 K, .int .u64 A]] w fun e w' =>
    e = .returned (.tuple #[if betterK (doesB K A n (areaI a b c d)) (doesB K A n' (areaI a' b' c' d')) n n' = 1 then .agg #[.int .i64 a, .int .i64 b, .int .i64 c, .int .i64 d, .int .i64 l, .int .i64 x, .int .i64 y, .int .i64 k, .int .i64 n] else if betterK (doesB K A n (areaI a b c d)) (doesB K A n' (areaI a' b' c' d')) n n' = 2 then .agg #[.int .i64 a', .int .i64 b', .int .i64 c', .int .i64 d', .int .i64 l', .int .i64 x', .int .i64 y', .int .i64 k', .int .i64 n'] else zeroCK,
      .bool (decide (betterK (doesB K A n (areaI a b c d)) (doesB K A n' (areaI a' b' c' d')) n n' ≠ 3))]) ∧ Below w.heap.size w w' := by
  have p1 := ckdoes_any a b c d l x y k n K A
  have p2 := ckdoes_any a' b' c' d' l' x' y' k' n' K A
  generalize doesB K A n (areaI a b c d) = d1 at *
  generalize doesB K A n' (areaI a' b' c' d') = d2 at *
  have P1 := Lib.hid p1
  have P2 := Lib.hid p2
  clear p1 p2
  have hcase : (d1 = true ∧ d2 = false ∧ betterK d1 d2 n n' = 1) ∨ (d1 = true ∧ d2 = true ∧ n ≤ n' ∧ betterK d1 d2 n n' = 1) ∨ (d1 = true ∧ d2 = true ∧ ¬ n ≤ n' ∧ betterK d1 d2 n n' = 2) ∨ (d1 = false ∧ d2 = true ∧ betterK d1 d2 n n' = 2) ∨ (d1 = false ∧ d2 = false ∧ betterK d1 d2 n n' = 3) := by
    unfold betterK
    cases d1 <;> cases d2 <;> by_cases h : n ≤ n' <;> simp [h]
  rcases hcase with ⟨rfl, rfl, hk⟩ | ⟨rfl, rfl, hn, hk⟩ | ⟨rfl, rfl, hn, hk⟩ | ⟨rfl, rfl, hk⟩ | ⟨rfl, rfl, hk⟩
  all_goals
    rw [hk]
    clear hk
    go_enter Try.func50, Try.ntmps50
    go_wp2_with fail
    (refine wp_region_later_tail 6 (w.heap.size + 4) (by kernel_rfl) (by kernel_rfl) (by go_size) ?_; simp only [List.take_succ_cons, List.take_zero, List.drop_succ_cons, List.drop_zero]; (repeat (go_big_quiet_step ((first | (go_at_call 47; with_reducible refine Later.call _ ?_ (P1.out _); exact Nat.le_trans (by go_size) (Later.is _).size) | (go_at_call 47; with_reducible refine Later.call _ ?_ (P2.out _); exact Nat.le_trans (by go_size) (Later.is _).size))))); refine wpQuiet_nil ?_; intro Xq hlq hmq)
    go_wp2
    refine bodyPost_ret (by simp only [results, Try.results50]; go_simp; all_goals (first | rfl | simp [sel])) rfl ⟨rfl, ?_⟩
    repeat' (first | (with_reducible exact Below.refl _ _) | (with_reducible assumption) | (with_reducible refine Later.step ?_ ?_ _) | (with_reducible refine Below.alloc ?_ ?_ _) | (with_reducible refine Below.drew ?_) | (with_reducible refine bel_drewN ?_ _) | (with_reducible refine bel_grown ?_ (by assumption) ?_ ?_) | (with_reducible refine Below.setCell ?_ ?_ _) | go_size)
/-- A pair's box. -/
def hu (l x y x' y' : Int) : Nat → Int
  | 0 => min (x * sd l) (x' * sd l)
  | 1 => min (y * sd l) (y' * sd l)
  | 2 => max (x * sd l + sd l - 1) (x' * sd l + sd l - 1)
  | _ => max (y * sd l + sd l - 1) (y' * sd l + sd l - 1)
def huA (l x y x' y' : Int) : Int := areaI (hu l x y x' y' 0) (hu l x y x' y' 1) (hu l x y x' y' 2) (hu l x y x' y' 3)
def boA (l x y : Int) : Int := areaI (x * sd l) (y * sd l) (x * sd l + sd l - 1) (y * sd l + sd l - 1)
/-- How a cloak is found at a cell: 0 its own box, 1 and 2 a pair, 3 not at all. -/
def atK (N : Int → Int → Int → Int) (K A l x y : Int) : Int :=
  if doesB K A (N l x y) (boA l x y) = true then 0 else if l = 0 then 3
  else betterK (doesB K A (N l x y + N l (otherI x) y) (huA l x y (otherI x) y)) (doesB K A (N l x y + N l x (otherI y)) (huA l x y x (otherI y))) (N l x y + N l (otherI x) y) (N l x y + N l x (otherI y))
def atV (N : Int → Int → Int → Int) (l x y : Int) (k : Int) : Value :=
  if k = 0 then .agg #[.int .i64 (x * sd l), .int .i64 (y * sd l), .int .i64 (x * sd l + sd l - 1), .int .i64 (y * sd l + sd l - 1), .int .i64 l, .int .i64 x, .int .i64 y, .int .i64 0, .int .i64 (N l x y)]
  else if k = 1 then .agg #[.int .i64 (hu l x y (otherI x) y 0), .int .i64 (hu l x y (otherI x) y 1), .int .i64 (hu l x y (otherI x) y 2), .int .i64 (hu l x y (otherI x) y 3), .int .i64 l, .int .i64 x, .int .i64 y, .int .i64 1, .int .i64 (N l x y + N l (otherI x) y)]
  else if k = 2 then .agg #[.int .i64 (hu l x y x (otherI y) 0), .int .i64 (hu l x y x (otherI y) 1), .int .i64 (hu l x y x (otherI y) 2), .int .i64 (hu l x y x (otherI y) 3), .int .i64 l, .int .i64 x, .int .i64 y, .int .i64 2, .int .i64 (N l x y + N l x (otherI y))]
  else zeroCK
theorem otherI_bd {n m : Int} (h0 : 0 ≤ n) (h1 : n < pw m) (hm : 0 < m) : 0 ≤ otherI n ∧ otherI n < pw m := by
  have h2 : pw m % 2 = 0 := by
    unfold pw
    obtain ⟨k, hk⟩ : ∃ k, m.toNat = k + 1 := ⟨m.toNat - 1, by omega⟩
    rw [hk, Int.pow_succ]
    omega
  unfold otherI
  split <;> omega
theorem cright_beside {l x y : Int} (h : crightB l x y = true) (hl : 0 < l) : crightB l (otherI x) y = true ∧ crightB l x (otherI y) = true := by
  rw [cright_iff] at *
  rw [cright_iff]
  have h1 := otherI_bd h.2.2.1 h.2.2.2.2.1 hl
  have h2 := otherI_bd h.2.2.2.1 h.2.2.2.2.2 hl
  exact ⟨⟨h.1, h.2.1, h1.1, h.2.2.2.1, h1.2, h.2.2.2.2.2⟩, h.1, h.2.1, h.2.2.1, h2.1, h.2.2.2.2.1, h2.2⟩
set_option maxHeartbeats 16000000 in
theorem at_any (l x y K A : Int) (q n : Nat) (F : Nat → Nat → Int) (w : World) (h : Pyr w q n F) (hc : crightB l x y = true) (hF : ∀ l x y, 0 ≤ cntF F l x y ∧ cntF F l x y ≤ 1000000) :
    Calls Try.prog 30 #[.agg #[.int .i64 l, .int .i64 x, .int .i64 y], .agg #[.int .i64 K, .int .u64 A], .func (.func 31) #[.pointer (some ⟨q, 0, none⟩)] #[]] w fun e w' => e = .returned (.tuple #[atV (cntF F) l x y (atK (cntF F) K A l x y), .bool (decide (atK (cntF F) K A l x y ≠ 3))]) ∧ Below w.heap.size w w' := by
  have HP := Lib.hid h
  have P1 := Lib.hid (fun (Y : World) (hY : Below w.heap.size w Y) => own_any l x y q n F Y (HP.out.keep hY) hc)
  have p2 := ckdoes_any (x * sd l) (y * sd l) (x * sd l + sd l - 1) (y * sd l + sd l - 1) l x y 0 (cntF F l x y) K A
  have pb := beside_any l x y
  have po := over_any l x y
  have hq := h.lt
  have l0 : 0 ≤ l := (cright_iff.1 hc).1
  obtain ⟨t, ht⟩ : ∃ t, doesB K A (cntF F l x y) (boA l x y) = t := ⟨_, rfl⟩
  have ht' : doesB K A (cntF F l x y) (areaI (x * sd l) (y * sd l) (x * sd l + sd l - 1) (y * sd l + sd l - 1)) = t := ht
  rw [ht'] at p2
  have P2 := Lib.hid p2
  cases t with
  | true =>
    have hk : atK (cntF F) K A l x y = 0 := by unfold atK; rw [if_pos ht]
    rw [hk]
    have e1 : atV (cntF F) l x y 0 = .agg #[.int .i64 (x * sd l), .int .i64 (y * sd l), .int .i64 (x * sd l + sd l - 1), .int .i64 (y * sd l + sd l - 1), .int .i64 l, .int .i64 x, .int .i64 y, .int .i64 0, .int .i64 (cntF F l x y)] := rfl
    rw [e1]
    clear hk e1 ht ht' p2 h hc hF pb po
    generalize cntF F l x y = v at *
    go_enter Try.func30, Try.ntmps30
    go_wp2_with (first
      | (go_at_call 46; with_reducible refine (P1.out _ (by repeat' (first | (with_reducible exact Below.refl _ _) | (with_reducible assumption) | (with_reducible refine Later.step ?_ ?_ _) | (with_reducible refine Below.alloc ?_ ?_ _) | (with_reducible refine Below.drew ?_) | (with_reducible refine bel_drewN ?_ _) | (with_reducible refine bel_grown ?_ (by assumption) ?_ ?_) | (with_reducible refine Below.setCell ?_ ?_ _) | go_size))).mono ?_; rintro e w' ⟨rfl, hb⟩; obtain ⟨X1, rfl, hl1, hm1⟩ := later _ hb (Nat.le_refl _); clear hb; (try simp only [World.size_alloc, World.size_setCell, World.size_drew] at hm1 hl1))
      | (go_at_call 47; with_reducible refine (P2.out _).mono ?_; rintro e w' ⟨rfl, hb⟩; obtain ⟨X2, rfl, hl2, hm2⟩ := later _ hb (Nat.le_refl _); clear hb; (try simp only [World.size_alloc, World.size_setCell, World.size_drew] at hm2 hl2)))
    refine bodyPost_ret (by simp only [results, Try.results30]; go_simp; all_goals (first | rfl | simp [sel])) rfl ⟨rfl, ?_⟩
    repeat' (first | (with_reducible exact Below.refl _ _) | (with_reducible assumption) | (with_reducible refine Later.step ?_ ?_ _) | (with_reducible refine Below.alloc ?_ ?_ _) | (with_reducible refine Below.drew ?_) | (with_reducible refine bel_drewN ?_ _) | (with_reducible refine bel_grown ?_ (by assumption) ?_ ?_) | (with_reducible refine Below.setCell ?_ ?_ _) | go_size)
  | false =>
    by_cases hl : l = 0
    · have hk : atK (cntF F) K A l x y = 3 := by unfold atK; rw [if_neg (by rw [ht]; simp), if_pos hl]
      rw [hk]
      have e1 : atV (cntF F) l x y 3 = zeroCK := rfl
      rw [e1]
      have hb : besideB l x y = false := by
        cases hb : besideB l x y with
        | false => rfl
        | true => have := (beside_iff.1 hb).2; omega
      rw [hb] at pb po
      simp only [sel, Bool.false_eq_true, if_false] at pb po
      have PB := Lib.hid pb
      have PO := Lib.hid po
      clear hk e1 ht ht' p2 h hc hF pb po hb hl
      generalize cntF F l x y = v at *
      unfold zeroCK
      go_enter Try.func30, Try.ntmps30
      go_wp2_with (first
        | (go_at_call 46; with_reducible refine (P1.out _ (by repeat' (first | (with_reducible exact Below.refl _ _) | (with_reducible assumption) | (with_reducible refine Later.step ?_ ?_ _) | (with_reducible refine Below.alloc ?_ ?_ _) | (with_reducible refine Below.drew ?_) | (with_reducible refine bel_drewN ?_ _) | (with_reducible refine bel_grown ?_ (by assumption) ?_ ?_) | (with_reducible refine Below.setCell ?_ ?_ _) | go_size))).mono ?_; rintro e w' ⟨rfl, hb⟩; obtain ⟨X1, rfl, hl1, hm1⟩ := later _ hb (Nat.le_refl _); clear hb; (try simp only [World.size_alloc, World.size_setCell, World.size_drew] at hm1 hl1))
        | (go_at_call 47; with_reducible refine (P2.out _).mono ?_; rintro e w' ⟨rfl, hb⟩; obtain ⟨X2, rfl, hl2, hm2⟩ := later _ hb (Nat.le_refl _); clear hb; (try simp only [World.size_alloc, World.size_setCell, World.size_drew] at hm2 hl2))
        | (go_at_call 48; with_reducible refine (PB.out _).mono ?_; rintro e w' ⟨rfl, hb⟩; obtain ⟨X3, rfl, hl3, hm3⟩ := later _ hb (Nat.le_refl _); clear hb; (try simp only [World.size_alloc, World.size_setCell, World.size_drew] at hm3 hl3))
        | (go_at_call 49; with_reducible refine (PO.out _).mono ?_; rintro e w' ⟨rfl, hb⟩; obtain ⟨X4, rfl, hl4, hm4⟩ := later _ hb (Nat.le_refl _); clear hb; (try simp only [World.size_alloc, World.size_setCell, World.size_drew] at hm4 hl4)))
      refine bodyPost_ret (by simp only [results, Try.results30]; go_simp; all_goals (first | rfl | simp [sel])) rfl ⟨rfl, ?_⟩
      repeat' (first | (with_reducible exact Below.refl _ _) | (with_reducible assumption) | (with_reducible refine Later.step ?_ ?_ _) | (with_reducible refine Below.alloc ?_ ?_ _) | (with_reducible refine Below.drew ?_) | (with_reducible refine bel_drewN ?_ _) | (with_reducible refine bel_grown ?_ (by assumption) ?_ ?_) | (with_reducible refine Below.setCell ?_ ?_ _) | go_size)
    · have hl0 : 0 < l := by omega
      obtain ⟨hr1, hr2⟩ := cright_beside hc hl0
      have hb : besideB l x y = true := beside_iff.2 ⟨hc, hl0⟩
      rw [hb] at pb po
      simp only [sel, if_true] at pb po
      have PB := Lib.hid pb
      have PO := Lib.hid po
      have hs1 := hF l x y
      have hs2 := hF l (otherI x) y
      have hs3 := hF l x (otherI y)
      have p3 := fun (Y : World) (hY : Below w.heap.size w Y) => (show Calls Try.prog 51 #[.agg #[.int .i64 l, .int .i64 x, .int .i64 y], .agg #[.int .i64 l, .int .i64 (otherI x), .int .i64 y], .int .i64 1, .func (.func 31) #[.pointer (some ⟨q, 0, none⟩)] #[]] Y fun e w' => e = .returned (.agg #[.int .i64 (hu l x y (otherI x) y 0), .int .i64 (hu l x y (otherI x) y 1), .int .i64 (hu l x y (otherI x) y 2), .int .i64 (hu l x y (otherI x) y 3), .int .i64 l, .int .i64 x, .int .i64 y, .int .i64 1, .int .i64 (cntF F l x y + cntF F l (otherI x) y)]) ∧ Below Y.heap.size Y w' from pair_any l x y l (otherI x) y 1 q n F Y (HP.out.keep hY) hc hr1 hF)
      have p4 := fun (Y : World) (hY : Below w.heap.size w Y) => (show Calls Try.prog 51 #[.agg #[.int .i64 l, .int .i64 x, .int .i64 y], .agg #[.int .i64 l, .int .i64 x, .int .i64 (otherI y)], .int .i64 2, .func (.func 31) #[.pointer (some ⟨q, 0, none⟩)] #[]] Y fun e w' => e = .returned (.agg #[.int .i64 (hu l x y x (otherI y) 0), .int .i64 (hu l x y x (otherI y) 1), .int .i64 (hu l x y x (otherI y) 2), .int .i64 (hu l x y x (otherI y) 3), .int .i64 l, .int .i64 x, .int .i64 y, .int .i64 2, .int .i64 (cntF F l x y + cntF F l x (otherI y))]) ∧ Below Y.heap.size Y w' from pair_any l x y l x (otherI y) 2 q n F Y (HP.out.keep hY) hc hr2 hF)
      have p5 := better_any (hu l x y (otherI x) y 0) (hu l x y (otherI x) y 1) (hu l x y (otherI x) y 2) (hu l x y (otherI x) y 3) l x y 1 (cntF F l x y + cntF F l (otherI x) y) (hu l x y x (otherI y) 0) (hu l x y x (otherI y) 1) (hu l x y x (otherI y) 2) (hu l x y x (otherI y) 3) l x y 2 (cntF F l x y + cntF F l x (otherI y)) K A
      have hk : atK (cntF F) K A l x y = betterK (doesB K A (cntF F l x y + cntF F l (otherI x) y) (areaI (hu l x y (otherI x) y 0) (hu l x y (otherI x) y 1) (hu l x y (otherI x) y 2) (hu l x y (otherI x) y 3))) (doesB K A (cntF F l x y + cntF F l x (otherI y)) (areaI (hu l x y x (otherI y) 0) (hu l x y x (otherI y) 1) (hu l x y x (otherI y) 2) (hu l x y x (otherI y) 3))) (cntF F l x y + cntF F l (otherI x) y) (cntF F l x y + cntF F l x (otherI y)) := by
        unfold atK
        rw [if_neg (by rw [ht]; simp), if_neg hl]
        rfl
      rw [hk]
      have hcase : ∀ (d1 d2 : Bool) (n1 n2 : Int), betterK d1 d2 n1 n2 = 1 ∨ betterK d1 d2 n1 n2 = 2 ∨ betterK d1 d2 n1 n2 = 3 := fun d1 d2 n1 n2 => by
        unfold betterK
        split
        · exact .inl rfl
        · split
          · exact .inr (.inl rfl)
          · exact .inr (.inr rfl)
      have hcs := hcase (doesB K A (cntF F l x y + cntF F l (otherI x) y) (areaI (hu l x y (otherI x) y 0) (hu l x y (otherI x) y 1) (hu l x y (otherI x) y 2) (hu l x y (otherI x) y 3))) (doesB K A (cntF F l x y + cntF F l x (otherI y)) (areaI (hu l x y x (otherI y) 0) (hu l x y x (otherI y) 1) (hu l x y x (otherI y) 2) (hu l x y x (otherI y) 3))) (cntF F l x y + cntF F l (otherI x) y) (cntF F l x y + cntF F l x (otherI y))
      have e1 : atV (cntF F) l x y 1 = .agg #[.int .i64 (hu l x y (otherI x) y 0), .int .i64 (hu l x y (otherI x) y 1), .int .i64 (hu l x y (otherI x) y 2), .int .i64 (hu l x y (otherI x) y 3), .int .i64 l, .int .i64 x, .int .i64 y, .int .i64 1, .int .i64 (cntF F l x y + cntF F l (otherI x) y)] := rfl
      have e2 : atV (cntF F) l x y 2 = .agg #[.int .i64 (hu l x y x (otherI y) 0), .int .i64 (hu l x y x (otherI y) 1), .int .i64 (hu l x y x (otherI y) 2), .int .i64 (hu l x y x (otherI y) 3), .int .i64 l, .int .i64 x, .int .i64 y, .int .i64 2, .int .i64 (cntF F l x y + cntF F l x (otherI y))] := rfl
      have e3 : atV (cntF F) l x y 3 = zeroCK := rfl
      generalize betterK (doesB K A (cntF F l x y + cntF F l (otherI x) y) (areaI (hu l x y (otherI x) y 0) (hu l x y (otherI x) y 1) (hu l x y (otherI x) y 2) (hu l x y (otherI x) y 3))) (doesB K A (cntF F l x y + cntF F l x (otherI y)) (areaI (hu l x y x (otherI y) 0) (hu l x y x (otherI y) 1) (hu l x y x (otherI y) 2) (hu l x y x (otherI y) 3))) (cntF F l x y + cntF F l (otherI x) y) (cntF F l x y + cntF F l x (otherI y)) = kd at *
      have E : atV (cntF F) l x y kd = (if kd = 1 then .agg #[.int .i64 (hu l x y (otherI x) y 0), .int .i64 (hu l x y (otherI x) y 1), .int .i64 (hu l x y (otherI x) y 2), .int .i64 (hu l x y (otherI x) y 3), .int .i64 l, .int .i64 x, .int .i64 y, .int .i64 1, .int .i64 (cntF F l x y + cntF F l (otherI x) y)] else if kd = 2 then .agg #[.int .i64 (hu l x y x (otherI y) 0), .int .i64 (hu l x y x (otherI y) 1), .int .i64 (hu l x y x (otherI y) 2), .int .i64 (hu l x y x (otherI y) 3), .int .i64 l, .int .i64 x, .int .i64 y, .int .i64 2, .int .i64 (cntF F l x y + cntF F l x (otherI y))] else zeroCK) := by
        rcases hcs with rfl | rfl | rfl
        · exact e1
        · exact e2
        · exact e3
      rw [E]
      clear e1 e2 e3 E hk hcase ht ht' p2 h hc hF pb po hb hr1 hr2
      generalize cntF F l x y + cntF F l (otherI x) y = n1 at *
      generalize cntF F l x y + cntF F l x (otherI y) = n2 at *
      generalize cntF F l x y = v at *
      generalize hu l x y (otherI x) y 0 = h0 at *
      generalize hu l x y (otherI x) y 1 = h1 at *
      generalize hu l x y (otherI x) y 2 = h2 at *
      generalize hu l x y (otherI x) y 3 = h3 at *
      generalize hu l x y x (otherI y) 0 = g0 at *
      generalize hu l x y x (otherI y) 1 = g1 at *
      generalize hu l x y x (otherI y) 2 = g2 at *
      generalize hu l x y x (otherI y) 3 = g3 at *
      generalize otherI x = ox at *
      generalize otherI y = oy at *
      have P3 := Lib.hid p3
      have P4 := Lib.hid p4
      rcases hcs with rfl | rfl | rfl
      all_goals
        simp only [Int.reduceEq, if_true, if_false, ne_eq, not_true, not_false_eq_true, decide_true, decide_false] at p5 ⊢
        have P5 := Lib.hid p5
        (try unfold zeroCK at P5)
        (try unfold zeroCK)
        clear p3 p4 p5
        go_enter Try.func30, Try.ntmps30
        go_wp2_with (first
          | (go_at_call 46; with_reducible refine (P1.out _ (by repeat' (first | (with_reducible exact Below.refl _ _) | (with_reducible assumption) | (with_reducible refine Later.step ?_ ?_ _) | (with_reducible refine Below.alloc ?_ ?_ _) | (with_reducible refine Below.drew ?_) | (with_reducible refine bel_drewN ?_ _) | (with_reducible refine bel_grown ?_ (by assumption) ?_ ?_) | (with_reducible refine Below.setCell ?_ ?_ _) | go_size))).mono ?_; rintro e w' ⟨rfl, hb⟩; obtain ⟨X1, rfl, hl1, hm1⟩ := later _ hb (Nat.le_refl _); clear hb; (try simp only [World.size_alloc, World.size_setCell, World.size_drew] at hm1 hl1))
          | (go_at_call 47; with_reducible refine (P2.out _).mono ?_; rintro e w' ⟨rfl, hb⟩; obtain ⟨X2, rfl, hl2, hm2⟩ := later _ hb (Nat.le_refl _); clear hb; (try simp only [World.size_alloc, World.size_setCell, World.size_drew] at hm2 hl2))
          | (go_at_call 48; with_reducible refine (PB.out _).mono ?_; rintro e w' ⟨rfl, hb⟩; obtain ⟨X3, rfl, hl3, hm3⟩ := later _ hb (Nat.le_refl _); clear hb; (try simp only [World.size_alloc, World.size_setCell, World.size_drew] at hm3 hl3))
          | (go_at_call 49; with_reducible refine (PO.out _).mono ?_; rintro e w' ⟨rfl, hb⟩; obtain ⟨X4, rfl, hl4, hm4⟩ := later _ hb (Nat.le_refl _); clear hb; (try simp only [World.size_alloc, World.size_setCell, World.size_drew] at hm4 hl4)))
        (refine wp_region_later_tail 12 (X4.w.heap.size + 1) (by kernel_rfl) (by kernel_rfl) (by go_size) ?_; simp only [List.take_succ_cons, List.take_zero, List.drop_succ_cons, List.drop_zero]; (repeat (go_big_quiet_step ((first | (go_at_call 51; with_reducible refine Later.call _ ?_ (P3.out _ (by repeat' (first | (with_reducible exact Below.refl _ _) | (with_reducible assumption) | (with_reducible refine Later.step ?_ ?_ _) | (with_reducible refine Below.alloc ?_ ?_ _) | (with_reducible refine Below.drew ?_) | (with_reducible refine bel_drewN ?_ _) | (with_reducible refine bel_grown ?_ (by assumption) ?_ ?_) | (with_reducible refine Below.setCell ?_ ?_ _) | go_size))); exact Nat.le_trans (by go_size) (Later.is _).size) | (go_at_call 51; with_reducible refine Later.call _ ?_ (P4.out _ (by repeat' (first | (with_reducible exact Below.refl _ _) | (with_reducible assumption) | (with_reducible refine Later.step ?_ ?_ _) | (with_reducible refine Below.alloc ?_ ?_ _) | (with_reducible refine Below.drew ?_) | (with_reducible refine bel_drewN ?_ _) | (with_reducible refine bel_grown ?_ (by assumption) ?_ ?_) | (with_reducible refine Below.setCell ?_ ?_ _) | go_size))); exact Nat.le_trans (by go_size) (Later.is _).size) | (go_at_call 50; with_reducible refine Later.call _ ?_ (P5.out _); exact Nat.le_trans (by go_size) (Later.is _).size))))); refine wpQuiet_nil ?_; intro Xq hlq hmq)
        go_wp2
        refine bodyPost_ret (by simp only [results, Try.results30]; go_simp; all_goals (first | rfl | simp [sel])) rfl ⟨rfl, ?_⟩
        repeat' (first | (with_reducible exact Below.refl _ _) | (with_reducible assumption) | (with_reducible refine Later.step ?_ ?_ _) | (with_reducible refine Below.alloc ?_ ?_ _) | (with_reducible refine Below.drew ?_) | (with_reducible refine bel_drewN ?_ _) | (with_reducible refine bel_grown ?_ (by assumption) ?_ ?_) | (with_reducible refine Below.setCell ?_ ?_ _) | go_size)
end Go.Proofs.Ythoanoaigfcchaa
