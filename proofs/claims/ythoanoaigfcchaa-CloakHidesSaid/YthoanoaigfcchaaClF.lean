/- The cloak of a point is sought, walked. No condition beyond what the memory holds. -/
import Derived.Test.YthoanoaigfcchaaClD
namespace Go.Proofs.Ythoanoaigfcchaa
open Go.RowKit Go.Maps
set_option linter.unusedSimpArgs false
set_option linter.unusedVariables false
set_option maxRecDepth 2000

/-- How a cloak is found at the cell so many levels up from the lowest. -/
def lvA (N : Int → Int → Int → Int) (K A x y : Int) (j : Nat) : Int := atK N K A (16 - (j : Int)) (x / sd (16 - (j : Int))) (y / sd (16 - (j : Int)))
def lvV (N : Int → Int → Int → Int) (K A x y : Int) (j : Nat) : Value := atV N (16 - (j : Int)) (x / sd (16 - (j : Int))) (y / sd (16 - (j : Int))) (lvA N K A x y j)
/-- What is found, at the first level that has one. -/
def FindPost (w : World) (N : Int → Int → Int → Int) (K A x y : Int) (yes no : Value) (e : Ending) (w' : World) : Prop :=
  ((∃ j : Nat, j ≤ 16 ∧ (∀ i, i < j → lvA N K A x y i = 3) ∧ lvA N K A x y j ≠ 3 ∧ e = .returned (.tuple #[lvV N K A x y j, yes])) ∨ ((∀ i, i ≤ 16 → lvA N K A x y i = 3) ∧ e = .returned (.tuple #[zeroCK, no]))) ∧ Below w.heap.size w w'
theorem atV_form (N : Int → Int → Int → Int) (l x y k : Int) : ∃ a b c d l' x' y' k' n', atV N l x y k = .agg #[.int .i64 a, .int .i64 b, .int .i64 c, .int .i64 d, .int .i64 l', .int .i64 x', .int .i64 y', .int .i64 k', .int .i64 n'] := by
  unfold atV
  split
  · exact ⟨_, _, _, _, _, _, _, _, _, rfl⟩
  · split
    · exact ⟨_, _, _, _, _, _, _, _, _, rfl⟩
    · split
      · exact ⟨_, _, _, _, _, _, _, _, _, rfl⟩
      · exact ⟨_, _, _, _, _, _, _, _, _, rfl⟩
theorem cof_right {x y l : Int} (hf : fitsB x y = true) (l0 : 0 ≤ l) (l1 : l ≤ 16) : crightB l (x / sd l) (y / sd l) = true := by
  rw [fits_iff] at hf
  have h1 := div_grid l0 l1 (n := x) (by omega) (by omega)
  have h2 := div_grid l0 l1 (n := y) (by omega) (by omega)
  rw [cright_iff]
  omega
theorem of_level {x y l : Int} (hf : fitsB x y = true) (l0 : 0 ≤ l) (l1 : l ≤ 16) (w : World) : Calls Try.prog 29 #[.agg #[.int .i64 x, .int .i64 y], .int .i64 l] w fun e w' => e = .returned (.tuple #[.agg #[.int .i64 l, .int .i64 (x / sd l), .int .i64 (y / sd l)], .bool true]) ∧ Below w.heap.size w w' := by
  have := cof_any x y l w
  rw [hf, lvl_iff.2 ⟨l0, l1⟩] at this
  simpa only [Bool.and_self, sel, if_true] using this
set_option maxHeartbeats 4000000 in
theorem find_arg (x y K A : Int) (q : Nat) (w : World) (h : fitsB x y = false ∨ (fitsB x y = true ∧ rightK K = false)) :
    Calls Try.prog 11 #[.pointer (some ⟨q, 0, none⟩), .agg #[.int .i64 x, .int .i64 y], .agg #[.int .i64 K, .int .u64 A]] w fun e w' => e = .returned (.tuple #[zeroCK, .int .i64 1]) ∧ Below w.heap.size w w' := by
  have p1 := fits_any x y
  have p2 := cloakright_any K A
  unfold zeroCK
  rcases h with h | ⟨h, h2⟩
  · rw [h] at p1
    have P1 := Lib.hid p1
    clear p1 p2 h
    go_enter Try.func11, Try.ntmps11
    go_wp2
    go_step3
    go_wp2_with (first
      | (go_at_call 28; refine (P1.out _).mono ?_; rintro e w' ⟨rfl, hb⟩; obtain ⟨X1, rfl, hl1, hm1⟩ := later _ hb (Nat.le_refl _); clear hb; (try simp only [World.size_alloc, World.size_setCell, World.size_drew] at hm1 hl1)))
    (try rw [Exit.noGoto_ret])
    refine bodyPost_ret (by simp only [results, Try.results11]; go_simp; all_goals (first | rfl | simp [sel])) rfl ⟨rfl, ?_⟩
    repeat' (first | (with_reducible exact Below.refl _ _) | (with_reducible assumption) | (with_reducible refine Later.step ?_ ?_ _) | (with_reducible refine Below.alloc ?_ ?_ _) | (with_reducible refine Below.drew ?_) | (with_reducible refine bel_drewN ?_ _) | (with_reducible refine bel_grown ?_ (by assumption) ?_ ?_) | (with_reducible refine Below.setCell ?_ ?_ _) | go_size)
  · rw [h] at p1
    rw [h2] at p2
    have P1 := Lib.hid p1
    have P2 := Lib.hid p2
    clear p1 p2 h h2
    go_enter Try.func11, Try.ntmps11
    go_wp2
    go_step3
    go_wp2_with (first
      | (go_at_call 28; refine (P1.out _).mono ?_; rintro e w' ⟨rfl, hb⟩; obtain ⟨X1, rfl, hl1, hm1⟩ := later _ hb (Nat.le_refl _); clear hb; (try simp only [World.size_alloc, World.size_setCell, World.size_drew] at hm1 hl1))
      | (go_at_call 24; refine (P2.out _).mono ?_; rintro e w' ⟨rfl, hb⟩; obtain ⟨X2, rfl, hl2, hm2⟩ := later _ hb (Nat.le_refl _); clear hb; (try simp only [World.size_alloc, World.size_setCell, World.size_drew] at hm2 hl2)))
    (try rw [Exit.noGoto_ret])
    refine bodyPost_ret (by simp only [results, Try.results11]; go_simp; all_goals (first | rfl | simp [sel])) rfl ⟨rfl, ?_⟩
    repeat' (first | (with_reducible exact Below.refl _ _) | (with_reducible assumption) | (with_reducible refine Later.step ?_ ?_ _) | (with_reducible refine Below.alloc ?_ ?_ _) | (with_reducible refine Below.drew ?_) | (with_reducible refine bel_drewN ?_ _) | (with_reducible refine bel_grown ?_ (by assumption) ?_ ?_) | (with_reducible refine Below.setCell ?_ ?_ _) | go_size)
set_option maxHeartbeats 4000000 in
theorem find_nil (P F0 : Value) (x y K A : Int) (w : World) :
    Calls Try.prog 11 #[.pointer none, .agg #[.int .i64 x, .int .i64 y], .agg #[.int .i64 K, .int .u64 A]] w fun e w' => e = .returned (.tuple #[zeroCK, .int .i64 3]) ∧ Below w.heap.size w w' := by
  unfold zeroCK
  go_enter Try.func11, Try.ntmps11
  go_wp2
  go_step3
  go_wp2
  (try rw [Exit.noGoto_ret])
  refine bodyPost_ret (by simp only [results, Try.results11]; go_simp; all_goals (first | rfl | simp [sel])) rfl ⟨rfl, ?_⟩
  repeat' (first | (with_reducible exact Below.refl _ _) | (with_reducible assumption) | (with_reducible refine Later.step ?_ ?_ _) | (with_reducible refine Below.alloc ?_ ?_ _) | (with_reducible refine Below.drew ?_) | (with_reducible refine bel_drewN ?_ _) | (with_reducible refine bel_grown ?_ (by assumption) ?_ ?_) | (with_reducible refine Below.setCell ?_ ?_ _) | go_size)
set_option maxHeartbeats 16000000 in
theorem find_any (x y K A : Int) (q n : Nat) (F : Nat → Nat → Int) (w : World) (h : Pyr w q n F) (hf : fitsB x y = true) (hK : rightK K = true) (hF : ∀ l x y, 0 ≤ cntF F l x y ∧ cntF F l x y ≤ 1000000) :
    Calls Try.prog 11 #[.pointer (some ⟨q, 0, none⟩), .agg #[.int .i64 x, .int .i64 y], .agg #[.int .i64 K, .int .u64 A]] w (FindPost w (cntF F) K A x y (.int .i64 0) (.int .i64 21)) := by
  have hmf : ∀ (fn : Fn) (first cap : Array Value) (w : World), (Instr.makeFunc fn first cap).run Try.prog w = .ok (.func fn first cap) w := fun _ _ _ _ => rfl
  have p1 := fits_any x y
  have p2 := cloakright_any K A
  rw [hf] at p1
  rw [hK] at p2
  have P1 := Lib.hid p1
  have P2 := Lib.hid p2
  have HP := Lib.hid h
  have hq := h.lt
  have PO := Lib.hid (fun (l : Int) (l0 : 0 ≤ l) (l1 : l ≤ 16) => of_level hf l0 l1)
  have PA := Lib.hid (fun (l : Int) (l0 : 0 ≤ l) (l1 : l ≤ 16) (Y : World) (hY : Below w.heap.size w Y) => at_any l (x / sd l) (y / sd l) K A q n F Y (HP.out.keep hY) (cof_right hf l0 l1) hF)
  clear p1 p2 hf hK hF h
  go_enter Try.func11, Try.ntmps11
  go_wp2
  go_step3
  go_wp2_with (first
    | (go_at_call 28; refine (P1.out _).mono ?_; rintro e w' ⟨rfl, hb⟩; obtain ⟨X1, rfl, hl1, hm1⟩ := later _ hb (Nat.le_refl _); clear hb; (try simp only [World.size_alloc, World.size_setCell, World.size_drew] at hm1 hl1))
    | (go_at_call 24; refine (P2.out _).mono ?_; rintro e w' ⟨rfl, hb⟩; obtain ⟨X2, rfl, hl2, hm2⟩ := later _ hb (Nat.le_refl _); clear hb; (try simp only [World.size_alloc, World.size_setCell, World.size_drew] at hm2 hl2)))
  go_step3
  go_wp2_with fail
  go_loopw [8] (fun i wr => ∃ k : Nat, k ≤ 16 ∧ i = .int .i64 (16 - (k : Int)) ∧ Hid (∀ i, i < k → lvA (cntF F) K A x y i = 3) ∧ Below X2.w.heap.size X2.w wr) (fun i _ => (intOf i).toNat)
  case atStart => exact ⟨0, by omega, rfl, (fun i hi => absurd hi (by omega)), Below.refl _ _⟩
  case round =>
    obtain ⟨k, hk, rfl, hall, hb⟩ := hrel
    have hsz := hb.size
    obtain ⟨X, rfl⟩ : ∃ Z : Later X2.w.heap.size X2.w, wr = Z.w := ⟨⟨wr, hb⟩, rfl⟩
    clear hb
    have po := PO.out (16 - (k : Int)) (by omega) (by omega)
    have pa := PA.out (16 - (k : Int)) (by omega) (by omega)
    obtain ⟨a, b, c, d, l', x', y', k', n', hV⟩ := atV_form (cntF F) (16 - (k : Int)) (x / sd (16 - (k : Int))) (y / sd (16 - (k : Int))) (lvA (cntF F) K A x y k)
    have hV1 : lvV (cntF F) K A x y k = .agg #[.int .i64 a, .int .i64 b, .int .i64 c, .int .i64 d, .int .i64 l', .int .i64 x', .int .i64 y', .int .i64 k', .int .i64 n'] := hV
    have hVV : atV (cntF F) (16 - (k : Int)) (x / sd (16 - (k : Int))) (y / sd (16 - (k : Int))) (atK (cntF F) K A (16 - (k : Int)) (x / sd (16 - (k : Int))) (y / sd (16 - (k : Int)))) = .agg #[.int .i64 a, .int .i64 b, .int .i64 c, .int .i64 d, .int .i64 l', .int .i64 x', .int .i64 y', .int .i64 k', .int .i64 n'] := hV
    rw [hVV] at pa
    have hlv : atK (cntF F) K A (16 - (k : Int)) (x / sd (16 - (k : Int))) (y / sd (16 - (k : Int))) = lvA (cntF F) K A x y k := rfl
    rw [hlv] at pa
    generalize x / sd (16 - (k : Int)) = X' at *
    generalize y / sd (16 - (k : Int)) = Y' at *
    have PO2 := Lib.hid po
    have HV := Lib.hid hV1
    clear hV hV1 hVV hlv po
    by_cases hlt : lvA (cntF F) K A x y k = 3
    · rw [hlt] at pa
      simp only [ne_eq, not_true, decide_false] at pa
      have PA2 := Lib.hid pa
      have HLT := Lib.hid hlt
      clear pa hlt
      by_cases h16 : k = 16
      · have hk16 : ((16 - (k : Int)) == 0) = true := by rw [beq_iff_eq]; omega
        have H16 := Lib.hid h16
        clear h16
        go_wp2_with (first
          | (go_at_call 29; refine (PO2.out _).mono ?_; rintro e w' ⟨rfl, hb⟩; obtain ⟨X3, rfl, hl3, hm3⟩ := later _ hb (Nat.le_refl _); clear hb; (try simp only [World.size_alloc, World.size_setCell, World.size_drew] at hm3 hl3))
          | (go_at_call 30; refine (PA2.out _ (by repeat' (first | (with_reducible exact Below.refl _ _) | (with_reducible assumption) | (with_reducible refine Later.step ?_ ?_ _) | (with_reducible refine Below.alloc ?_ ?_ _) | (with_reducible refine Below.drew ?_) | (with_reducible refine bel_drewN ?_ _) | (with_reducible refine bel_grown ?_ (by assumption) ?_ ?_) | (with_reducible refine Below.setCell ?_ ?_ _) | go_size))).mono ?_; rintro e w' ⟨rfl, hb⟩; obtain ⟨X4, rfl, hl4, hm4⟩ := later _ hb (Nat.le_refl _); clear hb; (try simp only [World.size_alloc, World.size_setCell, World.size_drew] at hm4 hl4)))
        (try rw [Exit.noGoto_ret])
        refine bodyPost_ret (v := .tuple #[zeroCK, .int .i64 21]) (by simp only [results, Try.results11]; go_simp; all_goals (first | rfl | simp [sel])) rfl ⟨.inr ⟨fun i hi => ?_, rfl⟩, ?_⟩
        · rcases (show i < k ∨ i = k by have := H16.out; omega) with h | rfl
          · exact hall.out i h
          · exact HLT.out
        · repeat' (first | (with_reducible exact Below.refl _ _) | (with_reducible assumption) | (with_reducible refine Later.step ?_ ?_ _) | (with_reducible refine Below.alloc ?_ ?_ _) | (with_reducible refine Below.drew ?_) | (with_reducible refine bel_drewN ?_ _) | (with_reducible refine bel_grown ?_ (by assumption) ?_ ?_) | (with_reducible refine Below.setCell ?_ ?_ _) | go_size)
      · have hk16 : ¬ (16 - (k : Int) = 0) := by omega
        go_wp2_with (first
          | (go_at_call 29; refine (PO2.out _).mono ?_; rintro e w' ⟨rfl, hb⟩; obtain ⟨X3, rfl, hl3, hm3⟩ := later _ hb (Nat.le_refl _); clear hb; (try simp only [World.size_alloc, World.size_setCell, World.size_drew] at hm3 hl3))
          | (go_at_call 30; refine (PA2.out _ (by repeat' (first | (with_reducible exact Below.refl _ _) | (with_reducible assumption) | (with_reducible refine Later.step ?_ ?_ _) | (with_reducible refine Below.alloc ?_ ?_ _) | (with_reducible refine Below.drew ?_) | (with_reducible refine bel_drewN ?_ _) | (with_reducible refine bel_grown ?_ (by assumption) ?_ ?_) | (with_reducible refine Below.setCell ?_ ?_ _) | go_size))).mono ?_; rintro e w' ⟨rfl, hb⟩; obtain ⟨X4, rfl, hl4, hm4⟩ := later _ hb (Nat.le_refl _); clear hb; (try simp only [World.size_alloc, World.size_setCell, World.size_drew] at hm4 hl4)))
        go_roundw
        case rel => exact ⟨k + 1, by omega, by congr 1; omega, (fun i hi => by
          rcases (show i < k ∨ i = k by omega) with h | rfl
          · exact hall.out i h
          · exact HLT.out), by repeat' (first | (with_reducible exact Below.refl _ _) | (with_reducible assumption) | (with_reducible refine Later.step ?_ ?_ _) | (with_reducible refine Below.alloc ?_ ?_ _) | (with_reducible refine Below.drew ?_) | (with_reducible refine bel_drewN ?_ _) | (with_reducible refine bel_grown ?_ (by assumption) ?_ ?_) | (with_reducible refine Below.setCell ?_ ?_ _) | go_size)⟩
        case measure => simp [intOf]; omega
    · have hd : decide (lvA (cntF F) K A x y k ≠ 3) = true := decide_eq_true hlt
      rw [hd] at pa
      have PA2 := Lib.hid pa
      have HLT := Lib.hid hlt
      clear pa hlt hd
      go_wp2_with (first
        | (go_at_call 29; refine (PO2.out _).mono ?_; rintro e w' ⟨rfl, hb⟩; obtain ⟨X3, rfl, hl3, hm3⟩ := later _ hb (Nat.le_refl _); clear hb; (try simp only [World.size_alloc, World.size_setCell, World.size_drew] at hm3 hl3))
        | (go_at_call 30; refine (PA2.out _ (by repeat' (first | (with_reducible exact Below.refl _ _) | (with_reducible assumption) | (with_reducible refine Later.step ?_ ?_ _) | (with_reducible refine Below.alloc ?_ ?_ _) | (with_reducible refine Below.drew ?_) | (with_reducible refine bel_drewN ?_ _) | (with_reducible refine bel_grown ?_ (by assumption) ?_ ?_) | (with_reducible refine Below.setCell ?_ ?_ _) | go_size))).mono ?_; rintro e w' ⟨rfl, hb⟩; obtain ⟨X4, rfl, hl4, hm4⟩ := later _ hb (Nat.le_refl _); clear hb; (try simp only [World.size_alloc, World.size_setCell, World.size_drew] at hm4 hl4)))
      (try rw [Exit.noGoto_ret])
      refine bodyPost_ret (v := .tuple #[.agg #[.int .i64 a, .int .i64 b, .int .i64 c, .int .i64 d, .int .i64 l', .int .i64 x', .int .i64 y', .int .i64 k', .int .i64 n'], .int .i64 0]) (by simp only [results, Try.results11]; go_simp; all_goals (first | rfl | simp [sel])) rfl ⟨.inl ⟨k, hk, hall.out, HLT.out, by rw [HV.out]⟩, ?_⟩
      repeat' (first | (with_reducible exact Below.refl _ _) | (with_reducible assumption) | (with_reducible refine Later.step ?_ ?_ _) | (with_reducible refine Below.alloc ?_ ?_ _) | (with_reducible refine Below.drew ?_) | (with_reducible refine bel_drewN ?_ _) | (with_reducible refine bel_grown ?_ (by assumption) ?_ ?_) | (with_reducible refine Below.setCell ?_ ?_ _) | go_size)
end Go.Proofs.Ythoanoaigfcchaa
