/- The document's cloak of a point, walked. No condition beyond what the memory holds. -/
import Derived.Test.YthoanoaigfcchaaClE
import Derived.Test.YthoanoaigfcchaaClF
namespace Go.Proofs.Ythoanoaigfcchaa
open Go.RowKit Go.Maps
set_option linter.unusedSimpArgs false
set_option linter.unusedVariables false
set_option maxRecDepth 2000

theorem rof_level {x y l : Int} (hf : fitsB x y = true) (l0 : 0 ≤ l) (l1 : l ≤ 16) (w : World) : Calls Try.prog 21 #[.agg #[.int .i64 x, .int .i64 y], .int .i64 l] w fun e w' => e = .returned (.tuple #[.agg #[.int .i64 l, .int .i64 (x / sd l), .int .i64 (y / sd l)], .bool true]) ∧ Below w.heap.size w w' := by
  have := rof_any x y l w
  rw [hf, lvl_iff.2 ⟨l0, l1⟩] at this
  simpa only [Bool.and_self, sel, if_true] using this
set_option maxHeartbeats 16000000 in
theorem rfind_any (S : Option Addr) (cp : Nat) (P : List (Int × Int)) (hg : GoodP P) (x y K A : Int) (w : World) (h : Pts w w.heap.size S P) (hn : P.length ≤ 100000) (hf : fitsB x y = true) :
    Calls Try.prog 14 #[.slice S P.length cp, .agg #[.int .i64 x, .int .i64 y], .agg #[.int .i64 K, .int .u64 A]] w (FindPost w (cntP P) K A x y (.bool true) (.bool false)) := by
  have PO := Lib.hid (fun (l : Int) (l0 : 0 ≤ l) (l1 : l ≤ 16) => rof_level hf l0 l1)
  have PA := Lib.hid (fun (l : Int) (l0 : 0 ≤ l) (l1 : l ≤ 16) (Y : World) (hY : Below w.heap.size w Y) => rat_any S cp P hg l (x / sd l) (y / sd l) K A Y ((h.keep hY).more hY.size) hn (cof_right hf l0 l1))
  clear hf h hg
  obtain ⟨np, hnp⟩ : ∃ n, P.length = n := ⟨_, rfl⟩
  rw [hnp] at PA hn ⊢
  clear hnp
  go_enter Try.func14, Try.ntmps14
  go_wp2
  go_loopw [8] (fun i wr => ∃ k : Nat, k ≤ 17 ∧ i = .int .i64 (16 - (k : Int)) ∧ Hid (∀ i, i < k → lvA (cntP P) K A x y i = 3) ∧ Below (w.heap.size + 3) (((w.alloc (Obj.cells #[.int .i64 x, .int .i64 y] 24)).alloc (Obj.cells #[.int .i64 K, .int .u64 A] 27)).alloc (Obj.cells #[.int .i64 0, .int .i64 0, .int .i64 0, .int .i64 0, .int .i64 0, .int .i64 0, .int .i64 0, .int .i64 0, .int .i64 0] 43)) wr) (fun i _ => (intOf i + 1).toNat)
  case atStart => exact ⟨0, by omega, rfl, (fun i hi => absurd hi (by omega)), Below.refl _ _⟩
  case round =>
    obtain ⟨k, hk, rfl, hall, hb⟩ := hrel
    have hsz := hb.size
    simp only [World.size_alloc] at hsz
    obtain ⟨X, rfl⟩ : ∃ Z : Later (w.heap.size + 3) (((w.alloc (Obj.cells #[.int .i64 x, .int .i64 y] 24)).alloc (Obj.cells #[.int .i64 K, .int .u64 A] 27)).alloc (Obj.cells #[.int .i64 0, .int .i64 0, .int .i64 0, .int .i64 0, .int .i64 0, .int .i64 0, .int .i64 0, .int .i64 0, .int .i64 0] 43)), wr = Z.w := ⟨⟨wr, hb⟩, rfl⟩
    clear hb
    by_cases h17 : k < 17
    · have po := PO.out (16 - (k : Int)) (by omega) (by omega)
      have pa := PA.out (16 - (k : Int)) (by omega) (by omega)
      obtain ⟨a, b, c, d, l', x', y', k', n', hV⟩ := atV_form (cntP P) (16 - (k : Int)) (x / sd (16 - (k : Int))) (y / sd (16 - (k : Int))) (lvA (cntP P) K A x y k)
      have hV1 : lvV (cntP P) K A x y k = .agg #[.int .i64 a, .int .i64 b, .int .i64 c, .int .i64 d, .int .i64 l', .int .i64 x', .int .i64 y', .int .i64 k', .int .i64 n'] := hV
      have hVV : atV (cntP P) (16 - (k : Int)) (x / sd (16 - (k : Int))) (y / sd (16 - (k : Int))) (atK (cntP P) K A (16 - (k : Int)) (x / sd (16 - (k : Int))) (y / sd (16 - (k : Int)))) = .agg #[.int .i64 a, .int .i64 b, .int .i64 c, .int .i64 d, .int .i64 l', .int .i64 x', .int .i64 y', .int .i64 k', .int .i64 n'] := hV
      rw [hVV] at pa
      have hlv : atK (cntP P) K A (16 - (k : Int)) (x / sd (16 - (k : Int))) (y / sd (16 - (k : Int))) = lvA (cntP P) K A x y k := rfl
      rw [hlv] at pa
      generalize x / sd (16 - (k : Int)) = X' at *
      generalize y / sd (16 - (k : Int)) = Y' at *
      have PO2 := Lib.hid po
      have HV := Lib.hid hV1
      clear hV hV1 hVV hlv po
      by_cases hlt : lvA (cntP P) K A x y k = 3
      · rw [hlt] at pa
        simp only [ne_eq, not_true, decide_false] at pa
        have PA2 := Lib.hid pa
        have HLT := Lib.hid hlt
        clear pa hlt
        go_wp2_with (first
          | (go_at_call 21; refine (PO2.out _).mono ?_; rintro e w' ⟨rfl, hb⟩; obtain ⟨X3, rfl, hl3, hm3⟩ := later _ hb (Nat.le_refl _); clear hb; (try simp only [World.size_alloc, World.size_setCell, World.size_drew] at hm3 hl3))
          | (go_at_call 33; refine (PA2.out _ (by repeat' (first | (with_reducible exact Below.refl _ _) | (with_reducible assumption) | (with_reducible refine Later.step ?_ ?_ _) | (with_reducible refine Below.alloc ?_ ?_ _) | (with_reducible refine Below.drew ?_) | (with_reducible refine bel_drewN ?_ _) | (with_reducible refine bel_grown ?_ (by assumption) ?_ ?_) | (with_reducible refine Below.setCell ?_ ?_ _) | go_size))).mono ?_; rintro e w' ⟨rfl, hb⟩; obtain ⟨X4, rfl, hl4, hm4⟩ := later _ hb (Nat.le_refl _); clear hb; (try simp only [World.size_alloc, World.size_setCell, World.size_drew] at hm4 hl4)))
        go_roundw
        case rel => exact ⟨k + 1, by omega, by congr 1; omega, (fun i hi => by
          rcases (show i < k ∨ i = k by omega) with h | rfl
          · exact hall.out i h
          · exact HLT.out), by repeat' (first | (with_reducible exact Below.refl _ _) | (with_reducible assumption) | (with_reducible refine Later.step ?_ ?_ _) | (with_reducible refine Below.alloc ?_ ?_ _) | (with_reducible refine Below.drew ?_) | (with_reducible refine bel_drewN ?_ _) | (with_reducible refine bel_grown ?_ (by assumption) ?_ ?_) | (with_reducible refine Below.setCell ?_ ?_ _) | go_size)⟩
        case measure => simp [intOf]; omega
      · have hd : decide (lvA (cntP P) K A x y k ≠ 3) = true := decide_eq_true hlt
        rw [hd] at pa
        have PA2 := Lib.hid pa
        have HLT := Lib.hid hlt
        clear pa hlt hd
        go_wp2_with (first
          | (go_at_call 21; refine (PO2.out _).mono ?_; rintro e w' ⟨rfl, hb⟩; obtain ⟨X3, rfl, hl3, hm3⟩ := later _ hb (Nat.le_refl _); clear hb; (try simp only [World.size_alloc, World.size_setCell, World.size_drew] at hm3 hl3))
          | (go_at_call 33; refine (PA2.out _ (by repeat' (first | (with_reducible exact Below.refl _ _) | (with_reducible assumption) | (with_reducible refine Later.step ?_ ?_ _) | (with_reducible refine Below.alloc ?_ ?_ _) | (with_reducible refine Below.drew ?_) | (with_reducible refine bel_drewN ?_ _) | (with_reducible refine bel_grown ?_ (by assumption) ?_ ?_) | (with_reducible refine Below.setCell ?_ ?_ _) | go_size))).mono ?_; rintro e w' ⟨rfl, hb⟩; obtain ⟨X4, rfl, hl4, hm4⟩ := later _ hb (Nat.le_refl _); clear hb; (try simp only [World.size_alloc, World.size_setCell, World.size_drew] at hm4 hl4)))
        refine bodyPost_ret (v := .tuple #[.agg #[.int .i64 a, .int .i64 b, .int .i64 c, .int .i64 d, .int .i64 l', .int .i64 x', .int .i64 y', .int .i64 k', .int .i64 n'], .bool true]) (by simp only [results, Try.results14]; go_simp; all_goals (first | rfl | simp [sel])) rfl ⟨.inl ⟨k, by omega, hall.out, HLT.out, by rw [HV.out]⟩, ?_⟩
        repeat' (first | (with_reducible exact Below.refl _ _) | (with_reducible assumption) | (with_reducible refine Later.step ?_ ?_ _) | (with_reducible refine Below.alloc ?_ ?_ _) | (with_reducible refine Below.drew ?_) | (with_reducible refine bel_drewN ?_ _) | (with_reducible refine bel_grown ?_ (by assumption) ?_ ?_) | (with_reducible refine Below.setCell ?_ ?_ _) | go_size)
    · have H17 := Lib.hid (show k = 17 by omega)
      go_wp2
      refine bodyPost_ret (v := .tuple #[zeroCK, .bool false]) (by simp only [results, Try.results14]; go_simp; all_goals (first | rfl | simp [sel])) rfl ⟨.inr ⟨fun i hi => hall.out i (by have := H17.out; omega), rfl⟩, ?_⟩
      repeat' (first | (with_reducible exact Below.refl _ _) | (with_reducible assumption) | (with_reducible refine Later.step ?_ ?_ _) | (with_reducible refine Below.alloc ?_ ?_ _) | (with_reducible refine Below.drew ?_) | (with_reducible refine bel_drewN ?_ _) | (with_reducible refine bel_grown ?_ (by assumption) ?_ ?_) | (with_reducible refine Below.setCell ?_ ?_ _) | go_size)
end Go.Proofs.Ythoanoaigfcchaa
