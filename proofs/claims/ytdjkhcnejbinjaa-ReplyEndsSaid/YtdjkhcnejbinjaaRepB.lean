/- Numbers within bounds, and the answer to what is no request, walked. No condition beyond what the slices read as. -/
import Derived.Test.YtdjkhcnejbinjaaRepA
import Derived.Test.YtdjkhcnejbinjaaFrE
namespace Go.Proofs.Ytdjkhcnejbinjaa
open Go.RowKit
set_option linter.unusedSimpArgs false
set_option linter.unusedVariables false
set_option maxRecDepth 2000

def inB1 (most x : Int) : Bool := decide (0 ≤ x ∧ x ≤ most)
set_option maxHeartbeats 4000000 in
theorem within_any (most : Int) (A : Option Addr) (n c : Nat) (f : Nat → Int) (w : World) (h : Reads .i64 w w.heap.size A n f) (hn : n ≤ 100) :
    Calls Try.prog 26 #[.int .i64 most, .slice A n c] w fun e w' => e = .returned (.bool (decide (∀ j, j < n → 0 ≤ f j ∧ f j ≤ most))) ∧ Below w.heap.size w w' := by
  have HR := Lib.hid h
  clear h
  go_enter Try.func26, Try.ntmps26
  go_wp2
  go_loopw [9] (fun i wr => ∃ k : Nat, k ≤ n ∧ i = .int .i64 k ∧ Hid (∀ j, j < k → 0 ≤ f j ∧ f j ≤ most) ∧ Below w.heap.size w wr) (fun i _ => n - (intOf i).toNat)
  case atStart => exact ⟨0, Nat.zero_le _, rfl, (fun j hj => absurd hj (by omega)), Below.refl _ _⟩
  case round =>
    obtain ⟨k, hk, rfl, hall, hb⟩ := hrel
    obtain ⟨X, rfl⟩ : ∃ X : Later w.heap.size w, wr = X.w := ⟨⟨wr, hb⟩, rfl⟩
    clear hb
    by_cases hlt : k < n
    · obtain ⟨b, o, rfl, hbl, hc⟩ := HR.out (by omega)
      have hc := hc k hlt
      by_cases h1 : f k < 0
      · go_wp2
        go_ret
        exact ⟨ret_b (decide_eq_false (fun h => by have := h k hlt; omega)).symm, by repeat' (first | (with_reducible exact Below.refl _ _) | (with_reducible assumption) | (with_reducible refine Later.step ?_ ?_ _) | (with_reducible refine Below.alloc ?_ ?_ _) | (with_reducible refine Below.drew ?_) | (with_reducible refine bel_drewN ?_ _) | (with_reducible refine bel_grown ?_ (by assumption) ?_ ?_) | (with_reducible refine Below.setCell ?_ ?_ _) | go_size)⟩
      · by_cases h2 : most < f k
        · go_wp2
          go_ret
          exact ⟨ret_b (decide_eq_false (fun h => by have := h k hlt; omega)).symm, by repeat' (first | (with_reducible exact Below.refl _ _) | (with_reducible assumption) | (with_reducible refine Later.step ?_ ?_ _) | (with_reducible refine Below.alloc ?_ ?_ _) | (with_reducible refine Below.drew ?_) | (with_reducible refine bel_drewN ?_ _) | (with_reducible refine bel_grown ?_ (by assumption) ?_ ?_) | (with_reducible refine Below.setCell ?_ ?_ _) | go_size)⟩
        · go_wp2
          go_roundw
          case rel => exact ⟨k + 1, by omega, by go_num, fun j hj => by
            rcases Nat.lt_or_ge j k with h | h
            · exact hall.out j h
            · rw [show j = k by omega]; omega, by repeat' (first | (with_reducible exact Below.refl _ _) | (with_reducible assumption) | (with_reducible refine Later.step ?_ ?_ _) | (with_reducible refine Below.alloc ?_ ?_ _) | (with_reducible refine Below.drew ?_) | (with_reducible refine bel_drewN ?_ _) | (with_reducible refine bel_grown ?_ (by assumption) ?_ ?_) | (with_reducible refine Below.setCell ?_ ?_ _) | go_size)⟩
          case measure => simp [intOf]; omega
    · obtain rfl : k = n := by omega
      go_wp2
      go_ret
      exact ⟨ret_b (decide_eq_true hall.out).symm, by repeat' (first | (with_reducible exact Below.refl _ _) | (with_reducible assumption) | (with_reducible refine Later.step ?_ ?_ _) | (with_reducible refine Below.alloc ?_ ?_ _) | (with_reducible refine Below.drew ?_) | (with_reducible refine bel_drewN ?_ _) | (with_reducible refine bel_grown ?_ (by assumption) ?_ ?_) | (with_reducible refine Below.setCell ?_ ?_ _) | go_size)⟩
theorem within_one (most x : Int) (w : World) (b : Nat) (hb : b < w.heap.size) (h0 : w.cell? ⟨b, 0, none⟩ = some (.int .i64 x)) :
    Calls Try.prog 26 #[.int .i64 most, .slice (some ⟨b, 0, none⟩) 1 1] w fun e w' => e = .returned (.bool (inB1 most x)) ∧ Below w.heap.size w w' :=
  (within_any most _ 1 1 (fun _ => x) w (fun _ => ⟨b, 0, rfl, hb, fun j hj => by rw [show j = 0 by omega]; exact h0⟩) (by decide)).mono fun e w' ⟨a, b⟩ => ⟨a.trans (ret_b (iff_b (by unfold inB1; rw [decide_eq_true_eq, decide_eq_true_eq]; exact ⟨fun h => h 0 (by decide), fun h j _ => h⟩))), b⟩
theorem within_two (most x y : Int) (w : World) (b : Nat) (hb : b < w.heap.size) (h0 : w.cell? ⟨b, 0, none⟩ = some (.int .i64 x)) (h1 : w.cell? ⟨b, 1, none⟩ = some (.int .i64 y)) :
    Calls Try.prog 26 #[.int .i64 most, .slice (some ⟨b, 0, none⟩) 2 2] w fun e w' => e = .returned (.bool (inB1 most x && inB1 most y)) ∧ Below w.heap.size w w' :=
  (within_any most _ 2 2 (fun j => if j = 0 then x else y) w (fun _ => ⟨b, 0, rfl, hb, fun j hj => by
    rcases (show j = 0 ∨ j = 1 by omega) with rfl | rfl
    · exact h0
    · exact h1⟩) (by decide)).mono fun e w' ⟨a, b⟩ => ⟨a.trans (ret_b (iff_b (by
      unfold inB1; rw [decide_eq_true_eq, Bool.and_eq_true, decide_eq_true_eq, decide_eq_true_eq]
      exact ⟨fun h => ⟨h 0 (by decide), h 1 (by decide)⟩, fun h j hj => by
        rcases (show j = 0 ∨ j = 1 by omega) with rfl | rfl
        · exact h.1
        · exact h.2⟩))), b⟩
def faultI (s : Int) : Int := if 0 ≤ s ∧ s ≤ 12 then s else 1
set_option maxHeartbeats 4000000 in
theorem fault_any (s : Int) (w : World) : Calls Try.prog 12 #[.int .i64 s] w fun e w' => ∃ b, e = .returned (.slice (some ⟨b, 0, none⟩) 3 3) ∧ b < w'.heap.size ∧ w'.cell? ⟨b, 0, none⟩ = some (.int .u8 (faultI s)) ∧ w'.cell? ⟨b, 1, none⟩ = some (.int .u8 0) ∧ w'.cell? ⟨b, 2, none⟩ = some (.int .u8 0) ∧ Below w.heap.size w w' := by
  have P1 := Lib.hid (within_one 12 s)
  by_cases hs : 0 ≤ s ∧ s ≤ 12
  · have e1 : inB1 12 s = true := decide_eq_true hs
    have e2 : faultI s = s := if_pos hs
    rw [e1] at P1
    rw [e2]
    clear e1 e2
    go_enter Try.func12, Try.ntmps12
    go_wp2_with (first
      | (go_at_call 26; refine (P1.out _ _ (by go_size) (by go_simp)).mono ?_; rintro e w' ⟨rfl, hb⟩; obtain ⟨X1, rfl, hl1, hm1⟩ := later (w.heap.size + 1) hb (by first | exact Nat.le_refl _ | go_size); clear hb; (try simp only [World.size_alloc, World.size_setCell, World.size_drew] at hm1)))
    go_ret
    have hw : IntKind.u8.wrap s = s := IntWalk.u8_in _ (by omega)
    refine ⟨X1.w.heap.size, rfl, by go_size, ?_, by go_simp, by go_simp, by repeat' (first | (with_reducible exact Below.refl _ _) | (with_reducible assumption) | (with_reducible refine Later.step ?_ ?_ _) | (with_reducible refine Below.alloc ?_ ?_ _) | (with_reducible refine Below.drew ?_) | (with_reducible refine bel_drewN ?_ _) | (with_reducible refine bel_grown ?_ (by assumption) ?_ ?_) | (with_reducible refine Below.setCell ?_ ?_ _) | go_size)⟩
    go_simp
    all_goals first | rfl | rw [hw] | (trace_state; skip)
  · have e1 : inB1 12 s = false := decide_eq_false hs
    have e2 : faultI s = 1 := if_neg hs
    rw [e1] at P1
    rw [e2]
    clear e1 e2
    go_enter Try.func12, Try.ntmps12
    go_wp2_with (first
      | (go_at_call 26; refine (P1.out _ _ (by go_size) (by go_simp)).mono ?_; rintro e w' ⟨rfl, hb⟩; obtain ⟨X1, rfl, hl1, hm1⟩ := later (w.heap.size + 1) hb (by first | exact Nat.le_refl _ | go_size); clear hb; (try simp only [World.size_alloc, World.size_setCell, World.size_drew] at hm1)))
    go_ret
    exact ⟨X1.w.heap.size, rfl, by go_size, by go_simp, by go_simp, by go_simp, by repeat' (first | (with_reducible exact Below.refl _ _) | (with_reducible assumption) | (with_reducible refine Later.step ?_ ?_ _) | (with_reducible refine Below.alloc ?_ ?_ _) | (with_reducible refine Below.drew ?_) | (with_reducible refine bel_drewN ?_ _) | (with_reducible refine bel_grown ?_ (by assumption) ?_ ?_) | (with_reducible refine Below.setCell ?_ ?_ _) | go_size)⟩
end Go.Proofs.Ytdjkhcnejbinjaa
