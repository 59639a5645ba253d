/- Rows of bytes compared and read as numbers: the functions walked. No condition beyond the slices' readings. -/
import Derived.Test.YtdjkhcnejbinjaaBytes
import Derived.Test.YtdjkhcnejbinjaaNumS
namespace Go.Proofs.Ytdjkhcnejbinjaa
open Go.RowKit
set_option linter.unusedSimpArgs false
set_option linter.unusedVariables false

/-- Two rows of numbers are the same. -/
def sameF (n m : Nat) (f g : Nat → Int) : Bool := decide (n = m) && (List.range n).all fun j => f j == g j
theorem sameF_true {n m : Nat} {f g : Nat → Int} (h : n = m) (he : ∀ j, j < n → f j = g j) : sameF n m f g = true := by
  unfold sameF
  simp only [Bool.and_eq_true, decide_eq_true_eq, List.all_eq_true, List.mem_range, beq_iff_eq]
  exact ⟨h, he⟩
theorem sameF_len {n m : Nat} {f g : Nat → Int} (h : ¬ n = m) : sameF n m f g = false := by
  unfold sameF; simp [h]
theorem sameF_at {n m : Nat} {f g : Nat → Int} {j : Nat} (hj : j < n) (h : ¬ f j = g j) : sameF n m f g = false := by
  unfold sameF
  rw [Bool.and_eq_false_iff]
  exact .inr (by rw [List.all_eq_false]; exact ⟨j, by simpa using hj, by simpa using h⟩)

set_option maxHeartbeats 2000000 in
theorem same_any (A A' : Option Addr) (n n' c c' : Nat) (f g : Nat → Int) (w : World) (ha : Reads .u8 w w.heap.size A n f) (hb : Reads .u8 w w.heap.size A' n' g) (hn : n ≤ 9223372036854775807) (hn' : n' ≤ 9223372036854775807) :
    Calls Try.prog 11 #[.slice A n c, .slice A' n' c'] w fun e w' => e = .returned (.bool (sameF n n' f g)) ∧ Below w.heap.size w w' := by
  by_cases hl : n = n'
  · subst hl
    have HA := Lib.hid ha
    have HB := Lib.hid hb
    clear ha hb
    go_enter Try.func11, Try.ntmps11
    go_wp2
    go_loopw [5] (fun i wr => ∃ k : Nat, k ≤ n ∧ i = .int .i64 k ∧ (∃ d, wr = w.drewN d) ∧ Hid (∀ j, j < k → f j = g j)) (fun i _ => n - (intOf i).toNat)
    case atStart => exact ⟨0, Nat.zero_le _, rfl, ⟨0, rfl⟩, fun j hj => absurd hj (by omega)⟩
    case round =>
      obtain ⟨k, hk, rfl, ⟨d, rfl⟩, hs⟩ := hrel
      by_cases hlt : k < n
      · obtain ⟨b, o, rfl, hB, hc⟩ := HA.out (by omega)
        obtain ⟨b', o', rfl, hB', hc'⟩ := HB.out (by omega)
        have h1 := hc k hlt
        have h2 := hc' k hlt
        clear hc hc'
        go_wp2
        go_quiet (fail)
        go_wp2
        · go_ret
          exact ⟨ret_b (sameF_at hlt (ne_b (by assumption))).symm, by repeat' (first | (with_reducible exact Below.refl _ _) | (with_reducible assumption) | (with_reducible refine Later.step ?_ ?_ _) | (with_reducible refine Below.alloc ?_ ?_ _) | (with_reducible refine Below.drew ?_) | (with_reducible refine bel_drewN ?_ _) | (with_reducible refine bel_grown ?_ (by assumption) ?_ ?_) | (with_reducible refine Below.setCell ?_ ?_ _) | go_size)⟩
        · go_roundw
          case rel => exact ⟨k + 1, by omega, by go_num, ⟨_, rfl⟩, fun j hj => by
            by_cases e : j = k
            · subst e; exact eq_b (by assumption)
            · exact hs.out j (by omega)⟩
          case measure => simp [intOf]; omega
      · go_wp2
        go_ret
        exact ⟨ret_b (sameF_true rfl (fun j hj => hs.out j (by omega))).symm, by repeat' (first | (with_reducible exact Below.refl _ _) | (with_reducible assumption) | (with_reducible refine Later.step ?_ ?_ _) | (with_reducible refine Below.alloc ?_ ?_ _) | (with_reducible refine Below.drew ?_) | (with_reducible refine bel_drewN ?_ _) | (with_reducible refine bel_grown ?_ (by assumption) ?_ ?_) | (with_reducible refine Below.setCell ?_ ?_ _) | go_size)⟩
  · have hd : ((n : Int) != (n' : Int)) = true := by simp; omega
    go_enter Try.func11, Try.ntmps11
    go_wp2
    go_ret
    exact ⟨ret_b (sameF_len hl).symm, Below.refl _ _⟩
/-- The first place at which two rows differ tells which is below. -/
def belowF : Nat → (Nat → Int) → (Nat → Int) → Nat → Bool
  | 0, _, _, _ => false
  | n + 1, f, g, k => if f k = g k then belowF n f g (k + 1) else decide (f k < g k)
theorem belowF_step {n k : Nat} {f g : Nat → Int} (h : f k = g k) : belowF (n + 1) f g k = belowF n f g (k + 1) := by rw [belowF, if_pos h]
theorem belowF_stop {n k : Nat} {f g : Nat → Int} (h : ¬ f k = g k) : belowF (n + 1) f g k = decide (f k < g k) := by rw [belowF, if_neg h]

end Go.Proofs.Ytdjkhcnejbinjaa
