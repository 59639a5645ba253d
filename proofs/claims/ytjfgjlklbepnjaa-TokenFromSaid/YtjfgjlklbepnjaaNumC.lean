/- A number's bytes: the functions walked. No condition. -/
import Derived.Test.YtjfgjlklbepnjaaBytes
import Derived.Test.YtjfgjlklbepnjaaNumS
namespace Go.Proofs.Ytjfgjlklbepnjaa
open Go.RowKit
set_option linter.unusedSimpArgs false
set_option linter.unusedVariables false
set_option maxRecDepth 2000

/-- The byte at a place of a number's bytes. -/
def putI (n : Int) (wide j : Nat) : Int := n / (256 : Int) ^ (wide - 1 - j) % 256
/-- The row while it is filled: k bytes stand. -/
def rowC (n : Int) (wide k j : Nat) : Int := if wide - k ≤ j ∧ j < wide then putI n wide j else 0
theorem rowC_zero (n : Int) (wide j : Nat) : rowC n wide 0 j = 0 := by unfold rowC; rw [if_neg (by omega)]
theorem rowC_all {n : Int} {wide j : Nat} (h : j < wide) : rowC n wide wide j = putI n wide j := by unfold rowC; rw [if_pos (by omega)]

theorem pow8 (k : Nat) : (2 : Int) ^ (8 * k) = 256 ^ k := by rw [Int.pow_mul]; rfl
theorem rowC_step {n : Int} {wide k j : Nat} (hk : k < wide) : rowC n wide (k + 1) j = if j = wide - 1 - k then n / (2 : Int) ^ (8 * k) % 256 else rowC n wide k j := by
  rw [pow8]
  unfold rowC
  by_cases e : j = wide - 1 - k
  · subst e
    rw [if_pos (by omega), if_pos rfl, putI, show wide - 1 - (wide - 1 - k) = k by omega]
  · rw [if_neg e]
    by_cases h : wide - k ≤ j ∧ j < wide
    · rw [if_pos h, if_pos (by omega)]
    · rw [if_neg h, if_neg (by omega)]

theorem Try.info5 : (Try.prog.info? 5).map (fun i => (i.zero, i.size, i.bytes)) = some (some (.int .u8 0), 1, 1) := by kernel_rfl

set_option maxHeartbeats 4000000 in
theorem put_any (n : Int) (wide : Nat) (w : World) (h0 : 0 ≤ n) (h1 : n ≤ 18446744073709551615) (w1 : 1 ≤ wide) (w8 : wide ≤ 8) (hs : wide < 8 → n / (2 : Int) ^ (8 * wide) = 0) :
    Calls Try.prog 63 #[.int .u64 n, .int .i64 wide] w (RowPost .u8 5 w wide (putI n wide) (.int .i64 0)) := by
  obtain ⟨i0, hi, hz0, hz1, hz2⟩ := info_parts Try.info5
  go_enter Try.func63, Try.ntmps63
  go_wp2
  all_goals
    go_loopw [26] (fun i wr => ∃ k : Nat, k ≤ wide ∧ i = .int .i64 k ∧ Below w.heap.size w wr ∧ wr.heap.size = w.heap.size + 1 ∧ Hid (∀ j, j < 8 → wr.cell? ⟨w.heap.size, j, none⟩ = some (.int .u8 (rowC n wide k j)) ∧ wr.frozen? ⟨w.heap.size, j, none⟩ = false)) (fun i _ => wide - (intOf i).toNat)
    case atStart =>
      refine ⟨0, Nat.zero_le _, rfl, by repeat' (first | (with_reducible exact Below.refl _ _) | (with_reducible assumption) | (with_reducible refine Later.step ?_ ?_ _) | (with_reducible refine Below.alloc ?_ ?_ _) | (with_reducible refine Below.drew ?_) | (with_reducible refine bel_drewN ?_ _) | (with_reducible refine bel_grown ?_ (by assumption) ?_ ?_) | (with_reducible refine Below.setCell ?_ ?_ _) | go_size), by simp, fun j hj => ?_⟩
      rw [rowC_zero]
      match j, hj with
      | 0, _ | 1, _ | 2, _ | 3, _ | 4, _ | 5, _ | 6, _ | 7, _ => go_simp
    case round =>
      obtain ⟨k, hk, rfl, hbel, hsz, hcs⟩ := hrel
      by_cases hlt : k < wide
      · obtain ⟨hc, hf⟩ := hcs.out (wide - 1 - k) (by omega)
        have HZ := Lib.hid hsz
        clear hsz
        go_wp2
        go_roundw
        case rel =>
          refine ⟨k + 1, by omega, by go_num, by repeat' (first | (with_reducible exact Below.refl _ _) | (with_reducible assumption) | (with_reducible refine Later.step ?_ ?_ _) | (with_reducible refine Below.alloc ?_ ?_ _) | (with_reducible refine Below.drew ?_) | (with_reducible refine bel_drewN ?_ _) | (with_reducible refine bel_grown ?_ (by assumption) ?_ ?_) | (with_reducible refine Below.setCell ?_ ?_ _) | go_size), by rw [World.size_setCell]; exact HZ.out, fun j hj => ?_⟩
          obtain ⟨hc', hf'⟩ := hcs.out j hj
          rw [World.frozen?_setCell, rowC_step hlt]
          refine ⟨?_, hf'⟩
          by_cases e : j = wide - 1 - k
          · subst e; rw [if_pos rfl]; exact World.cell?_setCell_same _ _ _ hc
          · rw [if_neg e, World.cell?_setCell_other _ _ _ _ (by intro h; injection h with _ h2; exact e h2.symm)]; exact hc'
        case measure => simp [intOf]; omega
      · obtain rfl : k = wide := by omega
        have HZ := Lib.hid hsz
        clear hsz
        go_wp2_with (at_builtin; refine wpList_append_own _ rfl _ _ 105 rfl w.heap.size 5 i0 (.int .u8 0) 1 1 Try.underlying105 hi hz0 hz1 hz2 rfl (by decide) _ _ _ rfl (World.ownsRow_nil _ _ _ _) ⟨w.heap.size, 0, none⟩ k 8 (rowV .u8 k (rowC n k k)) rfl ?c1 ?c2 ?c3 ?c4 ?c5 ?c6 ?_)
        case c1 => rw [rowV_len, Nat.mul_one]
        case c2 =>
          intro j u hj
          have hjk : j < k := by have := (List.getElem?_eq_some_iff.1 hj).1; rwa [rowV_len] at this
          rw [Addr.add_lit, Nat.zero_add, (hcs.out j (by omega)).1, ← hj, rowV_get hjk]
        case c3 => exact rowV_one
        case c4 => unfold maxLen; omega
        case c5 => omega
        case c6 => rw [HZ.out]; omega
        intro v' w1 hown hgrow _
        obtain ⟨g, cap, rfl, _, _⟩ := hown.form (by omega)
        rw [rowV_congr (g := putI n k) (fun j hj => rowC_all hj)] at hown
        have hbel1 : Below w.heap.size w w1 := hbel.grown hgrow (by rw [HZ.out]; omega) (fun _ h => by cases h)
        have HO := Lib.hid hown
        clear hown hgrow hbel
        go_wp2
        go_ret2
        exact ⟨_, _, rfl, HO.out, hbel1⟩
set_option maxHeartbeats 4000000 in
theorem put_none (n wide : Int) (w : World) (h : wide < 1 ∨ 8 < wide ∨ (1 ≤ wide ∧ wide < 8 ∧ n / (2 : Int) ^ (8 * wide.toNat) > 0)) :
    Calls Try.prog 63 #[.int .u64 n, .int .i64 wide] w fun e w' => e = .returned (.tuple #[.slice none 0 0, .int .i64 1]) ∧ Below w.heap.size w w' := by
  rcases h with h | h | ⟨ha, hb, hc⟩
  · go_enter Try.func63, Try.ntmps63
    go_wp2
    go_ret2
    exact ⟨rfl, Below.refl _ _⟩
  · have h' : ¬ wide < 1 := by omega
    go_enter Try.func63, Try.ntmps63
    go_wp2
    go_ret2
    exact ⟨rfl, Below.refl _ _⟩
  · obtain ⟨m, rfl⟩ := Int.eq_ofNat_of_zero_le (show 0 ≤ wide by omega)
    rw [Int.toNat_natCast] at hc
    go_enter Try.func63, Try.ntmps63
    go_wp2
    go_ret2
    exact ⟨rfl, Below.refl _ _⟩
end Go.Proofs.Ytjfgjlklbepnjaa
