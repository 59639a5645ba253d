/- Secrets compared and found: the functions walked. No condition beyond the slices' readings. -/
import Derived.Test.YtjfgjlklbepnjaaSecA
import Derived.Test.YtjfgjlklbepnjaaNumL2
namespace Go.Proofs.Ytjfgjlklbepnjaa
open Go.RowKit
set_option linter.unusedSimpArgs false
set_option linter.unusedVariables false

theorem orI_put {a b : Nat} (ha : a < 18446744073709551616) (hb : b < 18446744073709551616) : (orI (putI a 8) (putI b 8) 8 == 0) = decide (a = b) := by
  have h := (orI_bd (f := putI a 8) (g := putI b 8) (putI_byte _ _) (putI_byte _ _) 8).2.2
  rw [Bool.eq_iff_iff, decide_eq_true_eq, beq_iff_eq, h]
  constructor
  · intro e
    have e1 := getF_put (n := a) (wide := 8) (by simpa using ha)
    have e2 := getF_put (n := b) (wide := 8) (by simpa using hb)
    rw [getF_congr e, e2] at e1
    omega
  · rintro rfl j _; rfl
set_option maxHeartbeats 4000000 in
theorem equal_any (a b : Nat) (w : World) (ha : a < 18446744073709551616) (hb : b < 18446744073709551616) :
    Calls Try.prog 59 #[.int .u64 a, .int .u64 b] w fun e w' => e = .returned (.tuple #[.bool (decide (a = b)), .int .i64 8]) ∧ Below w.heap.size w w' := by
  have P1 := Lib.hid (fun X : World => put_any a 8 X (by omega) (by omega) (by omega) (by omega) (fun h => absurd h (by omega)))
  have P2 := Lib.hid (fun X : World => put_any b 8 X (by omega) (by omega) (by omega) (by omega) (fun h => absurd h (by omega)))
  have HO := Lib.hid (orI_put ha hb)
  clear ha hb
  go_enter Try.func59, Try.ntmps59
  go_wp2_with fail
  refine (P1.out _).mono ?_
  rintro e w1 ⟨A, ca, rfl, hown1, hb1⟩
  have HR1 := Lib.hid (Reads.own hown1)
  clear hown1
  go_wp2_with fail
  refine (P2.out _).mono ?_
  rintro e w2 ⟨C, cc, rfl, hown2, hb2⟩
  have HR2 := Lib.hid (Reads.own hown2)
  clear hown2
  have hz1 := hb1.size
  have hz2 := hb2.size
  go_wp2_with fail
  have hC : Cmp (w2.alloc (Obj.cells #[.slice A 8 ca, .slice C 8 cc, .int .u8 0, .int .i64 0] 110)) w2.heap.size A C ca cc (putI a 8) (putI b 8) 0 0 := by
    refine ⟨by go_size, by go_simp, by go_simp, by go_simp, by go_simp, by go_simp, by go_simp, ?_, ?_⟩
    · exact ((HR1.out.keep hb2).more hz2).keep ((Below.refl _ _).alloc (Nat.le_refl _) _)
    · exact HR2.out.keep ((Below.refl _ _).alloc (Nat.le_refl _) _)
  refine (all_any w2.heap.size A C ca cc _ _ _ hC).mono ?_
  rintro e w3 ⟨rfl, hb3, hc3⟩
  obtain ⟨hq, c0, c1, c2, c3, z2, z3, ra, rc⟩ := hc3
  have HB := Lib.hid (show Below w.heap.size w w3 from (hb1.trans (hb2.mono hz1)).trans (((Below.refl w.heap.size w2).alloc (Nat.le_trans hz1 hz2) _).trans (hb3.mono (Nat.le_trans hz1 hz2))))
  clear hC ra rc hb1 hb2 hb3
  go_wp2
  (refine wp_region_later (w3.heap.size) (by kernel_rfl) (by kernel_rfl) (by go_size) ?_; (repeat (go_big_quiet_step (fail))); refine wpQuiet_nil ?_; intro Xq hlq hmq)
  go_wp2
  go_ret2
  refine ⟨?_, ?_⟩
  · rw [HO.out]; rfl
  · exact HB.out.trans (Xq.is.mono (by omega))
/-- Where a number stands first among so many (below 0: nowhere, or it is 0). -/
def fstI (f : Nat → Nat) (s : Nat) : Nat → Int
  | 0 => -1
  | k + 1 => if fstI f s k < 0 ∧ f k = s ∧ s ≠ 0 then (k : Int) else fstI f s k
theorem fstI_bd (f : Nat → Nat) (s : Nat) : ∀ k, -1 ≤ fstI f s k ∧ fstI f s k < k
  | 0 => by simp [fstI]
  | k + 1 => by
    have := fstI_bd f s k
    rw [fstI]; split <;> omega
theorem fstI_neg {f : Nat → Nat} {s : Nat} : ∀ {k}, fstI f s k < 0 ↔ s = 0 ∨ ∀ j, j < k → f j ≠ s
  | 0 => by simp [fstI]
  | k + 1 => by
    have ih := fstI_neg (f := f) (s := s) (k := k)
    rw [fstI]
    split
    · rename_i h
      constructor
      · intro h'; omega
      · rintro (h' | h')
        · exact absurd h' h.2.2
        · exact absurd h.2.1 (h' k (by omega))
    · rename_i h
      rw [ih]
      constructor
      · rintro (h' | h')
        · exact .inl h'
        · by_cases hs : s = 0
          · exact .inl hs
          · refine .inr fun j hj => ?_
            rcases Nat.lt_or_eq_of_le (Nat.le_of_lt_succ hj) with hj | rfl
            · exact h' j hj
            · intro e; exact h ⟨ih.2 (.inr h'), e, hs⟩
      · rintro (h' | h')
        · exact .inl h'
        · exact .inr fun j hj => h' j (by omega)
theorem fstI_pos {f : Nat → Nat} {s : Nat} : ∀ {k}, 0 ≤ fstI f s k → f (fstI f s k).toNat = s ∧ s ≠ 0 ∧ ∀ j, j < (fstI f s k).toNat → f j ≠ s
  | 0, h => by simp [fstI] at h
  | k + 1, h => by
    rw [fstI] at h ⊢
    split
    · rename_i hc
      simp only [Int.toNat_natCast]
      refine ⟨hc.2.1, hc.2.2, ?_⟩
      rcases fstI_neg.1 hc.1 with h' | h'
      · exact absurd h' hc.2.2
      · exact h'
    · rename_i hc
      rw [if_neg hc] at h
      exact fstI_pos h
theorem fstI_stay {f : Nat → Nat} {s : Nat} {k : Nat} (h : 0 ≤ fstI f s k) : ∀ j, fstI f s (k + j) = fstI f s k
  | 0 => rfl
  | j + 1 => by
    have ih := fstI_stay h j
    rw [show k + (j + 1) = k + j + 1 by omega, fstI, if_neg (by omega), ih]
theorem fstI_zero {f : Nat → Nat} : ∀ k, fstI f 0 k = -1
  | 0 => rfl
  | k + 1 => by rw [fstI, if_neg (by simp), fstI_zero k]

set_option maxHeartbeats 4000000 in
theorem find_any (A : Option Addr) (n c : Nat) (f : Nat → Nat) (s : Nat) (w : World) (ha : Reads .u64 w w.heap.size A n (fun j => (f j : Int))) (hf : ∀ j, f j < 18446744073709551616) (hs : s < 18446744073709551616) (hn : n ≤ 1000000000) :
    Calls Try.prog 51 #[.slice A n c, .int .u64 s] w fun e w' => e = .returned (.tuple #[.int .i64 (fstI f s n), .int .i64 (8 * (n : Int))]) ∧ Below w.heap.size w w' := by
  have HA := Lib.hid ha
  have HF := Lib.hid hf
  have P1 := Lib.hid (fun (j : Nat) (X : World) => equal_any (f j) s X (hf j) hs)
  clear ha hf
  go_enter Try.func51, Try.ntmps51
  go_wp2
  go_loopw [6, 7, 14] (fun at' st i wr => ∃ k : Nat, k ≤ n ∧ i = .int .i64 k ∧ at' = .int .i64 (fstI f s k) ∧ st = .int .i64 (8 * (k : Int)) ∧ Below w.heap.size w wr ∧ w.heap.size ≤ wr.heap.size) (fun _ _ i _ => n - (intOf i).toNat)
  case atStart => exact ⟨0, Nat.zero_le _, rfl, rfl, rfl, Below.refl _ _, Nat.le_refl _⟩
  case round =>
    obtain ⟨k, hk, rfl, rfl, rfl, hbel, hsz⟩ := hrel
    obtain ⟨X, rfl⟩ : ∃ X : Later w.heap.size w, wr = X.w := ⟨⟨wr, hbel⟩, rfl⟩
    clear hbel
    by_cases hlt : k < n
    · obtain ⟨b, o, rfl, hB, hc⟩ := HA.out (by omega)
      have h1 : _ = some (Value.int .u64 ((f k : Nat) : Int)) := hc k hlt
      have hst : fstI f s (k + 1) = if fstI f s k < 0 ∧ f k = s ∧ s ≠ 0 then (k : Int) else fstI f s k := rfl
      have hbd := fstI_bd f s k
      clear hc
      generalize fstI f s k = r at *
      have p1 := P1.out k
      generalize f k = x at *
      by_cases e1 : x = s
      · rw [decide_eq_true e1] at p1
        by_cases e2 : r < 0
        · by_cases e3 : s = 0
          · have e3' : ((s : Int) != 0) = false := by simp [e3]
            rw [if_neg (fun h => h.2.2 e3)] at hst
            have HS := Lib.hid hst
            clear hst e1 e3
            clear HF
            have R1 := Lib.hid p1
            go_wp2_with (first
              | (go_at_call 59; with_reducible refine (R1.out _).mono ?_; rintro e w' ⟨rfl, hb⟩; obtain ⟨X1, rfl, hl1, hm1⟩ := later (w.heap.size) hb (by first | exact Nat.le_refl _ | go_size); clear hb; (try simp only [World.size_alloc, World.size_setCell, World.size_drew] at hm1)))
            go_roundw
            case rel => exact ⟨k + 1, by omega, by go_num, by rw [HS.out], by push_cast; first | rfl | (congr 1; omega), by repeat' (first | (with_reducible exact Below.refl _ _) | (with_reducible assumption) | (with_reducible refine Later.step ?_ ?_ _) | (with_reducible refine Below.alloc ?_ ?_ _) | (with_reducible refine Below.drew ?_) | (with_reducible refine bel_drewN ?_ _) | (with_reducible refine bel_grown ?_ (by assumption) ?_ ?_) | (with_reducible refine Below.setCell ?_ ?_ _) | go_size), by go_size⟩
            case measure => simp [intOf]; omega
          · have e3' : ((s : Int) != 0) = true := by simp [e3]
            rw [if_pos ⟨e2, e1, e3⟩] at hst
            have HS := Lib.hid hst
            clear hst e1 e3
            have R1 := Lib.hid p1
            go_wp2_with (first
              | (go_at_call 59; with_reducible refine (R1.out _).mono ?_; rintro e w' ⟨rfl, hb⟩; obtain ⟨X1, rfl, hl1, hm1⟩ := later (w.heap.size) hb (by first | exact Nat.le_refl _ | go_size); clear hb; (try simp only [World.size_alloc, World.size_setCell, World.size_drew] at hm1)))
            go_roundw
            case rel => exact ⟨k + 1, by omega, by go_num, by rw [HS.out], by push_cast; first | rfl | (congr 1; omega), by repeat' (first | (with_reducible exact Below.refl _ _) | (with_reducible assumption) | (with_reducible refine Later.step ?_ ?_ _) | (with_reducible refine Below.alloc ?_ ?_ _) | (with_reducible refine Below.drew ?_) | (with_reducible refine bel_drewN ?_ _) | (with_reducible refine bel_grown ?_ (by assumption) ?_ ?_) | (with_reducible refine Below.setCell ?_ ?_ _) | go_size), by go_size⟩
            case measure => simp [intOf]; omega
        · rw [if_neg (fun h => e2 h.1)] at hst
          have HS := Lib.hid hst
          clear hst e1
          have R1 := Lib.hid p1
          go_wp2_with (first
            | (go_at_call 59; with_reducible refine (R1.out _).mono ?_; rintro e w' ⟨rfl, hb⟩; obtain ⟨X1, rfl, hl1, hm1⟩ := later (w.heap.size) hb (by first | exact Nat.le_refl _ | go_size); clear hb; (try simp only [World.size_alloc, World.size_setCell, World.size_drew] at hm1)))
          go_roundw
          case rel => exact ⟨k + 1, by omega, by go_num, by rw [HS.out], by push_cast; first | rfl | (congr 1; omega), by repeat' (first | (with_reducible exact Below.refl _ _) | (with_reducible assumption) | (with_reducible refine Later.step ?_ ?_ _) | (with_reducible refine Below.alloc ?_ ?_ _) | (with_reducible refine Below.drew ?_) | (with_reducible refine bel_drewN ?_ _) | (with_reducible refine bel_grown ?_ (by assumption) ?_ ?_) | (with_reducible refine Below.setCell ?_ ?_ _) | go_size), by go_size⟩
          case measure => simp [intOf]; omega
      · rw [decide_eq_false e1] at p1
        rw [if_neg (fun h => e1 h.2.1)] at hst
        have HS := Lib.hid hst
        clear hst e1
        have R1 := Lib.hid p1
        go_wp2_with (first
          | (go_at_call 59; with_reducible refine (R1.out _).mono ?_; rintro e w' ⟨rfl, hb⟩; obtain ⟨X1, rfl, hl1, hm1⟩ := later (w.heap.size) hb (by first | exact Nat.le_refl _ | go_size); clear hb; (try simp only [World.size_alloc, World.size_setCell, World.size_drew] at hm1)))
        go_roundw
        case rel => exact ⟨k + 1, by omega, by go_num, by rw [HS.out], by push_cast; first | rfl | (congr 1; omega), by repeat' (first | (with_reducible exact Below.refl _ _) | (with_reducible assumption) | (with_reducible refine Later.step ?_ ?_ _) | (with_reducible refine Below.alloc ?_ ?_ _) | (with_reducible refine Below.drew ?_) | (with_reducible refine bel_drewN ?_ _) | (with_reducible refine bel_grown ?_ (by assumption) ?_ ?_) | (with_reducible refine Below.setCell ?_ ?_ _) | go_size), by go_size⟩
        case measure => simp [intOf]; omega
    · obtain rfl : k = n := by omega
      go_wp2
      go_ret2
      exact ⟨rfl, by repeat' (first | (with_reducible exact Below.refl _ _) | (with_reducible assumption) | (with_reducible refine Later.step ?_ ?_ _) | (with_reducible refine Below.alloc ?_ ?_ _) | (with_reducible refine Below.drew ?_) | (with_reducible refine bel_drewN ?_ _) | (with_reducible refine bel_grown ?_ (by assumption) ?_ ?_) | (with_reducible refine Below.setCell ?_ ?_ _) | go_size)⟩
set_option maxHeartbeats 4000000 in
theorem fresh_any (A : Option Addr) (n c : Nat) (f : Nat → Nat) (s : Nat) (w : World) (ha : Reads .u64 w w.heap.size A n (fun j => (f j : Int))) (hf : ∀ j, f j < 18446744073709551616) (hs : s < 18446744073709551616) (hn : n ≤ 1000000000) :
    Calls Try.prog 48 #[.slice A n c, .int .u64 s] w fun e w' => e = .returned (.tuple #[.int .u64 (if s = 0 ∨ 0 ≤ fstI f s n then 0 else (s : Int)), .int .i64 (if s = 0 then 40 else if 0 ≤ fstI f s n then 20 else 0)]) ∧ Below w.heap.size w w' := by
  have P1 := Lib.hid (find_any A n c f s w ha hf hs hn)
  clear ha hf
  by_cases hz : s = 0
  · subst hz
    rw [if_pos (.inl rfl), if_pos rfl]
    go_enter Try.func48, Try.ntmps48
    go_wp2
    go_ret2
    exact ⟨rfl, Below.refl _ _⟩
  · have hz' : ((s : Int) == 0) = false := by simp [hz]
    by_cases hp : 0 ≤ fstI f s n
    · rw [if_pos (.inr hp), if_neg hz, if_pos hp]
      generalize fstI f s n = r at *
      go_enter Try.func48, Try.ntmps48
      go_wp2_with (first
        | (go_at_call 51; with_reducible refine P1.out.mono ?_; rintro e w' ⟨rfl, hb⟩; obtain ⟨X1, rfl, hl1, hm1⟩ := later (w.heap.size) hb (by first | exact Nat.le_refl _ | go_size); clear hb; (try simp only [World.size_alloc, World.size_setCell, World.size_drew] at hm1)))
      go_ret2
      exact ⟨rfl, by repeat' (first | (with_reducible exact Below.refl _ _) | (with_reducible assumption) | (with_reducible refine Later.step ?_ ?_ _) | (with_reducible refine Below.alloc ?_ ?_ _) | (with_reducible refine Below.drew ?_) | (with_reducible refine bel_drewN ?_ _) | (with_reducible refine bel_grown ?_ (by assumption) ?_ ?_) | (with_reducible refine Below.setCell ?_ ?_ _) | go_size)⟩
    · rw [if_neg (by omega), if_neg hz, if_neg hp]
      generalize fstI f s n = r at *
      go_enter Try.func48, Try.ntmps48
      go_wp2_with (first
        | (go_at_call 51; with_reducible refine P1.out.mono ?_; rintro e w' ⟨rfl, hb⟩; obtain ⟨X1, rfl, hl1, hm1⟩ := later (w.heap.size) hb (by first | exact Nat.le_refl _ | go_size); clear hb; (try simp only [World.size_alloc, World.size_setCell, World.size_drew] at hm1)))
      go_ret2
      exact ⟨rfl, by repeat' (first | (with_reducible exact Below.refl _ _) | (with_reducible assumption) | (with_reducible refine Later.step ?_ ?_ _) | (with_reducible refine Below.alloc ?_ ?_ _) | (with_reducible refine Below.drew ?_) | (with_reducible refine bel_drewN ?_ _) | (with_reducible refine bel_grown ?_ (by assumption) ?_ ?_) | (with_reducible refine Below.setCell ?_ ?_ _) | go_size)⟩
end Go.Proofs.Ytjfgjlklbepnjaa
