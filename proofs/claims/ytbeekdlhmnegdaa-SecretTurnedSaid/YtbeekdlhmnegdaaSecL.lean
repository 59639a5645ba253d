/- The layer's statements walked. No condition. -/
import Derived.Test.YtbeekdlhmnegdaaSecK
import Derived.Test.YtbeekdlhmnegdaaRow
namespace Go.Proofs.Ytbeekdlhmnegdaa
open Go.RowKit
set_option linter.unusedSimpArgs false
set_option linter.unusedVariables false

theorem su64_lim {a : Int} (h : (Lit.int .u64 a).wf = true) : 0 ≤ a ∧ a ≤ 18446744073709551615 := by
  simp only [Lit.wf, Bool.and_eq_true, decide_eq_true_eq] at h
  exact h
set_option maxHeartbeats 4000000 in
theorem equals_walk (a b : Int) (w : World) (wa : (Lit.int .u64 a).wf = true) (wb : (Lit.int .u64 b).wf = true) :
    Calls Try.prog 3 #[.int .u64 a, .int .u64 b] w fun e w' => e = .returned (.bool true) ∧ Below w.heap.size w w' := by
  have ha := su64_lim wa
  have hb := su64_lim wb
  obtain ⟨a, rfl⟩ := Int.eq_ofNat_of_zero_le ha.1
  obtain ⟨b, rfl⟩ := Int.eq_ofNat_of_zero_le hb.1
  have p1 := fun X : World => equal_any a b X (by omega) (by omega)
  have p2 := fun X : World => equal_any a a X (by omega) (by omega)
  have e2 : decide (a = a) = true := by simp
  have e1 : (((a : Nat) : Int) == ((b : Nat) : Int)) = decide (a = b) := by
    rw [Bool.eq_iff_iff, beq_iff_eq, decide_eq_true_eq]; omega
  rw [e2] at p2
  clear wa wb
  generalize decide (a = b) = t at *
  have P1 := Lib.hid p1
  have P2 := Lib.hid p2
  clear p1 p2
  go_enter Try.func3, Try.ntmps3
  go_wp2_with (first
    | (go_at_call 8; with_reducible refine (P1.out _).mono ?_; rintro e w' ⟨rfl, hb⟩; obtain ⟨X1, rfl, hl1, hm1⟩ := later (w.heap.size) hb (by first | exact Nat.le_refl _ | go_size); clear hb; (try simp only [World.size_alloc, World.size_setCell, World.size_drew] at hm1))
    | (go_at_call 8; with_reducible refine (P2.out _).mono ?_; rintro e w' ⟨rfl, hb⟩; obtain ⟨X2, rfl, hl2, hm2⟩ := later (w.heap.size) hb (by first | exact Nat.le_refl _ | go_size); clear hb; (try simp only [World.size_alloc, World.size_setCell, World.size_drew] at hm2))
    | (go_at_call 9; refine (sknown_any _).mono ?_; rintro e w' ⟨rfl, hb⟩; obtain ⟨X9, rfl, hl9, hm9⟩ := later (w.heap.size) hb (by first | exact Nat.le_refl _ | go_size); clear hb; (try simp only [World.size_alloc, World.size_setCell, World.size_drew] at hm9)))
  go_ret
  exact ⟨rfl, by repeat' (first | (with_reducible exact Below.refl _ _) | (with_reducible assumption) | (with_reducible refine Later.step ?_ ?_ _) | (with_reducible refine Below.alloc ?_ ?_ _) | (with_reducible refine Below.drew ?_) | (with_reducible refine bel_drewN ?_ _) | (with_reducible refine bel_grown ?_ (by assumption) ?_ ?_) | (with_reducible refine Below.setCell ?_ ?_ _) | go_size)⟩
set_option maxHeartbeats 4000000 in
theorem masks_walk (a : Int) (w : World) (wa : (Lit.int .u64 a).wf = true) :
    Calls Try.prog 6 #[.int .u64 a] w fun e w' => e = .returned (.bool true) ∧ Below w.heap.size w w' := by
  have ha := su64_lim wa
  obtain ⟨a, rfl⟩ := Int.eq_ofNat_of_zero_le ha.1
  have p1 := fun X : World => mask_any a X (by omega)
  have p2 := fun X : World => rmask_any a X (by omega)
  have hz := maskT_size a
  clear wa
  generalize maskT a = t at *
  have P1 := Lib.hid p1
  have P2 := Lib.hid p2
  clear p1 p2
  go_enter Try.func6, Try.ntmps6
  go_wp2_with (first
    | (go_at_call 12; with_reducible refine (P1.out _).mono ?_; rintro e w' ⟨rfl, hb⟩; obtain ⟨X1, rfl, hl1, hm1⟩ := later (w.heap.size) hb (by first | exact Nat.le_refl _ | go_size); clear hb; (try simp only [World.size_alloc, World.size_setCell, World.size_drew] at hm1))
    | (go_at_call 13; with_reducible refine (P2.out _).mono ?_; rintro e w' ⟨rfl, hb⟩; obtain ⟨X2, rfl, hl2, hm2⟩ := later (w.heap.size) hb (by first | exact Nat.le_refl _ | go_size); clear hb; (try simp only [World.size_alloc, World.size_setCell, World.size_drew] at hm2))
    | (go_at_call 9; refine (sknown_any _).mono ?_; rintro e w' ⟨rfl, hb⟩; obtain ⟨X9, rfl, hl9, hm9⟩ := later (w.heap.size) hb (by first | exact Nat.le_refl _ | go_size); clear hb; (try simp only [World.size_alloc, World.size_setCell, World.size_drew] at hm9)))
  go_ret
  exact ⟨rfl, by repeat' (first | (with_reducible exact Below.refl _ _) | (with_reducible assumption) | (with_reducible refine Later.step ?_ ?_ _) | (with_reducible refine Below.alloc ?_ ?_ _) | (with_reducible refine Below.drew ?_) | (with_reducible refine bel_drewN ?_ _) | (with_reducible refine bel_grown ?_ (by assumption) ?_ ?_) | (with_reducible refine Below.setCell ?_ ?_ _) | go_size)⟩
set_option maxHeartbeats 4000000 in
theorem finds_walk (A : Option Addr) (n c : Nat) (zs : List Int) (a : Int) (w : World) (h : IsRow .u64 w A n c zs) (wa : (Lit.int .u64 a).wf = true) :
    Calls Try.prog 4 #[.slice A n c, .int .u64 a] w fun e w' => e = .returned (.bool true) ∧ Below w.heap.size w w' := by
  have ha := su64_lim wa
  obtain ⟨s, rfl⟩ := Int.eq_ofNat_of_zero_le ha.1
  obtain ⟨hn, _⟩ := row_len h
  obtain ⟨hr, hf⟩ := row_nat h
  clear wa h
  by_cases hbig : 2000 < n
  · go_enter Try.func4, Try.ntmps4
    go_wp2_with (first
      | (go_at_call 9; refine (sknown_any _).mono ?_; rintro e w' ⟨rfl, hb⟩; obtain ⟨X9, rfl, hl9, hm9⟩ := later (w.heap.size) hb (by first | exact Nat.le_refl _ | go_size); clear hb; (try simp only [World.size_alloc, World.size_setCell, World.size_drew] at hm9)))
    go_ret
    exact ⟨rfl, by repeat' (first | (with_reducible exact Below.refl _ _) | (with_reducible assumption) | (with_reducible refine Later.step ?_ ?_ _) | (with_reducible refine Below.alloc ?_ ?_ _) | (with_reducible refine Below.drew ?_) | (with_reducible refine bel_drewN ?_ _) | (with_reducible refine bel_grown ?_ (by assumption) ?_ ?_) | (with_reducible refine Below.setCell ?_ ?_ _) | go_size)⟩
  · have p1 := fun X : Later w.heap.size w => find_any A n c (numF zs) s X.w ((hr.keep X.is).more X.is.size) hf (by omega) (by omega)
    have p2 := fun X : Later w.heap.size w => rfind_any A n c (numF zs) s X.w ((hr.keep X.is).more X.is.size) hf (by omega) (by omega)
    have P1' := find_any A n c (numF zs) s w hr hf (by omega) (by omega)
    have P0 := Lib.hid P1'
    have hbd := fstI_bd (numF zs) s n
    have hp := fun h0 => fstI_pos (f := numF zs) (s := s) (k := n) h0
    have Q := Lib.hid (fun X : World => equal_any s s X (by omega) (by omega))
    have P2 := Lib.hid p2
    have HR := Lib.hid hr
    have HP := Lib.hid hp
    clear p1 p2 P1' hf hr hp
    by_cases hneg : fstI (numF zs) s n < 0
    · generalize fstI (numF zs) s n = r at *
      go_enter Try.func4, Try.ntmps4
      go_wp2_with (first
        | (go_at_call 10; with_reducible refine P0.out.mono ?_; rintro e w' ⟨rfl, hb⟩; obtain ⟨X1, rfl, hl1, hm1⟩ := later (w.heap.size) hb (by first | exact Nat.le_refl _ | go_size); clear hb; (try simp only [World.size_alloc, World.size_setCell, World.size_drew] at hm1))
        | (go_at_call 11; with_reducible refine (P2.out X1).mono ?_; rintro e w' ⟨rfl, hb⟩; obtain ⟨X2, rfl, hl2, hm2⟩ := later (w.heap.size) hb (by first | exact Nat.le_refl _ | go_size); clear hb; (try simp only [World.size_alloc, World.size_setCell, World.size_drew] at hm2))
        | (go_at_call 9; refine (sknown_any _).mono ?_; rintro e w' ⟨rfl, hb⟩; obtain ⟨X9, rfl, hl9, hm9⟩ := later (w.heap.size) hb (by first | exact Nat.le_refl _ | go_size); clear hb; (try simp only [World.size_alloc, World.size_setCell, World.size_drew] at hm9)))
      go_ret
      exact ⟨rfl, by repeat' (first | (with_reducible exact Below.refl _ _) | (with_reducible assumption) | (with_reducible refine Later.step ?_ ?_ _) | (with_reducible refine Below.alloc ?_ ?_ _) | (with_reducible refine Below.drew ?_) | (with_reducible refine bel_drewN ?_ _) | (with_reducible refine bel_grown ?_ (by assumption) ?_ ?_) | (with_reducible refine Below.setCell ?_ ?_ _) | go_size)⟩
    · obtain ⟨q, hq⟩ := Int.eq_ofNat_of_zero_le (show 0 ≤ fstI (numF zs) s n by omega)
      have e := (HP.out (by omega)).1
      rw [hq] at e hbd hneg P0 P2
      have e' : numF zs q = s := by simpa using e
      obtain ⟨b, o, rfl, hB, hc⟩ := HR.out (by omega)
      have h1 : _ = some (Value.int .u64 ((numF zs q : Nat) : Int)) := hc q (by omega)
      rw [e'] at h1
      have Q2 : ∀ X : World, Calls Try.prog 8 #[.int .u64 s, .int .u64 s] X fun e w' => e = .returned (.tuple #[.bool true, .int .i64 8]) ∧ Below X.heap.size X w' := fun X => by
        have := Q.out X
        rwa [show decide (s = s) = true by simp] at this
      have Q3 := Lib.hid Q2
      clear e e' hc hq Q2
      go_enter Try.func4, Try.ntmps4
      go_wp2_with (first
        | (go_at_call 10; with_reducible refine P0.out.mono ?_; rintro e w' ⟨rfl, hb⟩; obtain ⟨X1, rfl, hl1, hm1⟩ := later (w.heap.size) hb (by first | exact Nat.le_refl _ | go_size); clear hb; (try simp only [World.size_alloc, World.size_setCell, World.size_drew] at hm1))
        | (go_at_call 11; with_reducible refine (P2.out X1).mono ?_; rintro e w' ⟨rfl, hb⟩; obtain ⟨X2, rfl, hl2, hm2⟩ := later (w.heap.size) hb (by first | exact Nat.le_refl _ | go_size); clear hb; (try simp only [World.size_alloc, World.size_setCell, World.size_drew] at hm2))
        | (go_at_call 8; with_reducible refine (Q3.out _).mono ?_; rintro e w' ⟨rfl, hb⟩; obtain ⟨X3, rfl, hl3, hm3⟩ := later (w.heap.size) hb (by first | exact Nat.le_refl _ | go_size); clear hb; (try simp only [World.size_alloc, World.size_setCell, World.size_drew] at hm3))
        | (go_at_call 9; refine (sknown_any _).mono ?_; rintro e w' ⟨rfl, hb⟩; obtain ⟨X9, rfl, hl9, hm9⟩ := later (w.heap.size) hb (by first | exact Nat.le_refl _ | go_size); clear hb; (try simp only [World.size_alloc, World.size_setCell, World.size_drew] at hm9)))
      go_ret
      exact ⟨rfl, by repeat' (first | (with_reducible exact Below.refl _ _) | (with_reducible assumption) | (with_reducible refine Later.step ?_ ?_ _) | (with_reducible refine Below.alloc ?_ ?_ _) | (with_reducible refine Below.drew ?_) | (with_reducible refine bel_drewN ?_ _) | (with_reducible refine bel_grown ?_ (by assumption) ?_ ?_) | (with_reducible refine Below.setCell ?_ ?_ _) | go_size)⟩
set_option maxHeartbeats 4000000 in
theorem fresh_walk (A : Option Addr) (n c : Nat) (zs : List Int) (a : Int) (w : World) (h : IsRow .u64 w A n c zs) (wa : (Lit.int .u64 a).wf = true) :
    Calls Try.prog 7 #[.slice A n c, .int .u64 a] w fun e w' => e = .returned (.bool true) ∧ Below w.heap.size w w' := by
  have ha := su64_lim wa
  obtain ⟨s, rfl⟩ := Int.eq_ofNat_of_zero_le ha.1
  obtain ⟨hn, _⟩ := row_len h
  obtain ⟨hr, hf⟩ := row_nat h
  clear wa h
  by_cases hbig : 2000 < n
  · go_enter Try.func7, Try.ntmps7
    go_wp2_with (first
      | (go_at_call 9; refine (sknown_any _).mono ?_; rintro e w' ⟨rfl, hb⟩; obtain ⟨X9, rfl, hl9, hm9⟩ := later (w.heap.size) hb (by first | exact Nat.le_refl _ | go_size); clear hb; (try simp only [World.size_alloc, World.size_setCell, World.size_drew] at hm9)))
    go_ret
    exact ⟨rfl, by repeat' (first | (with_reducible exact Below.refl _ _) | (with_reducible assumption) | (with_reducible refine Later.step ?_ ?_ _) | (with_reducible refine Below.alloc ?_ ?_ _) | (with_reducible refine Below.drew ?_) | (with_reducible refine bel_drewN ?_ _) | (with_reducible refine bel_grown ?_ (by assumption) ?_ ?_) | (with_reducible refine Below.setCell ?_ ?_ _) | go_size)⟩
  · have p0 := fresh_any A n c (numF zs) s w hr hf (by omega) (by omega)
    have p2 := fun X : Later w.heap.size w => rfind_any A n c (numF zs) s X.w ((hr.keep X.is).more X.is.size) hf (by omega) (by omega)
    clear hr hf
    generalize fstI (numF zs) s n = r at *
    have P2 := Lib.hid p2
    clear p2
    by_cases hz : s = 0
    · subst hz
      rw [if_pos (.inl rfl), if_pos rfl] at p0
      have P0 := Lib.hid p0
      clear p0
      go_enter Try.func7, Try.ntmps7
      go_wp2_with (first
        | (go_at_call 14; refine P0.out.mono ?_; rintro e w' ⟨rfl, hb⟩; obtain ⟨X1, rfl, hl1, hm1⟩ := later (w.heap.size) hb (by first | exact Nat.le_refl _ | go_size); clear hb; (try simp only [World.size_alloc, World.size_setCell, World.size_drew] at hm1))
        | (go_at_call 9; refine (sknown_any _).mono ?_; rintro e w' ⟨rfl, hb⟩; obtain ⟨X9, rfl, hl9, hm9⟩ := later (w.heap.size) hb (by first | exact Nat.le_refl _ | go_size); clear hb; (try simp only [World.size_alloc, World.size_setCell, World.size_drew] at hm9)))
      go_ret
      exact ⟨rfl, by repeat' (first | (with_reducible exact Below.refl _ _) | (with_reducible assumption) | (with_reducible refine Later.step ?_ ?_ _) | (with_reducible refine Below.alloc ?_ ?_ _) | (with_reducible refine Below.drew ?_) | (with_reducible refine bel_drewN ?_ _) | (with_reducible refine bel_grown ?_ (by assumption) ?_ ?_) | (with_reducible refine Below.setCell ?_ ?_ _) | go_size)⟩
    · have hz' : ((s : Int) == 0) = false := by rw [beq_eq_false_iff_ne]; omega
      by_cases hp : 0 ≤ r
      · rw [if_pos (.inr hp), if_neg hz, if_pos hp] at p0
        have P0 := Lib.hid p0
        clear p0
        go_enter Try.func7, Try.ntmps7
        go_wp2_with (first
          | (go_at_call 14; with_reducible refine P0.out.mono ?_; rintro e w' ⟨rfl, hb⟩; obtain ⟨X1, rfl, hl1, hm1⟩ := later (w.heap.size) hb (by first | exact Nat.le_refl _ | go_size); clear hb; (try simp only [World.size_alloc, World.size_setCell, World.size_drew] at hm1))
          | (go_at_call 11; with_reducible refine (P2.out X1).mono ?_; rintro e w' ⟨rfl, hb⟩; obtain ⟨X2, rfl, hl2, hm2⟩ := later (w.heap.size) hb (by first | exact Nat.le_refl _ | go_size); clear hb; (try simp only [World.size_alloc, World.size_setCell, World.size_drew] at hm2))
          | (go_at_call 9; refine (sknown_any _).mono ?_; rintro e w' ⟨rfl, hb⟩; obtain ⟨X9, rfl, hl9, hm9⟩ := later (w.heap.size) hb (by first | exact Nat.le_refl _ | go_size); clear hb; (try simp only [World.size_alloc, World.size_setCell, World.size_drew] at hm9)))
        go_ret
        exact ⟨rfl, by repeat' (first | (with_reducible exact Below.refl _ _) | (with_reducible assumption) | (with_reducible refine Later.step ?_ ?_ _) | (with_reducible refine Below.alloc ?_ ?_ _) | (with_reducible refine Below.drew ?_) | (with_reducible refine bel_drewN ?_ _) | (with_reducible refine bel_grown ?_ (by assumption) ?_ ?_) | (with_reducible refine Below.setCell ?_ ?_ _) | go_size)⟩
      · rw [if_neg (by omega), if_neg hz, if_neg hp] at p0
        have P0 := Lib.hid p0
        clear p0
        go_enter Try.func7, Try.ntmps7
        go_wp2_with (first
          | (go_at_call 14; with_reducible refine P0.out.mono ?_; rintro e w' ⟨rfl, hb⟩; obtain ⟨X1, rfl, hl1, hm1⟩ := later (w.heap.size) hb (by first | exact Nat.le_refl _ | go_size); clear hb; (try simp only [World.size_alloc, World.size_setCell, World.size_drew] at hm1))
          | (go_at_call 11; with_reducible refine (P2.out X1).mono ?_; rintro e w' ⟨rfl, hb⟩; obtain ⟨X2, rfl, hl2, hm2⟩ := later (w.heap.size) hb (by first | exact Nat.le_refl _ | go_size); clear hb; (try simp only [World.size_alloc, World.size_setCell, World.size_drew] at hm2))
          | (go_at_call 9; refine (sknown_any _).mono ?_; rintro e w' ⟨rfl, hb⟩; obtain ⟨X9, rfl, hl9, hm9⟩ := later (w.heap.size) hb (by first | exact Nat.le_refl _ | go_size); clear hb; (try simp only [World.size_alloc, World.size_setCell, World.size_drew] at hm9)))
        go_ret
        exact ⟨rfl, by repeat' (first | (with_reducible exact Below.refl _ _) | (with_reducible assumption) | (with_reducible refine Later.step ?_ ?_ _) | (with_reducible refine Below.alloc ?_ ?_ _) | (with_reducible refine Below.drew ?_) | (with_reducible refine bel_drewN ?_ _) | (with_reducible refine bel_grown ?_ (by assumption) ?_ ?_) | (with_reducible refine Below.setCell ?_ ?_ _) | go_size)⟩
end Go.Proofs.Ytbeekdlhmnegdaa
