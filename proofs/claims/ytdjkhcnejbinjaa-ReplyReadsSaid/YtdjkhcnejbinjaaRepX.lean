/- Any bytes are an answer that fits, whose bytes they are, or refused: the statement walked. No condition beyond what the slice reads as. -/
import Derived.Test.YtdjkhcnejbinjaaRepM
import Derived.Test.YtdjkhcnejbinjaaRepO
import Derived.Test.YtdjkhcnejbinjaaRepW
import Derived.Test.YtdjkhcnejbinjaaRow
namespace Go.Proofs.Ytdjkhcnejbinjaa
open Go.RowKit
set_option linter.unusedSimpArgs false
set_option linter.unusedVariables false
set_option maxRecDepth 2000

theorem dec_cases {op m : Int} {L : List Nat} {w w' : World} {e : Ending} (hs : Small L) (hd : DecPost op m L w e w') :
    ((∃ s k x y lab b0 b1 b2 b3 ns ne f g A1 c1 A2 c2, (fitsA op m s k 0 x y lab b0 b1 b2 b3 ns ne f g ∧ padL (encL op s k x y lab b0 b1 b2 b3 ns ne f g) L.length = L ∧ 0 ≤ k ∧ k ≤ 18446744073709551615) ∧ e = .returned (.tuple #[.agg #[.int .i64 s, .int .u64 k, .int .i64 0, .int .i64 x, .int .i64 y, .int .i64 lab, .int .i64 b0, .int .i64 b1, .int .i64 b2, .int .i64 b3, .slice A1 ns c1, .slice A2 ne c2], .int .i64 0])
        ∧ IsItems w' w'.heap.size A1 ns 6 f ∧ IsItems w' w'.heap.size A2 ne 4 g)
      ∨ e = .returned (.tuple #[.agg #[.int .i64 0, .int .u64 0, .int .i64 0, .int .i64 0, .int .i64 0, .int .i64 0, .int .i64 0, .int .i64 0, .int .i64 0, .int .i64 0, .slice none 0 0, .slice none 0 0], .int .i64 33])) ∧ Below w.heap.size w w' := by
  obtain ⟨hd, hb⟩ := hd
  refine ⟨?_, hb⟩
  by_cases hy : fitsD op m L ∧ padL (encD op m L) L.length = L
  · rw [if_pos hy] at hd
    obtain ⟨A1, c1, A2, c2, he, h1, h2⟩ := hd
    refine .inl ⟨_, _, _, _, _, _, _, _, _, _, _, _, _, A1, c1, A2, c2, ⟨hy.1, hy.2, ?_, ?_⟩, he, h1, h2⟩
    all_goals
      unfold rdN
      split
      · have h9 := numR_bd hs 3 8
        simp at h9
        omega
      · omega
  · rw [if_neg hy] at hd
    exact .inr hd
theorem row_list {w : World} {A : Option Addr} {n c : Nat} {zs : List Int} (h : IsRow .u8 w A n c zs) : ∃ L : List Nat, L.length = n ∧ Small L ∧ Reads .u8 w w.heap.size A n (atI L) := by
  obtain ⟨h1, h2⟩ := row_nat8 h
  refine ⟨(List.range n).map (numF zs), by simp, fun x hx => ?_, h1.same fun j hj => ?_⟩
  · obtain ⟨j, _, rfl⟩ := List.mem_map.1 hx
    exact h2 j
  · simp [atI, List.getD, hj]
theorem same_zero (w : World) : Calls Try.prog 19 #[.agg #[.int .i64 0, .int .u64 0, .int .i64 0, .int .i64 0, .int .i64 0, .int .i64 0, .int .i64 0, .int .i64 0, .int .i64 0, .int .i64 0, .slice none 0 0, .slice none 0 0], .agg #[.int .i64 0, .int .u64 0, .int .i64 0, .int .i64 0, .int .i64 0, .int .i64 0, .int .i64 0, .int .i64 0, .int .i64 0, .int .i64 0, .slice none 0 0, .slice none 0 0]] w fun e w' => e = .returned (.bool true) ∧ Below w.heap.size w w' :=
  asame_true 0 0 0 0 0 0 0 0 0 0 none none none none 0 0 0 0 0 0 (fun _ _ => 0) (fun _ _ => 0) w (fun h => absurd h (by decide)) (fun h => absurd h (by decide)) (fun h => absurd h (by decide)) (fun h => absurd h (by decide)) (by decide) (by decide)
set_option maxHeartbeats 16000000 in
theorem reads_law (op m : Int) (A : Option Addr) (n c : Nat) (zs : List Int) (w : World) (fo : (Lit.int .i64 op).wf = true) (fm : (Lit.int .i64 m).wf = true) (hrow : IsRow .u8 w A n c zs) :
    Calls Try.prog 7 #[.int .i64 op, .int .i64 m, .slice A n c] w fun e w' => e = .returned (.bool true) ∧ Below w.heap.size w w' := by
  obtain ⟨hn9, _, hnc, hc9⟩ := row_len hrow
  obtain ⟨L, hL, hsm, hr⟩ := row_list hrow
  have PK := Lib.hid pknown_any
  clear hrow fo fm
  by_cases ho : 1 ≤ op ∧ op ≤ 19
  · have ho1 : ¬ op < 1 := by omega
    have ho2 : ¬ 19 < op := by omega
    by_cases hm : 0 ≤ m ∧ m ≤ 64
    · have hm1 : ¬ m < 0 := by omega
      have hm2 : ¬ 64 < m := by omega
      have ht : thereB op m = true := decide_eq_true ⟨ho.1, ho.2, hm.1, hm.2⟩
      have PL := Lib.hid (rlen20_any op m)
      have PS := Lib.hid same_zero
      by_cases hl : (n : Int) = lengthI op m
      · have PD := Lib.hid (fun (Y : World) (hY : Below w.heap.size w Y) => (decode_any op m A c L Y ht (by rw [hL]; exact (hr.keep hY).more hY.size) hsm (by rw [hL]; exact hl) (by rw [hL]; exact hnc) hc9).mono fun e w' hd => dec_cases hsm hd)
        rw [hL] at PD
        rw [← hl] at PL
        have HL := Lib.hid hL
        have HR := Lib.hid hr
        have hnn : (lengthI op m).toNat = n := by rw [← hl]; rfl
        have HNN := Lib.hid hnn
        clear hl hr hL hnn
        go_enter Try.func7, Try.ntmps7
        go_wp2_with fail
        refine (PD.out _ (by repeat' (first | (with_reducible exact Below.refl _ _) | (with_reducible assumption) | (with_reducible refine Later.step ?_ ?_ _) | (with_reducible refine Below.alloc ?_ ?_ _) | (with_reducible refine Below.drew ?_) | (with_reducible refine bel_drewN ?_ _) | (with_reducible refine bel_grown ?_ (by assumption) ?_ ?_) | (with_reducible refine Below.setCell ?_ ?_ _) | go_size))).mono ?_
        rintro e w1 ⟨hcase, hb1⟩
        have hs1 := hb1.size
        rcases hcase with ⟨s, k, x, y, lab, b0, b1, b2, b3, ns, ne, f, g, A1, c1, A2, c2, ⟨hf, hpad, hk0, hk1⟩, rfl, hI1, hI2⟩ | rfl
        · have hns : ns ≤ 9223372036854775807 ∧ ne ≤ 9223372036854775807 := by
            have h9 := hf.2.2
            by_cases h0 : s = 0
            · rw [if_pos h0] at h9
              obtain ⟨_, _, g3, g4⟩ := h9.2.1
              omega
            · rw [if_neg h0] at h9
              omega
          have p1 := fun (Y : World) (hY : Below w1.heap.size w1 Y) => rfitsA_any op m s k 0 x y lab b0 b1 b2 b3 A1 A2 ns ne c1 c2 f g Y ((hI1.keep hY).more hY.size) ((hI2.keep hY).more hY.size) hns.1 hns.2
          have p2 := fun (Y : World) (hY : Below w1.heap.size w1 Y) => bytes_any op m s k 0 x y lab b0 b1 b2 b3 A1 A2 ns ne c1 c2 f g Y ((hI1.keep hY).more hY.size) ((hI2.keep hY).more hY.size) hk0 hk1 hf
          rw [decide_eq_true hf] at p1
          unfold BytesPost at p2
          rw [HNN.out, hpad] at p2
          have P1 := Lib.hid p1
          have P2 := Lib.hid p2
          obtain ⟨X1, rfl⟩ : ∃ Z : Later w.heap.size w, w1 = Z.w := ⟨⟨w1, hb1⟩, rfl⟩
          clear hb1 hf hpad hI1 hI2 hns p1 p2
          go_wp2_with (first
            | (go_at_call 10; refine (PL.out _).mono ?_; rintro e w' ⟨rfl, hb⟩; obtain ⟨X2, rfl, hl2, hm2⟩ := later (X1.w.heap.size + 1) hb (by first | exact Nat.le_refl _ | go_size); clear hb; (try simp only [World.size_alloc, World.size_setCell, World.size_drew] at hm2))
            | (go_at_call 15; refine (P1.out _ (by repeat' (first | (with_reducible exact Below.refl _ _) | (with_reducible assumption) | (with_reducible refine Later.step ?_ ?_ _) | (with_reducible refine Below.alloc ?_ ?_ _) | (with_reducible refine Below.drew ?_) | (with_reducible refine bel_drewN ?_ _) | (with_reducible refine bel_grown ?_ (by assumption) ?_ ?_) | (with_reducible refine Below.setCell ?_ ?_ _) | go_size))).mono ?_; rintro e w' ⟨rfl, hb⟩; obtain ⟨X3, rfl, hl3, hm3⟩ := later (X2.w.heap.size) hb (by first | exact Nat.le_refl _ | go_size); clear hb; (try simp only [World.size_alloc, World.size_setCell, World.size_drew] at hm3)))
          refine (P2.out _ (by repeat' (first | (with_reducible exact Below.refl _ _) | (with_reducible assumption) | (with_reducible refine Later.step ?_ ?_ _) | (with_reducible refine Below.alloc ?_ ?_ _) | (with_reducible refine Below.drew ?_) | (with_reducible refine bel_drewN ?_ _) | (with_reducible refine bel_grown ?_ (by assumption) ?_ ?_) | (with_reducible refine Below.setCell ?_ ?_ _) | go_size))).mono ?_
          rintro e w4 ⟨⟨A4, c4, rfl, hR4⟩, hb4⟩
          have hs4 := hb4.size
          have HR4 := Lib.hid hR4
          obtain ⟨X4, rfl⟩ : ∃ Z : Later X3.w.heap.size X3.w, w4 = Z.w := ⟨⟨w4, hb4⟩, rfl⟩
          clear hb4 hR4
          have P5 := Lib.hid (show Calls Try.prog 11 #[.slice A4 n c4, .slice A n c] X4.w fun e w' => e = .returned (.bool true) ∧ Below X4.w.heap.size X4.w w' from by
            have h9 := lsame_any A4 A L L c4 c X4.w (by rw [HL.out]; exact HR4.out) (by rw [HL.out]; exact (HR.out.keep (show Below w.heap.size w X4.w by repeat' (first | (with_reducible exact Below.refl _ _) | (with_reducible assumption) | (with_reducible refine Later.step ?_ ?_ _) | (with_reducible refine Below.alloc ?_ ?_ _) | (with_reducible refine Below.drew ?_) | (with_reducible refine bel_drewN ?_ _) | (with_reducible refine bel_grown ?_ (by assumption) ?_ ?_) | (with_reducible refine Below.setCell ?_ ?_ _) | go_size))).more (show w.heap.size ≤ X4.w.heap.size by go_size)) (by rw [HL.out]; exact hn9) (by rw [HL.out]; exact hn9)
            rw [HL.out, decide_eq_true rfl] at h9
            exact h9)
          go_wp2_with (first
            | (go_at_call 11; refine P5.out.mono ?_; rintro e w' ⟨rfl, hb⟩; obtain ⟨X5, rfl, hl5, hm5⟩ := later (X4.w.heap.size) hb (by first | exact Nat.le_refl _ | go_size); clear hb; (try simp only [World.size_alloc, World.size_setCell, World.size_drew] at hm5))
            | (go_at_call 13; refine (PK.out _).mono ?_; rintro e w' ⟨rfl, hb⟩; obtain ⟨X6, rfl, hl6, hm6⟩ := later (X5.w.heap.size) hb (by first | exact Nat.le_refl _ | go_size); clear hb; (try simp only [World.size_alloc, World.size_setCell, World.size_drew] at hm6)))
          go_ret
          exact ⟨rfl, by repeat' (first | (with_reducible exact Below.refl _ _) | (with_reducible assumption) | (with_reducible refine Later.step ?_ ?_ _) | (with_reducible refine Below.alloc ?_ ?_ _) | (with_reducible refine Below.drew ?_) | (with_reducible refine bel_drewN ?_ _) | (with_reducible refine bel_grown ?_ (by assumption) ?_ ?_) | (with_reducible refine Below.setCell ?_ ?_ _) | go_size)⟩
        · obtain ⟨X1, rfl⟩ : ∃ Z : Later w.heap.size w, w1 = Z.w := ⟨⟨w1, hb1⟩, rfl⟩
          clear hb1
          go_wp2_with (first
            | (go_at_call 10; refine (PL.out _).mono ?_; rintro e w' ⟨rfl, hb⟩; obtain ⟨X2, rfl, hl2, hm2⟩ := later (X1.w.heap.size + 1) hb (by first | exact Nat.le_refl _ | go_size); clear hb; (try simp only [World.size_alloc, World.size_setCell, World.size_drew] at hm2))
            | (go_at_call 19; refine (PS.out _).mono ?_; rintro e w' ⟨rfl, hb⟩; obtain ⟨X3, rfl, hl3, hm3⟩ := later (X2.w.heap.size) hb (by first | exact Nat.le_refl _ | go_size); clear hb; (try simp only [World.size_alloc, World.size_setCell, World.size_drew] at hm3))
            | (go_at_call 13; refine (PK.out _).mono ?_; rintro e w' ⟨rfl, hb⟩; obtain ⟨X4, rfl, hl4, hm4⟩ := later (X3.w.heap.size) hb (by first | exact Nat.le_refl _ | go_size); clear hb; (try simp only [World.size_alloc, World.size_setCell, World.size_drew] at hm4)))
          go_ret
          exact ⟨rfl, by repeat' (first | (with_reducible exact Below.refl _ _) | (with_reducible assumption) | (with_reducible refine Later.step ?_ ?_ _) | (with_reducible refine Below.alloc ?_ ?_ _) | (with_reducible refine Below.drew ?_) | (with_reducible refine bel_drewN ?_ _) | (with_reducible refine bel_grown ?_ (by assumption) ?_ ?_) | (with_reducible refine Below.setCell ?_ ?_ _) | go_size)⟩
      · have PD := Lib.hid (fun Y : World => decode_short op m A n c Y ht hl)
        generalize lengthI op m = l at *
        have hd : ((n : Int) != l) = true := by simpa using hl
        clear hl hr hL
        go_enter Try.func7, Try.ntmps7
        go_wp2_with (first
          | (go_at_call 18; refine (PD.out _).mono ?_; rintro e w' ⟨rfl, hb⟩; obtain ⟨X1, rfl, hl1, hm1⟩ := later (w.heap.size) hb (by first | exact Nat.le_refl _ | go_size); clear hb; (try simp only [World.size_alloc, World.size_setCell, World.size_drew] at hm1))
          | (go_at_call 10; refine (PL.out _).mono ?_; rintro e w' ⟨rfl, hb⟩; obtain ⟨X2, rfl, hl2, hm2⟩ := later (X1.w.heap.size + 1) hb (by first | exact Nat.le_refl _ | go_size); clear hb; (try simp only [World.size_alloc, World.size_setCell, World.size_drew] at hm2))
          | (go_at_call 19; refine (PS.out _).mono ?_; rintro e w' ⟨rfl, hb⟩; obtain ⟨X3, rfl, hl3, hm3⟩ := later (X2.w.heap.size) hb (by first | exact Nat.le_refl _ | go_size); clear hb; (try simp only [World.size_alloc, World.size_setCell, World.size_drew] at hm3))
          | (go_at_call 13; refine (PK.out _).mono ?_; rintro e w' ⟨rfl, hb⟩; obtain ⟨X4, rfl, hl4, hm4⟩ := later (X3.w.heap.size) hb (by first | exact Nat.le_refl _ | go_size); clear hb; (try simp only [World.size_alloc, World.size_setCell, World.size_drew] at hm4)))
        go_ret
        exact ⟨rfl, by repeat' (first | (with_reducible exact Below.refl _ _) | (with_reducible assumption) | (with_reducible refine Later.step ?_ ?_ _) | (with_reducible refine Below.alloc ?_ ?_ _) | (with_reducible refine Below.drew ?_) | (with_reducible refine bel_drewN ?_ _) | (with_reducible refine bel_grown ?_ (by assumption) ?_ ?_) | (with_reducible refine Below.setCell ?_ ?_ _) | go_size)⟩
    · have PD := Lib.hid (fun Y : World => decode_arg op m (.slice A n c) Y ho hm)
      have hc : m < 0 ∨ (¬ m < 0 ∧ 64 < m) := by omega
      clear hm ho hr hL
      rcases hc with hc | ⟨hc, hc2⟩
      all_goals
        go_enter Try.func7, Try.ntmps7
        go_wp2_with (first
          | (go_at_call 18; refine (PD.out _).mono ?_; rintro e w' ⟨rfl, hb⟩; obtain ⟨X1, rfl, hl1, hm1⟩ := later (w.heap.size) hb (by first | exact Nat.le_refl _ | go_size); clear hb; (try simp only [World.size_alloc, World.size_setCell, World.size_drew] at hm1))
          | (go_at_call 13; refine (PK.out _).mono ?_; rintro e w' ⟨rfl, hb⟩; obtain ⟨X4, rfl, hl4, hm4⟩ := later (X1.w.heap.size + 1) hb (by first | exact Nat.le_refl _ | go_size); clear hb; (try simp only [World.size_alloc, World.size_setCell, World.size_drew] at hm4)))
        go_ret
        exact ⟨rfl, by repeat' (first | (with_reducible exact Below.refl _ _) | (with_reducible assumption) | (with_reducible refine Later.step ?_ ?_ _) | (with_reducible refine Below.alloc ?_ ?_ _) | (with_reducible refine Below.drew ?_) | (with_reducible refine bel_drewN ?_ _) | (with_reducible refine bel_grown ?_ (by assumption) ?_ ?_) | (with_reducible refine Below.setCell ?_ ?_ _) | go_size)⟩
  · have PD := Lib.hid (fun Y : World => decode_op op m (.slice A n c) Y ho)
    have hc : op < 1 ∨ (¬ op < 1 ∧ 19 < op) := by omega
    clear ho hr hL
    rcases hc with hc | ⟨hc, hc2⟩
    all_goals
      go_enter Try.func7, Try.ntmps7
      go_wp2_with (first
        | (go_at_call 18; refine (PD.out _).mono ?_; rintro e w' ⟨rfl, hb⟩; obtain ⟨X1, rfl, hl1, hm1⟩ := later (w.heap.size) hb (by first | exact Nat.le_refl _ | go_size); clear hb; (try simp only [World.size_alloc, World.size_setCell, World.size_drew] at hm1))
        | (go_at_call 13; refine (PK.out _).mono ?_; rintro e w' ⟨rfl, hb⟩; obtain ⟨X4, rfl, hl4, hm4⟩ := later (X1.w.heap.size + 1) hb (by first | exact Nat.le_refl _ | go_size); clear hb; (try simp only [World.size_alloc, World.size_setCell, World.size_drew] at hm4)))
      go_ret
      exact ⟨rfl, by repeat' (first | (with_reducible exact Below.refl _ _) | (with_reducible assumption) | (with_reducible refine Later.step ?_ ?_ _) | (with_reducible refine Below.alloc ?_ ?_ _) | (with_reducible refine Below.drew ?_) | (with_reducible refine bel_drewN ?_ _) | (with_reducible refine bel_grown ?_ (by assumption) ?_ ?_) | (with_reducible refine Below.setCell ?_ ?_ _) | go_size)⟩
end Go.Proofs.Ytdjkhcnejbinjaa
