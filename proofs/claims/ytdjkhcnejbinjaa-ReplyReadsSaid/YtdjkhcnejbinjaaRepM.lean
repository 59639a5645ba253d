/- Whether an answer fits, by the document, walked. No condition beyond what the slices read as. -/
import Derived.Test.YtdjkhcnejbinjaaRepL2
namespace Go.Proofs.Ytdjkhcnejbinjaa
open Go.RowKit
set_option linter.unusedSimpArgs false
set_option linter.unusedVariables false
set_option maxRecDepth 2000

theorem leaf_b {D b : Bool} {P : Prop} (h : D = true ↔ P) (hb : b = true ↔ P) : b = D := by rw [Bool.eq_iff_iff, h, hb]
theorem leaf_f {D : Bool} {P : Prop} (h : D = true ↔ P) (hn : ¬ P) : false = D := leaf_b h ⟨fun h => (by cases h), fun h => absurd h hn⟩
theorem leaf_t {D : Bool} {P : Prop} (h : D = true ↔ P) (hp : P) : true = D := leaf_b h ⟨fun _ => hp, fun _ => rfl⟩
def allZ (k id x y lab b0 b1 b2 b3 : Int) : Prop := k = 0 ∧ id = 0 ∧ x = 0 ∧ y = 0 ∧ lab = 0 ∧ b0 = 0 ∧ b1 = 0 ∧ b2 = 0 ∧ b3 = 0
instance (k id x y lab b0 b1 b2 b3 : Int) : Decidable (allZ k id x y lab b0 b1 b2 b3) := by unfold allZ; infer_instance
theorem in_bd (x most : Int) (w : World) : Calls Try.prog 30 #[.int .i64 x, .int .i64 most] w fun e w' => e = .returned (.bool (inB1 most x)) ∧ Below w.heap.size w w' := by
  go_enter Try.func30, Try.ntmps30
  go_wp2
  all_goals
    go_ret
    exact ⟨ret_b (iff_b (by first | (simp [inB1]; done) | (simp [inB1]; omega))), by repeat' (first | (with_reducible exact Below.refl _ _) | (with_reducible assumption) | (with_reducible refine Later.step ?_ ?_ _) | (with_reducible refine Below.alloc ?_ ?_ _) | (with_reducible refine Below.drew ?_) | (with_reducible refine bel_drewN ?_ _) | (with_reducible refine bel_grown ?_ (by assumption) ?_ ?_) | (with_reducible refine Below.setCell ?_ ?_ _) | go_size)⟩
set_option maxHeartbeats 4000000 in
theorem zero_bd (s k id x y lab b0 b1 b2 b3 : Int) (S E : Value) (w : World) : Calls Try.prog 31 #[.agg #[.int .i64 s, .int .u64 k, .int .i64 id, .int .i64 x, .int .i64 y, .int .i64 lab, .int .i64 b0, .int .i64 b1, .int .i64 b2, .int .i64 b3, S, E]] w fun e w' => e = .returned (.bool (decide (allZ k id x y lab b0 b1 b2 b3))) ∧ Below w.heap.size w w' := by
  unfold allZ
  go_enter Try.func31, Try.ntmps31
  go_wp2
  all_goals
    go_ret
    exact ⟨ret_b (by first | exact (decide_eq_true (by omega)).symm | exact (decide_eq_false (by omega)).symm), by repeat' (first | (with_reducible exact Below.refl _ _) | (with_reducible assumption) | (with_reducible refine Later.step ?_ ?_ _) | (with_reducible refine Below.alloc ?_ ?_ _) | (with_reducible refine Below.drew ?_) | (with_reducible refine bel_drewN ?_ _) | (with_reducible refine bel_grown ?_ (by assumption) ?_ ?_) | (with_reducible refine Below.setCell ?_ ?_ _) | go_size)⟩
set_option maxHeartbeats 16000000 in
theorem rfitsA_any (op m s k id x y lab b0 b1 b2 b3 : Int) (A1 A2 : Option Addr) (ns ne c1 c2 : Nat) (f g : Nat → Nat → Int) (w : World) (h1 : IsItems w w.heap.size A1 ns 6 f) (h2 : IsItems w w.heap.size A2 ne 4 g) (hn1 : ns ≤ 9223372036854775807) (hn2 : ne ≤ 9223372036854775807) :
    Calls Try.prog 15 #[.int .i64 op, .int .i64 m, .agg #[.int .i64 s, .int .u64 k, .int .i64 id, .int .i64 x, .int .i64 y, .int .i64 lab, .int .i64 b0, .int .i64 b1, .int .i64 b2, .int .i64 b3, .slice A1 ns c1, .slice A2 ne c2]] w fun e w' => e = .returned (.bool (decide (fitsA op m s k id x y lab b0 b1 b2 b3 ns ne f g))) ∧ Below w.heap.size w w' := by
  have hD : decide (fitsA op m s k id x y lab b0 b1 b2 b3 ns ne f g) = true ↔ fitsA op m s k id x y lab b0 b1 b2 b3 ns ne f g := by rw [decide_eq_true_eq]
  generalize decide (fitsA op m s k id x y lab b0 b1 b2 b3 ns ne f g) = D at *
  unfold fitsA at hD
  have H1 := Lib.hid h1
  have H2 := Lib.hid h2
  clear h1 h2
  have p1 := rthere_any op m
  by_cases ht : thereB op m = true
  · rw [ht] at p1 hD
    have P1 := Lib.hid p1
    have hop : 1 ≤ op ∧ op ≤ 19 ∧ 0 ≤ m ∧ m ≤ 64 := by simp [thereB] at ht; omega
    have p2 := in_bd s 12
    clear p1 ht
    by_cases hs : 0 ≤ s ∧ s ≤ 12
    · rw [show inB1 12 s = true from decide_eq_true hs] at p2
      have P2 := Lib.hid p2
      clear p2
      by_cases h0 : s = 0
      · subst h0
        have hD2 : D = true ↔ onceOk op k id x y lab b0 b1 b2 b3 ∧ itemsOk op m ns ne f g := hD.trans ⟨fun h => h.2.2, fun h => ⟨rfl, hs, h⟩⟩
        clear hD
        have HD := Lib.hid hD2
        clear hD2
        unfold itemsOk at HD
        by_cases hh : headOk op m ns ne
        · have hc := each_cases op
          have hh2 := hh
          unfold headOk at hh
          by_cases hns : 0 < ns
          · have he : eachI op = 11 ∧ ne = 0 := by omega
            obtain ⟨he, rfl⟩ := he
            have p4 := reach20_any op hop.1 hop.2.1
            rw [he] at p4
            have P4 := Lib.hid p4
            have hoo : ¬ (op = 4 ∨ op = 5) ∧ ¬ op = 12 ∧ ¬ op = 10 := by unfold eachI at he; split at he <;> (try split at he) <;> omega
            have hon : onceOk op k id x y lab b0 b1 b2 b3 ↔ allZ k id x y lab b0 b1 b2 b3 := by unfold onceOk; rw [if_neg hoo.1, if_neg hoo.2.1, if_neg hoo.2.2]; exact Iff.rfl
            have e4 : (op == 4) = false := by rw [beq_eq_false_iff_ne]; omega
            have e5 : (op == 5) = false := by rw [beq_eq_false_iff_ne]; omega
            have e12 : (op == 12) = false := by rw [beq_eq_false_iff_ne]; omega
            have e10 : (op == 10) = false := by rw [beq_eq_false_iff_ne]; omega
            have pz := zero_bd 0 k id x y lab b0 b1 b2 b3 (.slice A1 ns c1) (.slice A2 0 c2)
            obtain ⟨tz, htz⟩ : ∃ t, decide (allZ k id x y lab b0 b1 b2 b3) = t := ⟨_, rfl⟩
            rw [htz] at pz
            have iz : tz = true ↔ onceOk op k id x y lab b0 b1 b2 b3 := by rw [← htz, decide_eq_true_eq, hon]
            have PZ := Lib.hid pz
            have IZ := Lib.hid iz
            have HH := Lib.hid hh2
            have hm1 := hh.2.2.1
            have hm2 := hh.2.2.2
            clear p4 he hoo hon pz htz iz hh hh2 hc
            go_enter Try.func15, Try.ntmps15
            go_wp2_with (first
              | (go_at_call 25; with_reducible refine (P1.out _).mono ?_; rintro e w' ⟨rfl, hb⟩; obtain ⟨X1, rfl, hl1, hm1⟩ := later (w.heap.size + 1) hb (by first | exact Nat.le_refl _ | go_size); clear hb; (try simp only [World.size_alloc, World.size_setCell, World.size_drew] at hm1))
              | (go_at_call 30; with_reducible refine (P2.out _).mono ?_; rintro e w' ⟨rfl, hb⟩; obtain ⟨X2, rfl, hl2, hm2⟩ := later (X1.w.heap.size) hb (by first | exact Nat.le_refl _ | go_size); clear hb; (try simp only [World.size_alloc, World.size_setCell, World.size_drew] at hm2))
              | (go_at_call 21; with_reducible refine (P4.out _).mono ?_; rintro e w' ⟨rfl, hb⟩; obtain ⟨X2, rfl, hl2, hm2⟩ := later (X1.w.heap.size) hb (by first | exact Nat.le_refl _ | go_size); clear hb; (try simp only [World.size_alloc, World.size_setCell, World.size_drew] at hm2)))
            have hX2 : w.heap.size + 1 ≤ X2.w.heap.size := by go_size
            go_loopw [7] (fun i wr => ∃ k : Nat, k ≤ ns ∧ i = .int .i64 k ∧ Hid (∀ j, j < k → seenOk f j) ∧ Below (w.heap.size + 1) X2.w wr ∧ X2.w.heap.size ≤ wr.heap.size) (fun i _ => ns - (intOf i).toNat)
            case atStart => exact ⟨0, Nat.zero_le _, rfl, (fun j hj => absurd hj (by omega)), Below.refl _ _, Nat.le_refl _⟩
            case round =>
              obtain ⟨k, hk, rfl, hall, hb, hsz⟩ := hrel
              obtain ⟨X, rfl⟩ : ∃ Z : Later (w.heap.size + 1) X2.w, wr = Z.w := ⟨⟨wr, hb⟩, rfl⟩
              clear hb
              by_cases hlt : k < ns
              · obtain ⟨b, o, rfl, hbl, hc⟩ := H1.out (by omega)
                have k0 := hc k hlt 0 (by omega)
                have k1 := hc k hlt 1 (by omega)
                have k2 := hc k hlt 2 (by omega)
                have k3 := hc k hlt 3 (by omega)
                have k4 := hc k hlt 4 (by omega)
                have k5 := hc k hlt 5 (by omega)
                rw [Nat.add_zero] at k0
                clear hc
                have q0 := in_bd (f k 0) 65535
                obtain ⟨t0, ht0⟩ : ∃ t, inB1 65535 (f k 0) = t := ⟨_, rfl⟩
                rw [ht0] at q0
                have HT0 := Lib.hid ht0
                have Q0 := q0
                clear ht0 q0
                have q1 := in_bd (f k 1) 16
                obtain ⟨t1, ht1⟩ : ∃ t, inB1 16 (f k 1) = t := ⟨_, rfl⟩
                rw [ht1] at q1
                have HT1 := Lib.hid ht1
                have Q1 := q1
                clear ht1 q1
                have q2 := rright_any (f k 2) (f k 3) (f k 4) (f k 5)
                obtain ⟨t2, ht2⟩ : ∃ t, rightB (f k 2) (f k 3) (f k 4) (f k 5) = t := ⟨_, rfl⟩
                rw [ht2] at q2
                have HT2 := Lib.hid ht2
                have Q2 := q2
                clear ht2 q2
                rcases t0 with _ | _
                · have Q0 := Lib.hid Q0
                  clear Q1 Q2
                  go_wp2_with (first
                    | (go_at_call 30; with_reducible refine (Q0.out _).mono ?_; rintro e w' ⟨rfl, hb⟩; obtain ⟨X3, rfl, hl3, hm3⟩ := later (X.w.heap.size) hb (by first | exact Nat.le_refl _ | go_size); clear hb; (try simp only [World.size_alloc, World.size_setCell, World.size_drew] at hm3)))
                  go_ret
                  exact ⟨ret_b (leaf_f HD.out (fun h => by have h9 := (h.2.2.1 k hlt).1; have e := HT0.out; rw [inB1, decide_eq_false_iff_not] at e; exact e h9)), by repeat' (first | (with_reducible exact Below.refl _ _) | (with_reducible assumption) | (with_reducible refine Later.step ?_ ?_ _) | (with_reducible refine Below.alloc ?_ ?_ _) | (with_reducible refine Below.drew ?_) | (with_reducible refine bel_drewN ?_ _) | (with_reducible refine bel_grown ?_ (by assumption) ?_ ?_) | (with_reducible refine Below.setCell ?_ ?_ _) | go_size)⟩
                · skip
                  rcases t1 with _ | _
                  · have Q0 := Lib.hid Q0
                    have Q1 := Lib.hid Q1
                    clear Q2
                    go_wp2_with (first
                      | (go_at_call 30; with_reducible refine (Q0.out _).mono ?_; rintro e w' ⟨rfl, hb⟩; obtain ⟨X3, rfl, hl3, hm3⟩ := later (X.w.heap.size) hb (by first | exact Nat.le_refl _ | go_size); clear hb; (try simp only [World.size_alloc, World.size_setCell, World.size_drew] at hm3))
                      | (go_at_call 30; with_reducible refine (Q1.out _).mono ?_; rintro e w' ⟨rfl, hb⟩; obtain ⟨X4, rfl, hl4, hm4⟩ := later (X3.w.heap.size) hb (by first | exact Nat.le_refl _ | go_size); clear hb; (try simp only [World.size_alloc, World.size_setCell, World.size_drew] at hm4)))
                    go_ret
                    exact ⟨ret_b (leaf_f HD.out (fun h => by have h9 := (h.2.2.1 k hlt).2.1; have e := HT1.out; rw [inB1, decide_eq_false_iff_not] at e; exact e h9)), by repeat' (first | (with_reducible exact Below.refl _ _) | (with_reducible assumption) | (with_reducible refine Later.step ?_ ?_ _) | (with_reducible refine Below.alloc ?_ ?_ _) | (with_reducible refine Below.drew ?_) | (with_reducible refine bel_drewN ?_ _) | (with_reducible refine bel_grown ?_ (by assumption) ?_ ?_) | (with_reducible refine Below.setCell ?_ ?_ _) | go_size)⟩
                  · skip
                    rcases t2 with _ | _
                    · have Q0 := Lib.hid Q0
                      have Q1 := Lib.hid Q1
                      have Q2 := Lib.hid Q2
                      go_wp2_with (first
                        | (go_at_call 30; with_reducible refine (Q0.out _).mono ?_; rintro e w' ⟨rfl, hb⟩; obtain ⟨X3, rfl, hl3, hm3⟩ := later (X.w.heap.size) hb (by first | exact Nat.le_refl _ | go_size); clear hb; (try simp only [World.size_alloc, World.size_setCell, World.size_drew] at hm3))
                        | (go_at_call 30; with_reducible refine (Q1.out _).mono ?_; rintro e w' ⟨rfl, hb⟩; obtain ⟨X4, rfl, hl4, hm4⟩ := later (X3.w.heap.size) hb (by first | exact Nat.le_refl _ | go_size); clear hb; (try simp only [World.size_alloc, World.size_setCell, World.size_drew] at hm4))
                        | (go_at_call 32; with_reducible refine (Q2.out _).mono ?_; rintro e w' ⟨rfl, hb⟩; obtain ⟨X5, rfl, hl5, hm5⟩ := later (X4.w.heap.size) hb (by first | exact Nat.le_refl _ | go_size); clear hb; (try simp only [World.size_alloc, World.size_setCell, World.size_drew] at hm5)))
                      go_ret
                      exact ⟨ret_b (leaf_f HD.out (fun h => by have h9 := (h.2.2.1 k hlt).2.2; have e := HT2.out; rw [e] at h9; cases h9)), by repeat' (first | (with_reducible exact Below.refl _ _) | (with_reducible assumption) | (with_reducible refine Later.step ?_ ?_ _) | (with_reducible refine Below.alloc ?_ ?_ _) | (with_reducible refine Below.drew ?_) | (with_reducible refine bel_drewN ?_ _) | (with_reducible refine bel_grown ?_ (by assumption) ?_ ?_) | (with_reducible refine Below.setCell ?_ ?_ _) | go_size)⟩
                    · skip
                      have Q0 := Lib.hid Q0
                      have Q1 := Lib.hid Q1
                      have Q2 := Lib.hid Q2
                      go_wp2_with (first
                        | (go_at_call 30; with_reducible refine (Q0.out _).mono ?_; rintro e w' ⟨rfl, hb⟩; obtain ⟨X3, rfl, hl3, hm3⟩ := later (X.w.heap.size) hb (by first | exact Nat.le_refl _ | go_size); clear hb; (try simp only [World.size_alloc, World.size_setCell, World.size_drew] at hm3))
                        | (go_at_call 30; with_reducible refine (Q1.out _).mono ?_; rintro e w' ⟨rfl, hb⟩; obtain ⟨X4, rfl, hl4, hm4⟩ := later (X3.w.heap.size) hb (by first | exact Nat.le_refl _ | go_size); clear hb; (try simp only [World.size_alloc, World.size_setCell, World.size_drew] at hm4))
                        | (go_at_call 32; with_reducible refine (Q2.out _).mono ?_; rintro e w' ⟨rfl, hb⟩; obtain ⟨X5, rfl, hl5, hm5⟩ := later (X4.w.heap.size) hb (by first | exact Nat.le_refl _ | go_size); clear hb; (try simp only [World.size_alloc, World.size_setCell, World.size_drew] at hm5)))
                      go_roundw
                      case rel =>
                        have hall3 : ∀ j, j < k + 1 → seenOk f j := fun j hj => by
                          rcases Nat.lt_or_ge j k with h | h
                          · exact hall.out j h
                          · rw [show j = k by omega]
                            exact ⟨of_decide_eq_true HT0.out, of_decide_eq_true HT1.out, HT2.out⟩
                        first
                          | exact ⟨k + 1, by omega, by go_num, hall3, by repeat' (first | (with_reducible exact Below.refl _ _) | (with_reducible assumption) | (with_reducible refine Later.step ?_ ?_ _) | (with_reducible refine Below.alloc ?_ ?_ _) | (with_reducible refine Below.drew ?_) | (with_reducible refine bel_drewN ?_ _) | (with_reducible refine bel_grown ?_ (by assumption) ?_ ?_) | (with_reducible refine Below.setCell ?_ ?_ _) | go_size), by go_size⟩
                          | ((repeat apply Exists.intro); exact ⟨⟨k + 1, by omega, by go_num, hall3, by repeat' (first | (with_reducible exact Below.refl _ _) | (with_reducible assumption) | (with_reducible refine Later.step ?_ ?_ _) | (with_reducible refine Below.alloc ?_ ?_ _) | (with_reducible refine Below.drew ?_) | (with_reducible refine bel_drewN ?_ _) | (with_reducible refine bel_grown ?_ (by assumption) ?_ ?_) | (with_reducible refine Below.setCell ?_ ?_ _) | go_size), by go_size⟩, rfl⟩)
                      case measure => simp [intOf]; omega
              · obtain rfl : k = ns := by omega
                go_wp2
                go_loopw [8] (fun i wr => i = .int .i64 0 ∧ Below (w.heap.size + 1) X.w wr ∧ X.w.heap.size ≤ wr.heap.size) (fun _ _ => 0)
                case atStart => exact ⟨rfl, Below.refl _ _, Nat.le_refl _⟩
                case round =>
                  obtain ⟨rfl, hb, hsz3⟩ := hrel
                  obtain ⟨V, rfl⟩ : ∃ Z : Later (w.heap.size + 1) X.w, wr = Z.w := ⟨⟨wr, hb⟩, rfl⟩
                  clear hb
                  go_wp2_with (first
                    | (go_at_call 31; with_reducible refine (PZ.out _).mono ?_; rintro e w' ⟨rfl, hb⟩; obtain ⟨X8, rfl, hl8, hm8⟩ := later (V.w.heap.size) hb (by first | exact Nat.le_refl _ | go_size); clear hb; (try simp only [World.size_alloc, World.size_setCell, World.size_drew] at hm8)))
                  go_ret
                  exact ⟨ret_b (leaf_b HD.out ⟨fun h => ⟨IZ.out.1 h, HH.out, hall.out, fun j hj => absurd hj (by omega)⟩, fun h => IZ.out.2 h.1⟩), by repeat' (first | (with_reducible exact Below.refl _ _) | (with_reducible assumption) | (with_reducible refine Later.step ?_ ?_ _) | (with_reducible refine Below.alloc ?_ ?_ _) | (with_reducible refine Below.drew ?_) | (with_reducible refine bel_drewN ?_ _) | (with_reducible refine bel_grown ?_ (by assumption) ?_ ?_) | (with_reducible refine Below.setCell ?_ ?_ _) | go_size)⟩
          · by_cases hne : 0 < ne
            · have he : eachI op = 8 ∧ ns = 0 := by omega
              obtain ⟨he, rfl⟩ := he
              have p4 := reach20_any op hop.1 hop.2.1
              rw [he] at p4
              have P4 := Lib.hid p4
              have hoo : ¬ (op = 4 ∨ op = 5) ∧ ¬ op = 12 ∧ ¬ op = 10 := by unfold eachI at he; split at he <;> (try split at he) <;> omega
              have hon : onceOk op k id x y lab b0 b1 b2 b3 ↔ allZ k id x y lab b0 b1 b2 b3 := by unfold onceOk; rw [if_neg hoo.1, if_neg hoo.2.1, if_neg hoo.2.2]; exact Iff.rfl
              have e4 : (op == 4) = false := by rw [beq_eq_false_iff_ne]; omega
              have e5 : (op == 5) = false := by rw [beq_eq_false_iff_ne]; omega
              have e12 : (op == 12) = false := by rw [beq_eq_false_iff_ne]; omega
              have e10 : (op == 10) = false := by rw [beq_eq_false_iff_ne]; omega
              have pz := zero_bd 0 k id x y lab b0 b1 b2 b3 (.slice A1 0 c1) (.slice A2 ne c2)
              obtain ⟨tz, htz⟩ : ∃ t, decide (allZ k id x y lab b0 b1 b2 b3) = t := ⟨_, rfl⟩
              rw [htz] at pz
              have iz : tz = true ↔ onceOk op k id x y lab b0 b1 b2 b3 := by rw [← htz, decide_eq_true_eq, hon]
              have PZ := Lib.hid pz
              have IZ := Lib.hid iz
              have HH := Lib.hid hh2
              have hm1 := hh.2.2.1
              have hm2 := hh.2.2.2
              clear p4 he hoo hon pz htz iz hh hh2 hc
              go_enter Try.func15, Try.ntmps15
              go_wp2_with (first
                | (go_at_call 25; with_reducible refine (P1.out _).mono ?_; rintro e w' ⟨rfl, hb⟩; obtain ⟨X1, rfl, hl1, hm1⟩ := later (w.heap.size + 1) hb (by first | exact Nat.le_refl _ | go_size); clear hb; (try simp only [World.size_alloc, World.size_setCell, World.size_drew] at hm1))
                | (go_at_call 30; with_reducible refine (P2.out _).mono ?_; rintro e w' ⟨rfl, hb⟩; obtain ⟨X2, rfl, hl2, hm2⟩ := later (X1.w.heap.size) hb (by first | exact Nat.le_refl _ | go_size); clear hb; (try simp only [World.size_alloc, World.size_setCell, World.size_drew] at hm2))
                | (go_at_call 21; with_reducible refine (P4.out _).mono ?_; rintro e w' ⟨rfl, hb⟩; obtain ⟨X2, rfl, hl2, hm2⟩ := later (X1.w.heap.size) hb (by first | exact Nat.le_refl _ | go_size); clear hb; (try simp only [World.size_alloc, World.size_setCell, World.size_drew] at hm2)))
              have hX2 : w.heap.size + 1 ≤ X2.w.heap.size := by go_size
              go_loopw [7] (fun i wr => i = .int .i64 0 ∧ Below (w.heap.size + 1) X2.w wr ∧ X2.w.heap.size ≤ wr.heap.size) (fun _ _ => 0)
              case atStart => exact ⟨rfl, Below.refl _ _, Nat.le_refl _⟩
              case round =>
                obtain ⟨rfl, hb, hsz⟩ := hrel
                obtain ⟨V, rfl⟩ : ∃ Z : Later (w.heap.size + 1) X2.w, wr = Z.w := ⟨⟨wr, hb⟩, rfl⟩
                clear hb
                go_wp2
                go_loopw [8] (fun i wr => ∃ k : Nat, k ≤ ne ∧ i = .int .i64 k ∧ Hid (∀ j, j < k → evOk g j) ∧ Below (w.heap.size + 1) V.w wr ∧ V.w.heap.size ≤ wr.heap.size) (fun i _ => ne - (intOf i).toNat)
                case atStart => exact ⟨0, Nat.zero_le _, rfl, (fun j hj => absurd hj (by omega)), Below.refl _ _, Nat.le_refl _⟩
                case round =>
                  obtain ⟨k, hk, rfl, hall, hb, hsz⟩ := hrel
                  obtain ⟨X, rfl⟩ : ∃ Z : Later (w.heap.size + 1) V.w, wr = Z.w := ⟨⟨wr, hb⟩, rfl⟩
                  clear hb
                  by_cases hlt : k < ne
                  · obtain ⟨b, o, rfl, hbl, hc⟩ := H2.out (by omega)
                    have k0 := hc k hlt 0 (by omega)
                    have k1 := hc k hlt 1 (by omega)
                    have k2 := hc k hlt 2 (by omega)
                    have k3 := hc k hlt 3 (by omega)
                    rw [Nat.add_zero] at k0
                    clear hc
                    have q0 := in_bd (g k 0) 65535
                    obtain ⟨t0, ht0⟩ : ∃ t, inB1 65535 (g k 0) = t := ⟨_, rfl⟩
                    rw [ht0] at q0
                    have HT0 := Lib.hid ht0
                    have Q0 := q0
                    clear ht0 q0
                    have q1 := in_bd (g k 1) 255
                    obtain ⟨t1, ht1⟩ : ∃ t, inB1 255 (g k 1) = t := ⟨_, rfl⟩
                    rw [ht1] at q1
                    have HT1 := Lib.hid ht1
                    have Q1 := q1
                    clear ht1 q1
                    have q2 := in_bd (g k 2) 255
                    obtain ⟨t2, ht2⟩ : ∃ t, inB1 255 (g k 2) = t := ⟨_, rfl⟩
                    rw [ht2] at q2
                    have HT2 := Lib.hid ht2
                    have Q2 := q2
                    clear ht2 q2
                    have q3 := in_bd (g k 3) 4294967295
                    obtain ⟨t3, ht3⟩ : ∃ t, inB1 4294967295 (g k 3) = t := ⟨_, rfl⟩
                    rw [ht3] at q3
                    have HT3 := Lib.hid ht3
                    have Q3 := q3
                    clear ht3 q3
                    rcases t0 with _ | _
                    · have Q0 := Lib.hid Q0
                      clear Q1 Q2 Q3
                      go_wp2_with (first
                        | (go_at_call 30; with_reducible refine (Q0.out _).mono ?_; rintro e w' ⟨rfl, hb⟩; obtain ⟨X3, rfl, hl3, hm3⟩ := later (X.w.heap.size + 1) hb (by first | exact Nat.le_refl _ | go_size); clear hb; (try simp only [World.size_alloc, World.size_setCell, World.size_drew] at hm3)))
                      go_ret
                      exact ⟨ret_b (leaf_f HD.out (fun h => by have h9 := (h.2.2.2 k hlt).1; have e := HT0.out; rw [inB1, decide_eq_false_iff_not] at e; exact e h9)), by repeat' (first | (with_reducible exact Below.refl _ _) | (with_reducible assumption) | (with_reducible refine Later.step ?_ ?_ _) | (with_reducible refine Below.alloc ?_ ?_ _) | (with_reducible refine Below.drew ?_) | (with_reducible refine bel_drewN ?_ _) | (with_reducible refine bel_grown ?_ (by assumption) ?_ ?_) | (with_reducible refine Below.setCell ?_ ?_ _) | go_size)⟩
                    · skip
                      rcases t1 with _ | _
                      · have Q0 := Lib.hid Q0
                        have Q1 := Lib.hid Q1
                        clear Q2 Q3
                        go_wp2_with (first
                          | (go_at_call 30; with_reducible refine (Q0.out _).mono ?_; rintro e w' ⟨rfl, hb⟩; obtain ⟨X3, rfl, hl3, hm3⟩ := later (X.w.heap.size + 1) hb (by first | exact Nat.le_refl _ | go_size); clear hb; (try simp only [World.size_alloc, World.size_setCell, World.size_drew] at hm3))
                          | (go_at_call 30; with_reducible refine (Q1.out _).mono ?_; rintro e w' ⟨rfl, hb⟩; obtain ⟨X4, rfl, hl4, hm4⟩ := later (X3.w.heap.size) hb (by first | exact Nat.le_refl _ | go_size); clear hb; (try simp only [World.size_alloc, World.size_setCell, World.size_drew] at hm4)))
                        go_ret
                        exact ⟨ret_b (leaf_f HD.out (fun h => by have h9 := (h.2.2.2 k hlt).2.1.1; have e := HT1.out; rw [inB1, decide_eq_false_iff_not] at e; exact e h9)), by repeat' (first | (with_reducible exact Below.refl _ _) | (with_reducible assumption) | (with_reducible refine Later.step ?_ ?_ _) | (with_reducible refine Below.alloc ?_ ?_ _) | (with_reducible refine Below.drew ?_) | (with_reducible refine bel_drewN ?_ _) | (with_reducible refine bel_grown ?_ (by assumption) ?_ ?_) | (with_reducible refine Below.setCell ?_ ?_ _) | go_size)⟩
                      · skip
                        rcases t2 with _ | _
                        · have Q0 := Lib.hid Q0
                          have Q1 := Lib.hid Q1
                          have Q2 := Lib.hid Q2
                          clear Q3
                          go_wp2_with (first
                            | (go_at_call 30; with_reducible refine (Q0.out _).mono ?_; rintro e w' ⟨rfl, hb⟩; obtain ⟨X3, rfl, hl3, hm3⟩ := later (X.w.heap.size + 1) hb (by first | exact Nat.le_refl _ | go_size); clear hb; (try simp only [World.size_alloc, World.size_setCell, World.size_drew] at hm3))
                            | (go_at_call 30; with_reducible refine (Q1.out _).mono ?_; rintro e w' ⟨rfl, hb⟩; obtain ⟨X4, rfl, hl4, hm4⟩ := later (X3.w.heap.size) hb (by first | exact Nat.le_refl _ | go_size); clear hb; (try simp only [World.size_alloc, World.size_setCell, World.size_drew] at hm4))
                            | (go_at_call 30; with_reducible refine (Q2.out _).mono ?_; rintro e w' ⟨rfl, hb⟩; obtain ⟨X5, rfl, hl5, hm5⟩ := later (X4.w.heap.size) hb (by first | exact Nat.le_refl _ | go_size); clear hb; (try simp only [World.size_alloc, World.size_setCell, World.size_drew] at hm5)))
                          go_ret
                          exact ⟨ret_b (leaf_f HD.out (fun h => by have h9 := (h.2.2.2 k hlt).2.1.2; have e := HT2.out; rw [inB1, decide_eq_false_iff_not] at e; exact e h9)), by repeat' (first | (with_reducible exact Below.refl _ _) | (with_reducible assumption) | (with_reducible refine Later.step ?_ ?_ _) | (with_reducible refine Below.alloc ?_ ?_ _) | (with_reducible refine Below.drew ?_) | (with_reducible refine bel_drewN ?_ _) | (with_reducible refine bel_grown ?_ (by assumption) ?_ ?_) | (with_reducible refine Below.setCell ?_ ?_ _) | go_size)⟩
                        · skip
                          rcases t3 with _ | _
                          · have Q0 := Lib.hid Q0
                            have Q1 := Lib.hid Q1
                            have Q2 := Lib.hid Q2
                            have Q3 := Lib.hid Q3
                            go_wp2_with (first
                              | (go_at_call 30; with_reducible refine (Q0.out _).mono ?_; rintro e w' ⟨rfl, hb⟩; obtain ⟨X3, rfl, hl3, hm3⟩ := later (X.w.heap.size + 1) hb (by first | exact Nat.le_refl _ | go_size); clear hb; (try simp only [World.size_alloc, World.size_setCell, World.size_drew] at hm3))
                              | (go_at_call 30; with_reducible refine (Q1.out _).mono ?_; rintro e w' ⟨rfl, hb⟩; obtain ⟨X4, rfl, hl4, hm4⟩ := later (X3.w.heap.size) hb (by first | exact Nat.le_refl _ | go_size); clear hb; (try simp only [World.size_alloc, World.size_setCell, World.size_drew] at hm4))
                              | (go_at_call 30; with_reducible refine (Q2.out _).mono ?_; rintro e w' ⟨rfl, hb⟩; obtain ⟨X5, rfl, hl5, hm5⟩ := later (X4.w.heap.size) hb (by first | exact Nat.le_refl _ | go_size); clear hb; (try simp only [World.size_alloc, World.size_setCell, World.size_drew] at hm5))
                              | (go_at_call 30; with_reducible refine (Q3.out _).mono ?_; rintro e w' ⟨rfl, hb⟩; obtain ⟨X6, rfl, hl6, hm6⟩ := later (X5.w.heap.size) hb (by first | exact Nat.le_refl _ | go_size); clear hb; (try simp only [World.size_alloc, World.size_setCell, World.size_drew] at hm6)))
                            go_ret
                            exact ⟨ret_b (leaf_f HD.out (fun h => by have h9 := (h.2.2.2 k hlt).2.2; have e := HT3.out; rw [inB1, decide_eq_false_iff_not] at e; exact e h9)), by repeat' (first | (with_reducible exact Below.refl _ _) | (with_reducible assumption) | (with_reducible refine Later.step ?_ ?_ _) | (with_reducible refine Below.alloc ?_ ?_ _) | (with_reducible refine Below.drew ?_) | (with_reducible refine bel_drewN ?_ _) | (with_reducible refine bel_grown ?_ (by assumption) ?_ ?_) | (with_reducible refine Below.setCell ?_ ?_ _) | go_size)⟩
                          · skip
                            have Q0 := Lib.hid Q0
                            have Q1 := Lib.hid Q1
                            have Q2 := Lib.hid Q2
                            have Q3 := Lib.hid Q3
                            go_wp2_with (first
                              | (go_at_call 30; with_reducible refine (Q0.out _).mono ?_; rintro e w' ⟨rfl, hb⟩; obtain ⟨X3, rfl, hl3, hm3⟩ := later (X.w.heap.size + 1) hb (by first | exact Nat.le_refl _ | go_size); clear hb; (try simp only [World.size_alloc, World.size_setCell, World.size_drew] at hm3))
                              | (go_at_call 30; with_reducible refine (Q1.out _).mono ?_; rintro e w' ⟨rfl, hb⟩; obtain ⟨X4, rfl, hl4, hm4⟩ := later (X3.w.heap.size) hb (by first | exact Nat.le_refl _ | go_size); clear hb; (try simp only [World.size_alloc, World.size_setCell, World.size_drew] at hm4))
                              | (go_at_call 30; with_reducible refine (Q2.out _).mono ?_; rintro e w' ⟨rfl, hb⟩; obtain ⟨X5, rfl, hl5, hm5⟩ := later (X4.w.heap.size) hb (by first | exact Nat.le_refl _ | go_size); clear hb; (try simp only [World.size_alloc, World.size_setCell, World.size_drew] at hm5))
                              | (go_at_call 30; with_reducible refine (Q3.out _).mono ?_; rintro e w' ⟨rfl, hb⟩; obtain ⟨X6, rfl, hl6, hm6⟩ := later (X5.w.heap.size) hb (by first | exact Nat.le_refl _ | go_size); clear hb; (try simp only [World.size_alloc, World.size_setCell, World.size_drew] at hm6)))
                            go_roundw
                            case rel =>
                              have hall3 : ∀ j, j < k + 1 → evOk g j := fun j hj => by
                                rcases Nat.lt_or_ge j k with h | h
                                · exact hall.out j h
                                · rw [show j = k by omega]
                                  exact ⟨of_decide_eq_true HT0.out, ⟨of_decide_eq_true HT1.out, of_decide_eq_true HT2.out⟩, of_decide_eq_true HT3.out⟩
                              first
                                | exact ⟨k + 1, by omega, by go_num, hall3, by repeat' (first | (with_reducible exact Below.refl _ _) | (with_reducible assumption) | (with_reducible refine Later.step ?_ ?_ _) | (with_reducible refine Below.alloc ?_ ?_ _) | (with_reducible refine Below.drew ?_) | (with_reducible refine bel_drewN ?_ _) | (with_reducible refine bel_grown ?_ (by assumption) ?_ ?_) | (with_reducible refine Below.setCell ?_ ?_ _) | go_size), by go_size⟩
                                | ((repeat apply Exists.intro); exact ⟨⟨k + 1, by omega, by go_num, hall3, by repeat' (first | (with_reducible exact Below.refl _ _) | (with_reducible assumption) | (with_reducible refine Later.step ?_ ?_ _) | (with_reducible refine Below.alloc ?_ ?_ _) | (with_reducible refine Below.drew ?_) | (with_reducible refine bel_drewN ?_ _) | (with_reducible refine bel_grown ?_ (by assumption) ?_ ?_) | (with_reducible refine Below.setCell ?_ ?_ _) | go_size), by go_size⟩, rfl⟩)
                            case measure => simp [intOf]; omega
                  · obtain rfl : k = ne := by omega
                    go_wp2_with (first
                      | (go_at_call 31; with_reducible refine (PZ.out _).mono ?_; rintro e w' ⟨rfl, hb⟩; obtain ⟨X8, rfl, hl8, hm8⟩ := later (X.w.heap.size) hb (by first | exact Nat.le_refl _ | go_size); clear hb; (try simp only [World.size_alloc, World.size_setCell, World.size_drew] at hm8)))
                    go_ret
                    exact ⟨ret_b (leaf_b HD.out ⟨fun h => ⟨IZ.out.1 h, HH.out, fun j hj => absurd hj (by omega), hall.out⟩, fun h => IZ.out.2 h.1⟩), by repeat' (first | (with_reducible exact Below.refl _ _) | (with_reducible assumption) | (with_reducible refine Later.step ?_ ?_ _) | (with_reducible refine Below.alloc ?_ ?_ _) | (with_reducible refine Below.drew ?_) | (with_reducible refine bel_drewN ?_ _) | (with_reducible refine bel_grown ?_ (by assumption) ?_ ?_) | (with_reducible refine Below.setCell ?_ ?_ _) | go_size)⟩
            · have hz : ns = 0 ∧ ne = 0 := by omega
              obtain ⟨rfl, rfl⟩ := hz
              have HH := Lib.hid hh2
              clear hh hh2 hc hns hne
              by_cases h45 : op = 4 ∨ op = 5
              · have e1 : onceOk op k id x y lab b0 b1 b2 b3 = (id = 0 ∧ x = 0 ∧ y = 0 ∧ lab = 0 ∧ b0 = 0 ∧ b1 = 0 ∧ b2 = 0 ∧ b3 = 0) := by unfold onceOk; rw [if_pos h45]
                rw [e1] at HD
                clear e1
                have pz := zero_bd 0 0 id x y lab b0 b1 b2 b3 (.slice A1 0 c1) (.slice A2 0 c2)
                obtain ⟨tz, htz⟩ : ∃ t, decide (allZ 0 id x y lab b0 b1 b2 b3) = t := ⟨_, rfl⟩
                rw [htz] at pz
                have iz : tz = true ↔ allZ 0 id x y lab b0 b1 b2 b3 := by rw [← htz, decide_eq_true_eq]
                unfold allZ at iz
                have PZ := Lib.hid pz
                have IZ := Lib.hid iz
                clear pz htz iz
                rcases h45 with rfl | rfl
                · skip
                  go_enter Try.func15, Try.ntmps15
                  go_wp2_with (first
                    | (go_at_call 25; with_reducible refine (P1.out _).mono ?_; rintro e w' ⟨rfl, hb⟩; obtain ⟨X1, rfl, hl1, hm1⟩ := later (w.heap.size + 1) hb (by first | exact Nat.le_refl _ | go_size); clear hb; (try simp only [World.size_alloc, World.size_setCell, World.size_drew] at hm1))
                    | (go_at_call 30; with_reducible refine (P2.out _).mono ?_; rintro e w' ⟨rfl, hb⟩; obtain ⟨X2, rfl, hl2, hm2⟩ := later (X1.w.heap.size) hb (by first | exact Nat.le_refl _ | go_size); clear hb; (try simp only [World.size_alloc, World.size_setCell, World.size_drew] at hm2)))
                  have hX2 : w.heap.size + 1 ≤ X2.w.heap.size := by go_size
                  go_loopw [7] (fun i wr => i = .int .i64 0 ∧ Below (w.heap.size + 1) X2.w wr ∧ X2.w.heap.size ≤ wr.heap.size) (fun _ _ => 0)
                  case atStart => exact ⟨rfl, Below.refl _ _, Nat.le_refl _⟩
                  case round =>
                    obtain ⟨rfl, hb, hsz⟩ := hrel
                    obtain ⟨X, rfl⟩ : ∃ Z : Later (w.heap.size + 1) X2.w, wr = Z.w := ⟨⟨wr, hb⟩, rfl⟩
                    clear hb
                    go_wp2
                    go_loopw [8] (fun i wr => i = .int .i64 0 ∧ Below (w.heap.size + 1) X.w wr ∧ X.w.heap.size ≤ wr.heap.size) (fun _ _ => 0)
                    case atStart => exact ⟨rfl, Below.refl _ _, Nat.le_refl _⟩
                    case round =>
                      obtain ⟨rfl, hb, hsz3⟩ := hrel
                      obtain ⟨V, rfl⟩ : ∃ Z : Later (w.heap.size + 1) X.w, wr = Z.w := ⟨⟨wr, hb⟩, rfl⟩
                      clear hb
                      go_wp2_with (first
                        | (go_at_call 31; with_reducible refine (PZ.out _).mono ?_; rintro e w' ⟨rfl, hb⟩; obtain ⟨X8, rfl, hl8, hm8⟩ := later (V.w.heap.size) hb (by first | exact Nat.le_refl _ | go_size); clear hb; (try simp only [World.size_alloc, World.size_setCell, World.size_drew] at hm8)))
                      go_ret
                      exact ⟨ret_b (leaf_b HD.out ⟨fun h => ⟨(IZ.out.1 h).2, HH.out, (fun j hj => absurd hj (by omega)), (fun j hj => absurd hj (by omega))⟩, fun h => IZ.out.2 (by have h9 := h.1; (try simp at h9); (try simp); omega)⟩), by repeat' (first | (with_reducible exact Below.refl _ _) | (with_reducible assumption) | (with_reducible refine Later.step ?_ ?_ _) | (with_reducible refine Below.alloc ?_ ?_ _) | (with_reducible refine Below.drew ?_) | (with_reducible refine bel_drewN ?_ _) | (with_reducible refine bel_grown ?_ (by assumption) ?_ ?_) | (with_reducible refine Below.setCell ?_ ?_ _) | go_size)⟩
                · skip
                  go_enter Try.func15, Try.ntmps15
                  go_wp2_with (first
                    | (go_at_call 25; with_reducible refine (P1.out _).mono ?_; rintro e w' ⟨rfl, hb⟩; obtain ⟨X1, rfl, hl1, hm1⟩ := later (w.heap.size + 1) hb (by first | exact Nat.le_refl _ | go_size); clear hb; (try simp only [World.size_alloc, World.size_setCell, World.size_drew] at hm1))
                    | (go_at_call 30; with_reducible refine (P2.out _).mono ?_; rintro e w' ⟨rfl, hb⟩; obtain ⟨X2, rfl, hl2, hm2⟩ := later (X1.w.heap.size) hb (by first | exact Nat.le_refl _ | go_size); clear hb; (try simp only [World.size_alloc, World.size_setCell, World.size_drew] at hm2)))
                  have hX2 : w.heap.size + 1 ≤ X2.w.heap.size := by go_size
                  go_loopw [7] (fun i wr => i = .int .i64 0 ∧ Below (w.heap.size + 1) X2.w wr ∧ X2.w.heap.size ≤ wr.heap.size) (fun _ _ => 0)
                  case atStart => exact ⟨rfl, Below.refl _ _, Nat.le_refl _⟩
                  case round =>
                    obtain ⟨rfl, hb, hsz⟩ := hrel
                    obtain ⟨X, rfl⟩ : ∃ Z : Later (w.heap.size + 1) X2.w, wr = Z.w := ⟨⟨wr, hb⟩, rfl⟩
                    clear hb
                    go_wp2
                    go_loopw [8] (fun i wr => i = .int .i64 0 ∧ Below (w.heap.size + 1) X.w wr ∧ X.w.heap.size ≤ wr.heap.size) (fun _ _ => 0)
                    case atStart => exact ⟨rfl, Below.refl _ _, Nat.le_refl _⟩
                    case round =>
                      obtain ⟨rfl, hb, hsz3⟩ := hrel
                      obtain ⟨V, rfl⟩ : ∃ Z : Later (w.heap.size + 1) X.w, wr = Z.w := ⟨⟨wr, hb⟩, rfl⟩
                      clear hb
                      go_wp2_with (first
                        | (go_at_call 31; with_reducible refine (PZ.out _).mono ?_; rintro e w' ⟨rfl, hb⟩; obtain ⟨X8, rfl, hl8, hm8⟩ := later (V.w.heap.size) hb (by first | exact Nat.le_refl _ | go_size); clear hb; (try simp only [World.size_alloc, World.size_setCell, World.size_drew] at hm8)))
                      go_ret
                      exact ⟨ret_b (leaf_b HD.out ⟨fun h => ⟨(IZ.out.1 h).2, HH.out, (fun j hj => absurd hj (by omega)), (fun j hj => absurd hj (by omega))⟩, fun h => IZ.out.2 (by have h9 := h.1; (try simp at h9); (try simp); omega)⟩), by repeat' (first | (with_reducible exact Below.refl _ _) | (with_reducible assumption) | (with_reducible refine Later.step ?_ ?_ _) | (with_reducible refine Below.alloc ?_ ?_ _) | (with_reducible refine Below.drew ?_) | (with_reducible refine bel_drewN ?_ _) | (with_reducible refine bel_grown ?_ (by assumption) ?_ ?_) | (with_reducible refine Below.setCell ?_ ?_ _) | go_size)⟩
              · by_cases h12 : op = 12
                · subst h12
                  have e1 : onceOk 12 k id x y lab b0 b1 b2 b3 = (fitsB x y = true ∧ 0 ≤ lab ∧ lab ≤ 7 ∧ k = 0 ∧ id = 0 ∧ b0 = 0 ∧ b1 = 0 ∧ b2 = 0 ∧ b3 = 0) := rfl
                  rw [e1] at HD
                  clear e1 h45
                  have pz := zero_bd 0 k id 0 0 0 b0 b1 b2 b3 (.slice A1 0 c1) (.slice A2 0 c2)
                  obtain ⟨tz, htz⟩ : ∃ t, decide (allZ k id 0 0 0 b0 b1 b2 b3) = t := ⟨_, rfl⟩
                  rw [htz] at pz
                  have iz : tz = true ↔ allZ k id 0 0 0 b0 b1 b2 b3 := by rw [← htz, decide_eq_true_eq]
                  unfold allZ at iz
                  have PZ := Lib.hid pz
                  have IZ := Lib.hid iz
                  clear pz htz iz
                  have q3 := rfits_any x y
                  have q4 := in_bd lab 7
                  obtain ⟨t3, ht3⟩ : ∃ t, fitsB x y = t := ⟨_, rfl⟩
                  obtain ⟨t4, ht4⟩ : ∃ t, inB1 7 lab = t := ⟨_, rfl⟩
                  rw [ht3] at q3 HD
                  rw [ht4] at q4
                  have i4 : t4 = true ↔ (0 ≤ lab ∧ lab ≤ 7) := by rw [← ht4, inB1, decide_eq_true_eq]
                  have I4 := Lib.hid i4
                  have Q3 := Lib.hid q3
                  have Q4 := Lib.hid q4
                  clear ht3 ht4 q3 q4 i4
                  rcases t3 with _ | _
                  · skip
                    go_enter Try.func15, Try.ntmps15
                    go_wp2_with (first
                      | (go_at_call 25; with_reducible refine (P1.out _).mono ?_; rintro e w' ⟨rfl, hb⟩; obtain ⟨X1, rfl, hl1, hm1⟩ := later (w.heap.size + 1) hb (by first | exact Nat.le_refl _ | go_size); clear hb; (try simp only [World.size_alloc, World.size_setCell, World.size_drew] at hm1))
                      | (go_at_call 30; with_reducible refine (P2.out _).mono ?_; rintro e w' ⟨rfl, hb⟩; obtain ⟨X2, rfl, hl2, hm2⟩ := later (X1.w.heap.size) hb (by first | exact Nat.le_refl _ | go_size); clear hb; (try simp only [World.size_alloc, World.size_setCell, World.size_drew] at hm2)))
                    have hX2 : w.heap.size + 1 ≤ X2.w.heap.size := by go_size
                    go_loopw [7] (fun i wr => i = .int .i64 0 ∧ Below (w.heap.size + 1) X2.w wr ∧ X2.w.heap.size ≤ wr.heap.size) (fun _ _ => 0)
                    case atStart => exact ⟨rfl, Below.refl _ _, Nat.le_refl _⟩
                    case round =>
                      obtain ⟨rfl, hb, hsz⟩ := hrel
                      obtain ⟨X, rfl⟩ : ∃ Z : Later (w.heap.size + 1) X2.w, wr = Z.w := ⟨⟨wr, hb⟩, rfl⟩
                      clear hb
                      go_wp2
                      go_loopw [8] (fun i wr => i = .int .i64 0 ∧ Below (w.heap.size + 1) X.w wr ∧ X.w.heap.size ≤ wr.heap.size) (fun _ _ => 0)
                      case atStart => exact ⟨rfl, Below.refl _ _, Nat.le_refl _⟩
                      case round =>
                        obtain ⟨rfl, hb, hsz3⟩ := hrel
                        obtain ⟨V, rfl⟩ : ∃ Z : Later (w.heap.size + 1) X.w, wr = Z.w := ⟨⟨wr, hb⟩, rfl⟩
                        clear hb
                        go_wp2_with (first
                          | (go_at_call 33; with_reducible refine (Q3.out _).mono ?_; rintro e w' ⟨rfl, hb⟩; obtain ⟨X6, rfl, hl6, hm6⟩ := later (V.w.heap.size) hb (by first | exact Nat.le_refl _ | go_size); clear hb; (try simp only [World.size_alloc, World.size_setCell, World.size_drew] at hm6))
                          | (go_at_call 31; with_reducible refine (PZ.out _).mono ?_; rintro e w' ⟨rfl, hb⟩; obtain ⟨X8, rfl, hl8, hm8⟩ := later (V.w.heap.size) hb (by first | exact Nat.le_refl _ | go_size); clear hb; (try simp only [World.size_alloc, World.size_setCell, World.size_drew] at hm8)))
                        go_ret
                        exact ⟨ret_b (leaf_f HD.out (fun h => by have h9 := h.1.1; cases h9)), by repeat' (first | (with_reducible exact Below.refl _ _) | (with_reducible assumption) | (with_reducible refine Later.step ?_ ?_ _) | (with_reducible refine Below.alloc ?_ ?_ _) | (with_reducible refine Below.drew ?_) | (with_reducible refine bel_drewN ?_ _) | (with_reducible refine bel_grown ?_ (by assumption) ?_ ?_) | (with_reducible refine Below.setCell ?_ ?_ _) | go_size)⟩
                  · rcases t4 with _ | _
                    · skip
                      go_enter Try.func15, Try.ntmps15
                      go_wp2_with (first
                        | (go_at_call 25; with_reducible refine (P1.out _).mono ?_; rintro e w' ⟨rfl, hb⟩; obtain ⟨X1, rfl, hl1, hm1⟩ := later (w.heap.size + 1) hb (by first | exact Nat.le_refl _ | go_size); clear hb; (try simp only [World.size_alloc, World.size_setCell, World.size_drew] at hm1))
                        | (go_at_call 30; with_reducible refine (P2.out _).mono ?_; rintro e w' ⟨rfl, hb⟩; obtain ⟨X2, rfl, hl2, hm2⟩ := later (X1.w.heap.size) hb (by first | exact Nat.le_refl _ | go_size); clear hb; (try simp only [World.size_alloc, World.size_setCell, World.size_drew] at hm2)))
                      have hX2 : w.heap.size + 1 ≤ X2.w.heap.size := by go_size
                      go_loopw [7] (fun i wr => i = .int .i64 0 ∧ Below (w.heap.size + 1) X2.w wr ∧ X2.w.heap.size ≤ wr.heap.size) (fun _ _ => 0)
                      case atStart => exact ⟨rfl, Below.refl _ _, Nat.le_refl _⟩
                      case round =>
                        obtain ⟨rfl, hb, hsz⟩ := hrel
                        obtain ⟨X, rfl⟩ : ∃ Z : Later (w.heap.size + 1) X2.w, wr = Z.w := ⟨⟨wr, hb⟩, rfl⟩
                        clear hb
                        go_wp2
                        go_loopw [8] (fun i wr => i = .int .i64 0 ∧ Below (w.heap.size + 1) X.w wr ∧ X.w.heap.size ≤ wr.heap.size) (fun _ _ => 0)
                        case atStart => exact ⟨rfl, Below.refl _ _, Nat.le_refl _⟩
                        case round =>
                          obtain ⟨rfl, hb, hsz3⟩ := hrel
                          obtain ⟨V, rfl⟩ : ∃ Z : Later (w.heap.size + 1) X.w, wr = Z.w := ⟨⟨wr, hb⟩, rfl⟩
                          clear hb
                          go_wp2_with (first
                            | (go_at_call 33; with_reducible refine (Q3.out _).mono ?_; rintro e w' ⟨rfl, hb⟩; obtain ⟨X6, rfl, hl6, hm6⟩ := later (V.w.heap.size) hb (by first | exact Nat.le_refl _ | go_size); clear hb; (try simp only [World.size_alloc, World.size_setCell, World.size_drew] at hm6))
                            | (go_at_call 30; with_reducible refine (Q4.out _).mono ?_; rintro e w' ⟨rfl, hb⟩; obtain ⟨X7, rfl, hl7, hm7⟩ := later (X6.w.heap.size) hb (by first | exact Nat.le_refl _ | go_size); clear hb; (try simp only [World.size_alloc, World.size_setCell, World.size_drew] at hm7))
                            | (go_at_call 31; with_reducible refine (PZ.out _).mono ?_; rintro e w' ⟨rfl, hb⟩; obtain ⟨X8, rfl, hl8, hm8⟩ := later (V.w.heap.size) hb (by first | exact Nat.le_refl _ | go_size); clear hb; (try simp only [World.size_alloc, World.size_setCell, World.size_drew] at hm8)))
                          go_ret
                          exact ⟨ret_b (leaf_f HD.out (fun h => by have h9 := I4.out.2 ⟨h.1.2.1, h.1.2.2.1⟩; cases h9)), by repeat' (first | (with_reducible exact Below.refl _ _) | (with_reducible assumption) | (with_reducible refine Later.step ?_ ?_ _) | (with_reducible refine Below.alloc ?_ ?_ _) | (with_reducible refine Below.drew ?_) | (with_reducible refine bel_drewN ?_ _) | (with_reducible refine bel_grown ?_ (by assumption) ?_ ?_) | (with_reducible refine Below.setCell ?_ ?_ _) | go_size)⟩
                    · skip
                      go_enter Try.func15, Try.ntmps15
                      go_wp2_with (first
                        | (go_at_call 25; with_reducible refine (P1.out _).mono ?_; rintro e w' ⟨rfl, hb⟩; obtain ⟨X1, rfl, hl1, hm1⟩ := later (w.heap.size + 1) hb (by first | exact Nat.le_refl _ | go_size); clear hb; (try simp only [World.size_alloc, World.size_setCell, World.size_drew] at hm1))
                        | (go_at_call 30; with_reducible refine (P2.out _).mono ?_; rintro e w' ⟨rfl, hb⟩; obtain ⟨X2, rfl, hl2, hm2⟩ := later (X1.w.heap.size) hb (by first | exact Nat.le_refl _ | go_size); clear hb; (try simp only [World.size_alloc, World.size_setCell, World.size_drew] at hm2)))
                      have hX2 : w.heap.size + 1 ≤ X2.w.heap.size := by go_size
                      go_loopw [7] (fun i wr => i = .int .i64 0 ∧ Below (w.heap.size + 1) X2.w wr ∧ X2.w.heap.size ≤ wr.heap.size) (fun _ _ => 0)
                      case atStart => exact ⟨rfl, Below.refl _ _, Nat.le_refl _⟩
                      case round =>
                        obtain ⟨rfl, hb, hsz⟩ := hrel
                        obtain ⟨X, rfl⟩ : ∃ Z : Later (w.heap.size + 1) X2.w, wr = Z.w := ⟨⟨wr, hb⟩, rfl⟩
                        clear hb
                        go_wp2
                        go_loopw [8] (fun i wr => i = .int .i64 0 ∧ Below (w.heap.size + 1) X.w wr ∧ X.w.heap.size ≤ wr.heap.size) (fun _ _ => 0)
                        case atStart => exact ⟨rfl, Below.refl _ _, Nat.le_refl _⟩
                        case round =>
                          obtain ⟨rfl, hb, hsz3⟩ := hrel
                          obtain ⟨V, rfl⟩ : ∃ Z : Later (w.heap.size + 1) X.w, wr = Z.w := ⟨⟨wr, hb⟩, rfl⟩
                          clear hb
                          go_wp2_with (first
                            | (go_at_call 33; with_reducible refine (Q3.out _).mono ?_; rintro e w' ⟨rfl, hb⟩; obtain ⟨X6, rfl, hl6, hm6⟩ := later (V.w.heap.size) hb (by first | exact Nat.le_refl _ | go_size); clear hb; (try simp only [World.size_alloc, World.size_setCell, World.size_drew] at hm6))
                            | (go_at_call 30; with_reducible refine (Q4.out _).mono ?_; rintro e w' ⟨rfl, hb⟩; obtain ⟨X7, rfl, hl7, hm7⟩ := later (X6.w.heap.size) hb (by first | exact Nat.le_refl _ | go_size); clear hb; (try simp only [World.size_alloc, World.size_setCell, World.size_drew] at hm7))
                            | (go_at_call 31; with_reducible refine (PZ.out _).mono ?_; rintro e w' ⟨rfl, hb⟩; obtain ⟨X8, rfl, hl8, hm8⟩ := later (V.w.heap.size) hb (by first | exact Nat.le_refl _ | go_size); clear hb; (try simp only [World.size_alloc, World.size_setCell, World.size_drew] at hm8)))
                          go_ret
                          exact ⟨ret_b (leaf_b HD.out ⟨fun h => ⟨⟨by first | rfl | trivial, (I4.out.1 (by first | rfl | trivial)).1, (I4.out.1 (by first | rfl | trivial)).2, by have h9 := IZ.out.1 h; (try simp at h9); omega⟩, HH.out, (fun j hj => absurd hj (by omega)), (fun j hj => absurd hj (by omega))⟩, fun h => IZ.out.2 (by have h9 := h.1; (try simp at h9); (try simp); omega)⟩), by repeat' (first | (with_reducible exact Below.refl _ _) | (with_reducible assumption) | (with_reducible refine Later.step ?_ ?_ _) | (with_reducible refine Below.alloc ?_ ?_ _) | (with_reducible refine Below.drew ?_) | (with_reducible refine bel_drewN ?_ _) | (with_reducible refine bel_grown ?_ (by assumption) ?_ ?_) | (with_reducible refine Below.setCell ?_ ?_ _) | go_size)⟩
                · by_cases h10 : op = 10
                  · subst h10
                    have e1 : onceOk 10 k id x y lab b0 b1 b2 b3 = (rightB b0 b1 b2 b3 = true ∧ k = 0 ∧ id = 0 ∧ x = 0 ∧ y = 0 ∧ lab = 0) := rfl
                    rw [e1] at HD
                    clear e1 h45 h12
                    have pz := zero_bd 0 k id x y lab 0 0 0 0 (.slice A1 0 c1) (.slice A2 0 c2)
                    obtain ⟨tz, htz⟩ : ∃ t, decide (allZ k id x y lab 0 0 0 0) = t := ⟨_, rfl⟩
                    rw [htz] at pz
                    have iz : tz = true ↔ allZ k id x y lab 0 0 0 0 := by rw [← htz, decide_eq_true_eq]
                    unfold allZ at iz
                    have PZ := Lib.hid pz
                    have IZ := Lib.hid iz
                    clear pz htz iz
                    have q3 := rright_any b0 b1 b2 b3
                    obtain ⟨t3, ht3⟩ : ∃ t, rightB b0 b1 b2 b3 = t := ⟨_, rfl⟩
                    rw [ht3] at q3 HD
                    have Q3 := Lib.hid q3
                    clear ht3 q3
                    rcases t3 with _ | _
                    · skip
                      go_enter Try.func15, Try.ntmps15
                      go_wp2_with (first
                        | (go_at_call 25; with_reducible refine (P1.out _).mono ?_; rintro e w' ⟨rfl, hb⟩; obtain ⟨X1, rfl, hl1, hm1⟩ := later (w.heap.size + 1) hb (by first | exact Nat.le_refl _ | go_size); clear hb; (try simp only [World.size_alloc, World.size_setCell, World.size_drew] at hm1))
                        | (go_at_call 30; with_reducible refine (P2.out _).mono ?_; rintro e w' ⟨rfl, hb⟩; obtain ⟨X2, rfl, hl2, hm2⟩ := later (X1.w.heap.size) hb (by first | exact Nat.le_refl _ | go_size); clear hb; (try simp only [World.size_alloc, World.size_setCell, World.size_drew] at hm2)))
                      have hX2 : w.heap.size + 1 ≤ X2.w.heap.size := by go_size
                      go_loopw [7] (fun i wr => i = .int .i64 0 ∧ Below (w.heap.size + 1) X2.w wr ∧ X2.w.heap.size ≤ wr.heap.size) (fun _ _ => 0)
                      case atStart => exact ⟨rfl, Below.refl _ _, Nat.le_refl _⟩
                      case round =>
                        obtain ⟨rfl, hb, hsz⟩ := hrel
                        obtain ⟨X, rfl⟩ : ∃ Z : Later (w.heap.size + 1) X2.w, wr = Z.w := ⟨⟨wr, hb⟩, rfl⟩
                        clear hb
                        go_wp2
                        go_loopw [8] (fun i wr => i = .int .i64 0 ∧ Below (w.heap.size + 1) X.w wr ∧ X.w.heap.size ≤ wr.heap.size) (fun _ _ => 0)
                        case atStart => exact ⟨rfl, Below.refl _ _, Nat.le_refl _⟩
                        case round =>
                          obtain ⟨rfl, hb, hsz3⟩ := hrel
                          obtain ⟨V, rfl⟩ : ∃ Z : Later (w.heap.size + 1) X.w, wr = Z.w := ⟨⟨wr, hb⟩, rfl⟩
                          clear hb
                          go_wp2_with (first
                            | (go_at_call 32; with_reducible refine (Q3.out _).mono ?_; rintro e w' ⟨rfl, hb⟩; obtain ⟨X6, rfl, hl6, hm6⟩ := later (V.w.heap.size) hb (by first | exact Nat.le_refl _ | go_size); clear hb; (try simp only [World.size_alloc, World.size_setCell, World.size_drew] at hm6))
                            | (go_at_call 31; with_reducible refine (PZ.out _).mono ?_; rintro e w' ⟨rfl, hb⟩; obtain ⟨X8, rfl, hl8, hm8⟩ := later (V.w.heap.size) hb (by first | exact Nat.le_refl _ | go_size); clear hb; (try simp only [World.size_alloc, World.size_setCell, World.size_drew] at hm8)))
                          go_ret
                          exact ⟨ret_b (leaf_f HD.out (fun h => by have h9 := h.1.1; cases h9)), by repeat' (first | (with_reducible exact Below.refl _ _) | (with_reducible assumption) | (with_reducible refine Later.step ?_ ?_ _) | (with_reducible refine Below.alloc ?_ ?_ _) | (with_reducible refine Below.drew ?_) | (with_reducible refine bel_drewN ?_ _) | (with_reducible refine bel_grown ?_ (by assumption) ?_ ?_) | (with_reducible refine Below.setCell ?_ ?_ _) | go_size)⟩
                    · skip
                      go_enter Try.func15, Try.ntmps15
                      go_wp2_with (first
                        | (go_at_call 25; with_reducible refine (P1.out _).mono ?_; rintro e w' ⟨rfl, hb⟩; obtain ⟨X1, rfl, hl1, hm1⟩ := later (w.heap.size + 1) hb (by first | exact Nat.le_refl _ | go_size); clear hb; (try simp only [World.size_alloc, World.size_setCell, World.size_drew] at hm1))
                        | (go_at_call 30; with_reducible refine (P2.out _).mono ?_; rintro e w' ⟨rfl, hb⟩; obtain ⟨X2, rfl, hl2, hm2⟩ := later (X1.w.heap.size) hb (by first | exact Nat.le_refl _ | go_size); clear hb; (try simp only [World.size_alloc, World.size_setCell, World.size_drew] at hm2)))
                      have hX2 : w.heap.size + 1 ≤ X2.w.heap.size := by go_size
                      go_loopw [7] (fun i wr => i = .int .i64 0 ∧ Below (w.heap.size + 1) X2.w wr ∧ X2.w.heap.size ≤ wr.heap.size) (fun _ _ => 0)
                      case atStart => exact ⟨rfl, Below.refl _ _, Nat.le_refl _⟩
                      case round =>
                        obtain ⟨rfl, hb, hsz⟩ := hrel
                        obtain ⟨X, rfl⟩ : ∃ Z : Later (w.heap.size + 1) X2.w, wr = Z.w := ⟨⟨wr, hb⟩, rfl⟩
                        clear hb
                        go_wp2
                        go_loopw [8] (fun i wr => i = .int .i64 0 ∧ Below (w.heap.size + 1) X.w wr ∧ X.w.heap.size ≤ wr.heap.size) (fun _ _ => 0)
                        case atStart => exact ⟨rfl, Below.refl _ _, Nat.le_refl _⟩
                        case round =>
                          obtain ⟨rfl, hb, hsz3⟩ := hrel
                          obtain ⟨V, rfl⟩ : ∃ Z : Later (w.heap.size + 1) X.w, wr = Z.w := ⟨⟨wr, hb⟩, rfl⟩
                          clear hb
                          go_wp2_with (first
                            | (go_at_call 32; with_reducible refine (Q3.out _).mono ?_; rintro e w' ⟨rfl, hb⟩; obtain ⟨X6, rfl, hl6, hm6⟩ := later (V.w.heap.size) hb (by first | exact Nat.le_refl _ | go_size); clear hb; (try simp only [World.size_alloc, World.size_setCell, World.size_drew] at hm6))
                            | (go_at_call 31; with_reducible refine (PZ.out _).mono ?_; rintro e w' ⟨rfl, hb⟩; obtain ⟨X8, rfl, hl8, hm8⟩ := later (V.w.heap.size) hb (by first | exact Nat.le_refl _ | go_size); clear hb; (try simp only [World.size_alloc, World.size_setCell, World.size_drew] at hm8)))
                          go_ret
                          exact ⟨ret_b (leaf_b HD.out ⟨fun h => ⟨⟨by first | rfl | trivial, by have h9 := IZ.out.1 h; (try simp at h9); omega⟩, HH.out, (fun j hj => absurd hj (by omega)), (fun j hj => absurd hj (by omega))⟩, fun h => IZ.out.2 (by have h9 := h.1; (try simp at h9); (try simp); omega)⟩), by repeat' (first | (with_reducible exact Below.refl _ _) | (with_reducible assumption) | (with_reducible refine Later.step ?_ ?_ _) | (with_reducible refine Below.alloc ?_ ?_ _) | (with_reducible refine Below.drew ?_) | (with_reducible refine bel_drewN ?_ _) | (with_reducible refine bel_grown ?_ (by assumption) ?_ ?_) | (with_reducible refine Below.setCell ?_ ?_ _) | go_size)⟩
                  · have e1 : onceOk op k id x y lab b0 b1 b2 b3 = allZ k id x y lab b0 b1 b2 b3 := by unfold onceOk; rw [if_neg h45, if_neg h12, if_neg h10]; rfl
                    rw [e1] at HD
                    unfold allZ at HD
                    have e4 : (op == 4) = false := by rw [beq_eq_false_iff_ne]; omega
                    have e5 : (op == 5) = false := by rw [beq_eq_false_iff_ne]; omega
                    have e12 : (op == 12) = false := by rw [beq_eq_false_iff_ne]; omega
                    have e10 : (op == 10) = false := by rw [beq_eq_false_iff_ne]; omega
                    clear e1 h45 h12 h10
                    have pz := zero_bd 0 k id x y lab b0 b1 b2 b3 (.slice A1 0 c1) (.slice A2 0 c2)
                    obtain ⟨tz, htz⟩ : ∃ t, decide (allZ k id x y lab b0 b1 b2 b3) = t := ⟨_, rfl⟩
                    rw [htz] at pz
                    have iz : tz = true ↔ allZ k id x y lab b0 b1 b2 b3 := by rw [← htz, decide_eq_true_eq]
                    unfold allZ at iz
                    have PZ := Lib.hid pz
                    have IZ := Lib.hid iz
                    clear pz htz iz
                    go_enter Try.func15, Try.ntmps15
                    go_wp2_with (first
                      | (go_at_call 25; with_reducible refine (P1.out _).mono ?_; rintro e w' ⟨rfl, hb⟩; obtain ⟨X1, rfl, hl1, hm1⟩ := later (w.heap.size + 1) hb (by first | exact Nat.le_refl _ | go_size); clear hb; (try simp only [World.size_alloc, World.size_setCell, World.size_drew] at hm1))
                      | (go_at_call 30; with_reducible refine (P2.out _).mono ?_; rintro e w' ⟨rfl, hb⟩; obtain ⟨X2, rfl, hl2, hm2⟩ := later (X1.w.heap.size) hb (by first | exact Nat.le_refl _ | go_size); clear hb; (try simp only [World.size_alloc, World.size_setCell, World.size_drew] at hm2)))
                    have hX2 : w.heap.size + 1 ≤ X2.w.heap.size := by go_size
                    go_loopw [7] (fun i wr => i = .int .i64 0 ∧ Below (w.heap.size + 1) X2.w wr ∧ X2.w.heap.size ≤ wr.heap.size) (fun _ _ => 0)
                    case atStart => exact ⟨rfl, Below.refl _ _, Nat.le_refl _⟩
                    case round =>
                      obtain ⟨rfl, hb, hsz⟩ := hrel
                      obtain ⟨X, rfl⟩ : ∃ Z : Later (w.heap.size + 1) X2.w, wr = Z.w := ⟨⟨wr, hb⟩, rfl⟩
                      clear hb
                      go_wp2
                      go_loopw [8] (fun i wr => i = .int .i64 0 ∧ Below (w.heap.size + 1) X.w wr ∧ X.w.heap.size ≤ wr.heap.size) (fun _ _ => 0)
                      case atStart => exact ⟨rfl, Below.refl _ _, Nat.le_refl _⟩
                      case round =>
                        obtain ⟨rfl, hb, hsz3⟩ := hrel
                        obtain ⟨V, rfl⟩ : ∃ Z : Later (w.heap.size + 1) X.w, wr = Z.w := ⟨⟨wr, hb⟩, rfl⟩
                        clear hb
                        go_wp2_with (first
                          | (go_at_call 31; with_reducible refine (PZ.out _).mono ?_; rintro e w' ⟨rfl, hb⟩; obtain ⟨X8, rfl, hl8, hm8⟩ := later (V.w.heap.size) hb (by first | exact Nat.le_refl _ | go_size); clear hb; (try simp only [World.size_alloc, World.size_setCell, World.size_drew] at hm8)))
                        go_ret
                        exact ⟨ret_b (leaf_b HD.out ⟨fun h => ⟨IZ.out.1 h, HH.out, (fun j hj => absurd hj (by omega)), (fun j hj => absurd hj (by omega))⟩, fun h => IZ.out.2 h.1⟩), by repeat' (first | (with_reducible exact Below.refl _ _) | (with_reducible assumption) | (with_reducible refine Later.step ?_ ?_ _) | (with_reducible refine Below.alloc ?_ ?_ _) | (with_reducible refine Below.drew ?_) | (with_reducible refine bel_drewN ?_ _) | (with_reducible refine bel_grown ?_ (by assumption) ?_ ?_) | (with_reducible refine Below.setCell ?_ ?_ _) | go_size)⟩
        · have HN := Lib.hid hh
          have hc := each_cases op
          unfold headOk at hh
          have hb : ¬ (eachI op = 11 ∧ ne = 0 ∧ (ns : Int) ≤ m ∧ (ne : Int) ≤ m) ∧ ¬ (eachI op = 8 ∧ ns = 0 ∧ (ns : Int) ≤ m ∧ (ne : Int) ≤ m) ∧ ¬ (eachI op = 0 ∧ ns = 0 ∧ ne = 0 ∧ (ns : Int) ≤ m ∧ (ne : Int) ≤ m) := by
            refine ⟨fun h => hh ⟨.inl h.1, .inr h.2.1, h.2.2⟩, fun h => hh ⟨.inr h.2.1, .inl h.1, h.2.2⟩, fun h => hh ⟨.inr h.2.1, .inr h.2.2.1, h.2.2.2⟩⟩
          have p4 := reach20_any op hop.1 hop.2.1
          clear hh
          rcases hc with he | he | he
          all_goals
            rw [he] at p4 hb
            have P4 := Lib.hid p4
            clear p4 he
            simp only [true_and, false_and, not_false_eq_true, and_true, Int.reduceEq] at hb
            by_cases hz1 : ns = 0
            all_goals
              by_cases hz2 : ne = 0
              all_goals
                go_enter Try.func15, Try.ntmps15
                go_wp2_with (first
                  | (go_at_call 25; with_reducible refine (P1.out _).mono ?_; rintro e w' ⟨rfl, hb⟩; obtain ⟨X1, rfl, hl1, hm1⟩ := later (w.heap.size + 1) hb (by first | exact Nat.le_refl _ | go_size); clear hb; (try simp only [World.size_alloc, World.size_setCell, World.size_drew] at hm1))
                  | (go_at_call 30; with_reducible refine (P2.out _).mono ?_; rintro e w' ⟨rfl, hb⟩; obtain ⟨X2, rfl, hl2, hm2⟩ := later (X1.w.heap.size) hb (by first | exact Nat.le_refl _ | go_size); clear hb; (try simp only [World.size_alloc, World.size_setCell, World.size_drew] at hm2))
                  | (go_at_call 21; with_reducible refine (P4.out _).mono ?_; rintro e w' ⟨rfl, hb⟩; obtain ⟨X2, rfl, hl2, hm2⟩ := later (X1.w.heap.size) hb (by first | exact Nat.le_refl _ | go_size); clear hb; (try simp only [World.size_alloc, World.size_setCell, World.size_drew] at hm2)))
                all_goals
                  first
                    | (exfalso; omega)
                    | (go_ret; exact ⟨ret_b (leaf_f HD.out (fun h => HN.out h.2.1)), by repeat' (first | (with_reducible exact Below.refl _ _) | (with_reducible assumption) | (with_reducible refine Later.step ?_ ?_ _) | (with_reducible refine Below.alloc ?_ ?_ _) | (with_reducible refine Below.drew ?_) | (with_reducible refine bel_drewN ?_ _) | (with_reducible refine bel_grown ?_ (by assumption) ?_ ?_) | (with_reducible refine Below.setCell ?_ ?_ _) | go_size)⟩)
      · have hD2 : D = true ↔ allZ k id x y lab b0 b1 b2 b3 ∧ ns = 0 ∧ ne = 0 := hD.trans ⟨fun h => by have := h.2.2; rw [if_neg h0] at this; exact this, fun h => ⟨rfl, hs, by rw [if_neg h0]; exact h⟩⟩
        have HD := Lib.hid hD2
        have p3 := zero_bd s k id x y lab b0 b1 b2 b3 (.slice A1 ns c1) (.slice A2 ne c2)
        clear hD hD2
        by_cases hz : allZ k id x y lab b0 b1 b2 b3
        · rw [decide_eq_true hz] at p3
          have P3 := Lib.hid p3
          have HZ := Lib.hid hz
          have hw : wrap64 ((ns : Int) + ne) = 0 ↔ ns = 0 ∧ ne = 0 := by unfold wrap64; omega
          have HWW := Lib.hid hw
          clear p3 hz hw
          go_enter Try.func15, Try.ntmps15
          go_wp2_with (first
            | (go_at_call 25; with_reducible refine (P1.out _).mono ?_; rintro e w' ⟨rfl, hb⟩; obtain ⟨X1, rfl, hl1, hm1⟩ := later (w.heap.size + 1) hb (by first | exact Nat.le_refl _ | go_size); clear hb; (try simp only [World.size_alloc, World.size_setCell, World.size_drew] at hm1))
            | (go_at_call 30; with_reducible refine (P2.out _).mono ?_; rintro e w' ⟨rfl, hb⟩; obtain ⟨X2, rfl, hl2, hm2⟩ := later (X1.w.heap.size) hb (by first | exact Nat.le_refl _ | go_size); clear hb; (try simp only [World.size_alloc, World.size_setCell, World.size_drew] at hm2))
            | (go_at_call 31; with_reducible refine (P3.out _).mono ?_; rintro e w' ⟨rfl, hb⟩; obtain ⟨X3, rfl, hl3, hm3⟩ := later (X2.w.heap.size) hb (by first | exact Nat.le_refl _ | go_size); clear hb; (try simp only [World.size_alloc, World.size_setCell, World.size_drew] at hm3)))
          go_ret
          exact ⟨ret_b (leaf_b HD.out (by rw [beq_iff_eq, HWW.out]; exact ⟨fun h => ⟨HZ.out, h⟩, fun h => h.2⟩)), by repeat' (first | (with_reducible exact Below.refl _ _) | (with_reducible assumption) | (with_reducible refine Later.step ?_ ?_ _) | (with_reducible refine Below.alloc ?_ ?_ _) | (with_reducible refine Below.drew ?_) | (with_reducible refine bel_drewN ?_ _) | (with_reducible refine bel_grown ?_ (by assumption) ?_ ?_) | (with_reducible refine Below.setCell ?_ ?_ _) | go_size)⟩
        · rw [decide_eq_false hz] at p3
          have P3 := Lib.hid p3
          have HZ := Lib.hid hz
          clear p3 hz
          go_enter Try.func15, Try.ntmps15
          go_wp2_with (first
            | (go_at_call 25; with_reducible refine (P1.out _).mono ?_; rintro e w' ⟨rfl, hb⟩; obtain ⟨X1, rfl, hl1, hm1⟩ := later (w.heap.size + 1) hb (by first | exact Nat.le_refl _ | go_size); clear hb; (try simp only [World.size_alloc, World.size_setCell, World.size_drew] at hm1))
            | (go_at_call 30; with_reducible refine (P2.out _).mono ?_; rintro e w' ⟨rfl, hb⟩; obtain ⟨X2, rfl, hl2, hm2⟩ := later (X1.w.heap.size) hb (by first | exact Nat.le_refl _ | go_size); clear hb; (try simp only [World.size_alloc, World.size_setCell, World.size_drew] at hm2))
            | (go_at_call 31; with_reducible refine (P3.out _).mono ?_; rintro e w' ⟨rfl, hb⟩; obtain ⟨X3, rfl, hl3, hm3⟩ := later (X2.w.heap.size) hb (by first | exact Nat.le_refl _ | go_size); clear hb; (try simp only [World.size_alloc, World.size_setCell, World.size_drew] at hm3)))
          go_ret
          exact ⟨ret_b (leaf_f HD.out (fun h => HZ.out h.1)), by repeat' (first | (with_reducible exact Below.refl _ _) | (with_reducible assumption) | (with_reducible refine Later.step ?_ ?_ _) | (with_reducible refine Below.alloc ?_ ?_ _) | (with_reducible refine Below.drew ?_) | (with_reducible refine bel_drewN ?_ _) | (with_reducible refine bel_grown ?_ (by assumption) ?_ ?_) | (with_reducible refine Below.setCell ?_ ?_ _) | go_size)⟩
    · rw [show inB1 12 s = false from decide_eq_false hs] at p2
      have P2 := Lib.hid p2
      have HD := Lib.hid hD
      have HS := Lib.hid hs
      clear p2 hD hs
      go_enter Try.func15, Try.ntmps15
      go_wp2_with (first
        | (go_at_call 25; with_reducible refine (P1.out _).mono ?_; rintro e w' ⟨rfl, hb⟩; obtain ⟨X1, rfl, hl1, hm1⟩ := later (w.heap.size + 1) hb (by first | exact Nat.le_refl _ | go_size); clear hb; (try simp only [World.size_alloc, World.size_setCell, World.size_drew] at hm1))
        | (go_at_call 30; with_reducible refine (P2.out _).mono ?_; rintro e w' ⟨rfl, hb⟩; obtain ⟨X2, rfl, hl2, hm2⟩ := later (X1.w.heap.size) hb (by first | exact Nat.le_refl _ | go_size); clear hb; (try simp only [World.size_alloc, World.size_setCell, World.size_drew] at hm2)))
      go_ret
      exact ⟨ret_b (leaf_f HD.out (fun h => HS.out h.2.1)), by repeat' (first | (with_reducible exact Below.refl _ _) | (with_reducible assumption) | (with_reducible refine Later.step ?_ ?_ _) | (with_reducible refine Below.alloc ?_ ?_ _) | (with_reducible refine Below.drew ?_) | (with_reducible refine bel_drewN ?_ _) | (with_reducible refine bel_grown ?_ (by assumption) ?_ ?_) | (with_reducible refine Below.setCell ?_ ?_ _) | go_size)⟩
  · have htf : thereB op m = false := by simpa using ht
    rw [htf] at p1
    have P1 := Lib.hid p1
    have HD := Lib.hid hD
    have HT := Lib.hid ht
    clear p1 ht htf hD
    go_enter Try.func15, Try.ntmps15
    go_wp2_with (first
      | (go_at_call 25; with_reducible refine (P1.out _).mono ?_; rintro e w' ⟨rfl, hb⟩; obtain ⟨X1, rfl, hl1, hm1⟩ := later (w.heap.size + 1) hb (by first | exact Nat.le_refl _ | go_size); clear hb; (try simp only [World.size_alloc, World.size_setCell, World.size_drew] at hm1)))
    go_ret
    exact ⟨ret_b (leaf_f HD.out (fun h => HT.out h.1)), by repeat' (first | (with_reducible exact Below.refl _ _) | (with_reducible assumption) | (with_reducible refine Later.step ?_ ?_ _) | (with_reducible refine Below.alloc ?_ ?_ _) | (with_reducible refine Below.drew ?_) | (with_reducible refine bel_drewN ?_ _) | (with_reducible refine bel_grown ?_ (by assumption) ?_ ?_) | (with_reducible refine Below.setCell ?_ ?_ _) | go_size)⟩
end Go.Proofs.Ytdjkhcnejbinjaa
