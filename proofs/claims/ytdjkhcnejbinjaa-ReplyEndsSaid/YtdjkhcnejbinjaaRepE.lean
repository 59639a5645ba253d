/- Whether an answer's items fit, walked. No condition beyond what the slices read as. -/
import Derived.Test.YtdjkhcnejbinjaaRepD
namespace Go.Proofs.Ytdjkhcnejbinjaa
open Go.RowKit
set_option linter.unusedSimpArgs false
set_option linter.unusedVariables false
set_option maxRecDepth 2000

/-- Items of so many ints each. -/
def IsItems (w : World) (B : Nat) (A : Option Addr) (n size : Nat) (f : Nat → Nat → Int) : Prop := 0 < n → ∃ b o, A = some ⟨b, o, none⟩ ∧ b < B ∧ ∀ i, i < n → ∀ j, j < size → w.cell? ⟨b, o + i * size + j, none⟩ = some (.int .i64 (f i j))
theorem IsItems.keep {w w' : World} {B n size : Nat} {A : Option Addr} {f : Nat → Nat → Int} (h : IsItems w B A n size f) (hb : Below B w w') : IsItems w' B A n size f := fun hn => by
  obtain ⟨b, o, rfl, hlt, hc⟩ := h hn
  exact ⟨b, o, rfl, hlt, fun i hi j hj => (hb.cell (p := ⟨b, o + i * size + j, none⟩) hlt).trans (hc i hi j hj)⟩
theorem IsItems.more {w : World} {B B' n size : Nat} {A : Option Addr} {f : Nat → Nat → Int} (h : IsItems w B A n size f) (hb : B ≤ B') : IsItems w B' A n size f := fun hn => by
  obtain ⟨b, o, rfl, hlt, hc⟩ := h hn
  exact ⟨b, o, rfl, by omega, hc⟩
def seenOk (f : Nat → Nat → Int) (i : Nat) : Prop := (0 ≤ f i 0 ∧ f i 0 ≤ 65535) ∧ (0 ≤ f i 1 ∧ f i 1 ≤ 16) ∧ rightB (f i 2) (f i 3) (f i 4) (f i 5) = true
def evOk (g : Nat → Nat → Int) (i : Nat) : Prop := (0 ≤ g i 0 ∧ g i 0 ≤ 65535) ∧ ((0 ≤ g i 1 ∧ g i 1 ≤ 255) ∧ (0 ≤ g i 2 ∧ g i 2 ≤ 255)) ∧ (0 ≤ g i 3 ∧ g i 3 ≤ 4294967295)
instance (f : Nat → Nat → Int) (i : Nat) : Decidable (seenOk f i) := by unfold seenOk; infer_instance
instance (f : Nat → Nat → Int) (i : Nat) : Decidable (evOk f i) := by unfold evOk; infer_instance
def headOk (op m : Int) (ns ne : Nat) : Prop := (eachI op = 11 ∨ ns = 0) ∧ (eachI op = 8 ∨ ne = 0) ∧ (ns : Int) ≤ m ∧ (ne : Int) ≤ m
def itemsOk (op m : Int) (ns ne : Nat) (f g : Nat → Nat → Int) : Prop := headOk op m ns ne ∧ (∀ i, i < ns → seenOk f i) ∧ ∀ i, i < ne → evOk g i
instance (op m : Int) (ns ne : Nat) (f g : Nat → Nat → Int) : Decidable (itemsOk op m ns ne f g) := by unfold itemsOk headOk; infer_instance
set_option maxHeartbeats 16000000 in
theorem itemsfit_any (op m s k id x y lab b0 b1 b2 b3 : Int) (A1 A2 : Option Addr) (ns ne c1 c2 : Nat) (f g : Nat → Nat → Int) (w : World) (h1 : IsItems w w.heap.size A1 ns 6 f) (h2 : IsItems w w.heap.size A2 ne 4 g) (hn1 : ns ≤ 9223372036854775807) (hn2 : ne ≤ 9223372036854775807) :
    Calls Try.prog 35 #[.int .i64 op, .int .i64 m, .agg #[.int .i64 s, .int .u64 k, .int .i64 id, .int .i64 x, .int .i64 y, .int .i64 lab, .int .i64 b0, .int .i64 b1, .int .i64 b2, .int .i64 b3, .slice A1 ns c1, .slice A2 ne c2]] w fun e w' => e = .returned (.bool (decide (itemsOk op m ns ne f g))) ∧ Below w.heap.size w w' := by
  have H1 := Lib.hid h1
  have H2 := Lib.hid h2
  have p1 := reach_any op
  clear h1 h2
  by_cases hh : headOk op m ns ne
  · have hh' := Lib.hid hh
    unfold headOk at hh
    have e1 : itemsOk op m ns ne f g = ((∀ i, i < ns → seenOk f i) ∧ ∀ i, i < ne → evOk g i) := by
      unfold itemsOk
      exact propext ⟨fun h => h.2, fun h => ⟨hh'.out, h⟩⟩
    simp only [e1]
    clear e1 hh'
    have hc : (eachI op = 11 ∧ ne = 0) ∨ (eachI op = 8 ∧ ns = 0) ∨ (eachI op = 0 ∧ ns = 0 ∧ ne = 0) := by
      have := each_cases op
      omega
    have hm1 := hh.2.2.1
    have hm2 := hh.2.2.2
    clear hh
    rcases hc with ⟨he, rfl⟩ | ⟨he, rfl⟩ | ⟨he, rfl, rfl⟩
    · rw [he] at p1
      have P1 := Lib.hid p1
      clear p1 he
      go_enter Try.func35, Try.ntmps35
      go_wp2_with (first
        | (go_at_call 24; refine (P1.out _).mono ?_; rintro e w' ⟨rfl, hb⟩; obtain ⟨X1, rfl, hl1, hm1⟩ := later (w.heap.size + 1) hb (by first | exact Nat.le_refl _ | go_size); clear hb; (try simp only [World.size_alloc, World.size_setCell, World.size_drew] at hm1)))
      have hX1 := X1.is.size
      go_loopw [46] (fun i wr => ∃ k : Nat, k ≤ ns ∧ i = .int .i64 k ∧ Hid (∀ j, j < k → seenOk f j) ∧ Below (w.heap.size + 1) X1.w wr ∧ X1.w.heap.size ≤ wr.heap.size) (fun i _ => ns - (intOf i).toNat)
      case atStart => exact ⟨0, Nat.zero_le _, rfl, (fun j hj => absurd hj (by omega)), Below.refl _ _, Nat.le_refl _⟩
      case round =>
        obtain ⟨k, hk, rfl, hall, hb, hsz⟩ := hrel
        obtain ⟨X, rfl⟩ : ∃ Z : Later (w.heap.size + 1) X1.w, wr = Z.w := ⟨⟨wr, hb⟩, rfl⟩
        clear hb
        by_cases hlt : k < ns
        · obtain ⟨b, o, rfl, hbl, hc⟩ := H1.out (by omega)
          have k0 := hc k hlt 0 (by omega)
          have k1 := hc k hlt 1 (by omega)
          have k2 := hc k hlt 2 (by omega)
          have k3 := hc k hlt 3 (by omega)
          have k4 := hc k hlt 4 (by omega)
          have k5 := hc k hlt 5 (by omega)
          rw [Nat.add_zero] at k0
          have q1 := within_one 65535 (f k 0)
          have q2 := within_one 16 (f k 1)
          have q3 := right_any (f k 2) (f k 3) (f k 4) (f k 5)
          obtain ⟨t1, ht1⟩ : ∃ t, inB1 65535 (f k 0) = t := ⟨_, rfl⟩
          obtain ⟨t2, ht2⟩ : ∃ t, inB1 16 (f k 1) = t := ⟨_, rfl⟩
          obtain ⟨t3, ht3⟩ : ∃ t, rightB (f k 2) (f k 3) (f k 4) (f k 5) = t := ⟨_, rfl⟩
          rw [ht1] at q1
          rw [ht2] at q2
          rw [ht3] at q3
          have HT1 := Lib.hid ht1
          have HT2 := Lib.hid ht2
          have HT3 := Lib.hid ht3
          clear ht1 ht2 ht3 hc
          rcases t1 with _ | _
          · have Q1 := Lib.hid q1
            clear q1 q2 q3
            go_wp2_with (first
              | (go_at_call 26; with_reducible refine (Q1.out _ _ (by go_size) (by go_simp)).mono ?_; rintro e w' ⟨rfl, hb⟩; obtain ⟨X2, rfl, hl2, hm2⟩ := later (X.w.heap.size + 1) hb (by first | exact Nat.le_refl _ | go_size); clear hb; (try simp only [World.size_alloc, World.size_setCell, World.size_drew] at hm2)))
            go_ret
            exact ⟨ret_b (decide_eq_false (fun h => by have := (h.1 k hlt).1; have e := HT1.out; rw [inB1, decide_eq_false_iff_not] at e; exact e this)).symm, by repeat' (first | (with_reducible exact Below.refl _ _) | (with_reducible assumption) | (with_reducible refine Later.step ?_ ?_ _) | (with_reducible refine Below.alloc ?_ ?_ _) | (with_reducible refine Below.drew ?_) | (with_reducible refine bel_drewN ?_ _) | (with_reducible refine bel_grown ?_ (by assumption) ?_ ?_) | (with_reducible refine Below.setCell ?_ ?_ _) | go_size)⟩
          · rcases t2 with _ | _
            · have Q1 := Lib.hid q1
              have Q2 := Lib.hid q2
              clear q1 q2 q3
              go_wp2_with (first
                | (go_at_call 26; with_reducible refine (Q1.out _ _ (by go_size) (by go_simp)).mono ?_; rintro e w' ⟨rfl, hb⟩; obtain ⟨X2, rfl, hl2, hm2⟩ := later (X.w.heap.size + 1) hb (by first | exact Nat.le_refl _ | go_size); clear hb; (try simp only [World.size_alloc, World.size_setCell, World.size_drew] at hm2))
                | (go_at_call 26; with_reducible refine (Q2.out _ _ (by go_size) (by go_simp)).mono ?_; rintro e w' ⟨rfl, hb⟩; obtain ⟨X3, rfl, hl3, hm3⟩ := later (X2.w.heap.size) hb (by first | exact Nat.le_refl _ | go_size); clear hb; (try simp only [World.size_alloc, World.size_setCell, World.size_drew] at hm3)))
              go_ret
              exact ⟨ret_b (decide_eq_false (fun h => by have := (h.1 k hlt).2.1; have e := HT2.out; rw [inB1, decide_eq_false_iff_not] at e; exact e this)).symm, by repeat' (first | (with_reducible exact Below.refl _ _) | (with_reducible assumption) | (with_reducible refine Later.step ?_ ?_ _) | (with_reducible refine Below.alloc ?_ ?_ _) | (with_reducible refine Below.drew ?_) | (with_reducible refine bel_drewN ?_ _) | (with_reducible refine bel_grown ?_ (by assumption) ?_ ?_) | (with_reducible refine Below.setCell ?_ ?_ _) | go_size)⟩
            · have Q1 := Lib.hid q1
              have Q2 := Lib.hid q2
              rcases t3 with _ | _
              · have Q3 := Lib.hid q3
                clear q1 q2 q3
                go_wp2_with (first
                  | (go_at_call 26; with_reducible refine (Q1.out _ _ (by go_size) (by go_simp)).mono ?_; rintro e w' ⟨rfl, hb⟩; obtain ⟨X2, rfl, hl2, hm2⟩ := later (X.w.heap.size + 1) hb (by first | exact Nat.le_refl _ | go_size); clear hb; (try simp only [World.size_alloc, World.size_setCell, World.size_drew] at hm2))
                  | (go_at_call 26; with_reducible refine (Q2.out _ _ (by go_size) (by go_simp)).mono ?_; rintro e w' ⟨rfl, hb⟩; obtain ⟨X3, rfl, hl3, hm3⟩ := later (X2.w.heap.size) hb (by first | exact Nat.le_refl _ | go_size); clear hb; (try simp only [World.size_alloc, World.size_setCell, World.size_drew] at hm3))
                  | (go_at_call 46; with_reducible refine (Q3.out _).mono ?_; rintro e w' ⟨rfl, hb⟩; obtain ⟨X4, rfl, hl4, hm4⟩ := later (X3.w.heap.size) hb (by first | exact Nat.le_refl _ | go_size); clear hb; (try simp only [World.size_alloc, World.size_setCell, World.size_drew] at hm4)))
                go_ret
                exact ⟨ret_b (decide_eq_false (fun h => by have := (h.1 k hlt).2.2; rw [HT3.out] at this; cases this)).symm, by repeat' (first | (with_reducible exact Below.refl _ _) | (with_reducible assumption) | (with_reducible refine Later.step ?_ ?_ _) | (with_reducible refine Below.alloc ?_ ?_ _) | (with_reducible refine Below.drew ?_) | (with_reducible refine bel_drewN ?_ _) | (with_reducible refine bel_grown ?_ (by assumption) ?_ ?_) | (with_reducible refine Below.setCell ?_ ?_ _) | go_size)⟩
              · have Q3 := Lib.hid q3
                clear q1 q2 q3
                go_wp2_with (first
                  | (go_at_call 26; with_reducible refine (Q1.out _ _ (by go_size) (by go_simp)).mono ?_; rintro e w' ⟨rfl, hb⟩; obtain ⟨X2, rfl, hl2, hm2⟩ := later (X.w.heap.size + 1) hb (by first | exact Nat.le_refl _ | go_size); clear hb; (try simp only [World.size_alloc, World.size_setCell, World.size_drew] at hm2))
                  | (go_at_call 26; with_reducible refine (Q2.out _ _ (by go_size) (by go_simp)).mono ?_; rintro e w' ⟨rfl, hb⟩; obtain ⟨X3, rfl, hl3, hm3⟩ := later (X2.w.heap.size) hb (by first | exact Nat.le_refl _ | go_size); clear hb; (try simp only [World.size_alloc, World.size_setCell, World.size_drew] at hm3))
                  | (go_at_call 46; with_reducible refine (Q3.out _).mono ?_; rintro e w' ⟨rfl, hb⟩; obtain ⟨X4, rfl, hl4, hm4⟩ := later (X3.w.heap.size) hb (by first | exact Nat.le_refl _ | go_size); clear hb; (try simp only [World.size_alloc, World.size_setCell, World.size_drew] at hm4)))
                go_roundw
                case rel =>
                  refine ⟨k + 1, by omega, by go_num, fun j hj => ?_, by repeat' (first | (with_reducible exact Below.refl _ _) | (with_reducible assumption) | (with_reducible refine Later.step ?_ ?_ _) | (with_reducible refine Below.alloc ?_ ?_ _) | (with_reducible refine Below.drew ?_) | (with_reducible refine bel_drewN ?_ _) | (with_reducible refine bel_grown ?_ (by assumption) ?_ ?_) | (with_reducible refine Below.setCell ?_ ?_ _) | go_size), by go_size⟩
                  rcases Nat.lt_or_ge j k with h | h
                  · exact hall.out j h
                  · rw [show j = k by omega]
                    exact ⟨of_decide_eq_true HT1.out, of_decide_eq_true HT2.out, HT3.out⟩
                case measure => simp [intOf]; omega
        · obtain rfl : k = ns := by omega
          go_wp2
          skip
          go_loopw [72] (fun i wr => ∃ k : Nat, k ≤ 0 ∧ i = .int .i64 k ∧ Hid (∀ j, j < k → evOk g j) ∧ Below (w.heap.size + 1) X.w wr ∧ X.w.heap.size ≤ wr.heap.size) (fun i _ => 0 - (intOf i).toNat)
          case atStart => exact ⟨0, Nat.zero_le _, rfl, (fun j hj => absurd hj (by omega)), Below.refl _ _, Nat.le_refl _⟩
          case round =>
            obtain ⟨k, hk, rfl, hall2, hb, hsz2⟩ := hrel
            obtain ⟨W, rfl⟩ : ∃ Z : Later (w.heap.size + 1) X.w, wr = Z.w := ⟨⟨wr, hb⟩, rfl⟩
            clear hb
            by_cases hlt : k < 0
            · exact absurd hlt (by omega)
            · obtain rfl : k = 0 := by omega
              go_wp2
              go_ret
              exact ⟨ret_b (decide_eq_true ⟨hall.out, hall2.out⟩).symm, by repeat' (first | (with_reducible exact Below.refl _ _) | (with_reducible assumption) | (with_reducible refine Later.step ?_ ?_ _) | (with_reducible refine Below.alloc ?_ ?_ _) | (with_reducible refine Below.drew ?_) | (with_reducible refine bel_drewN ?_ _) | (with_reducible refine bel_grown ?_ (by assumption) ?_ ?_) | (with_reducible refine Below.setCell ?_ ?_ _) | go_size)⟩
    · rw [he] at p1
      have P1 := Lib.hid p1
      clear p1 he
      go_enter Try.func35, Try.ntmps35
      go_wp2_with (first
        | (go_at_call 24; refine (P1.out _).mono ?_; rintro e w' ⟨rfl, hb⟩; obtain ⟨X1, rfl, hl1, hm1⟩ := later (w.heap.size + 1) hb (by first | exact Nat.le_refl _ | go_size); clear hb; (try simp only [World.size_alloc, World.size_setCell, World.size_drew] at hm1)))
      have hX1 := X1.is.size
      go_loopw [46] (fun i wr => ∃ k : Nat, k ≤ 0 ∧ i = .int .i64 k ∧ Hid (∀ j, j < k → seenOk f j) ∧ Below (w.heap.size + 1) X1.w wr ∧ X1.w.heap.size ≤ wr.heap.size) (fun i _ => 0 - (intOf i).toNat)
      case atStart => exact ⟨0, Nat.zero_le _, rfl, (fun j hj => absurd hj (by omega)), Below.refl _ _, Nat.le_refl _⟩
      case round =>
        obtain ⟨k, hk, rfl, hall, hb, hsz⟩ := hrel
        obtain ⟨X, rfl⟩ : ∃ Z : Later (w.heap.size + 1) X1.w, wr = Z.w := ⟨⟨wr, hb⟩, rfl⟩
        clear hb
        by_cases hlt : k < 0
        · exact absurd hlt (by omega)
        · obtain rfl : k = 0 := by omega
          go_wp2
          skip
          go_loopw [72] (fun i wr => ∃ k : Nat, k ≤ ne ∧ i = .int .i64 k ∧ Hid (∀ j, j < k → evOk g j) ∧ Below (w.heap.size + 1) X.w wr ∧ X.w.heap.size ≤ wr.heap.size) (fun i _ => ne - (intOf i).toNat)
          case atStart => exact ⟨0, Nat.zero_le _, rfl, (fun j hj => absurd hj (by omega)), Below.refl _ _, Nat.le_refl _⟩
          case round =>
            obtain ⟨k, hk, rfl, hall2, hb, hsz2⟩ := hrel
            obtain ⟨W, rfl⟩ : ∃ Z : Later (w.heap.size + 1) X.w, wr = Z.w := ⟨⟨wr, hb⟩, rfl⟩
            clear hb
            by_cases hlt : k < ne
            · obtain ⟨b, o, rfl, hbl, hc⟩ := H2.out (by omega)
              have k0 := hc k hlt 0 (by omega)
              have k1 := hc k hlt 1 (by omega)
              have k2 := hc k hlt 2 (by omega)
              have k3 := hc k hlt 3 (by omega)
              rw [Nat.add_zero] at k0
              have q1 := within_one 65535 (g k 0)
              have q2 := within_two 255 (g k 1) (g k 2)
              have q3 := within_one 4294967295 (g k 3)
              obtain ⟨t1, ht1⟩ : ∃ t, inB1 65535 (g k 0) = t := ⟨_, rfl⟩
              obtain ⟨t2, ht2⟩ : ∃ t, (inB1 255 (g k 1) && inB1 255 (g k 2)) = t := ⟨_, rfl⟩
              obtain ⟨t3, ht3⟩ : ∃ t, inB1 4294967295 (g k 3) = t := ⟨_, rfl⟩
              rw [ht1] at q1
              rw [ht2] at q2
              rw [ht3] at q3
              have HT1 := Lib.hid ht1
              have HT2 := Lib.hid ht2
              have HT3 := Lib.hid ht3
              clear ht1 ht2 ht3 hc
              rcases t1 with _ | _
              · have Q1 := Lib.hid q1
                clear q1 q2 q3
                go_wp2_with (first
                  | (go_at_call 26; with_reducible refine (Q1.out _ _ (by go_size) (by go_simp)).mono ?_; rintro e w' ⟨rfl, hb⟩; obtain ⟨X2, rfl, hl2, hm2⟩ := later (W.w.heap.size + 1) hb (by first | exact Nat.le_refl _ | go_size); clear hb; (try simp only [World.size_alloc, World.size_setCell, World.size_drew] at hm2)))
                go_ret
                exact ⟨ret_b (decide_eq_false (fun h => by have := (h.2 k hlt).1; have e := HT1.out; rw [inB1, decide_eq_false_iff_not] at e; exact e this)).symm, by repeat' (first | (with_reducible exact Below.refl _ _) | (with_reducible assumption) | (with_reducible refine Later.step ?_ ?_ _) | (with_reducible refine Below.alloc ?_ ?_ _) | (with_reducible refine Below.drew ?_) | (with_reducible refine bel_drewN ?_ _) | (with_reducible refine bel_grown ?_ (by assumption) ?_ ?_) | (with_reducible refine Below.setCell ?_ ?_ _) | go_size)⟩
              · rcases t2 with _ | _
                · have Q1 := Lib.hid q1
                  have Q2 := Lib.hid q2
                  clear q1 q2 q3
                  go_wp2_with (first
                    | (go_at_call 26; with_reducible refine (Q1.out _ _ (by go_size) (by go_simp)).mono ?_; rintro e w' ⟨rfl, hb⟩; obtain ⟨X2, rfl, hl2, hm2⟩ := later (W.w.heap.size + 1) hb (by first | exact Nat.le_refl _ | go_size); clear hb; (try simp only [World.size_alloc, World.size_setCell, World.size_drew] at hm2))
                    | (go_at_call 26; with_reducible refine (Q2.out _ _ (by go_size) (by go_simp) (by go_simp)).mono ?_; rintro e w' ⟨rfl, hb⟩; obtain ⟨X3, rfl, hl3, hm3⟩ := later (X2.w.heap.size) hb (by first | exact Nat.le_refl _ | go_size); clear hb; (try simp only [World.size_alloc, World.size_setCell, World.size_drew] at hm3)))
                  go_ret
                  exact ⟨ret_b (decide_eq_false (fun h => by have h9 := (h.2 k hlt).2.1; have e := HT2.out; rw [inB1, inB1, decide_eq_true h9.1, decide_eq_true h9.2] at e; cases e)).symm, by repeat' (first | (with_reducible exact Below.refl _ _) | (with_reducible assumption) | (with_reducible refine Later.step ?_ ?_ _) | (with_reducible refine Below.alloc ?_ ?_ _) | (with_reducible refine Below.drew ?_) | (with_reducible refine bel_drewN ?_ _) | (with_reducible refine bel_grown ?_ (by assumption) ?_ ?_) | (with_reducible refine Below.setCell ?_ ?_ _) | go_size)⟩
                · have Q1 := Lib.hid q1
                  have Q2 := Lib.hid q2
                  rcases t3 with _ | _
                  · have Q3 := Lib.hid q3
                    clear q1 q2 q3
                    go_wp2_with (first
                      | (go_at_call 26; with_reducible refine (Q1.out _ _ (by go_size) (by go_simp)).mono ?_; rintro e w' ⟨rfl, hb⟩; obtain ⟨X2, rfl, hl2, hm2⟩ := later (W.w.heap.size + 1) hb (by first | exact Nat.le_refl _ | go_size); clear hb; (try simp only [World.size_alloc, World.size_setCell, World.size_drew] at hm2))
                      | (go_at_call 26; with_reducible refine (Q2.out _ _ (by go_size) (by go_simp) (by go_simp)).mono ?_; rintro e w' ⟨rfl, hb⟩; obtain ⟨X3, rfl, hl3, hm3⟩ := later (X2.w.heap.size) hb (by first | exact Nat.le_refl _ | go_size); clear hb; (try simp only [World.size_alloc, World.size_setCell, World.size_drew] at hm3))
                      | (go_at_call 26; with_reducible refine (Q3.out _ _ (by go_size) (by go_simp)).mono ?_; rintro e w' ⟨rfl, hb⟩; obtain ⟨X4, rfl, hl4, hm4⟩ := later (X3.w.heap.size) hb (by first | exact Nat.le_refl _ | go_size); clear hb; (try simp only [World.size_alloc, World.size_setCell, World.size_drew] at hm4)))
                    go_ret
                    exact ⟨ret_b (decide_eq_false (fun h => by have := (h.2 k hlt).2.2; have e := HT3.out; rw [inB1, decide_eq_false_iff_not] at e; exact e this)).symm, by repeat' (first | (with_reducible exact Below.refl _ _) | (with_reducible assumption) | (with_reducible refine Later.step ?_ ?_ _) | (with_reducible refine Below.alloc ?_ ?_ _) | (with_reducible refine Below.drew ?_) | (with_reducible refine bel_drewN ?_ _) | (with_reducible refine bel_grown ?_ (by assumption) ?_ ?_) | (with_reducible refine Below.setCell ?_ ?_ _) | go_size)⟩
                  · have Q3 := Lib.hid q3
                    clear q1 q2 q3
                    go_wp2_with (first
                      | (go_at_call 26; with_reducible refine (Q1.out _ _ (by go_size) (by go_simp)).mono ?_; rintro e w' ⟨rfl, hb⟩; obtain ⟨X2, rfl, hl2, hm2⟩ := later (W.w.heap.size + 1) hb (by first | exact Nat.le_refl _ | go_size); clear hb; (try simp only [World.size_alloc, World.size_setCell, World.size_drew] at hm2))
                      | (go_at_call 26; with_reducible refine (Q2.out _ _ (by go_size) (by go_simp) (by go_simp)).mono ?_; rintro e w' ⟨rfl, hb⟩; obtain ⟨X3, rfl, hl3, hm3⟩ := later (X2.w.heap.size) hb (by first | exact Nat.le_refl _ | go_size); clear hb; (try simp only [World.size_alloc, World.size_setCell, World.size_drew] at hm3))
                      | (go_at_call 26; with_reducible refine (Q3.out _ _ (by go_size) (by go_simp)).mono ?_; rintro e w' ⟨rfl, hb⟩; obtain ⟨X4, rfl, hl4, hm4⟩ := later (X3.w.heap.size) hb (by first | exact Nat.le_refl _ | go_size); clear hb; (try simp only [World.size_alloc, World.size_setCell, World.size_drew] at hm4)))
                    go_roundw
                    case rel =>
                      have e2 := HT2.out
                      rw [Bool.and_eq_true] at e2
                      have hall3 : ∀ j, j < k + 1 → evOk g j := fun j hj => by
                        rcases Nat.lt_or_ge j k with h | h
                        · exact hall2.out j h
                        · rw [show j = k by omega]
                          exact ⟨of_decide_eq_true HT1.out, ⟨of_decide_eq_true e2.1, of_decide_eq_true e2.2⟩, of_decide_eq_true HT3.out⟩
                      first
                        | exact ⟨k + 1, by omega, by go_num, hall3, by repeat' (first | (with_reducible exact Below.refl _ _) | (with_reducible assumption) | (with_reducible refine Later.step ?_ ?_ _) | (with_reducible refine Below.alloc ?_ ?_ _) | (with_reducible refine Below.drew ?_) | (with_reducible refine bel_drewN ?_ _) | (with_reducible refine bel_grown ?_ (by assumption) ?_ ?_) | (with_reducible refine Below.setCell ?_ ?_ _) | go_size), by go_size⟩
                        | ((repeat apply Exists.intro); exact ⟨⟨k + 1, by omega, by go_num, hall3, by repeat' (first | (with_reducible exact Below.refl _ _) | (with_reducible assumption) | (with_reducible refine Later.step ?_ ?_ _) | (with_reducible refine Below.alloc ?_ ?_ _) | (with_reducible refine Below.drew ?_) | (with_reducible refine bel_drewN ?_ _) | (with_reducible refine bel_grown ?_ (by assumption) ?_ ?_) | (with_reducible refine Below.setCell ?_ ?_ _) | go_size), by go_size⟩, rfl⟩)
                    case measure => simp [intOf]; omega
            · obtain rfl : k = ne := by omega
              go_wp2
              go_ret
              exact ⟨ret_b (decide_eq_true ⟨hall.out, hall2.out⟩).symm, by repeat' (first | (with_reducible exact Below.refl _ _) | (with_reducible assumption) | (with_reducible refine Later.step ?_ ?_ _) | (with_reducible refine Below.alloc ?_ ?_ _) | (with_reducible refine Below.drew ?_) | (with_reducible refine bel_drewN ?_ _) | (with_reducible refine bel_grown ?_ (by assumption) ?_ ?_) | (with_reducible refine Below.setCell ?_ ?_ _) | go_size)⟩
    · rw [he] at p1
      have P1 := Lib.hid p1
      clear p1 he
      go_enter Try.func35, Try.ntmps35
      go_wp2_with (first
        | (go_at_call 24; refine (P1.out _).mono ?_; rintro e w' ⟨rfl, hb⟩; obtain ⟨X1, rfl, hl1, hm1⟩ := later (w.heap.size + 1) hb (by first | exact Nat.le_refl _ | go_size); clear hb; (try simp only [World.size_alloc, World.size_setCell, World.size_drew] at hm1)))
      have hX1 := X1.is.size
      go_loopw [46] (fun i wr => ∃ k : Nat, k ≤ 0 ∧ i = .int .i64 k ∧ Hid (∀ j, j < k → seenOk f j) ∧ Below (w.heap.size + 1) X1.w wr ∧ X1.w.heap.size ≤ wr.heap.size) (fun i _ => 0 - (intOf i).toNat)
      case atStart => exact ⟨0, Nat.zero_le _, rfl, (fun j hj => absurd hj (by omega)), Below.refl _ _, Nat.le_refl _⟩
      case round =>
        obtain ⟨k, hk, rfl, hall, hb, hsz⟩ := hrel
        obtain ⟨X, rfl⟩ : ∃ Z : Later (w.heap.size + 1) X1.w, wr = Z.w := ⟨⟨wr, hb⟩, rfl⟩
        clear hb
        by_cases hlt : k < 0
        · exact absurd hlt (by omega)
        · obtain rfl : k = 0 := by omega
          go_wp2
          skip
          go_loopw [72] (fun i wr => ∃ k : Nat, k ≤ 0 ∧ i = .int .i64 k ∧ Hid (∀ j, j < k → evOk g j) ∧ Below (w.heap.size + 1) X.w wr ∧ X.w.heap.size ≤ wr.heap.size) (fun i _ => 0 - (intOf i).toNat)
          case atStart => exact ⟨0, Nat.zero_le _, rfl, (fun j hj => absurd hj (by omega)), Below.refl _ _, Nat.le_refl _⟩
          case round =>
            obtain ⟨k, hk, rfl, hall2, hb, hsz2⟩ := hrel
            obtain ⟨W, rfl⟩ : ∃ Z : Later (w.heap.size + 1) X.w, wr = Z.w := ⟨⟨wr, hb⟩, rfl⟩
            clear hb
            by_cases hlt : k < 0
            · exact absurd hlt (by omega)
            · obtain rfl : k = 0 := by omega
              go_wp2
              go_ret
              exact ⟨ret_b (decide_eq_true ⟨hall.out, hall2.out⟩).symm, by repeat' (first | (with_reducible exact Below.refl _ _) | (with_reducible assumption) | (with_reducible refine Later.step ?_ ?_ _) | (with_reducible refine Below.alloc ?_ ?_ _) | (with_reducible refine Below.drew ?_) | (with_reducible refine bel_drewN ?_ _) | (with_reducible refine bel_grown ?_ (by assumption) ?_ ?_) | (with_reducible refine Below.setCell ?_ ?_ _) | go_size)⟩
  · have e1 : itemsOk op m ns ne f g = False := by
      unfold itemsOk
      exact propext ⟨fun h => hh h.1, fun h => h.elim⟩
    simp only [e1]
    clear e1
    unfold headOk at hh
    have hc := each_cases op
    have hb : ¬ (eachI op = 11 ∧ ne = 0 ∧ (ns : Int) ≤ m ∧ (ne : Int) ≤ m) ∧ ¬ (eachI op = 8 ∧ ns = 0 ∧ (ns : Int) ≤ m ∧ (ne : Int) ≤ m) ∧ ¬ (eachI op = 0 ∧ ns = 0 ∧ ne = 0 ∧ (ns : Int) ≤ m ∧ (ne : Int) ≤ m) := by
      refine ⟨fun h => hh ⟨.inl h.1, .inr h.2.1, h.2.2⟩, fun h => hh ⟨.inr h.2.1, .inl h.1, h.2.2⟩, fun h => hh ⟨.inr h.2.1, .inr h.2.2.1, h.2.2.2⟩⟩
    clear hh
    rcases hc with he | he | he
    all_goals
      rw [he] at p1 hb
      have P1 := Lib.hid p1
      clear p1 he
      simp only [true_and, false_and, not_false_eq_true, and_true, Int.reduceEq] at hb
      by_cases hz1 : ns = 0
      all_goals
        by_cases hz2 : ne = 0
        all_goals
          have hb' := Lib.hid hb
          go_enter Try.func35, Try.ntmps35
          go_wp2_with (first
            | (go_at_call 24; refine (P1.out _).mono ?_; rintro e w' ⟨rfl, hb⟩; obtain ⟨X1, rfl, hl1, hm1⟩ := later (w.heap.size + 1) hb (by first | exact Nat.le_refl _ | go_size); clear hb; (try simp only [World.size_alloc, World.size_setCell, World.size_drew] at hm1)))
          all_goals
            first
              | (exfalso; omega)
              | (go_ret; exact ⟨ret_b (by simp), by repeat' (first | (with_reducible exact Below.refl _ _) | (with_reducible assumption) | (with_reducible refine Later.step ?_ ?_ _) | (with_reducible refine Below.alloc ?_ ?_ _) | (with_reducible refine Below.drew ?_) | (with_reducible refine bel_drewN ?_ _) | (with_reducible refine bel_grown ?_ (by assumption) ?_ ?_) | (with_reducible refine Below.setCell ?_ ?_ _) | go_size)⟩)
end Go.Proofs.Ytdjkhcnejbinjaa
