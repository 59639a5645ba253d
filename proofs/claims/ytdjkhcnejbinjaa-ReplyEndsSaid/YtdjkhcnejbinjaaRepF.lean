/- Whether an answer fits, walked whole; what an answer has is put. No condition beyond what the slices read as. -/
import Derived.Test.YtdjkhcnejbinjaaRepE
namespace Go.Proofs.Ytdjkhcnejbinjaa
open Go.RowKit
set_option linter.unusedSimpArgs false
set_option linter.unusedVariables false
set_option maxRecDepth 2000

/-- An answer fits. -/
def fitsA (op m s k id x y lab b0 b1 b2 b3 : Int) (ns ne : Nat) (f g : Nat → Nat → Int) : Prop :=
  thereB op m = true ∧ (0 ≤ s ∧ s ≤ 12) ∧ if s = 0 then onceOk op k id x y lab b0 b1 b2 b3 ∧ itemsOk op m ns ne f g else onceOk 0 k id x y lab b0 b1 b2 b3 ∧ ns = 0 ∧ ne = 0
instance (op m s k id x y lab b0 b1 b2 b3 : Int) (ns ne : Nat) (f g : Nat → Nat → Int) : Decidable (fitsA op m s k id x y lab b0 b1 b2 b3 ns ne f g) := by unfold fitsA; infer_instance
theorem cast_z (n : Nat) : ((n : Int) == 0) = decide (n = 0) := by
  rw [Bool.eq_iff_iff, beq_iff_eq, decide_eq_true_eq]
  omega
set_option maxHeartbeats 16000000 in
theorem fitsA_any (op m s k id x y lab b0 b1 b2 b3 : Int) (A1 A2 : Option Addr) (ns ne c1 c2 : Nat) (f g : Nat → Nat → Int) (w : World) (h1 : IsItems w w.heap.size A1 ns 6 f) (h2 : IsItems w w.heap.size A2 ne 4 g) (hn1 : ns ≤ 9223372036854775807) (hn2 : ne ≤ 9223372036854775807) :
    Calls Try.prog 16 #[.int .i64 op, .int .i64 m, .agg #[.int .i64 s, .int .u64 k, .int .i64 id, .int .i64 x, .int .i64 y, .int .i64 lab, .int .i64 b0, .int .i64 b1, .int .i64 b2, .int .i64 b3, .slice A1 ns c1, .slice A2 ne c2]] w fun e w' => e = .returned (.bool (decide (fitsA op m s k id x y lab b0 b1 b2 b3 ns ne f g))) ∧ Below w.heap.size w w' := by
  obtain ⟨R, hR⟩ : ∃ R, fitsA op m s k id x y lab b0 b1 b2 b3 ns ne f g = R := ⟨_, rfl⟩
  have HR := Lib.hid hR
  unfold fitsA at hR
  have p1 := there_any op m
  have p2 := within_one 12 s
  obtain ⟨t1, ht1⟩ : ∃ t, thereB op m = t := ⟨_, rfl⟩
  obtain ⟨t2, ht2⟩ : ∃ t, inB1 12 s = t := ⟨_, rfl⟩
  rw [ht1] at p1 hR
  rw [ht2] at p2
  have hdec : ∀ b : Bool, (b = true ↔ R) → b = decide (fitsA op m s k id x y lab b0 b1 b2 b3 ns ne f g) := fun b hb => by
    rw [Bool.eq_iff_iff, decide_eq_true_eq, HR.out]
    exact hb
  have HD := Lib.hid hdec
  have H1 := Lib.hid h1
  have H2 := Lib.hid h2
  clear h1 h2 hdec
  generalize decide (fitsA op m s k id x y lab b0 b1 b2 b3 ns ne f g) = D at *
  have hin : t2 = true ↔ (0 ≤ s ∧ s ≤ 12) := by rw [← ht2, inB1, decide_eq_true_eq]
  have HRR := Lib.hid hR
  have HIN := Lib.hid hin
  have P1 := Lib.hid p1
  have P2 := Lib.hid p2
  clear HR hR ht1 ht2 p1 p2 hin
  cases t1 with
  | false =>
    go_enter Try.func16, Try.ntmps16
    go_wp2_with (first
      | (go_at_call 22; with_reducible refine (P1.out _).mono ?_; rintro e w' ⟨rfl, hb⟩; obtain ⟨X1, rfl, hl1, hm1⟩ := later (w.heap.size + 1) hb (by first | exact Nat.le_refl _ | go_size); clear hb; (try simp only [World.size_alloc, World.size_setCell, World.size_drew] at hm1)))
    go_ret
    exact ⟨ret_b (HD.out false (by rw [← HRR.out]; simp)), by repeat' (first | (with_reducible exact Below.refl _ _) | (with_reducible assumption) | (with_reducible refine Later.step ?_ ?_ _) | (with_reducible refine Below.alloc ?_ ?_ _) | (with_reducible refine Below.drew ?_) | (with_reducible refine bel_drewN ?_ _) | (with_reducible refine bel_grown ?_ (by assumption) ?_ ?_) | (with_reducible refine Below.setCell ?_ ?_ _) | go_size)⟩
  | true =>
    cases t2 with
    | false =>
      go_enter Try.func16, Try.ntmps16
      go_wp2_with (first
        | (go_at_call 22; with_reducible refine (P1.out _).mono ?_; rintro e w' ⟨rfl, hb⟩; obtain ⟨X1, rfl, hl1, hm1⟩ := later (w.heap.size + 1) hb (by first | exact Nat.le_refl _ | go_size); clear hb; (try simp only [World.size_alloc, World.size_setCell, World.size_drew] at hm1))
        | (go_at_call 26; with_reducible refine (P2.out _ _ (by go_size) (by go_simp)).mono ?_; rintro e w' ⟨rfl, hb⟩; obtain ⟨X2, rfl, hl2, hm2⟩ := later (X1.w.heap.size) hb (by first | exact Nat.le_refl _ | go_size); clear hb; (try simp only [World.size_alloc, World.size_setCell, World.size_drew] at hm2)))
      go_ret
      exact ⟨ret_b (HD.out false (by rw [← HRR.out, ← HIN.out]; simp)), by repeat' (first | (with_reducible exact Below.refl _ _) | (with_reducible assumption) | (with_reducible refine Later.step ?_ ?_ _) | (with_reducible refine Below.alloc ?_ ?_ _) | (with_reducible refine Below.drew ?_) | (with_reducible refine bel_drewN ?_ _) | (with_reducible refine bel_grown ?_ (by assumption) ?_ ?_) | (with_reducible refine Below.setCell ?_ ?_ _) | go_size)⟩
    | true =>
      by_cases hs : s = 0
      · subst hs
        obtain ⟨t3, ht3⟩ : ∃ t, decide (onceOk op k id x y lab b0 b1 b2 b3) = t := ⟨_, rfl⟩
        obtain ⟨t4, ht4⟩ : ∃ t, decide (itemsOk op m ns ne f g) = t := ⟨_, rfl⟩
        have p3 := oncefits_any op 0 k id x y lab b0 b1 b2 b3 (.slice A1 ns c1) (.slice A2 ne c2)
        have p4 := fun (Y : World) (hY : Below w.heap.size w Y) => itemsfit_any op m 0 k id x y lab b0 b1 b2 b3 A1 A2 ns ne c1 c2 f g Y ((H1.out.keep hY).more hY.size) ((H2.out.keep hY).more hY.size) hn1 hn2
        rw [ht3] at p3
        rw [ht4] at p4
        have i3 : t3 = true ↔ onceOk op k id x y lab b0 b1 b2 b3 := by rw [← ht3, decide_eq_true_eq]
        have i4 : t4 = true ↔ itemsOk op m ns ne f g := by rw [← ht4, decide_eq_true_eq]
        have P3 := Lib.hid p3
        have P4 := Lib.hid p4
        have I3 := Lib.hid i3
        have I4 := Lib.hid i4
        have hD0 : (t3 && t4) = D := HD.out _ (by rw [← HRR.out]; simp [i3, i4])
        have HF := Lib.hid hD0
        clear p3 p4 i3 i4 ht3 ht4 hD0 HD HRR HIN I3 I4
        go_enter Try.func16, Try.ntmps16
        go_wp2_with (first
          | (go_at_call 22; with_reducible refine (P1.out _).mono ?_; rintro e w' ⟨rfl, hb⟩; obtain ⟨X1, rfl, hl1, hm1⟩ := later (w.heap.size + 1) hb (by first | exact Nat.le_refl _ | go_size); clear hb; (try simp only [World.size_alloc, World.size_setCell, World.size_drew] at hm1))
          | (go_at_call 26; with_reducible refine (P2.out _ _ (by go_size) (by go_simp)).mono ?_; rintro e w' ⟨rfl, hb⟩; obtain ⟨X2, rfl, hl2, hm2⟩ := later (X1.w.heap.size) hb (by first | exact Nat.le_refl _ | go_size); clear hb; (try simp only [World.size_alloc, World.size_setCell, World.size_drew] at hm2))
          | (go_at_call 34; with_reducible refine (P3.out _).mono ?_; rintro e w' ⟨rfl, hb⟩; obtain ⟨X3, rfl, hl3, hm3⟩ := later (X2.w.heap.size) hb (by first | exact Nat.le_refl _ | go_size); clear hb; (try simp only [World.size_alloc, World.size_setCell, World.size_drew] at hm3))
          | (go_at_call 35; with_reducible refine (P4.out _ (by repeat' (first | (with_reducible exact Below.refl _ _) | (with_reducible assumption) | (with_reducible refine Later.step ?_ ?_ _) | (with_reducible refine Below.alloc ?_ ?_ _) | (with_reducible refine Below.drew ?_) | (with_reducible refine bel_drewN ?_ _) | (with_reducible refine bel_grown ?_ (by assumption) ?_ ?_) | (with_reducible refine Below.setCell ?_ ?_ _) | go_size))).mono ?_; rintro e w' ⟨rfl, hb⟩; obtain ⟨X4, rfl, hl4, hm4⟩ := later (X3.w.heap.size) hb (by first | exact Nat.le_refl _ | go_size); clear hb; (try simp only [World.size_alloc, World.size_setCell, World.size_drew] at hm4)))
        all_goals
          go_ret
          exact ⟨ret_b (by rw [← HF.out]; simp [*]), by repeat' (first | (with_reducible exact Below.refl _ _) | (with_reducible assumption) | (with_reducible refine Later.step ?_ ?_ _) | (with_reducible refine Below.alloc ?_ ?_ _) | (with_reducible refine Below.drew ?_) | (with_reducible refine bel_drewN ?_ _) | (with_reducible refine bel_grown ?_ (by assumption) ?_ ?_) | (with_reducible refine Below.setCell ?_ ?_ _) | go_size)⟩
      · obtain ⟨t3, ht3⟩ : ∃ t, decide (onceOk 0 k id x y lab b0 b1 b2 b3) = t := ⟨_, rfl⟩
        have p3 := oncefits_any 0 s k id x y lab b0 b1 b2 b3 (.slice A1 ns c1) (.slice A2 ne c2)
        rw [ht3] at p3
        have i3 : t3 = true ↔ onceOk 0 k id x y lab b0 b1 b2 b3 := by rw [← ht3, decide_eq_true_eq]
        have hD0 : (t3 && (decide (ns = 0) && decide (ne = 0))) = D := HD.out _ (by rw [← HRR.out]; simp [i3, hs, HIN.out.1 rfl])
        have P3 := Lib.hid p3
        have HF := Lib.hid hD0
        clear p3 i3 ht3 hD0 HD HRR HIN
        go_enter Try.func16, Try.ntmps16
        go_wp2_with (first
          | (go_at_call 22; with_reducible refine (P1.out _).mono ?_; rintro e w' ⟨rfl, hb⟩; obtain ⟨X1, rfl, hl1, hm1⟩ := later (w.heap.size + 1) hb (by first | exact Nat.le_refl _ | go_size); clear hb; (try simp only [World.size_alloc, World.size_setCell, World.size_drew] at hm1))
          | (go_at_call 26; with_reducible refine (P2.out _ _ (by go_size) (by go_simp)).mono ?_; rintro e w' ⟨rfl, hb⟩; obtain ⟨X2, rfl, hl2, hm2⟩ := later (X1.w.heap.size) hb (by first | exact Nat.le_refl _ | go_size); clear hb; (try simp only [World.size_alloc, World.size_setCell, World.size_drew] at hm2))
          | (go_at_call 34; with_reducible refine (P3.out _).mono ?_; rintro e w' ⟨rfl, hb⟩; obtain ⟨X3, rfl, hl3, hm3⟩ := later (X2.w.heap.size) hb (by first | exact Nat.le_refl _ | go_size); clear hb; (try simp only [World.size_alloc, World.size_setCell, World.size_drew] at hm3)))
        all_goals
          go_ret
          exact ⟨ret_b (by rw [← HF.out]; simp [*, cast_z]), by repeat' (first | (with_reducible exact Below.refl _ _) | (with_reducible assumption) | (with_reducible refine Later.step ?_ ?_ _) | (with_reducible refine Below.alloc ?_ ?_ _) | (with_reducible refine Below.drew ?_) | (with_reducible refine bel_drewN ?_ _) | (with_reducible refine bel_grown ?_ (by assumption) ?_ ?_) | (with_reducible refine Below.setCell ?_ ?_ _) | go_size)⟩
theorem fitsW_of {x : Int} {wide : Nat} (h : 0 ≤ x) (h1 : x < (256 : Int) ^ wide) : fitsW x wide := ⟨h, h1⟩
set_option maxHeartbeats 4000000 in
theorem wrect_any (q : Nat) (l : List Nat) (a b c d : Int) (w : World) (h : Wr w q l) (hr : rightB a b c d = true) (hl : l.length ≤ 100000) :
    Calls Try.prog 43 #[.pointer (some ⟨q, 0, none⟩), .agg #[.int .i64 a, .int .i64 b, .int .i64 c, .int .i64 d]] w fun e w' => e = .returned (.tuple #[]) ∧ Wr w' q (l ++ wsL [a, b, c, d] 2) ∧ Below q w w' ∧ KeptW w w' q := by
  have hq := h.lt
  rw [right_iff] at hr
  have HW := Lib.hid h
  clear h
  go_enter Try.func43, Try.ntmps43
  go_wp2_with fail
  refine (wput_at q 2 l [a, b, c, d] (w.heap.size + 1) 4 4 2 _ (HW.out.keep (by repeat' (first | (with_reducible exact Below.refl _ _) | (with_reducible assumption) | (with_reducible refine Later.step ?_ ?_ _) | (with_reducible refine Below.alloc ?_ ?_ _) | (with_reducible refine Below.drew ?_) | (with_reducible refine bel_drewN ?_ _) | (with_reducible refine bel_grown ?_ (by assumption) ?_ ?_) | (with_reducible refine Below.setCell ?_ ?_ _) | go_size))) (ints_new (by go_size) rfl) (by omega) (fun n hn => by simp at hn; rcases hn with rfl | rfl | rfl | rfl <;> (unfold fitsW; omega)) (by decide) (by decide) rfl rfl (by simp) hl).mono ?_
  rintro e w3 ⟨rfl, hW3, hb3, hk3⟩
  have hK : KeptW w w3 q := (keptW_below q (by repeat' (first | (with_reducible exact Below.refl _ _) | (with_reducible assumption) | (with_reducible refine Later.step ?_ ?_ _) | (with_reducible refine Below.alloc ?_ ?_ _) | (with_reducible refine Below.drew ?_) | (with_reducible refine bel_drewN ?_ _) | (with_reducible refine bel_grown ?_ (by assumption) ?_ ?_) | (with_reducible refine Below.setCell ?_ ?_ _) | go_size))).trans hk3
  have HK := Lib.hid hK
  have HW3 := Lib.hid hW3
  have hb9 : Below q w w3 := Below.trans (b := (w.alloc (Obj.cells #[.int .i64 a, .int .i64 b, .int .i64 c, .int .i64 d] 34)).alloc (Obj.cells #[.int .i64 a, .int .i64 b, .int .i64 c, .int .i64 d] 3)) (by repeat' (first | (with_reducible exact Below.refl _ _) | (with_reducible assumption) | (with_reducible refine Later.step ?_ ?_ _) | (with_reducible refine Below.alloc ?_ ?_ _) | (with_reducible refine Below.drew ?_) | (with_reducible refine bel_drewN ?_ _) | (with_reducible refine bel_grown ?_ (by assumption) ?_ ?_) | (with_reducible refine Below.setCell ?_ ?_ _) | go_size)) hb3
  clear hW3 hb3 hk3 hK
  go_wp2
  go_end0
  exact ⟨rfl, HW3.out, hb9, HK.out⟩
theorem box_kept {w w' : World} {q b : Nat} {cs : Array Value} {t : TypeId} {fz : Nat × Nat} (h : w.heap[b]? = some (.cells cs t fz)) (hk : KeptW w w' q) (hq : b ≠ q) (ht : t ≠ 5) : w'.heap[b]? = some (.cells cs t fz) := by
  have hlt : b < w.heap.size := by
    rcases Nat.lt_or_ge b w.heap.size with h' | h'
    · exact h'
    · rw [Array.getElem?_eq_none h'] at h; cases h
  exact (hk.2 b hlt hq (fun cur fz e => by rw [h] at e; injection e with e; injection e with _ e; exact ht e)).trans h
theorem cell_heap {w : World} {b j : Nat} {cs : Array Value} {t : TypeId} {fz : Nat × Nat} {v : Value} (h : w.heap[b]? = some (.cells cs t fz)) (hv : cs[j]? = some v) : w.cell? ⟨b, j, none⟩ = some v := by
  simp [World.cell?, h, hv]
/-- What an answer has once, as bytes. -/
def onceL (op k x y lab b0 b1 b2 b3 : Int) : List Nat :=
  if op = 4 ∨ op = 5 then wL k 8 else if op = 12 then wsL [x, y] 2 ++ wsL [lab] 1 else if op = 10 then wsL [b0, b1, b2, b3] 2 else []
set_option maxHeartbeats 8000000 in
theorem wonce_any (q : Nat) (l : List Nat) (op s k id x y lab b0 b1 b2 b3 : Int) (S E : Value) (w : World) (h : Wr w q l) (hk0 : 0 ≤ k) (hk1 : k ≤ 18446744073709551615) (ho : onceOk op k id x y lab b0 b1 b2 b3) (hl : l.length ≤ 1000) :
    Calls Try.prog 28 #[.pointer (some ⟨q, 0, none⟩), .int .i64 op, .agg #[.int .i64 s, .int .u64 k, .int .i64 id, .int .i64 x, .int .i64 y, .int .i64 lab, .int .i64 b0, .int .i64 b1, .int .i64 b2, .int .i64 b3, S, E]] w fun e w' => e = .returned (.tuple #[]) ∧ Wr w' q (l ++ onceL op k x y lab b0 b1 b2 b3) ∧ Below q w w' ∧ KeptW w w' q := by
  obtain ⟨i0, hi, hz0, hz1, hz2⟩ := info_parts Try.info5
  have hq := h.lt
  have HW := Lib.hid h
  clear h
  by_cases h45 : op = 4 ∨ op = 5
  · have e1 : onceL op k x y lab b0 b1 b2 b3 = wL k 8 := by unfold onceL; rw [if_pos h45]
    rw [e1]
    clear e1 ho
    have p1 := fun Y : World => put_fit k 8 Y ⟨hk0, by omega⟩ (by decide) (by decide)
    have P1 := Lib.hid p1
    clear p1
    rcases h45 with rfl | rfl
    all_goals
      go_enter Try.func28, Try.ntmps28
      go_wp2_with fail
      refine (P1.out _).mono ?_
      intro e w2 hrp
      unfold RowPost at hrp
      obtain ⟨A2, c2, rfl, own2, hb2⟩ := hrp
      have hs2 := hb2.size
      rw [World.size_alloc] at hs2
      have hB2 : Below w.heap.size w w2 := Below.trans (b := w.alloc (Obj.cells #[.int .i64 s, .int .u64 k, .int .i64 id, .int .i64 x, .int .i64 y, .int .i64 lab, .int .i64 b0, .int .i64 b1, .int .i64 b2, .int .i64 b3, S, E] 38)) (by repeat' (first | (with_reducible exact Below.refl _ _) | (with_reducible assumption) | (with_reducible refine Later.step ?_ ?_ _) | (with_reducible refine Below.alloc ?_ ?_ _) | (with_reducible refine Below.drew ?_) | (with_reducible refine bel_drewN ?_ _) | (with_reducible refine bel_grown ?_ (by assumption) ?_ ?_) | (with_reducible refine Below.setCell ?_ ?_ _) | go_size)) (hb2.mono (by go_size))
      obtain ⟨lt3, ⟨A3, c3, d1, own3⟩, z3⟩ := HW.out.keep hB2
      have HO2 := Lib.hid own2
      have HO3 := Lib.hid own3
      have hcap := own_cap own3
      have hcap2 := own_cap own2
      obtain ⟨Y, rfl⟩ : ∃ Z : Later w.heap.size w, w2 = Z.w := ⟨⟨w2, hB2⟩, rfl⟩
      clear own2 own3 hb2 hB2
      go_wp2_with (at_builtin; refine wpList_app _ rfl _ _ 24 rfl (q + 1) 5 i0 (.int .u8 0) 1 Try.underlying24 hi hz0 hz1 hz2 rfl _ l.length _ rfl HO3.out .u8 Y.w.heap.size A2 8 c2 (putI k 8) rfl (Reads.own HO2.out) (by omega) (by omega) (by omega) ?_)
      intro v1 w3 hown3 hgrow3
      obtain ⟨A4, c4, rfl⟩ := own_form hown3
      have hb3 : Below (q + 1) Y.w w3 := (Below.refl _ _).grown hgrow3 (by omega) (fun k hk => (HO3.out.lt k hk).1)
      have hs3 := hb3.size
      have hK3 := (keptW_below q Y.is).trans (keptW_grown (q := q) hgrow3 HO3.out)
      have O4 := Lib.hid hown3
      have HK3 := Lib.hid hK3
      obtain ⟨Z, rfl⟩ : ∃ Z : Later (q + 1) Y.w, w3 = Z.w := ⟨⟨w3, hb3⟩, rfl⟩
      clear hown3 hgrow3 hb3 hK3
      go_wp2
      go_end0
      refine ⟨rfl, ⟨by go_size, ⟨A4, c4, ?_, ?_⟩, by go_simp⟩, by repeat' (first | (with_reducible exact Below.refl _ _) | (with_reducible assumption) | (with_reducible refine Later.step ?_ ?_ _) | (with_reducible refine Below.alloc ?_ ?_ _) | (with_reducible refine Below.drew ?_) | (with_reducible refine bel_drewN ?_ _) | (with_reducible refine bel_grown ?_ (by assumption) ?_ ?_) | (with_reducible refine Below.setCell ?_ ?_ _) | go_size), HK3.out.trans (keptW_set _ _ _ _)⟩
      · rw [List.length_append, wL_len]; go_simp
      · have := own_set (p := ⟨q, 0, none⟩) O4.out (show q < q + 1 by omega) (.slice A4 (l.length + 8) c4)
        rw [wL_row, rowV_app] at this
        rw [List.length_append, wL_len] at this ⊢
        exact this
  · by_cases h12 : op = 12
    · subst h12
      have e1 : onceL 12 k x y lab b0 b1 b2 b3 = wsL [x, y] 2 ++ wsL [lab] 1 := rfl
      rw [e1]
      have e2 : fitsB x y = true ∧ 0 ≤ lab ∧ lab ≤ 7 := ⟨ho.1, ho.2.1, ho.2.2.1⟩
      obtain ⟨hf, hl1, hl2⟩ := e2
      rw [fits_iff] at hf
      clear e1 ho h45
      go_enter Try.func28, Try.ntmps28
      go_wp2_with fail
      refine (wput_at q 2 l [x, y] (w.heap.size + 1) 2 2 2 _ (HW.out.keep (by repeat' (first | (with_reducible exact Below.refl _ _) | (with_reducible assumption) | (with_reducible refine Later.step ?_ ?_ _) | (with_reducible refine Below.alloc ?_ ?_ _) | (with_reducible refine Below.drew ?_) | (with_reducible refine bel_drewN ?_ _) | (with_reducible refine bel_grown ?_ (by assumption) ?_ ?_) | (with_reducible refine Below.setCell ?_ ?_ _) | go_size))) (ints_new (by go_size) rfl) (by omega) (fun n hn => by simp at hn; rcases hn with rfl | rfl <;> (unfold fitsW; omega)) (by decide) (by decide) rfl rfl (by simp) (by omega)).mono ?_
      rintro e w3 ⟨rfl, hW3, hb3, hk3⟩
      have hs3 := hk3.1
      simp only [World.size_alloc] at hs3
      have hbox := box_kept (b := w.heap.size) (heap_alloc_old _ _ (by go_size) |>.trans (heap_alloc_new w (Obj.cells #[.int .i64 s, .int .u64 k, .int .i64 id, .int .i64 x, .int .i64 y, .int .i64 lab, .int .i64 b0, .int .i64 b1, .int .i64 b2, .int .i64 b3, S, E] 38))) hk3 (by omega) (by decide)
      have hK := (keptW_below (w := w) q (by repeat' (first | (with_reducible exact Below.refl _ _) | (with_reducible assumption) | (with_reducible refine Later.step ?_ ?_ _) | (with_reducible refine Below.alloc ?_ ?_ _) | (with_reducible refine Below.drew ?_) | (with_reducible refine bel_drewN ?_ _) | (with_reducible refine bel_grown ?_ (by assumption) ?_ ?_) | (with_reducible refine Below.setCell ?_ ?_ _) | go_size))).trans hk3
      have HK3 := Lib.hid hK
      have HW3 := Lib.hid hW3
      have hb9 : Below q w w3 := Below.trans (b := (w.alloc (Obj.cells #[.int .i64 s, .int .u64 k, .int .i64 id, .int .i64 x, .int .i64 y, .int .i64 lab, .int .i64 b0, .int .i64 b1, .int .i64 b2, .int .i64 b3, S, E] 38)).alloc (Obj.cells #[.int .i64 x, .int .i64 y] 3)) (by repeat' (first | (with_reducible exact Below.refl _ _) | (with_reducible assumption) | (with_reducible refine Later.step ?_ ?_ _) | (with_reducible refine Below.alloc ?_ ?_ _) | (with_reducible refine Below.drew ?_) | (with_reducible refine bel_drewN ?_ _) | (with_reducible refine bel_grown ?_ (by assumption) ?_ ?_) | (with_reducible refine Below.setCell ?_ ?_ _) | go_size)) hb3
      have c5 : w3.cell? ⟨w.heap.size, 5, none⟩ = some (.int .i64 lab) := cell_heap hbox rfl
      obtain ⟨X3, rfl⟩ : ∃ Z : Later q w, w3 = Z.w := ⟨⟨w3, hb9⟩, rfl⟩
      clear hW3 hb3 hk3 hK hb9 hbox
      go_wp2_with fail
      refine (wput_at q 1 (l ++ wsL [x, y] 2) [lab] X3.w.heap.size 1 1 1 _ (HW3.out.keep (by repeat' (first | (with_reducible exact Below.refl _ _) | (with_reducible assumption) | (with_reducible refine Later.step ?_ ?_ _) | (with_reducible refine Below.alloc ?_ ?_ _) | (with_reducible refine Below.drew ?_) | (with_reducible refine bel_drewN ?_ _) | (with_reducible refine bel_grown ?_ (by assumption) ?_ ?_) | (with_reducible refine Below.setCell ?_ ?_ _) | go_size))) (ints_new rfl rfl) (by omega) (fun n hn => by simp at hn; subst hn; unfold fitsW; omega) (by decide) (by decide) rfl rfl (by simp) (by rw [List.length_append, wsL_len]; simp; omega)).mono ?_
      rintro e w4 ⟨rfl, hW4, hb4, hk4⟩
      have hK4 := (HK3.out.trans (keptW_below q (by repeat' (first | (with_reducible exact Below.refl _ _) | (with_reducible assumption) | (with_reducible refine Later.step ?_ ?_ _) | (with_reducible refine Below.alloc ?_ ?_ _) | (with_reducible refine Below.drew ?_) | (with_reducible refine bel_drewN ?_ _) | (with_reducible refine bel_grown ?_ (by assumption) ?_ ?_) | (with_reducible refine Below.setCell ?_ ?_ _) | go_size)))).trans hk4
      have HK4 := Lib.hid hK4
      have HW4 := Lib.hid hW4
      have hb9 : Below q w w4 := Below.trans (b := X3.w.alloc (Obj.cells #[.int .i64 lab] 3)) (by repeat' (first | (with_reducible exact Below.refl _ _) | (with_reducible assumption) | (with_reducible refine Later.step ?_ ?_ _) | (with_reducible refine Below.alloc ?_ ?_ _) | (with_reducible refine Below.drew ?_) | (with_reducible refine bel_drewN ?_ _) | (with_reducible refine bel_grown ?_ (by assumption) ?_ ?_) | (with_reducible refine Below.setCell ?_ ?_ _) | go_size)) hb4
      clear hW4 hb4 hk4 hK4
      go_wp2
      go_end0
      rw [List.append_assoc] at HW4
      exact ⟨rfl, HW4.out, hb9, HK4.out⟩
    · by_cases h10 : op = 10
      · subst h10
        have e1 : onceL 10 k x y lab b0 b1 b2 b3 = wsL [b0, b1, b2, b3] 2 := rfl
        rw [e1]
        have hr : rightB b0 b1 b2 b3 = true := ho.1
        have PR := Lib.hid (fun (Y : World) (hY : Below w.heap.size w Y) => wrect_any q l b0 b1 b2 b3 Y (HW.out.keep hY) hr (by omega))
        clear e1 ho hr
        go_enter Try.func28, Try.ntmps28
        go_wp2_with fail
        refine (PR.out _ (by repeat' (first | (with_reducible exact Below.refl _ _) | (with_reducible assumption) | (with_reducible refine Later.step ?_ ?_ _) | (with_reducible refine Below.alloc ?_ ?_ _) | (with_reducible refine Below.drew ?_) | (with_reducible refine bel_drewN ?_ _) | (with_reducible refine bel_grown ?_ (by assumption) ?_ ?_) | (with_reducible refine Below.setCell ?_ ?_ _) | go_size))).mono ?_
        rintro e w3 ⟨rfl, hW3, hb3, hk3⟩
        have hK := (keptW_below (w := w) q (by repeat' (first | (with_reducible exact Below.refl _ _) | (with_reducible assumption) | (with_reducible refine Later.step ?_ ?_ _) | (with_reducible refine Below.alloc ?_ ?_ _) | (with_reducible refine Below.drew ?_) | (with_reducible refine bel_drewN ?_ _) | (with_reducible refine bel_grown ?_ (by assumption) ?_ ?_) | (with_reducible refine Below.setCell ?_ ?_ _) | go_size))).trans hk3
        have HK3 := Lib.hid hK
        have HW3 := Lib.hid hW3
        have hb9 : Below q w w3 := Below.trans (b := w.alloc (Obj.cells #[.int .i64 s, .int .u64 k, .int .i64 id, .int .i64 x, .int .i64 y, .int .i64 lab, .int .i64 b0, .int .i64 b1, .int .i64 b2, .int .i64 b3, S, E] 38)) (by repeat' (first | (with_reducible exact Below.refl _ _) | (with_reducible assumption) | (with_reducible refine Later.step ?_ ?_ _) | (with_reducible refine Below.alloc ?_ ?_ _) | (with_reducible refine Below.drew ?_) | (with_reducible refine bel_drewN ?_ _) | (with_reducible refine bel_grown ?_ (by assumption) ?_ ?_) | (with_reducible refine Below.setCell ?_ ?_ _) | go_size)) hb3
        clear hW3 hb3 hk3 hK
        go_wp2
        go_end0
        exact ⟨rfl, HW3.out, hb9, HK3.out⟩
      · have e1 : onceL op k x y lab b0 b1 b2 b3 = [] := by unfold onceL; rw [if_neg h45, if_neg h12, if_neg h10]
        rw [e1, List.append_nil]
        have e4 : (op == 4) = false := by rw [beq_eq_false_iff_ne]; omega
        have e5 : (op == 5) = false := by rw [beq_eq_false_iff_ne]; omega
        have e12 : (op == 12) = false := by rw [beq_eq_false_iff_ne]; omega
        have e10 : (op == 10) = false := by rw [beq_eq_false_iff_ne]; omega
        clear e1 h45 h12 h10 ho
        go_enter Try.func28, Try.ntmps28
        go_wp2
        go_end0
        exact ⟨rfl, HW.out.keep (by repeat' (first | (with_reducible exact Below.refl _ _) | (with_reducible assumption) | (with_reducible refine Later.step ?_ ?_ _) | (with_reducible refine Below.alloc ?_ ?_ _) | (with_reducible refine Below.drew ?_) | (with_reducible refine bel_drewN ?_ _) | (with_reducible refine bel_grown ?_ (by assumption) ?_ ?_) | (with_reducible refine Below.setCell ?_ ?_ _) | go_size)), by repeat' (first | (with_reducible exact Below.refl _ _) | (with_reducible assumption) | (with_reducible refine Later.step ?_ ?_ _) | (with_reducible refine Below.alloc ?_ ?_ _) | (with_reducible refine Below.drew ?_) | (with_reducible refine bel_drewN ?_ _) | (with_reducible refine bel_grown ?_ (by assumption) ?_ ?_) | (with_reducible refine Below.setCell ?_ ?_ _) | go_size), keptW_below q (by repeat' (first | (with_reducible exact Below.refl _ _) | (with_reducible assumption) | (with_reducible refine Later.step ?_ ?_ _) | (with_reducible refine Below.alloc ?_ ?_ _) | (with_reducible refine Below.drew ?_) | (with_reducible refine bel_drewN ?_ _) | (with_reducible refine bel_grown ?_ (by assumption) ?_ ?_) | (with_reducible refine Below.setCell ?_ ?_ _) | go_size))⟩
end Go.Proofs.Ytdjkhcnejbinjaa
