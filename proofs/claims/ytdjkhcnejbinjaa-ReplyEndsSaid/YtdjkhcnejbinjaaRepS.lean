/- What an answer has once is read from bytes, walked. No condition beyond what the memory holds. -/
import Derived.Test.YtdjkhcnejbinjaaRepR
namespace Go.Proofs.Ytdjkhcnejbinjaa
open Go.RowKit
set_option linter.unusedSimpArgs false
set_option linter.unusedVariables false
set_option maxRecDepth 2000

/-- The cells of an answer without an ID. -/
def ansC (s k x y lab b0 b1 b2 b3 : Int) (S E : Value) (j : Nat) : Value :=
  ([.int .i64 s, .int .u64 k, .int .i64 0, .int .i64 x, .int .i64 y, .int .i64 lab, .int .i64 b0, .int .i64 b1, .int .i64 b2, .int .i64 b3, S, E] : List Value).getD j undef
theorem far_q {w w' : World} {q b : Nat} (h : w.grownBy w' (some q)) (hb : b < w.heap.size) (hq : b ≠ q) : (∀ o, w'.cell? ⟨b, o, none⟩ = w.cell? ⟨b, o, none⟩) ∧ ∀ o, w'.frozen? ⟨b, o, none⟩ = w.frozen? ⟨b, o, none⟩ := by
  have e := h.block b hb (fun e => by injection e with e; exact hq e)
  exact ⟨fun o => World.cell?_of_block (a := ⟨b, o, none⟩) e, fun o => World.frozen?_of_block (a := ⟨b, o, none⟩) e⟩
/-- All blocks but two are as they were. -/
structure Two (w w' : World) (q p : Nat) : Prop where
  os : w'.os = w.os
  tape : w'.tape = w.tape
  output : w'.output = w.output
  size : w.heap.size ≤ w'.heap.size
  block : ∀ k, k < w.heap.size → k ≠ q → k ≠ p → w'.heap[k]? = w.heap[k]?
theorem Two.below {w w' : World} {q p : Nat} (h : Two w w' q p) (hqp : q < p) (hq : q ≤ w.heap.size) : Below q w w' :=
  ⟨h.os, h.tape, h.output, h.size, fun k hk => h.block k (by omega) (by omega) (by omega)⟩
theorem two_refl (w : World) (q p : Nat) : Two w w q p := ⟨rfl, rfl, rfl, Nat.le_refl _, fun _ _ _ _ => rfl⟩
theorem two_grown {w w' : World} {q : Nat} (h : w.grownBy w' (some q)) (p : Nat) : Two w w' q p := ⟨h.os, h.tape, h.output, h.size, fun k hk hq _ => h.block k hk (fun e => by injection e with e; exact hq e)⟩
theorem Two.trans {a b c : World} {q p : Nat} (h : Two a b q p) (h' : Two b c q p) : Two a c q p :=
  ⟨h'.os.trans h.os, h'.tape.trans h.tape, h'.output.trans h.output, Nat.le_trans h.size h'.size, fun k hk h1 h2 => (h'.block k (Nat.lt_of_lt_of_le hk h.size) h1 h2).trans (h.block k hk h1 h2)⟩
theorem Two.set {w w' : World} {q p j : Nat} (h : Two w w' q p) (u : Value) : Two w (w'.setCell ⟨p, j, none⟩ u) q p :=
  ⟨h.os, h.tape, h.output, by rw [World.size_setCell]; exact h.size, fun k hk h1 h2 => (Below.heap_setCell w' ⟨p, j, none⟩ u k h2).trans (h.block k hk h1 h2)⟩
theorem Rd.setp {w : World} {q p off j : Nat} {L : List Nat} (h : Rd w q L off) (hp : q < p) (u : Value) : Rd (w.setCell ⟨p, j, none⟩ u) q L off := h.other hp u
/-- What taking from the bytes into the answer at block p leaves. -/
def OncePost (q p off : Nat) (L : List Nat) (F : Nat → Value) (w : World) (e : Ending) (w' : World) : Prop := e = .returned (.tuple #[]) ∧ Rd w' q L off ∧ CellsAt w' p 12 F ∧ Two w w' q p
theorem CellsAt.twelve {w : World} {p : Nat} {F : Nat → Value} (h : CellsAt w p 12 F) : (w.cell? ⟨p, 0, none⟩ = some (F 0) ∧ w.cell? ⟨p, 1, none⟩ = some (F 1) ∧ w.cell? ⟨p, 2, none⟩ = some (F 2) ∧ w.cell? ⟨p, 3, none⟩ = some (F 3) ∧ w.cell? ⟨p, 4, none⟩ = some (F 4) ∧ w.cell? ⟨p, 5, none⟩ = some (F 5) ∧ w.cell? ⟨p, 6, none⟩ = some (F 6) ∧ w.cell? ⟨p, 7, none⟩ = some (F 7) ∧ w.cell? ⟨p, 8, none⟩ = some (F 8) ∧ w.cell? ⟨p, 9, none⟩ = some (F 9) ∧ w.cell? ⟨p, 10, none⟩ = some (F 10) ∧ w.cell? ⟨p, 11, none⟩ = some (F 11)) ∧ ∀ j, j < 12 → w.frozen? ⟨p, j, none⟩ = false :=
  ⟨⟨(h.2 0 (by decide)).1, (h.2 1 (by decide)).1, (h.2 2 (by decide)).1, (h.2 3 (by decide)).1, (h.2 4 (by decide)).1, (h.2 5 (by decide)).1, (h.2 6 (by decide)).1, (h.2 7 (by decide)).1, (h.2 8 (by decide)).1, (h.2 9 (by decide)).1, (h.2 10 (by decide)).1, (h.2 11 (by decide)).1⟩, fun j hj => (h.2 j hj).2⟩
theorem ans_at {j : Nat} (hj : j < 12) : j = 0 ∨ j = 1 ∨ j = 2 ∨ j = 3 ∨ j = 4 ∨ j = 5 ∨ j = 6 ∨ j = 7 ∨ j = 8 ∨ j = 9 ∨ j = 10 ∨ j = 11 := by omega
set_option maxHeartbeats 8000000 in
theorem xonce_any (q p off : Nat) (op : Int) (L : List Nat) (w : World) (S E : Value) (h : Rd w q L off) (hs : Small L) (hqp : q < p) (hc : CellsAt w p 12 (ansC 0 0 0 0 0 0 0 0 0 S E)) (hn : (off : Int) + onceI op ≤ L.length) :
    Calls Try.prog 39 #[.pointer (some ⟨q, 0, none⟩), .int .i64 op, .pointer (some ⟨p, 0, none⟩)] w
      (OncePost q p (off + (onceI op).toNat) L (ansC 0 (if op = 4 ∨ op = 5 then numR L off 8 else 0) (if op = 12 then numR L off 2 else 0) (if op = 12 then numR L (off + 2) 2 else 0) (if op = 12 then numR L (off + 4) 1 else 0)
        (if op = 10 then numR L off 2 else 0) (if op = 10 then numR L (off + 2) 2 else 0) (if op = 10 then numR L (off + 4) 2 else 0) (if op = 10 then numR L (off + 6) 2 else 0) S E) w) := by
  have hq := h.lt
  have hp := hc.1
  have H := Lib.hid h
  have HC := Lib.hid hc
  have HS := Lib.hid hs
  clear h hc hs
  by_cases h45 : op = 4 ∨ op = 5
  · have eo : onceI op = 8 := by unfold onceI; rw [if_pos h45]
    rw [eo] at hn ⊢
    rw [if_pos h45, if_neg (by omega), if_neg (by omega), if_neg (by omega), if_neg (by omega), if_neg (by omega), if_neg (by omega), if_neg (by omega)]
    have P1 := Lib.hid (rtake_any q off 8 L w H.out (by decide) (by omega))
    have P2 := Lib.hid (fun (Y : World) (A : Option Addr) (hr : Reads .u8 Y Y.heap.size A 8 (fun j => atI L (off + j))) => get_any A 8 8 (fun j => atI L (off + j)) Y hr (fun j => atI_bd HS.out _) (by omega) (by decide) (by omega))
    clear eo
    rcases h45 with rfl | rfl
    all_goals
      go_enter Try.func39, Try.ntmps39
      go_wp2_with fail
      refine P1.out.mono ?_
      rintro e w1 ⟨⟨A, rfl, hr⟩, hpo⟩
      have hs1 := hpo.2.size
      have HR := Lib.hid hr
      have HP := Lib.hid hpo
      have HC1 := Lib.hid (HC.out.grown hpo.2 (by omega))
      obtain ⟨X1, rfl⟩ : ∃ Z : Later q w, w1 = Z.w := ⟨⟨w1, hpo.below (by omega)⟩, rfl⟩
      clear hr hpo
      go_wp2_with fail
      refine (P2.out _ _ (HR.out.more (by omega))).mono ?_
      rintro e w2 ⟨rfl, hb2⟩
      have hs2 := hb2.size
      have HC2 := Lib.hid (HC1.out.keep hb2)
      have HR2 := Lib.hid (HP.out.1.keep hb2)
      have HG2 := Lib.hid (grown_trans HP.out.2 (grown_of_below hb2 (some q)))
      obtain ⟨c1, z1⟩ := HC2.out.2 1 (by decide)
      obtain ⟨X2, rfl⟩ : ∃ Z : Later q w, w2 = Z.w := ⟨⟨w2, below_of_grown HG2.out (by omega)⟩, rfl⟩
      clear hb2
      go_wp2
      go_end0
      refine ⟨rfl, HR2.out.setp hqp _, (HC2.out.set (j := 1) (by decide) _).congr ?_, (two_grown HG2.out p).set _⟩
      intro j hj
      rcases ans_at hj with rfl | rfl | rfl | rfl | rfl | rfl | rfl | rfl | rfl | rfl | rfl | rfl <;> rfl
  · rw [if_neg h45]
    by_cases h12 : op = 12
    · subst h12
      have eo : onceI 12 = 5 := rfl
      rw [eo] at hn ⊢
      rw [if_pos rfl, if_pos rfl, if_pos rfl, if_neg (by omega), if_neg (by omega), if_neg (by omega), if_neg (by omega)]
      have P1 := Lib.hid (rnumber_any q off 2 L w H.out HS.out (by decide) (by decide) (by omega))
      have P2 := Lib.hid (fun (Y : World) (hY : Rd Y q L (off + 2)) => rnumber_any q (off + 2) 2 L Y hY HS.out (by decide) (by decide) (by omega))
      have P3 := Lib.hid (fun (Y : World) (hY : Rd Y q L (off + 4)) => rnumber_any q (off + 4) 1 L Y hY HS.out (by decide) (by decide) (by omega))
      clear eo h45
      go_enter Try.func39, Try.ntmps39
      go_wp2_with fail
      refine P1.out.mono ?_
      rintro e w1 ⟨rfl, hpo⟩
      have hs1 := hpo.2.size
      have HP1 := Lib.hid hpo
      have HC1 := Lib.hid (HC.out.grown hpo.2 (by omega))
      obtain ⟨X1, rfl⟩ : ∃ Z : Later q w, w1 = Z.w := ⟨⟨w1, hpo.below (by omega)⟩, rfl⟩
      clear hpo
      go_wp2_with fail
      refine (P2.out _ HP1.out.1).mono ?_
      rintro e w2 ⟨rfl, hpo⟩
      have hs2 := hpo.2.size
      have HC2 := Lib.hid (HC1.out.grown hpo.2 (by omega))
      have HR2 := Lib.hid hpo.1
      have HG2 := Lib.hid (grown_trans HP1.out.2 hpo.2)
      obtain ⟨X2, rfl⟩ : ∃ Z : Later q w, w2 = Z.w := ⟨⟨w2, below_of_grown HG2.out (by omega)⟩, rfl⟩
      clear hpo
      go_wp2_with fail
      refine (P3.out _ HR2.out).mono ?_
      rintro e w3 ⟨rfl, hpo⟩
      have hs3 := hpo.2.size
      have HC3 := Lib.hid (HC2.out.grown hpo.2 (by omega))
      have HR3 := Lib.hid hpo.1
      have HG3 := Lib.hid (grown_trans HG2.out hpo.2)
      obtain ⟨c2, z2⟩ := HC3.out.2 2 (by decide)
      obtain ⟨c3, z3⟩ := HC3.out.2 3 (by decide)
      obtain ⟨c4, z4⟩ := HC3.out.2 4 (by decide)
      obtain ⟨c5, z5⟩ := HC3.out.2 5 (by decide)
      obtain ⟨X3, rfl⟩ : ∃ Z : Later q w, w3 = Z.w := ⟨⟨w3, below_of_grown HG3.out (by omega)⟩, rfl⟩
      clear hpo
      go_wp2
      go_end0
      refine ⟨rfl, (((HR3.out.setp hqp _).setp hqp _).setp hqp _).setp hqp _, ((((HC3.out.set (j := 2) (by decide) _).set (j := 3) (by decide) _).set (j := 4) (by decide) _).set (j := 5) (by decide) _).congr ?_, ((((two_grown HG3.out p).set _).set _).set _).set _⟩
      intro j hj
      rcases ans_at hj with rfl | rfl | rfl | rfl | rfl | rfl | rfl | rfl | rfl | rfl | rfl | rfl <;> rfl
    · rw [if_neg h12, if_neg h12, if_neg h12]
      by_cases h10 : op = 10
      · subst h10
        have eo : onceI 10 = 8 := rfl
        rw [eo] at hn ⊢
        rw [if_pos rfl, if_pos rfl, if_pos rfl, if_pos rfl]
        have P1 := Lib.hid (rrect_any q off L w H.out HS.out (by omega))
        clear eo h45 h12
        go_enter Try.func39, Try.ntmps39
        go_wp2_with fail
        refine P1.out.mono ?_
        rintro e w3 ⟨rfl, hpo⟩
        have hs3 := hpo.2.size
        have HC3 := Lib.hid (HC.out.grown hpo.2 (by omega))
        have HR3 := Lib.hid hpo.1
        have HG3 := Lib.hid hpo.2
        obtain ⟨c6, z6⟩ := HC3.out.2 6 (by decide)
        obtain ⟨c7, z7⟩ := HC3.out.2 7 (by decide)
        obtain ⟨c8, z8⟩ := HC3.out.2 8 (by decide)
        obtain ⟨c9, z9⟩ := HC3.out.2 9 (by decide)
        obtain ⟨X3, rfl⟩ : ∃ Z : Later q w, w3 = Z.w := ⟨⟨w3, below_of_grown HG3.out (by omega)⟩, rfl⟩
        clear hpo
        go_wp2
        go_end0
        refine ⟨rfl, (((HR3.out.setp hqp _).setp hqp _).setp hqp _).setp hqp _, ((((HC3.out.set (j := 6) (by decide) _).set (j := 7) (by decide) _).set (j := 8) (by decide) _).set (j := 9) (by decide) _).congr ?_, ((((two_grown HG3.out p).set _).set _).set _).set _⟩
        intro j hj
        rcases ans_at hj with rfl | rfl | rfl | rfl | rfl | rfl | rfl | rfl | rfl | rfl | rfl | rfl <;> rfl
      · rw [if_neg h10, if_neg h10, if_neg h10, if_neg h10]
        have eo : onceI op = 0 := by unfold onceI; rw [if_neg h45, if_neg h12, if_neg h10]
        rw [eo]
        have e4 : (op == 4) = false := by rw [beq_eq_false_iff_ne]; omega
        have e5 : (op == 5) = false := by rw [beq_eq_false_iff_ne]; omega
        have e12 : (op == 12) = false := by rw [beq_eq_false_iff_ne]; omega
        have e10 : (op == 10) = false := by rw [beq_eq_false_iff_ne]; omega
        clear eo h45 h12 h10
        go_enter Try.func39, Try.ntmps39
        go_wp2
        go_end0
        exact ⟨rfl, H.out, HC.out, two_refl _ _ _⟩
end Go.Proofs.Ytdjkhcnejbinjaa
