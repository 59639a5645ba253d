/- No cell's own box below the cloak found does: the statement walked. No condition beyond what the slice reads as. -/
import Derived.Test.YthoanoaigfcchaaClL4
namespace Go.Proofs.Ythoanoaigfcchaa
open Go.RowKit Go.Maps
set_option linter.unusedSimpArgs false
set_option linter.unusedVariables false
set_option maxRecDepth 2000

theorem cntP_own {P : List (Int × Int)} {l x y : Int} (h : crightB l x y = true) : cntP P l x y = (inL P (x * sd l) (y * sd l) (x * sd l + sd l - 1) (y * sd l + sd l - 1) : Nat) := by
  unfold cntP
  rw [if_pos h]
set_option maxHeartbeats 16000000 in
theorem least_law (S : Option Addr) (len cp : Nat) (Q : List (Int × Int)) (x y K A lev : Int) (w : World) (hQ : Q.length = len ∧ len ≤ 9223372036854775807 ∧ Pts w w.heap.size S Q) (hx : (Lit.int .i64 x).wf = true) (hy : (Lit.int .i64 y).wf = true) (hwK : (Lit.int .i64 K).wf = true) (hwA : (Lit.int .u64 A).wf = true) (hwl : (Lit.int .i64 lev).wf = true) :
    Calls Try.prog 5 #[.slice S len cp, .agg #[.int .i64 x, .int .i64 y], .agg #[.int .i64 K, .int .u64 A], .int .i64 lev] w fun e w' => e = .returned (.bool true) ∧ Below w.heap.size w w' := by
  clear hx hy hwK hwA hwl
  obtain ⟨hl, hlen, hp⟩ := hQ
  have PB := Lib.hid (fun (Y : World) (hY : Below w.heap.size w Y) => built_any S cp Q Y ((hp.keep hY).more hY.size) (by omega))
  rw [hl] at PB
  have HL := Lib.hid hl
  have PK := Lib.hid cknown_any
  clear hl hp
  go_enter Try.func5, Try.ntmps5
  go_wp2_with fail
  refine (PB.out _ (by repeat' (first | (with_reducible exact Below.refl _ _) | (with_reducible assumption) | (with_reducible refine Later.step ?_ ?_ _) | (with_reducible refine Below.alloc ?_ ?_ _) | (with_reducible refine Below.drew ?_) | (with_reducible refine bel_drewN ?_ _) | (with_reducible refine bel_grown ?_ (by assumption) ?_ ?_) | (with_reducible refine Below.setCell ?_ ?_ _) | go_size))).mono ?_
  rintro e w1 ⟨hc, hb⟩
  rcases hc with ⟨hsm, q, n, F, B, c, P, rfl, hP, hF, hg, hpm, hPt⟩ | ⟨hbig, rfl⟩
  · have hpl : P.length ≤ 60 := by
      rw [hpm.length_eq]
      exact Nat.le_trans (List.length_filter_le _ _) hsm
    have HP := Lib.hid hP
    have HPT := Lib.hid hPt
    have HF := Lib.hid hF
    have HG := Lib.hid hg
    have HPL := Lib.hid hpl
    obtain ⟨X1, rfl, hl1, hm1⟩ := later _ hb (Nat.le_refl _)
    (try simp only [World.size_alloc, World.size_setCell, World.size_drew] at hm1 hl1)
    clear hb hP hPt hF hg hpl hpm hsm
    have PA := Lib.hid (fun (Y : World) (hY : Below X1.w.heap.size X1.w Y) => ask_any x y K A Y (HP.out.keep hY) HF.out HG.out HPL.out)
    have po := rof_any x y lev
    obtain ⟨m, hm⟩ : ∃ m, (lvlB lev && fitsB x y) = m := ⟨_, rfl⟩
    rw [hm] at po
    obtain ⟨c0, hc0⟩ : ∃ z, sel m lev = z := ⟨_, rfl⟩
    obtain ⟨c1, hc1⟩ : ∃ z, sel m (x / sd lev) = z := ⟨_, rfl⟩
    obtain ⟨c2, hc2⟩ : ∃ z, sel m (y / sd lev) = z := ⟨_, rfl⟩
    rw [hc0, hc1, hc2] at po
    have px := rbox_any c0 c1 c2
    obtain ⟨b0, hb0⟩ : ∃ z, sel (crightB c0 c1 c2) (c1 * sd c0) = z := ⟨_, rfl⟩
    obtain ⟨b1, hb1⟩ : ∃ z, sel (crightB c0 c1 c2) (c2 * sd c0) = z := ⟨_, rfl⟩
    obtain ⟨b2, hb2⟩ : ∃ z, sel (crightB c0 c1 c2) (c1 * sd c0 + sd c0 - 1) = z := ⟨_, rfl⟩
    obtain ⟨b3, hb3⟩ : ∃ z, sel (crightB c0 c1 c2) (c2 * sd c0 + sd c0 - 1) = z := ⟨_, rfl⟩
    obtain ⟨bk, hbk⟩ : ∃ z, crightB c0 c1 c2 = z := ⟨_, rfl⟩
    rw [hb0, hb1, hb2, hb3, hbk] at px
    have ph := fun (Y : World) (hY : Below X1.w.heap.size X1.w Y) => rhasl_any B c P b0 b1 b2 b3 Y ((HPT.out.keep hY).more hY.size) (by have := HPL.out; omega)
    have pa := rarea_any b0 b1 b2 b3
    have pd := cloakdoes_any K A (inL P b0 b1 b2 b3 : Nat) (areaI b0 b1 b2 b3)
    obtain ⟨d, hd⟩ : ∃ d, doesB K A (inL P b0 b1 b2 b3 : Nat) (areaI b0 b1 b2 b3) = d := ⟨_, rfl⟩
    rw [hd] at pd
    have hkey : ∀ (j : Nat), j ≤ 16 → (∀ i, i < j → lvA (cntP P) K A x y i = 3) → m = true → (16 - (j : Int) < lev ∨ (lev = 16 - (j : Int) ∧ lvA (cntP P) K A x y j ≠ 0)) → d = false := by
      intro j hj hall hmt hlv
      subst hmt
      rw [Bool.and_eq_true, lvl_iff] at hm
      obtain ⟨⟨l0, l1⟩, hf⟩ := hm
      obtain ⟨i, hi⟩ : ∃ i : Nat, lev = 16 - (i : Int) := ⟨(16 - lev).toNat, by omega⟩
      have hcr : crightB lev (x / sd lev) (y / sd lev) = true := cof_right hf l0 l1
      simp only [sel, if_true] at hc0 hc1 hc2
      subst hc0
      subst hc1
      subst hc2
      rw [hcr] at hb0 hb1 hb2 hb3
      simp only [sel, if_true] at hb0 hb1 hb2 hb3
      rw [← hd, ← hb0, ← hb1, ← hb2, ← hb3, ← cntP_own hcr]
      have := least_no (K := K) (A := A) (x := x) (y := y) (i := i) hall (by omega) (by
        rcases hlv with h | ⟨h, h'⟩
        · exact .inl (by omega)
        · exact .inr ⟨by omega, h'⟩)
      rw [← hi] at this
      exact this
    have PO := Lib.hid po
    have PX := Lib.hid px
    have PH := Lib.hid ph
    have PAR := Lib.hid pa
    have PD := Lib.hid pd
    have HKEY := Lib.hid hkey
    clear po px ph pa pd hkey hd hm hc0 hc1 hc2 hb0 hb1 hb2 hb3 hbk
    obtain ⟨N0, hN0⟩ : ∃ N0 : Int, (inL P b0 b1 b2 b3 : Nat) = N0 := ⟨_, rfl⟩
    obtain ⟨A0, hA0⟩ : ∃ A0 : Int, areaI b0 b1 b2 b3 = A0 := ⟨_, rfl⟩
    rw [hN0] at PH PD
    rw [hA0] at PAR PD
    clear hN0 hA0
    go_wp2_with fail
    refine (PA.out _ (by repeat' (first | (with_reducible exact Below.refl _ _) | (with_reducible assumption) | (with_reducible refine Later.step ?_ ?_ _) | (with_reducible refine Below.alloc ?_ ?_ _) | (with_reducible refine Below.drew ?_) | (with_reducible refine bel_drewN ?_ _) | (with_reducible refine bel_grown ?_ (by assumption) ?_ ?_) | (with_reducible refine Below.setCell ?_ ?_ _) | go_size))).mono ?_
    rintro e w2 ⟨hfp, hb2⟩
    obtain ⟨X2, rfl, hl2, hm2⟩ := later _ hb2 (Nat.le_refl _)
    (try simp only [World.size_alloc, World.size_setCell, World.size_drew] at hm2 hl2)
    clear hb2
    rcases hfp with ⟨j, hj, _, _, hall, hne, a0, a1, a2, a3, a8, rfl⟩ | ⟨_, _, _, rfl⟩ | ⟨_, rfl⟩
    · have hk := HKEY.out j hj hall
      obtain ⟨l', hl'⟩ : ∃ l', 16 - (j : Int) = l' := ⟨_, rfl⟩
      obtain ⟨x', hx'⟩ : ∃ l', x / sd (16 - (j : Int)) = l' := ⟨_, rfl⟩
      obtain ⟨y', hy'⟩ : ∃ l', y / sd (16 - (j : Int)) = l' := ⟨_, rfl⟩
      obtain ⟨z', hz'⟩ : ∃ l', lvA (cntP P) K A x y j = l' := ⟨_, rfl⟩
      rw [hl', hz'] at hk
      rw [hx', hy', hz', hl']
      clear HKEY hall hne hj hl' hx' hy' hz'
      have hcase : m = false ∨ (m = true ∧ lev < l') ∨ (m = true ∧ lev = l' ∧ z' = 0) ∨ (m = true ∧ lev = l' ∧ z' ≠ 0 ∧ d = false) ∨ (m = true ∧ l' < lev ∧ d = false) := by
        cases m with
        | false => exact .inl rfl
        | true =>
          rcases Int.lt_trichotomy lev l' with h | h | h
          · exact .inr (.inl ⟨rfl, h⟩)
          · by_cases h0 : z' = 0
            · exact .inr (.inr (.inl ⟨rfl, h, h0⟩))
            · exact .inr (.inr (.inr (.inl ⟨rfl, h, h0, hk rfl (.inr ⟨h, h0⟩)⟩)))
          · exact .inr (.inr (.inr (.inr ⟨rfl, h, hk rfl (.inl h)⟩)))
      clear hk
      rcases hcase with rfl | ⟨rfl, h1⟩ | ⟨rfl, rfl, rfl⟩ | ⟨rfl, rfl, h0, rfl⟩ | ⟨rfl, h1, rfl⟩
      · go_wp2_with (first
          | (go_at_call 21; refine (PO.out _).mono ?_; rintro e w' ⟨rfl, hb⟩; obtain ⟨X3, rfl, hl3, hm3⟩ := later _ hb (Nat.le_refl _); clear hb; (try simp only [World.size_alloc, World.size_setCell, World.size_drew] at hm3 hl3))
          | (go_at_call 18; refine (PX.out _).mono ?_; rintro e w' ⟨rfl, hb⟩; obtain ⟨X4, rfl, hl4, hm4⟩ := later _ hb (Nat.le_refl _); clear hb; (try simp only [World.size_alloc, World.size_setCell, World.size_drew] at hm4 hl4))
          | (go_at_call 10; refine (PK.out _).mono ?_; rintro e w' ⟨rfl, hb⟩; obtain ⟨X6, rfl, hl6, hm6⟩ := later _ hb (Nat.le_refl _); clear hb; (try simp only [World.size_alloc, World.size_setCell, World.size_drew] at hm6 hl6)))
        go_ret
        exact ⟨rfl, by repeat' (first | (with_reducible exact Below.refl _ _) | (with_reducible assumption) | (with_reducible refine Later.step ?_ ?_ _) | (with_reducible refine Below.alloc ?_ ?_ _) | (with_reducible refine Below.drew ?_) | (with_reducible refine bel_drewN ?_ _) | (with_reducible refine bel_grown ?_ (by assumption) ?_ ?_) | (with_reducible refine Below.setCell ?_ ?_ _) | go_size)⟩
      · have h2 : decide (lev < l') = true := decide_eq_true h1
        go_wp2_with (first
          | (go_at_call 21; refine (PO.out _).mono ?_; rintro e w' ⟨rfl, hb⟩; obtain ⟨X3, rfl, hl3, hm3⟩ := later _ hb (Nat.le_refl _); clear hb; (try simp only [World.size_alloc, World.size_setCell, World.size_drew] at hm3 hl3))
          | (go_at_call 18; refine (PX.out _).mono ?_; rintro e w' ⟨rfl, hb⟩; obtain ⟨X4, rfl, hl4, hm4⟩ := later _ hb (Nat.le_refl _); clear hb; (try simp only [World.size_alloc, World.size_setCell, World.size_drew] at hm4 hl4))
          | (go_at_call 10; refine (PK.out _).mono ?_; rintro e w' ⟨rfl, hb⟩; obtain ⟨X6, rfl, hl6, hm6⟩ := later _ hb (Nat.le_refl _); clear hb; (try simp only [World.size_alloc, World.size_setCell, World.size_drew] at hm6 hl6)))
        go_ret
        exact ⟨rfl, by repeat' (first | (with_reducible exact Below.refl _ _) | (with_reducible assumption) | (with_reducible refine Later.step ?_ ?_ _) | (with_reducible refine Below.alloc ?_ ?_ _) | (with_reducible refine Below.drew ?_) | (with_reducible refine bel_drewN ?_ _) | (with_reducible refine bel_grown ?_ (by assumption) ?_ ?_) | (with_reducible refine Below.setCell ?_ ?_ _) | go_size)⟩
      · have h2 : decide (lev < lev) = false := decide_eq_false (by omega)
        go_wp2_with (first
          | (go_at_call 21; refine (PO.out _).mono ?_; rintro e w' ⟨rfl, hb⟩; obtain ⟨X3, rfl, hl3, hm3⟩ := later _ hb (Nat.le_refl _); clear hb; (try simp only [World.size_alloc, World.size_setCell, World.size_drew] at hm3 hl3))
          | (go_at_call 18; refine (PX.out _).mono ?_; rintro e w' ⟨rfl, hb⟩; obtain ⟨X4, rfl, hl4, hm4⟩ := later _ hb (Nat.le_refl _); clear hb; (try simp only [World.size_alloc, World.size_setCell, World.size_drew] at hm4 hl4))
          | (go_at_call 10; refine (PK.out _).mono ?_; rintro e w' ⟨rfl, hb⟩; obtain ⟨X6, rfl, hl6, hm6⟩ := later _ hb (Nat.le_refl _); clear hb; (try simp only [World.size_alloc, World.size_setCell, World.size_drew] at hm6 hl6)))
        go_ret
        exact ⟨rfl, by repeat' (first | (with_reducible exact Below.refl _ _) | (with_reducible assumption) | (with_reducible refine Later.step ?_ ?_ _) | (with_reducible refine Below.alloc ?_ ?_ _) | (with_reducible refine Below.drew ?_) | (with_reducible refine bel_drewN ?_ _) | (with_reducible refine bel_grown ?_ (by assumption) ?_ ?_) | (with_reducible refine Below.setCell ?_ ?_ _) | go_size)⟩
      · have h2 : decide (lev < lev) = false := decide_eq_false (by omega)
        have h3 : decide (z' = 0) = false := decide_eq_false h0
        have h4 : (z' == 0) = false := by simpa using h0
        go_wp2_with (first
          | (go_at_call 21; refine (PO.out _).mono ?_; rintro e w' ⟨rfl, hb⟩; obtain ⟨X3, rfl, hl3, hm3⟩ := later _ hb (Nat.le_refl _); clear hb; (try simp only [World.size_alloc, World.size_setCell, World.size_drew] at hm3 hl3))
          | (go_at_call 18; refine (PX.out _).mono ?_; rintro e w' ⟨rfl, hb⟩; obtain ⟨X4, rfl, hl4, hm4⟩ := later _ hb (Nat.le_refl _); clear hb; (try simp only [World.size_alloc, World.size_setCell, World.size_drew] at hm4 hl4)))
        (refine wp_region_later (X4.w.heap.size + 1) (by kernel_rfl) (by kernel_rfl) (by go_size) ?_; (repeat (go_big_quiet_step ((first | (go_at_call 16; exact Later.call _ (Nat.le_trans (by go_size) (Later.is _).size) (PH.out _ (by repeat' (first | (with_reducible exact Below.refl _ _) | (with_reducible assumption) | (with_reducible refine Later.step ?_ ?_ _) | (with_reducible refine Below.alloc ?_ ?_ _) | (with_reducible refine Below.drew ?_) | (with_reducible refine bel_drewN ?_ _) | (with_reducible refine bel_grown ?_ (by assumption) ?_ ?_) | (with_reducible refine Below.setCell ?_ ?_ _) | go_size)))) | (go_at_call 17; exact Later.call _ (Nat.le_trans (by go_size) (Later.is _).size) (PAR.out _)) | (go_at_call 22; exact Later.call _ (Nat.le_trans (by go_size) (Later.is _).size) (PD.out _)) | (go_at_call 10; exact Later.call _ (Nat.le_trans (by go_size) (Later.is _).size) (PK.out _)))))); refine wpQuiet_nil ?_; intro Xq hlq hmq)
        go_wp2
        go_ret
        exact ⟨rfl, by repeat' (first | (with_reducible exact Below.refl _ _) | (with_reducible assumption) | (with_reducible refine Later.step ?_ ?_ _) | (with_reducible refine Below.alloc ?_ ?_ _) | (with_reducible refine Below.drew ?_) | (with_reducible refine bel_drewN ?_ _) | (with_reducible refine bel_grown ?_ (by assumption) ?_ ?_) | (with_reducible refine Below.setCell ?_ ?_ _) | go_size)⟩
      · have h2 : decide (lev < l') = false := decide_eq_false (by omega)
        have h3 : decide (lev = l') = false := decide_eq_false (by omega)
        have h4 : (lev == l') = false := by simp; omega
        go_wp2_with (first
          | (go_at_call 21; refine (PO.out _).mono ?_; rintro e w' ⟨rfl, hb⟩; obtain ⟨X3, rfl, hl3, hm3⟩ := later _ hb (Nat.le_refl _); clear hb; (try simp only [World.size_alloc, World.size_setCell, World.size_drew] at hm3 hl3))
          | (go_at_call 18; refine (PX.out _).mono ?_; rintro e w' ⟨rfl, hb⟩; obtain ⟨X4, rfl, hl4, hm4⟩ := later _ hb (Nat.le_refl _); clear hb; (try simp only [World.size_alloc, World.size_setCell, World.size_drew] at hm4 hl4)))
        (refine wp_region_later (X4.w.heap.size + 1) (by kernel_rfl) (by kernel_rfl) (by go_size) ?_; (repeat (go_big_quiet_step ((first | (go_at_call 16; exact Later.call _ (Nat.le_trans (by go_size) (Later.is _).size) (PH.out _ (by repeat' (first | (with_reducible exact Below.refl _ _) | (with_reducible assumption) | (with_reducible refine Later.step ?_ ?_ _) | (with_reducible refine Below.alloc ?_ ?_ _) | (with_reducible refine Below.drew ?_) | (with_reducible refine bel_drewN ?_ _) | (with_reducible refine bel_grown ?_ (by assumption) ?_ ?_) | (with_reducible refine Below.setCell ?_ ?_ _) | go_size)))) | (go_at_call 17; exact Later.call _ (Nat.le_trans (by go_size) (Later.is _).size) (PAR.out _)) | (go_at_call 22; exact Later.call _ (Nat.le_trans (by go_size) (Later.is _).size) (PD.out _)) | (go_at_call 10; exact Later.call _ (Nat.le_trans (by go_size) (Later.is _).size) (PK.out _)))))); refine wpQuiet_nil ?_; intro Xq hlq hmq)
        go_wp2
        go_ret
        exact ⟨rfl, by repeat' (first | (with_reducible exact Below.refl _ _) | (with_reducible assumption) | (with_reducible refine Later.step ?_ ?_ _) | (with_reducible refine Below.alloc ?_ ?_ _) | (with_reducible refine Below.drew ?_) | (with_reducible refine bel_drewN ?_ _) | (with_reducible refine bel_grown ?_ (by assumption) ?_ ?_) | (with_reducible refine Below.setCell ?_ ?_ _) | go_size)⟩
    · go_wp2_with (first
        | (go_at_call 21; refine (PO.out _).mono ?_; rintro e w' ⟨rfl, hb⟩; obtain ⟨X3, rfl, hl3, hm3⟩ := later _ hb (Nat.le_refl _); clear hb; (try simp only [World.size_alloc, World.size_setCell, World.size_drew] at hm3 hl3))
        | (go_at_call 18; refine (PX.out _).mono ?_; rintro e w' ⟨rfl, hb⟩; obtain ⟨X4, rfl, hl4, hm4⟩ := later _ hb (Nat.le_refl _); clear hb; (try simp only [World.size_alloc, World.size_setCell, World.size_drew] at hm4 hl4))
        | (go_at_call 10; refine (PK.out _).mono ?_; rintro e w' ⟨rfl, hb⟩; obtain ⟨X6, rfl, hl6, hm6⟩ := later _ hb (Nat.le_refl _); clear hb; (try simp only [World.size_alloc, World.size_setCell, World.size_drew] at hm6 hl6)))
      go_ret
      exact ⟨rfl, by repeat' (first | (with_reducible exact Below.refl _ _) | (with_reducible assumption) | (with_reducible refine Later.step ?_ ?_ _) | (with_reducible refine Below.alloc ?_ ?_ _) | (with_reducible refine Below.drew ?_) | (with_reducible refine bel_drewN ?_ _) | (with_reducible refine bel_grown ?_ (by assumption) ?_ ?_) | (with_reducible refine Below.setCell ?_ ?_ _) | go_size)⟩
    · go_wp2_with (first
        | (go_at_call 21; refine (PO.out _).mono ?_; rintro e w' ⟨rfl, hb⟩; obtain ⟨X3, rfl, hl3, hm3⟩ := later _ hb (Nat.le_refl _); clear hb; (try simp only [World.size_alloc, World.size_setCell, World.size_drew] at hm3 hl3))
        | (go_at_call 18; refine (PX.out _).mono ?_; rintro e w' ⟨rfl, hb⟩; obtain ⟨X4, rfl, hl4, hm4⟩ := later _ hb (Nat.le_refl _); clear hb; (try simp only [World.size_alloc, World.size_setCell, World.size_drew] at hm4 hl4))
        | (go_at_call 10; refine (PK.out _).mono ?_; rintro e w' ⟨rfl, hb⟩; obtain ⟨X6, rfl, hl6, hm6⟩ := later _ hb (Nat.le_refl _); clear hb; (try simp only [World.size_alloc, World.size_setCell, World.size_drew] at hm6 hl6)))
      go_ret
      exact ⟨rfl, by repeat' (first | (with_reducible exact Below.refl _ _) | (with_reducible assumption) | (with_reducible refine Later.step ?_ ?_ _) | (with_reducible refine Below.alloc ?_ ?_ _) | (with_reducible refine Below.drew ?_) | (with_reducible refine bel_drewN ?_ _) | (with_reducible refine bel_grown ?_ (by assumption) ?_ ?_) | (with_reducible refine Below.setCell ?_ ?_ _) | go_size)⟩
  · have hbg : 60 < len := by have := HL.out; omega
    obtain ⟨X1, rfl, hl1, hm1⟩ := later _ hb (Nat.le_refl _)
    (try simp only [World.size_alloc, World.size_setCell, World.size_drew] at hm1 hl1)
    clear hb hbig
    go_wp2_with (first
      | (go_at_call 10; refine (PK.out _).mono ?_; rintro e w' ⟨rfl, hb⟩; obtain ⟨X6, rfl, hl6, hm6⟩ := later _ hb (Nat.le_refl _); clear hb; (try simp only [World.size_alloc, World.size_setCell, World.size_drew] at hm6 hl6)))
    go_ret
    exact ⟨rfl, by repeat' (first | (with_reducible exact Below.refl _ _) | (with_reducible assumption) | (with_reducible refine Later.step ?_ ?_ _) | (with_reducible refine Below.alloc ?_ ?_ _) | (with_reducible refine Below.drew ?_) | (with_reducible refine bel_drewN ?_ _) | (with_reducible refine bel_grown ?_ (by assumption) ?_ ?_) | (with_reducible refine Below.setCell ?_ ?_ _) | go_size)⟩
end Go.Proofs.Ythoanoaigfcchaa
