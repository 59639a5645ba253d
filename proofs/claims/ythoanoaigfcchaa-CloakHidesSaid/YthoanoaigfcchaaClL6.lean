/- A cloak hides: the statement walked. No condition beyond what the slice reads as. -/
import Derived.Test.YthoanoaigfcchaaClL4
namespace Go.Proofs.Ythoanoaigfcchaa
open Go.RowKit Go.Maps
set_option linter.unusedSimpArgs false
set_option linter.unusedVariables false
set_option maxRecDepth 2000

theorem par_axis {s n : Int} (hs : 0 < s) (hn : 0 ≤ n) : n / 2 * (2 * s) ≤ min (n * s) (otherI n * s) ∧ max (n * s + s - 1) (otherI n * s + s - 1) ≤ n / 2 * (2 * s) + 2 * s - 1 ∧ max (n * s + s - 1) (otherI n * s + s - 1) - min (n * s) (otherI n * s) + 1 = 2 * s
    ∧ n / 2 * (2 * s) ≤ n * s ∧ n * s + s - 1 ≤ n / 2 * (2 * s) + 2 * s - 1 := by
  have hm : n / 2 * (2 * s) = 2 * (n / 2 * s) := by rw [Int.mul_left_comm]
  rcases other_cases n hn with ⟨e, h⟩ | ⟨e, h⟩
  · have h2 : n * s = 2 * (n / 2 * s) := by
      rw [show n * s = (2 * (n / 2)) * s by congr 1; omega, Int.mul_assoc]
    rw [e, Int.add_mul, Int.one_mul, h2, hm]
    omega
  · have h2 : n * s = 2 * (n / 2 * s) + s := by
      rw [show n * s = (2 * (n / 2) + 1) * s by congr 1; omega, Int.add_mul, Int.mul_assoc, Int.one_mul]
    rw [e, Int.sub_mul, Int.one_mul, h2, hm]
    omega
theorem sd_upp {l : Int} (h0 : 1 ≤ l) (h1 : l ≤ 16) : sd (l - 1) = 2 * sd l := by
  unfold sd
  rw [show (16 - (l - 1)).toNat = (16 - l).toNat + 1 by omega, Int.pow_succ]
  omega
theorem pw_one (l : Int) : pw (l - (l - 1)) = 2 := by
  unfold pw
  rw [show (l - (l - 1)).toNat = 1 by omega]
  decide
/-- All that is asked of a cloak's box. -/
structure HidF (P : List (Int × Int)) (x y K A l X Y z a b c d n : Int) : Prop where
  has : hasB a b c d x y = true
  cnt : n = (inL P a b c d : Nat)
  kk : K ≤ n
  aa : A ≤ areaI a b c d
  right : crightB l X Y = true
  inn : inB (X * sd l) (Y * sd l) (X * sd l + sd l - 1) (Y * sd l + sd l - 1) a b c d = true
  kind : (z = 0 ∧ a = X * sd l ∧ b = Y * sd l ∧ c = X * sd l + sd l - 1 ∧ d = Y * sd l + sd l - 1)
    ∨ (z ≠ 0 ∧ 1 ≤ l ∧ aboveB l X Y (l - 1) = true ∧ crightB (l - 1) (X / 2) (Y / 2) = true
      ∧ inB a b c d (X / 2 * sd (l - 1)) (Y / 2 * sd (l - 1)) (X / 2 * sd (l - 1) + sd (l - 1) - 1) (Y / 2 * sd (l - 1) + sd (l - 1) - 1) = true ∧ areaI a b c d = 2 * boA l X Y)
theorem does_get {K A n a : Int} (h : doesB K A n a = true) : K ≤ n ∧ A ≤ a := by
  unfold doesB at h
  simp only [decide_eq_true_eq] at h
  exact ⟨h.2.2.1, h.2.2.2⟩
theorem cright_up {l X Y : Int} (h : crightB l X Y = true) (h1 : 1 ≤ l) : crightB (l - 1) (X / 2) (Y / 2) = true := by
  rw [cright_iff] at *
  have : pw l = 2 * pw (l - 1) := by
    unfold pw
    rw [show l.toNat = (l - 1).toNat + 1 by omega, Int.pow_succ]
    omega
  omega
theorem area_box {a b c d : Int} (h : rightB a b c d = true) : areaI a b c d = (c - a + 1) * (d - b + 1) := by
  unfold areaI
  rw [if_pos h]
theorem hides_pure {P : List (Int × Int)} (hg : GoodP P) {x y K A l : Int} (hf : fitsB x y = true) (l0 : 0 ≤ l) (l1 : l ≤ 16) (hne : atK (cntP P) K A l (x / sd l) (y / sd l) ≠ 3) :
    ∃ a b c d n, atV (cntP P) l (x / sd l) (y / sd l) (atK (cntP P) K A l (x / sd l) (y / sd l)) = .agg #[.int .i64 a, .int .i64 b, .int .i64 c, .int .i64 d, .int .i64 l, .int .i64 (x / sd l), .int .i64 (y / sd l), .int .i64 (atK (cntP P) K A l (x / sd l) (y / sd l)), .int .i64 n] ∧ HidF P x y K A l (x / sd l) (y / sd l) (atK (cntP P) K A l (x / sd l) (y / sd l)) a b c d n := by
  have hc := cof_right hf l0 l1
  have hs := sd_pos l
  have hb := box_right hc
  have hx : x / sd l * sd l ≤ x ∧ x ≤ x / sd l * sd l + sd l - 1 := (div_iff hs).2 rfl
  have hy : y / sd l * sd l ≤ y ∧ y ≤ y / sd l * sd l + sd l - 1 := (div_iff hs).2 rfl
  have hcr := cright_iff.1 hc
  obtain ⟨X, hX⟩ : ∃ X, x / sd l = X := ⟨_, rfl⟩
  obtain ⟨Y, hY⟩ : ∃ Y, y / sd l = Y := ⟨_, rfl⟩
  rw [hX, hY] at hc hb hcr hne ⊢
  rw [hX] at hx
  rw [hY] at hy
  have hbr := right_iff.1 hb
  rcases atK_cases (cntP P) K A l X Y with ⟨e, h⟩ | ⟨e, _, h0, h⟩ | ⟨e, _, h0, h⟩ | ⟨e, _⟩
  · obtain ⟨k1, k2⟩ := does_get h
    rw [e]
    refine ⟨_, _, _, _, _, rfl, ?_, ?_, k1, k2, hc, ?_, .inl ⟨rfl, rfl, rfl, rfl, rfl⟩⟩
    · rw [has_iff]; exact ⟨hb, hx.1, hx.2, hy.1, hy.2⟩
    · unfold cntP; rw [if_pos hc]
    · rw [in_iff]; exact ⟨hb, hb, Int.le_refl _, Int.le_refl _, Int.le_refl _, Int.le_refl _⟩
  · obtain ⟨k1, k2⟩ := does_get h
    have hl : 1 ≤ l := by omega
    have hc2 := (cright_beside hc (by omega)).1
    have hr := hull_right hc hc2
    have hu1 := cright_up hc hl
    have hbu := box_right hu1
    have ax := par_axis hs hcr.2.2.1
    have ay := par_axis hs hcr.2.2.2.1
    rw [e]
    rw [sd_upp hl l1] at hbu
    refine ⟨_, _, _, _, _, rfl, ?_, (inL_beside hg hc (by omega)).symm, k1, k2, hc, ?_, .inr ⟨by decide, hl, above_iff.2 ⟨hc, by omega, by omega⟩, hu1, ?_, ?_⟩⟩
    · rw [has_iff]; refine ⟨hr, ?_⟩; simp only [hu]; omega
    · rw [in_iff]; refine ⟨hb, hr, ?_⟩; simp only [hu]; omega
    · rw [in_iff, sd_upp hl l1]; refine ⟨hr, hbu, ?_⟩; simp only [hu]; omega
    · rw [area_box hr]
      unfold boA
      rw [area_box hb]
      simp only [hu]
      rw [ax.2.2.1, Int.mul_assoc]
      congr 1
      congr 1 <;> omega
  · obtain ⟨k1, k2⟩ := does_get h
    have hl : 1 ≤ l := by omega
    have hc2 := (cright_beside hc (by omega)).2
    have hr := hull_right hc hc2
    have hu1 := cright_up hc hl
    have hbu := box_right hu1
    have ax := par_axis hs hcr.2.2.1
    have ay := par_axis hs hcr.2.2.2.1
    rw [e]
    rw [sd_upp hl l1] at hbu
    refine ⟨_, _, _, _, _, rfl, ?_, (inL_over hg hc (by omega)).symm, k1, k2, hc, ?_, .inr ⟨by decide, hl, above_iff.2 ⟨hc, by omega, by omega⟩, hu1, ?_, ?_⟩⟩
    · rw [has_iff]; refine ⟨hr, ?_⟩; simp only [hu]; omega
    · rw [in_iff]; refine ⟨hb, hr, ?_⟩; simp only [hu]; omega
    · rw [in_iff, sd_upp hl l1]; refine ⟨hr, hbu, ?_⟩; simp only [hu]; omega
    · rw [area_box hr]
      unfold boA
      rw [area_box hb]
      simp only [hu]
      rw [ay.2.2.1, Int.mul_left_comm]
      congr 1
      congr 1 <;> omega
  · exact absurd e hne

/-- What is found in a pyramid hides. -/
def HidPost (w : World) (P : List (Int × Int)) (K A x y : Int) (e : Ending) (w' : World) : Prop :=
  ((∃ l X Y z a b c d n, 0 ≤ l ∧ l ≤ 16 ∧ HidF P x y K A l X Y z a b c d n ∧ e = .returned (.tuple #[.agg #[.int .i64 a, .int .i64 b, .int .i64 c, .int .i64 d, .int .i64 l, .int .i64 X, .int .i64 Y, .int .i64 z, .int .i64 n], .int .i64 0]))
    ∨ (∃ k, k ≠ 0 ∧ e = .returned (.tuple #[.agg #[.int .i64 0, .int .i64 0, .int .i64 0, .int .i64 0, .int .i64 0, .int .i64 0, .int .i64 0, .int .i64 0, .int .i64 0], .int .i64 k]))) ∧ Below w.heap.size w w'
theorem hid_any {P : List (Int × Int)} {q n : Nat} {F : Nat → Nat → Int} (x y K A : Int) (w : World) (hP : Pyr w q n F) (hF : FitsF F P) (hg : GoodP P) (hn : P.length ≤ 60) :
    Calls Try.prog 11 #[.pointer (some ⟨q, 0, none⟩), .agg #[.int .i64 x, .int .i64 y], .agg #[.int .i64 K, .int .u64 A]] w (HidPost w P K A x y) := by
  cases hf : fitsB x y with
  | false =>
    refine (find_arg x y K A q w (.inl hf)).mono ?_
    rintro e w' ⟨rfl, hb⟩
    exact ⟨.inr ⟨1, by decide, rfl⟩, hb⟩
  | true =>
    cases hK : rightK K with
    | false =>
      refine (find_arg x y K A q w (.inr ⟨hf, hK⟩)).mono ?_
      rintro e w' ⟨rfl, hb⟩
      exact ⟨.inr ⟨1, by decide, rfl⟩, hb⟩
    | true =>
      have h := find_any x y K A q n F w hP hf hK (cntF_bd hF hg hn)
      rw [show cntF F = cntP P from cntF_eq hF hg (List.Perm.refl _)] at h
      refine h.mono ?_
      rintro e w' ⟨hfp, hb⟩
      refine ⟨?_, hb⟩
      rcases hfp with ⟨j, hj, hall, hne, rfl⟩ | ⟨hall, rfl⟩
      · obtain ⟨a, b, c, d, m, hv, hh⟩ := hides_pure hg hf (l := 16 - (j : Int)) (by omega) (by omega) hne
        refine .inl ⟨_, _, _, _, a, b, c, d, m, by omega, by omega, hh, ?_⟩
        rw [show lvV (cntP P) K A x y j = _ from hv]
      · exact .inr ⟨21, by decide, rfl⟩
set_option maxHeartbeats 16000000 in
theorem hides_law (S : Option Addr) (len cp : Nat) (Q : List (Int × Int)) (x y K A : Int) (w : World) (hQ : Q.length = len ∧ len ≤ 9223372036854775807 ∧ Pts w w.heap.size S Q) (hx : (Lit.int .i64 x).wf = true) (hy : (Lit.int .i64 y).wf = true) (hwK : (Lit.int .i64 K).wf = true) (hwA : (Lit.int .u64 A).wf = true) :
    Calls Try.prog 4 #[.slice S len cp, .agg #[.int .i64 x, .int .i64 y], .agg #[.int .i64 K, .int .u64 A]] w fun e w' => e = .returned (.bool true) ∧ Below w.heap.size w w' := by
  clear hx hy hwK hwA
  obtain ⟨hl, hlen, hp⟩ := hQ
  have PB := Lib.hid (fun (Y : World) (hY : Below w.heap.size w Y) => built_any S cp Q Y ((hp.keep hY).more hY.size) (by omega))
  rw [hl] at PB
  have HL := Lib.hid hl
  have PK := Lib.hid cknown_any
  clear hl hp
  go_enter Try.func4, Try.ntmps4
  go_wp2_with fail
  refine (PB.out _ (by repeat' (first | (with_reducible exact Below.refl _ _) | (with_reducible assumption) | (with_reducible refine Later.step ?_ ?_ _) | (with_reducible refine Below.alloc ?_ ?_ _) | (with_reducible refine Below.drew ?_) | (with_reducible refine bel_drewN ?_ _) | (with_reducible refine bel_grown ?_ (by assumption) ?_ ?_) | (with_reducible refine Below.setCell ?_ ?_ _) | go_size))).mono ?_
  rintro e w1 ⟨hc, hb⟩
  rcases hc with ⟨hsm, q, n, F, B, c, P, rfl, hP, hF, hg, hpm, hPt⟩ | ⟨hbig, rfl⟩
  · have hpl : P.length ≤ 60 := by
      rw [hpm.length_eq]
      exact Nat.le_trans (List.length_filter_le _ _) hsm
    have HP := Lib.hid hP
    have HPT := Lib.hid hPt
    have HF := Lib.hid hF
    have HG := Lib.hid hg
    have HPL := Lib.hid hpl
    obtain ⟨X1, rfl, hl1, hm1⟩ := later _ hb (Nat.le_refl _)
    (try simp only [World.size_alloc, World.size_setCell, World.size_drew] at hm1 hl1)
    clear hb hP hPt hF hg hpl hpm hsm
    have PA := Lib.hid (fun (Y : World) (hY : Below X1.w.heap.size X1.w Y) => hid_any x y K A Y (HP.out.keep hY) HF.out HG.out HPL.out)
    go_wp2_with fail
    refine (PA.out _ (by repeat' (first | (with_reducible exact Below.refl _ _) | (with_reducible assumption) | (with_reducible refine Later.step ?_ ?_ _) | (with_reducible refine Below.alloc ?_ ?_ _) | (with_reducible refine Below.drew ?_) | (with_reducible refine bel_drewN ?_ _) | (with_reducible refine bel_grown ?_ (by assumption) ?_ ?_) | (with_reducible refine Below.setCell ?_ ?_ _) | go_size))).mono ?_
    rintro e w2 ⟨hfp, hb2⟩
    obtain ⟨X2, rfl, hl2, hm2⟩ := later _ hb2 (Nat.le_refl _)
    (try simp only [World.size_alloc, World.size_setCell, World.size_drew] at hm2 hl2)
    clear hb2
    rcases hfp with ⟨l, cx, cy, z, a0, a1, a2, a3, m, l0, l1, hh, rfl⟩ | ⟨k, hk, rfl⟩
    · obtain ⟨h1, h2, h3, h4, h5, h6, h7⟩ := hh
      have ph := rhas_any a0 a1 a2 a3 x y
      rw [h1] at ph
      have pl := fun (Y : World) (hY : Below X1.w.heap.size X1.w Y) => rhasl_any B c P a0 a1 a2 a3 Y ((HPT.out.keep hY).more hY.size) (by have := HPL.out; omega)
      rw [← h2] at pl
      have pa := rarea_any a0 a1 a2 a3
      have px := rbox_any l cx cy
      have pb := rarea_any (cx * sd l) (cy * sd l) (cx * sd l + sd l - 1) (cy * sd l + sd l - 1)
      have pin := rin_any (cx * sd l) (cy * sd l) (cx * sd l + sd l - 1) (cy * sd l + sd l - 1) a0 a1 a2 a3
      have harea := area_bd (cx * sd l) (cy * sd l) (cx * sd l + sd l - 1) (cy * sd l + sd l - 1)
      rw [h6] at pin
      rw [h5] at px
      simp only [sel, if_true] at px
      unfold boA at h7
      obtain ⟨b0, hb0⟩ : ∃ b0, cx * sd l = b0 := ⟨_, rfl⟩
      obtain ⟨b1, hb1⟩ : ∃ b1, cy * sd l = b1 := ⟨_, rfl⟩
      obtain ⟨b2, hb2⟩ : ∃ b2, b0 + sd l - 1 = b2 := ⟨_, rfl⟩
      obtain ⟨b3, hb3⟩ : ∃ b3, b1 + sd l - 1 = b3 := ⟨_, rfl⟩
      rw [hb0, hb1, hb2, hb3] at px pb pin harea h7
      obtain ⟨A1, hA1⟩ : ∃ A1, areaI a0 a1 a2 a3 = A1 := ⟨_, rfl⟩
      obtain ⟨A2, hA2⟩ : ∃ A2, areaI b0 b1 b2 b3 = A2 := ⟨_, rfl⟩
      rw [hA1] at pa h4 h7
      rw [hA2] at pb harea h7
      have g1 : decide (m < K) = false := decide_eq_false (by omega)
      have g2 : decide (A1 < A) = false := decide_eq_false (by omega)
      have PH := Lib.hid ph
      have PL := Lib.hid pl
      have PX := Lib.hid px
      have PIN := Lib.hid pin
      have PAA := Lib.hid pa
      have PBB := Lib.hid pb
      have H7 := Lib.hid h7
      have HB := Lib.hid hb0
      clear ph pl px pin pa pb h7 h1 h2 h3 h4 h5 h6 hb0 hb1 hb2 hb3 hA1 hA2
      rcases H7.out with ⟨rfl, rfl, rfl, rfl, rfl⟩ | ⟨hz, hl, hab, hcu, hin, har⟩
      · clear H7
        go_wp2_with fail
        (refine wp_region_later (X2.w.heap.size + 1) (by kernel_rfl) (by kernel_rfl) (by go_size) ?_; (repeat (go_big_quiet_step ((first | (go_at_call 15; exact Later.call _ (Nat.le_trans (by go_size) (Later.is _).size) (PH.out _)) | (go_at_call 16; exact Later.call _ (Nat.le_trans (by go_size) (Later.is _).size) (PL.out _ (by repeat' (first | (with_reducible exact Below.refl _ _) | (with_reducible assumption) | (with_reducible refine Later.step ?_ ?_ _) | (with_reducible refine Below.alloc ?_ ?_ _) | (with_reducible refine Below.drew ?_) | (with_reducible refine bel_drewN ?_ _) | (with_reducible refine bel_grown ?_ (by assumption) ?_ ?_) | (with_reducible refine Below.setCell ?_ ?_ _) | go_size)))) | (go_at_call 17; exact Later.call _ (Nat.le_trans (by go_size) (Later.is _).size) (PAA.out _)))))); refine wpQuiet_nil ?_; intro Xq hlq hmq)
        go_wp2_with (first
          | (go_at_call 18; with_reducible refine (PX.out _).mono ?_; rintro e w' ⟨rfl, hb⟩; obtain ⟨X4, rfl, hl4, hm4⟩ := later _ hb (Nat.le_refl _); clear hb; (try simp only [World.size_alloc, World.size_setCell, World.size_drew] at hm4 hl4))
          | (go_at_call 19; with_reducible refine (PIN.out _).mono ?_; rintro e w' ⟨rfl, hb⟩; obtain ⟨X5, rfl, hl5, hm5⟩ := later _ hb (Nat.le_refl _); clear hb; (try simp only [World.size_alloc, World.size_setCell, World.size_drew] at hm5 hl5))
          | (go_at_call 10; refine (PK.out _).mono ?_; rintro e w' ⟨rfl, hb⟩; obtain ⟨X6, rfl, hl6, hm6⟩ := later _ hb (Nat.le_refl _); clear hb; (try simp only [World.size_alloc, World.size_setCell, World.size_drew] at hm6 hl6)))
        go_ret
        exact ⟨rfl, by repeat' (first | (with_reducible exact Below.refl _ _) | (with_reducible assumption) | (with_reducible refine Later.step ?_ ?_ _) | (with_reducible refine Below.alloc ?_ ?_ _) | (with_reducible refine Below.drew ?_) | (with_reducible refine bel_drewN ?_ _) | (with_reducible refine bel_grown ?_ (by assumption) ?_ ?_) | (with_reducible refine Below.setCell ?_ ?_ _) | go_size)⟩
      · have hz1 : (z == 0) = false := by simpa using hz
        have pab := rabove_any l cx cy (l - 1)
        rw [hab, pw_one] at pab
        simp only [sel, if_true] at pab
        obtain ⟨u, hu⟩ : ∃ u, cx / 2 = u := ⟨_, rfl⟩
        obtain ⟨v, hv⟩ : ∃ v, cy / 2 = v := ⟨_, rfl⟩
        rw [hu, hv] at pab hcu hin
        have pxu := rbox_any (l - 1) u v
        rw [hcu] at pxu
        simp only [sel, if_true] at pxu
        have pinu := rin_any a0 a1 a2 a3 (u * sd (l - 1)) (v * sd (l - 1)) (u * sd (l - 1) + sd (l - 1) - 1) (v * sd (l - 1) + sd (l - 1) - 1)
        rw [hin] at pinu
        obtain ⟨u0, hu0⟩ : ∃ b0, u * sd (l - 1) = b0 := ⟨_, rfl⟩
        obtain ⟨u1, hu1⟩ : ∃ b1, v * sd (l - 1) = b1 := ⟨_, rfl⟩
        obtain ⟨u2, hu2⟩ : ∃ b2, u0 + sd (l - 1) - 1 = b2 := ⟨_, rfl⟩
        obtain ⟨u3, hu3⟩ : ∃ b3, u1 + sd (l - 1) - 1 = b3 := ⟨_, rfl⟩
        rw [hu0, hu1, hu2, hu3] at pxu pinu
        have PAB := Lib.hid pab
        have PXU := Lib.hid pxu
        have PINU := Lib.hid pinu
        subst har
        clear pab pxu pinu hu0 hu1 hu2 hu3 hu hv H7 hz hab hcu hin
        have hw : IntKind.u64.wrap (2 * A2) = 2 * A2 := IntWalk.u64_in _ (by omega)
        go_wp2_with fail
        (refine wp_region_later (X2.w.heap.size + 1) (by kernel_rfl) (by kernel_rfl) (by go_size) ?_; (repeat (go_big_quiet_step ((first | (go_at_call 15; exact Later.call _ (Nat.le_trans (by go_size) (Later.is _).size) (PH.out _)) | (go_at_call 16; exact Later.call _ (Nat.le_trans (by go_size) (Later.is _).size) (PL.out _ (by repeat' (first | (with_reducible exact Below.refl _ _) | (with_reducible assumption) | (with_reducible refine Later.step ?_ ?_ _) | (with_reducible refine Below.alloc ?_ ?_ _) | (with_reducible refine Below.drew ?_) | (with_reducible refine bel_drewN ?_ _) | (with_reducible refine bel_grown ?_ (by assumption) ?_ ?_) | (with_reducible refine Below.setCell ?_ ?_ _) | go_size)))) | (go_at_call 17; exact Later.call _ (Nat.le_trans (by go_size) (Later.is _).size) (PAA.out _)))))); refine wpQuiet_nil ?_; intro Xq hlq hmq)
        go_wp2_with (first
          | (go_at_call 18; with_reducible refine (PX.out _).mono ?_; rintro e w' ⟨rfl, hb⟩; obtain ⟨X4, rfl, hl4, hm4⟩ := later _ hb (Nat.le_refl _); clear hb; (try simp only [World.size_alloc, World.size_setCell, World.size_drew] at hm4 hl4))
          | (go_at_call 19; with_reducible refine (PIN.out _).mono ?_; rintro e w' ⟨rfl, hb⟩; obtain ⟨X5, rfl, hl5, hm5⟩ := later _ hb (Nat.le_refl _); clear hb; (try simp only [World.size_alloc, World.size_setCell, World.size_drew] at hm5 hl5))
          | (go_at_call 20; refine (PAB.out _).mono ?_; rintro e w' ⟨rfl, hb⟩; obtain ⟨X6, rfl, hl6, hm6⟩ := later _ hb (Nat.le_refl _); clear hb; (try simp only [World.size_alloc, World.size_setCell, World.size_drew] at hm6 hl6)))
        refine (PXU.out _).mono ?_
        rintro e w' ⟨rfl, hb⟩; obtain ⟨X7, rfl, hl7, hm7⟩ := later _ hb (Nat.le_refl _); clear hb; (try simp only [World.size_alloc, World.size_setCell, World.size_drew] at hm7 hl7)
        go_wp2_with fail
        (refine wp_region_later (X7.w.heap.size + 1) (by kernel_rfl) (by kernel_rfl) (by go_size) ?_; (repeat (go_big_quiet_step ((first | (go_at_call 19; exact Later.call _ (Nat.le_trans (by go_size) (Later.is _).size) (PINU.out _)) | (go_at_call 17; with_reducible refine Later.call _ ?_ (PAA.out _); exact Nat.le_trans (by go_size) (Later.is _).size) | (go_at_call 17; with_reducible refine Later.call _ ?_ (PBB.out _); exact Nat.le_trans (by go_size) (Later.is _).size) | (go_at_call 10; exact Later.call _ (Nat.le_trans (by go_size) (Later.is _).size) (PK.out _)))))); refine wpQuiet_nil ?_; intro Xq hlq hmq)
        go_wp2
        go_ret
        exact ⟨rfl, by repeat' (first | (with_reducible exact Below.refl _ _) | (with_reducible assumption) | (with_reducible refine Later.step ?_ ?_ _) | (with_reducible refine Below.alloc ?_ ?_ _) | (with_reducible refine Below.drew ?_) | (with_reducible refine bel_drewN ?_ _) | (with_reducible refine bel_grown ?_ (by assumption) ?_ ?_) | (with_reducible refine Below.setCell ?_ ?_ _) | go_size)⟩
    · have hk1 : (k == 0) = false := by simpa using hk
      clear hk
      go_wp2_with (first
        | (go_at_call 10; refine (PK.out _).mono ?_; rintro e w' ⟨rfl, hb⟩; obtain ⟨X6, rfl, hl6, hm6⟩ := later _ hb (Nat.le_refl _); clear hb; (try simp only [World.size_alloc, World.size_setCell, World.size_drew] at hm6 hl6)))
      go_ret
      exact ⟨rfl, by repeat' (first | (with_reducible exact Below.refl _ _) | (with_reducible assumption) | (with_reducible refine Later.step ?_ ?_ _) | (with_reducible refine Below.alloc ?_ ?_ _) | (with_reducible refine Below.drew ?_) | (with_reducible refine bel_drewN ?_ _) | (with_reducible refine bel_grown ?_ (by assumption) ?_ ?_) | (with_reducible refine Below.setCell ?_ ?_ _) | go_size)⟩
  · have hbg : 60 < len := by have := HL.out; omega
    obtain ⟨X1, rfl, hl1, hm1⟩ := later _ hb (Nat.le_refl _)
    (try simp only [World.size_alloc, World.size_setCell, World.size_drew] at hm1 hl1)
    clear hb hbig
    go_wp2_with (first
      | (go_at_call 10; refine (PK.out _).mono ?_; rintro e w' ⟨rfl, hb⟩; obtain ⟨X6, rfl, hl6, hm6⟩ := later _ hb (Nat.le_refl _); clear hb; (try simp only [World.size_alloc, World.size_setCell, World.size_drew] at hm6 hl6)))
    go_ret
    exact ⟨rfl, by repeat' (first | (with_reducible exact Below.refl _ _) | (with_reducible assumption) | (with_reducible refine Later.step ?_ ?_ _) | (with_reducible refine Below.alloc ?_ ?_ _) | (with_reducible refine Below.drew ?_) | (with_reducible refine bel_drewN ?_ _) | (with_reducible refine bel_grown ?_ (by assumption) ?_ ?_) | (with_reducible refine Below.setCell ?_ ?_ _) | go_size)⟩
end Go.Proofs.Ythoanoaigfcchaa
