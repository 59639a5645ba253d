/- Who asks more is no better found: the statement walked. No condition beyond what the slice reads as. -/
import Derived.Test.YthoanoaigfcchaaClN
namespace Go.Proofs.Ythoanoaigfcchaa
open Go.RowKit Go.Maps
set_option linter.unusedSimpArgs false
set_option linter.unusedVariables false
set_option maxRecDepth 2000

/-- What is sought in a pyramid, whatever is asked. -/
def AskPost (w : World) (P : List (Int × Int)) (K A x y : Int) (e : Ending) (w' : World) : Prop :=
  ((∃ j : Nat, j ≤ 16 ∧ fitsB x y = true ∧ rightK K = true ∧ (∀ i, i < j → lvA (cntP P) K A x y i = 3) ∧ lvA (cntP P) K A x y j ≠ 3 ∧ ∃ a b c d n, e = .returned (.tuple #[.agg #[.int .i64 a, .int .i64 b, .int .i64 c, .int .i64 d, .int .i64 (16 - (j : Int)), .int .i64 (x / sd (16 - (j : Int))), .int .i64 (y / sd (16 - (j : Int))), .int .i64 (lvA (cntP P) K A x y j), .int .i64 n], .int .i64 0]))
    ∨ (fitsB x y = true ∧ rightK K = true ∧ (∀ i, i ≤ 16 → lvA (cntP P) K A x y i = 3) ∧ e = .returned (.tuple #[.agg #[.int .i64 0, .int .i64 0, .int .i64 0, .int .i64 0, .int .i64 0, .int .i64 0, .int .i64 0, .int .i64 0, .int .i64 0], .int .i64 21]))
    ∨ ((fitsB x y = false ∨ rightK K = false) ∧ e = .returned (.tuple #[.agg #[.int .i64 0, .int .i64 0, .int .i64 0, .int .i64 0, .int .i64 0, .int .i64 0, .int .i64 0, .int .i64 0, .int .i64 0], .int .i64 1]))) ∧ Below w.heap.size w w'
theorem ask_any {P : List (Int × Int)} {q n : Nat} {F : Nat → Nat → Int} (x y K A : Int) (w : World) (hP : Pyr w q n F) (hF : FitsF F P) (hg : GoodP P) (hn : P.length ≤ 60) :
    Calls Try.prog 11 #[.pointer (some ⟨q, 0, none⟩), .agg #[.int .i64 x, .int .i64 y], .agg #[.int .i64 K, .int .u64 A]] w (AskPost w P K A x y) := by
  cases hf : fitsB x y with
  | false =>
    refine (find_arg x y K A q w (.inl hf)).mono ?_
    rintro e w' ⟨rfl, hb⟩
    exact ⟨.inr (.inr ⟨.inl hf, rfl⟩), hb⟩
  | true =>
    cases hK : rightK K with
    | false =>
      refine (find_arg x y K A q w (.inr ⟨hf, hK⟩)).mono ?_
      rintro e w' ⟨rfl, hb⟩
      exact ⟨.inr (.inr ⟨.inr hK, rfl⟩), hb⟩
    | true =>
      have h := find_any x y K A q n F w hP hf hK (cntF_bd hF hg hn)
      rw [show cntF F = cntP P from cntF_eq hF hg (List.Perm.refl _)] at h
      refine h.mono ?_
      rintro e w' ⟨hfp, hb⟩
      refine ⟨?_, hb⟩
      rcases hfp with ⟨j, hj, hall, hne, rfl⟩ | ⟨hall, rfl⟩
      · obtain ⟨a, b, c, d, m, hv⟩ := atV_lev (N := cntP P) (K := K) (A := A) (l := 16 - (j : Int)) (x := x / sd (16 - (j : Int))) (y := y / sd (16 - (j : Int))) hne
        refine .inl ⟨j, hj, hf, hK, hall, hne, a, b, c, d, m, ?_⟩
        rw [show lvV (cntP P) K A x y j = _ from hv]
        rfl
      · exact .inr (.inl ⟨hf, hK, hall, rfl⟩)
set_option maxHeartbeats 16000000 in
theorem more_law (S : Option Addr) (len cp : Nat) (Q : List (Int × Int)) (x y K A K' A' : Int) (w : World) (hQ : Q.length = len ∧ len ≤ 9223372036854775807 ∧ Pts w w.heap.size S Q) (hx : (Lit.int .i64 x).wf = true) (hy : (Lit.int .i64 y).wf = true) (hwK : (Lit.int .i64 K).wf = true) (hwA : (Lit.int .u64 A).wf = true) (hwK' : (Lit.int .i64 K').wf = true) (hwA' : (Lit.int .u64 A').wf = true) :
    Calls Try.prog 7 #[.slice S len cp, .agg #[.int .i64 x, .int .i64 y], .agg #[.int .i64 K, .int .u64 A], .agg #[.int .i64 K', .int .u64 A']] w fun e w' => e = .returned (.bool true) ∧ Below w.heap.size w w' := by
  clear hx hy hwK hwA hwK' hwA'
  obtain ⟨hl, hlen, hp⟩ := hQ
  have PB := Lib.hid (fun (Y : World) (hY : Below w.heap.size w Y) => built_any S cp Q Y ((hp.keep hY).more hY.size) (by omega))
  rw [hl] at PB
  have HL := Lib.hid hl
  have PK := Lib.hid cknown_any
  have pr := krright_any K A
  clear hl hp
  go_enter Try.func7, Try.ntmps7
  go_wp2_with fail
  refine (PB.out _ (by repeat' (first | (with_reducible exact Below.refl _ _) | (with_reducible assumption) | (with_reducible refine Later.step ?_ ?_ _) | (with_reducible refine Below.alloc ?_ ?_ _) | (with_reducible refine Below.drew ?_) | (with_reducible refine bel_drewN ?_ _) | (with_reducible refine bel_grown ?_ (by assumption) ?_ ?_) | (with_reducible refine Below.setCell ?_ ?_ _) | go_size))).mono ?_
  rintro e w1 ⟨hc, hb⟩
  rcases hc with ⟨hsm, q, n, F, B, c, P, rfl, hP, hF, hg, hpm, hPt⟩ | ⟨hbig, rfl⟩
  · have hpl : P.length ≤ 60 := by
      rw [hpm.length_eq]
      exact Nat.le_trans (List.length_filter_le _ _) hsm
    have HP := Lib.hid hP
    have HF := Lib.hid hF
    have HG := Lib.hid hg
    have HPL := Lib.hid hpl
    obtain ⟨X1, rfl, hl1, hm1⟩ := later _ hb (Nat.le_refl _)
    (try simp only [World.size_alloc, World.size_setCell, World.size_drew] at hm1 hl1)
    clear hb hP hPt hF hg hpl hpm hsm
    have PA := Lib.hid (fun (Y : World) (hY : Below X1.w.heap.size X1.w Y) => ask_any x y K A Y (HP.out.keep hY) HF.out HG.out HPL.out)
    have PA' := Lib.hid (fun (Y : World) (hY : Below X1.w.heap.size X1.w Y) => ask_any x y K' A' Y (HP.out.keep hY) HF.out HG.out HPL.out)
    by_cases hk : K ≤ K'
    · by_cases ha : A ≤ A'
      · have hk1 : decide (K' < K) = false := decide_eq_false (by omega)
        have ha1 : decide (A' < A) = false := decide_eq_false (by omega)
        have HK := Lib.hid hk
        have HA := Lib.hid ha
        clear hk ha
        go_wp2_with fail
        refine (PA.out _ (by repeat' (first | (with_reducible exact Below.refl _ _) | (with_reducible assumption) | (with_reducible refine Later.step ?_ ?_ _) | (with_reducible refine Below.alloc ?_ ?_ _) | (with_reducible refine Below.drew ?_) | (with_reducible refine bel_drewN ?_ _) | (with_reducible refine bel_grown ?_ (by assumption) ?_ ?_) | (with_reducible refine Below.setCell ?_ ?_ _) | go_size))).mono ?_
        rintro e w2 ⟨hfp, hb2⟩
        obtain ⟨X2, rfl, hl2, hm2⟩ := later _ hb2 (Nat.le_refl _)
        (try simp only [World.size_alloc, World.size_setCell, World.size_drew] at hm2 hl2)
        clear hb2
        have HFP := Lib.hid hfp
        obtain ⟨a0, a1, a2, a3, a4, a5, a6, a7, a8, k, rfl⟩ : ∃ a b c d l x' y' kk n k, e = .returned (.tuple #[.agg #[.int .i64 a, .int .i64 b, .int .i64 c, .int .i64 d, .int .i64 l, .int .i64 x', .int .i64 y', .int .i64 kk, .int .i64 n], .int .i64 k]) := by
          rcases hfp with ⟨j, _, _, _, _, _, a, b, c, d, n, rfl⟩ | ⟨_, _, _, rfl⟩ | ⟨_, rfl⟩
          · exact ⟨_, _, _, _, _, _, _, _, _, _, rfl⟩
          · exact ⟨_, _, _, _, _, _, _, _, _, _, rfl⟩
          · exact ⟨_, _, _, _, _, _, _, _, _, _, rfl⟩
        clear hfp
        go_wp2_with fail
        refine (PA'.out _ (by repeat' (first | (with_reducible exact Below.refl _ _) | (with_reducible assumption) | (with_reducible refine Later.step ?_ ?_ _) | (with_reducible refine Below.alloc ?_ ?_ _) | (with_reducible refine Below.drew ?_) | (with_reducible refine bel_drewN ?_ _) | (with_reducible refine bel_grown ?_ (by assumption) ?_ ?_) | (with_reducible refine Below.setCell ?_ ?_ _) | go_size))).mono ?_
        rintro e w3 ⟨hfp, hb3⟩
        obtain ⟨X3, rfl, hl3, hm3⟩ := later _ hb3 (Nat.le_refl _)
        (try simp only [World.size_alloc, World.size_setCell, World.size_drew] at hm3 hl3)
        clear hb3
        rcases hfp with ⟨j, hj, hf', hK', hall, hne, b0, b1, b2, b3, b8, rfl⟩ | ⟨_, _, _, rfl⟩ | ⟨_, rfl⟩
        · cases hKK : rightK K with
          | false =>
            have hk0 : k = 1 := by
              rcases HFP.out with ⟨i, hi, _, hKx, _⟩ | ⟨_, hKx, _⟩ | ⟨_, h⟩
              · rw [hKK] at hKx; exact Bool.noConfusion hKx
              · rw [hKK] at hKx; exact Bool.noConfusion hKx
              · injection h with h
                injection h with h
                simp at h
                exact h.2
            subst hk0
            rw [hKK] at pr
            have PR := Lib.hid pr
            obtain ⟨l', hl'⟩ : ∃ l', 16 - (j : Int) = l' := ⟨_, rfl⟩
            obtain ⟨x', hx'⟩ : ∃ l', x / sd (16 - (j : Int)) = l' := ⟨_, rfl⟩
            obtain ⟨y', hy'⟩ : ∃ l', y / sd (16 - (j : Int)) = l' := ⟨_, rfl⟩
            obtain ⟨z', hz'⟩ : ∃ l', lvA (cntP P) K' A' x y j = l' := ⟨_, rfl⟩
            rw [hx', hy', hz', hl']
            clear pr hKK HFP hall hne hj hf' hK' hl' hx' hy' hz'
            go_wp2_with (first
              | (go_at_call 13; refine (PR.out _).mono ?_; rintro e w' ⟨rfl, hb⟩; obtain ⟨X4, rfl, hl4, hm4⟩ := later _ hb (Nat.le_refl _); clear hb; (try simp only [World.size_alloc, World.size_setCell, World.size_drew] at hm4 hl4))
              | (go_at_call 10; refine (PK.out _).mono ?_; rintro e w' ⟨rfl, hb⟩; obtain ⟨X6, rfl, hl6, hm6⟩ := later _ hb (Nat.le_refl _); clear hb; (try simp only [World.size_alloc, World.size_setCell, World.size_drew] at hm6 hl6)))
            go_ret
            exact ⟨rfl, by repeat' (first | (with_reducible exact Below.refl _ _) | (with_reducible assumption) | (with_reducible refine Later.step ?_ ?_ _) | (with_reducible refine Below.alloc ?_ ?_ _) | (with_reducible refine Below.drew ?_) | (with_reducible refine bel_drewN ?_ _) | (with_reducible refine bel_grown ?_ (by assumption) ?_ ?_) | (with_reducible refine Below.setCell ?_ ?_ _) | go_size)⟩
          | true =>
            obtain ⟨hk0, hle⟩ : k = 0 ∧ 16 - (j : Int) ≤ a4 := by
              rcases HFP.out with ⟨i, hi, _, _, hall2, _, c0, c1, c2, c3, c8, h⟩ | ⟨_, _, hall2, h⟩ | ⟨hh, _⟩
              · injection h with h
                injection h with h
                simp at h
                have := more_le (N := cntP P) HK.out HA.out hKK hne hall2
                omega
              · exfalso
                have := more_le (i := 17) (N := cntP P) HK.out HA.out hKK hne (fun t ht => hall2 t (by omega))
                omega
              · exfalso
                rcases hh with h | h
                · rw [hf'] at h; exact Bool.noConfusion h
                · rw [hKK] at h; exact Bool.noConfusion h
            subst hk0
            rw [hKK] at pr
            have PR := Lib.hid pr
            obtain ⟨l', hl'⟩ : ∃ l', 16 - (j : Int) = l' := ⟨_, rfl⟩
            obtain ⟨x', hx'⟩ : ∃ l', x / sd (16 - (j : Int)) = l' := ⟨_, rfl⟩
            obtain ⟨y', hy'⟩ : ∃ l', y / sd (16 - (j : Int)) = l' := ⟨_, rfl⟩
            obtain ⟨z', hz'⟩ : ∃ l', lvA (cntP P) K' A' x y j = l' := ⟨_, rfl⟩
            rw [hx', hy', hz', hl']
            rw [hl'] at hle
            have hle1 : decide (l' ≤ a4) = true := decide_eq_true hle
            clear pr hKK HFP hall hne hj hf' hK' hl' hx' hy' hz'
            go_wp2_with (first
              | (go_at_call 13; refine (PR.out _).mono ?_; rintro e w' ⟨rfl, hb⟩; obtain ⟨X4, rfl, hl4, hm4⟩ := later _ hb (Nat.le_refl _); clear hb; (try simp only [World.size_alloc, World.size_setCell, World.size_drew] at hm4 hl4))
              | (go_at_call 10; refine (PK.out _).mono ?_; rintro e w' ⟨rfl, hb⟩; obtain ⟨X6, rfl, hl6, hm6⟩ := later _ hb (Nat.le_refl _); clear hb; (try simp only [World.size_alloc, World.size_setCell, World.size_drew] at hm6 hl6)))
            go_ret
            exact ⟨rfl, by repeat' (first | (with_reducible exact Below.refl _ _) | (with_reducible assumption) | (with_reducible refine Later.step ?_ ?_ _) | (with_reducible refine Below.alloc ?_ ?_ _) | (with_reducible refine Below.drew ?_) | (with_reducible refine bel_drewN ?_ _) | (with_reducible refine bel_grown ?_ (by assumption) ?_ ?_) | (with_reducible refine Below.setCell ?_ ?_ _) | go_size)⟩
        · clear HFP pr
          go_wp2_with (first
            | (go_at_call 10; refine (PK.out _).mono ?_; rintro e w' ⟨rfl, hb⟩; obtain ⟨X6, rfl, hl6, hm6⟩ := later _ hb (Nat.le_refl _); clear hb; (try simp only [World.size_alloc, World.size_setCell, World.size_drew] at hm6 hl6)))
          go_ret
          exact ⟨rfl, by repeat' (first | (with_reducible exact Below.refl _ _) | (with_reducible assumption) | (with_reducible refine Later.step ?_ ?_ _) | (with_reducible refine Below.alloc ?_ ?_ _) | (with_reducible refine Below.drew ?_) | (with_reducible refine bel_drewN ?_ _) | (with_reducible refine bel_grown ?_ (by assumption) ?_ ?_) | (with_reducible refine Below.setCell ?_ ?_ _) | go_size)⟩
        · clear HFP pr
          go_wp2_with (first
            | (go_at_call 10; refine (PK.out _).mono ?_; rintro e w' ⟨rfl, hb⟩; obtain ⟨X6, rfl, hl6, hm6⟩ := later _ hb (Nat.le_refl _); clear hb; (try simp only [World.size_alloc, World.size_setCell, World.size_drew] at hm6 hl6)))
          go_ret
          exact ⟨rfl, by repeat' (first | (with_reducible exact Below.refl _ _) | (with_reducible assumption) | (with_reducible refine Later.step ?_ ?_ _) | (with_reducible refine Below.alloc ?_ ?_ _) | (with_reducible refine Below.drew ?_) | (with_reducible refine bel_drewN ?_ _) | (with_reducible refine bel_grown ?_ (by assumption) ?_ ?_) | (with_reducible refine Below.setCell ?_ ?_ _) | go_size)⟩
      · have hk1 : decide (K' < K) = false := decide_eq_false (by omega)
        have ha1 : decide (A' < A) = true := decide_eq_true (by omega)
        clear pr
        go_wp2_with (first
          | (go_at_call 10; refine (PK.out _).mono ?_; rintro e w' ⟨rfl, hb⟩; obtain ⟨X6, rfl, hl6, hm6⟩ := later _ hb (Nat.le_refl _); clear hb; (try simp only [World.size_alloc, World.size_setCell, World.size_drew] at hm6 hl6)))
        go_ret
        exact ⟨rfl, by repeat' (first | (with_reducible exact Below.refl _ _) | (with_reducible assumption) | (with_reducible refine Later.step ?_ ?_ _) | (with_reducible refine Below.alloc ?_ ?_ _) | (with_reducible refine Below.drew ?_) | (with_reducible refine bel_drewN ?_ _) | (with_reducible refine bel_grown ?_ (by assumption) ?_ ?_) | (with_reducible refine Below.setCell ?_ ?_ _) | go_size)⟩
    · have hk1 : decide (K' < K) = true := decide_eq_true (by omega)
      clear pr
      go_wp2_with (first
        | (go_at_call 10; refine (PK.out _).mono ?_; rintro e w' ⟨rfl, hb⟩; obtain ⟨X6, rfl, hl6, hm6⟩ := later _ hb (Nat.le_refl _); clear hb; (try simp only [World.size_alloc, World.size_setCell, World.size_drew] at hm6 hl6)))
      go_ret
      exact ⟨rfl, by repeat' (first | (with_reducible exact Below.refl _ _) | (with_reducible assumption) | (with_reducible refine Later.step ?_ ?_ _) | (with_reducible refine Below.alloc ?_ ?_ _) | (with_reducible refine Below.drew ?_) | (with_reducible refine bel_drewN ?_ _) | (with_reducible refine bel_grown ?_ (by assumption) ?_ ?_) | (with_reducible refine Below.setCell ?_ ?_ _) | go_size)⟩
  · have hbg : 60 < len := by have := HL.out; omega
    obtain ⟨X1, rfl, hl1, hm1⟩ := later _ hb (Nat.le_refl _)
    (try simp only [World.size_alloc, World.size_setCell, World.size_drew] at hm1 hl1)
    clear hb hbig pr
    go_wp2_with (first
      | (go_at_call 10; refine (PK.out _).mono ?_; rintro e w' ⟨rfl, hb⟩; obtain ⟨X6, rfl, hl6, hm6⟩ := later _ hb (Nat.le_refl _); clear hb; (try simp only [World.size_alloc, World.size_setCell, World.size_drew] at hm6 hl6)))
    go_ret
    exact ⟨rfl, by repeat' (first | (with_reducible exact Below.refl _ _) | (with_reducible assumption) | (with_reducible refine Later.step ?_ ?_ _) | (with_reducible refine Below.alloc ?_ ?_ _) | (with_reducible refine Below.drew ?_) | (with_reducible refine bel_drewN ?_ _) | (with_reducible refine bel_grown ?_ (by assumption) ?_ ?_) | (with_reducible refine Below.setCell ?_ ?_ _) | go_size)⟩
end Go.Proofs.Ythoanoaigfcchaa
