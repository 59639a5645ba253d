/- A cloak is missed where none is: the statement walked. No condition beyond what the slice reads as. -/
import Derived.Test.YthoanoaigfcchaaClN
namespace Go.Proofs.Ythoanoaigfcchaa
open Go.RowKit Go.Maps
set_option linter.unusedSimpArgs false
set_option linter.unusedVariables false
set_option maxRecDepth 2000

set_option maxHeartbeats 16000000 in
theorem none_law (S : Option Addr) (len cp : Nat) (Q : List (Int × Int)) (x y K A : Int) (w : World) (hQ : Q.length = len ∧ len ≤ 9223372036854775807 ∧ Pts w w.heap.size S Q) (hx : (Lit.int .i64 x).wf = true) (hy : (Lit.int .i64 y).wf = true) (hwK : (Lit.int .i64 K).wf = true) (hwA : (Lit.int .u64 A).wf = true) :
    Calls Try.prog 6 #[.slice S len cp, .agg #[.int .i64 x, .int .i64 y], .agg #[.int .i64 K, .int .u64 A]] w fun e w' => e = .returned (.bool true) ∧ Below w.heap.size w w' := by
  clear hx hy hwK hwA
  obtain ⟨hl, hlen, hp⟩ := hQ
  have PB := Lib.hid (fun (Y : World) (hY : Below w.heap.size w Y) => built_any S cp Q Y ((hp.keep hY).more hY.size) (by omega))
  rw [hl] at PB
  have HL := Lib.hid hl
  have PK := Lib.hid cknown_any
  have pf := rfits_any x y
  have pr := krright_any K A
  clear hl hp
  go_enter Try.func6, Try.ntmps6
  go_wp2_with fail
  refine (PB.out _ (by repeat' (first | (with_reducible exact Below.refl _ _) | (with_reducible assumption) | (with_reducible refine Later.step ?_ ?_ _) | (with_reducible refine Below.alloc ?_ ?_ _) | (with_reducible refine Below.drew ?_) | (with_reducible refine bel_drewN ?_ _) | (with_reducible refine bel_grown ?_ (by assumption) ?_ ?_) | (with_reducible refine Below.setCell ?_ ?_ _) | go_size))).mono ?_
  rintro e w1 ⟨hc, hb⟩
  rcases hc with ⟨hsm, q, n, F, B, c, P, rfl, hP, hF, hg, hpm, hPt⟩ | ⟨hbig, rfl⟩
  · have hpl : P.length ≤ 60 := by
      rw [hpm.length_eq]
      exact Nat.le_trans (List.length_filter_le _ _) hsm
    have HP := Lib.hid hP
    have HF := Lib.hid hF
    have HG := Lib.hid hg
    have HPL := Lib.hid hpl
    obtain ⟨X1, rfl, hl1, hm1⟩ := later _ hb (Nat.le_refl _)
    (try simp only [World.size_alloc, World.size_setCell, World.size_drew] at hm1 hl1)
    clear hb hP hPt hF hg hpl hpm hsm
    by_cases hok : fitsB x y = true ∧ rightK K = true
    · obtain ⟨hf, hK⟩ := hok
      have PFI := Lib.hid (fun (Y : World) (hY : Below X1.w.heap.size X1.w Y) => find_any x y K A q n F Y (HP.out.keep hY) hf hK (cntF_bd HF.out HG.out HPL.out))
      rw [show cntF F = cntP P from cntF_eq HF.out HG.out (List.Perm.refl _)] at PFI
      have hni := none_iff (K := K) (A := A) HG.out hf
      rw [hf] at pf
      rw [hK] at pr
      have pd := rdoes_any K A P.length 4294967296
      have PF2 := Lib.hid pf
      have PR := Lib.hid pr
      have HNI := Lib.hid hni
      clear pf pr hf hK hni
      cases hd : doesB K A P.length 4294967296 with
      | false =>
        rw [hd] at pd
        have PD := Lib.hid pd
        have HD := Lib.hid hd
        clear pd hd
        go_wp2_with (first
          | (go_at_call 12; refine (PF2.out _).mono ?_; rintro e w' ⟨rfl, hb⟩; obtain ⟨X2, rfl, hl2, hm2⟩ := later _ hb (Nat.le_refl _); clear hb; (try simp only [World.size_alloc, World.size_setCell, World.size_drew] at hm2 hl2))
          | (go_at_call 13; refine (PR.out _).mono ?_; rintro e w' ⟨rfl, hb⟩; obtain ⟨X3, rfl, hl3, hm3⟩ := later _ hb (Nat.le_refl _); clear hb; (try simp only [World.size_alloc, World.size_setCell, World.size_drew] at hm3 hl3)))
        refine (PFI.out _ (by repeat' (first | (with_reducible exact Below.refl _ _) | (with_reducible assumption) | (with_reducible refine Later.step ?_ ?_ _) | (with_reducible refine Below.alloc ?_ ?_ _) | (with_reducible refine Below.drew ?_) | (with_reducible refine bel_drewN ?_ _) | (with_reducible refine bel_grown ?_ (by assumption) ?_ ?_) | (with_reducible refine Below.setCell ?_ ?_ _) | go_size))).mono ?_
        rintro e w4 ⟨hfp, hb4⟩
        rcases hfp with ⟨j, hj, hall, hne, rfl⟩ | ⟨hall, rfl⟩
        · exact absurd (HNI.out.2 HD.out j hj) hne
        · obtain ⟨X4, rfl, hl4, hm4⟩ := later _ hb4 (Nat.le_refl _)
          (try simp only [World.size_alloc, World.size_setCell, World.size_drew] at hm4 hl4)
          clear hb4 hall
          (try unfold zeroCK)
          go_wp2_with (first
            | (go_at_call 23; refine (PD.out _).mono ?_; rintro e w' ⟨rfl, hb⟩; obtain ⟨X5, rfl, hl5, hm5⟩ := later _ hb (Nat.le_refl _); clear hb; (try simp only [World.size_alloc, World.size_setCell, World.size_drew] at hm5 hl5))
            | (go_at_call 10; refine (PK.out _).mono ?_; rintro e w' ⟨rfl, hb⟩; obtain ⟨X6, rfl, hl6, hm6⟩ := later _ hb (Nat.le_refl _); clear hb; (try simp only [World.size_alloc, World.size_setCell, World.size_drew] at hm6 hl6)))
          go_ret
          exact ⟨rfl, by repeat' (first | (with_reducible exact Below.refl _ _) | (with_reducible assumption) | (with_reducible refine Later.step ?_ ?_ _) | (with_reducible refine Below.alloc ?_ ?_ _) | (with_reducible refine Below.drew ?_) | (with_reducible refine bel_drewN ?_ _) | (with_reducible refine bel_grown ?_ (by assumption) ?_ ?_) | (with_reducible refine Below.setCell ?_ ?_ _) | go_size)⟩
      | true =>
        rw [hd] at pd
        have PD := Lib.hid pd
        have HD := Lib.hid hd
        clear pd hd
        go_wp2_with (first
          | (go_at_call 12; refine (PF2.out _).mono ?_; rintro e w' ⟨rfl, hb⟩; obtain ⟨X2, rfl, hl2, hm2⟩ := later _ hb (Nat.le_refl _); clear hb; (try simp only [World.size_alloc, World.size_setCell, World.size_drew] at hm2 hl2))
          | (go_at_call 13; refine (PR.out _).mono ?_; rintro e w' ⟨rfl, hb⟩; obtain ⟨X3, rfl, hl3, hm3⟩ := later _ hb (Nat.le_refl _); clear hb; (try simp only [World.size_alloc, World.size_setCell, World.size_drew] at hm3 hl3)))
        refine (PFI.out _ (by repeat' (first | (with_reducible exact Below.refl _ _) | (with_reducible assumption) | (with_reducible refine Later.step ?_ ?_ _) | (with_reducible refine Below.alloc ?_ ?_ _) | (with_reducible refine Below.drew ?_) | (with_reducible refine bel_drewN ?_ _) | (with_reducible refine bel_grown ?_ (by assumption) ?_ ?_) | (with_reducible refine Below.setCell ?_ ?_ _) | go_size))).mono ?_
        rintro e w4 ⟨hfp, hb4⟩
        rcases hfp with ⟨j, hj, hall, hne, rfl⟩ | ⟨hall, rfl⟩
        · obtain ⟨a0, a1, a2, a3, a4, a5, a6, a7, a8, hV⟩ := atV_form (cntP P) (16 - (j : Int)) (x / sd (16 - (j : Int))) (y / sd (16 - (j : Int))) (lvA (cntP P) K A x y j)
          have hV1 : lvV (cntP P) K A x y j = .agg #[.int .i64 a0, .int .i64 a1, .int .i64 a2, .int .i64 a3, .int .i64 a4, .int .i64 a5, .int .i64 a6, .int .i64 a7, .int .i64 a8] := hV
          obtain ⟨X4, rfl, hl4, hm4⟩ := later _ hb4 (Nat.le_refl _)
          (try simp only [World.size_alloc, World.size_setCell, World.size_drew] at hm4 hl4)
          rw [hV1]
          clear hb4 hall hne hV hV1 hj
          go_wp2_with (first
            | (go_at_call 23; refine (PD.out _).mono ?_; rintro e w' ⟨rfl, hb⟩; obtain ⟨X5, rfl, hl5, hm5⟩ := later _ hb (Nat.le_refl _); clear hb; (try simp only [World.size_alloc, World.size_setCell, World.size_drew] at hm5 hl5))
            | (go_at_call 10; refine (PK.out _).mono ?_; rintro e w' ⟨rfl, hb⟩; obtain ⟨X6, rfl, hl6, hm6⟩ := later _ hb (Nat.le_refl _); clear hb; (try simp only [World.size_alloc, World.size_setCell, World.size_drew] at hm6 hl6)))
          go_ret
          exact ⟨rfl, by repeat' (first | (with_reducible exact Below.refl _ _) | (with_reducible assumption) | (with_reducible refine Later.step ?_ ?_ _) | (with_reducible refine Below.alloc ?_ ?_ _) | (with_reducible refine Below.drew ?_) | (with_reducible refine bel_drewN ?_ _) | (with_reducible refine bel_grown ?_ (by assumption) ?_ ?_) | (with_reducible refine Below.setCell ?_ ?_ _) | go_size)⟩
        · have h2 := HNI.out.1 hall
          rw [HD.out] at h2
          exact Bool.noConfusion h2
    · have hno : fitsB x y = false ∨ (fitsB x y = true ∧ rightK K = false) := by
        cases h1 : fitsB x y with
        | false => exact .inl rfl
        | true =>
          cases h2 : rightK K with
          | false => exact .inr ⟨rfl, rfl⟩
          | true => exact absurd ⟨h1, h2⟩ hok
      clear hok
      rcases hno with h1 | ⟨h1, h2⟩
      · rw [h1] at pf
        have PF2 := Lib.hid pf
        clear pf pr h1
        go_wp2_with (first
          | (go_at_call 12; refine (PF2.out _).mono ?_; rintro e w' ⟨rfl, hb⟩; obtain ⟨X3, rfl, hl3, hm3⟩ := later _ hb (Nat.le_refl _); clear hb; (try simp only [World.size_alloc, World.size_setCell, World.size_drew] at hm3 hl3))
          | (go_at_call 10; refine (PK.out _).mono ?_; rintro e w' ⟨rfl, hb⟩; obtain ⟨X6, rfl, hl6, hm6⟩ := later _ hb (Nat.le_refl _); clear hb; (try simp only [World.size_alloc, World.size_setCell, World.size_drew] at hm6 hl6)))
        go_ret
        exact ⟨rfl, by repeat' (first | (with_reducible exact Below.refl _ _) | (with_reducible assumption) | (with_reducible refine Later.step ?_ ?_ _) | (with_reducible refine Below.alloc ?_ ?_ _) | (with_reducible refine Below.drew ?_) | (with_reducible refine bel_drewN ?_ _) | (with_reducible refine bel_grown ?_ (by assumption) ?_ ?_) | (with_reducible refine Below.setCell ?_ ?_ _) | go_size)⟩
      · rw [h1] at pf
        rw [h2] at pr
        have PF2 := Lib.hid pf
        have PR := Lib.hid pr
        clear pf pr h1 h2
        go_wp2_with (first
          | (go_at_call 12; refine (PF2.out _).mono ?_; rintro e w' ⟨rfl, hb⟩; obtain ⟨X3, rfl, hl3, hm3⟩ := later _ hb (Nat.le_refl _); clear hb; (try simp only [World.size_alloc, World.size_setCell, World.size_drew] at hm3 hl3))
          | (go_at_call 13; refine (PR.out _).mono ?_; rintro e w' ⟨rfl, hb⟩; obtain ⟨X4, rfl, hl4, hm4⟩ := later _ hb (Nat.le_refl _); clear hb; (try simp only [World.size_alloc, World.size_setCell, World.size_drew] at hm4 hl4))
          | (go_at_call 10; refine (PK.out _).mono ?_; rintro e w' ⟨rfl, hb⟩; obtain ⟨X6, rfl, hl6, hm6⟩ := later _ hb (Nat.le_refl _); clear hb; (try simp only [World.size_alloc, World.size_setCell, World.size_drew] at hm6 hl6)))
        go_ret
        exact ⟨rfl, by repeat' (first | (with_reducible exact Below.refl _ _) | (with_reducible assumption) | (with_reducible refine Later.step ?_ ?_ _) | (with_reducible refine Below.alloc ?_ ?_ _) | (with_reducible refine Below.drew ?_) | (with_reducible refine bel_drewN ?_ _) | (with_reducible refine bel_grown ?_ (by assumption) ?_ ?_) | (with_reducible refine Below.setCell ?_ ?_ _) | go_size)⟩
  · have hbg : 60 < len := by have := HL.out; omega
    obtain ⟨X1, rfl, hl1, hm1⟩ := later _ hb (Nat.le_refl _)
    (try simp only [World.size_alloc, World.size_setCell, World.size_drew] at hm1 hl1)
    clear hb hbig pf pr
    go_wp2_with (first
      | (go_at_call 10; refine (PK.out _).mono ?_; rintro e w' ⟨rfl, hb⟩; obtain ⟨X6, rfl, hl6, hm6⟩ := later _ hb (Nat.le_refl _); clear hb; (try simp only [World.size_alloc, World.size_setCell, World.size_drew] at hm6 hl6)))
    go_ret
    exact ⟨rfl, by repeat' (first | (with_reducible exact Below.refl _ _) | (with_reducible assumption) | (with_reducible refine Later.step ?_ ?_ _) | (with_reducible refine Below.alloc ?_ ?_ _) | (with_reducible refine Below.drew ?_) | (with_reducible refine bel_drewN ?_ _) | (with_reducible refine bel_grown ?_ (by assumption) ?_ ?_) | (with_reducible refine Below.setCell ?_ ?_ _) | go_size)⟩
end Go.Proofs.Ythoanoaigfcchaa
