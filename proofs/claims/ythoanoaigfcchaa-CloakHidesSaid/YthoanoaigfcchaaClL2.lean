/- Any point has the cloak that the document says: the statement walked. No condition beyond what the slice reads as. -/
import Derived.Test.YthoanoaigfcchaaClJ
import Derived.Test.YthoanoaigfcchaaOpenPts
namespace Go.Proofs.Ythoanoaigfcchaa
open Go.RowKit Go.Maps
set_option linter.unusedSimpArgs false
set_option linter.unusedVariables false
set_option maxRecDepth 2000

/-- A list that came in. -/
def InPts (w : World) (A : Option Addr) (len : Nat) (Q : List (Int × Int)) : Prop := Q.length = len ∧ len ≤ 9223372036854775807 ∧ Pts w w.heap.size A Q
/-- What is found is one and the same. -/
theorem find_same {w w' w1 w1' : World} {N : Int → Int → Int → Int} {K A x y : Int} {yes no yes' no' : Value} {e e' : Ending} (h : FindPost w N K A x y yes no e w') (h' : FindPost w1 N K A x y yes' no' e' w1') :
    (∃ V, e = .returned (.tuple #[V, yes]) ∧ e' = .returned (.tuple #[V, yes']) ∧ ∃ a b c d l' x' y' k' n', V = .agg #[.int .i64 a, .int .i64 b, .int .i64 c, .int .i64 d, .int .i64 l', .int .i64 x', .int .i64 y', .int .i64 k', .int .i64 n']) ∨ (e = .returned (.tuple #[zeroCK, no]) ∧ e' = .returned (.tuple #[zeroCK, no'])) := by
  rcases h.1 with ⟨j, hj, hall, hne, rfl⟩ | ⟨hall, rfl⟩
  · rcases h'.1 with ⟨i, hi, hall', hne', rfl⟩ | ⟨hall', rfl⟩
    · have hij : i = j := by
        rcases Nat.lt_trichotomy i j with h1 | h1 | h1
        · exact absurd (hall i h1) hne'
        · exact h1
        · exact absurd (hall' j h1) hne
      subst hij
      exact .inl ⟨_, rfl, rfl, atV_form _ _ _ _ _⟩
    · exact absurd (hall' j hj) hne
  · rcases h'.1 with ⟨i, hi, hall', hne', rfl⟩ | ⟨hall', rfl⟩
    · exact absurd (hall i hi) hne'
    · exact .inr ⟨rfl, rfl⟩
set_option maxHeartbeats 16000000 in
theorem finds_law (S : Option Addr) (len cp : Nat) (Q : List (Int × Int)) (x y K A : Int) (w : World) (hQ : Q.length = len ∧ len ≤ 9223372036854775807 ∧ Pts w w.heap.size S Q) :
    Calls Try.prog 3 #[.slice S len cp, .agg #[.int .i64 x, .int .i64 y], .agg #[.int .i64 K, .int .u64 A]] w fun e w' => e = .returned (.bool true) ∧ Below w.heap.size w w' := by
  obtain ⟨hl, hlen, hp⟩ := hQ
  have PB := Lib.hid (fun (Y : World) (hY : Below w.heap.size w Y) => built_any S cp Q Y ((hp.keep hY).more hY.size) (by omega))
  rw [hl] at PB
  have HL := Lib.hid hl
  have PK := Lib.hid cknown_any
  have pf := rfits_any x y
  have pr := krright_any K A
  clear hl hp
  go_enter Try.func3, Try.ntmps3
  go_wp2_with fail
  refine (PB.out _ (by repeat' (first | (with_reducible exact Below.refl _ _) | (with_reducible assumption) | (with_reducible refine Later.step ?_ ?_ _) | (with_reducible refine Below.alloc ?_ ?_ _) | (with_reducible refine Below.drew ?_) | (with_reducible refine bel_drewN ?_ _) | (with_reducible refine bel_grown ?_ (by assumption) ?_ ?_) | (with_reducible refine Below.setCell ?_ ?_ _) | go_size))).mono ?_
  rintro e w1 ⟨hc, hb⟩
  have hs1 := hb.size
  simp only [World.size_alloc] at hs1
  have hB1 : Below (w.heap.size + 2) ((w.alloc (Obj.cells #[.int .i64 x, .int .i64 y] 24)).alloc (Obj.cells #[.int .i64 K, .int .u64 A] 27)) w1 := hb.mono (by simp)
  rcases hc with ⟨hsm, q, n, F, B, c, P, rfl, hP, hF, hg, hpm, hPt⟩ | ⟨hbig, rfl⟩
  · have hpl : P.length ≤ 60 := by
      rw [hpm.length_eq]
      exact Nat.le_trans (List.length_filter_le _ _) hsm
    have HP := Lib.hid hP
    have HPT := Lib.hid hPt
    have HF := Lib.hid hF
    have HG := Lib.hid hg
    have HPL := Lib.hid hpl
    obtain ⟨X1, rfl⟩ : ∃ Z : Later (w.heap.size + 2) ((w.alloc (Obj.cells #[.int .i64 x, .int .i64 y] 24)).alloc (Obj.cells #[.int .i64 K, .int .u64 A] 27)), w1 = Z.w := ⟨⟨w1, hB1⟩, rfl⟩
    clear hb hB1 hP hPt hF hg hpl hpm hsm
    by_cases hok : fitsB x y = true ∧ rightK K = true
    · obtain ⟨hf, hK⟩ := hok
      have PFI := Lib.hid (fun (Y : World) (hY : Below X1.w.heap.size X1.w Y) => find_any x y K A q n F Y (HP.out.keep hY) hf hK (cntF_bd HF.out HG.out HPL.out))
      have PRF := Lib.hid (fun (Y : World) (hY : Below X1.w.heap.size X1.w Y) => rfind_any B c P HG.out x y K A Y ((HPT.out.keep hY).more hY.size) (by have := HPL.out; omega) hf)
      rw [show cntF F = cntP P from cntF_eq HF.out HG.out (List.Perm.refl _)] at PFI
      rw [hf] at pf
      rw [hK] at pr
      have PF2 := Lib.hid pf
      have PR := Lib.hid pr
      clear pf pr hf hK
      go_wp2_with fail
      refine (PFI.out _ (by repeat' (first | (with_reducible exact Below.refl _ _) | (with_reducible assumption) | (with_reducible refine Later.step ?_ ?_ _) | (with_reducible refine Below.alloc ?_ ?_ _) | (with_reducible refine Below.drew ?_) | (with_reducible refine bel_drewN ?_ _) | (with_reducible refine bel_grown ?_ (by assumption) ?_ ?_) | (with_reducible refine Below.setCell ?_ ?_ _) | go_size))).mono ?_
      intro e w2 hfp
      have hb2 := hfp.2
      have hs2 := hb2.size
      have HFP := Lib.hid hfp
      rcases hfp.1 with ⟨j, hj, hall, hne, rfl⟩ | ⟨hall, rfl⟩
      · obtain ⟨a0, a1, a2, a3, a4, a5, a6, a7, a8, hV⟩ := atV_form (cntP P) (16 - (j : Int)) (x / sd (16 - (j : Int))) (y / sd (16 - (j : Int))) (lvA (cntP P) K A x y j)
        have hV1 : lvV (cntP P) K A x y j = .agg #[.int .i64 a0, .int .i64 a1, .int .i64 a2, .int .i64 a3, .int .i64 a4, .int .i64 a5, .int .i64 a6, .int .i64 a7, .int .i64 a8] := hV
        obtain ⟨X2, rfl⟩ : ∃ Z : Later X1.w.heap.size X1.w, w2 = Z.w := ⟨⟨w2, hb2⟩, rfl⟩
        rw [hV1] at HFP ⊢
        clear hfp hb2 hall hne hV hV1
        go_wp2_with (first
          | (go_at_call 12; refine (PF2.out _).mono ?_; rintro e w' ⟨rfl, hb⟩; obtain ⟨X3, rfl, hl3, hm3⟩ := later _ hb (Nat.le_refl _); clear hb; (try simp only [World.size_alloc, World.size_setCell, World.size_drew] at hm3 hl3))
          | (go_at_call 13; refine (PR.out _).mono ?_; rintro e w' ⟨rfl, hb⟩; obtain ⟨X4, rfl, hl4, hm4⟩ := later _ hb (Nat.le_refl _); clear hb; (try simp only [World.size_alloc, World.size_setCell, World.size_drew] at hm4 hl4)))
        refine (PRF.out _ (by repeat' (first | (with_reducible exact Below.refl _ _) | (with_reducible assumption) | (with_reducible refine Later.step ?_ ?_ _) | (with_reducible refine Below.alloc ?_ ?_ _) | (with_reducible refine Below.drew ?_) | (with_reducible refine bel_drewN ?_ _) | (with_reducible refine bel_grown ?_ (by assumption) ?_ ?_) | (with_reducible refine Below.setCell ?_ ?_ _) | go_size))).mono ?_
        intro e w5 hfp5
        have hb5 := hfp5.2
        have hs5 := hb5.size
        have hE : e = .returned (.tuple #[.agg #[.int .i64 a0, .int .i64 a1, .int .i64 a2, .int .i64 a3, .int .i64 a4, .int .i64 a5, .int .i64 a6, .int .i64 a7, .int .i64 a8], .bool true]) := by
          rcases find_same HFP.out hfp5 with ⟨V, h1, h2, _⟩ | ⟨h1, h2⟩
          · injection h1 with h1
            injection h1 with h1
            simp at h1
            rw [h2, ← h1]
          · injection h1 with h1
            injection h1 with h1
            simp at h1
        subst hE
        obtain ⟨X5, rfl⟩ : ∃ Z : Later X4.w.heap.size X4.w, w5 = Z.w := ⟨⟨w5, hb5⟩, rfl⟩
        clear hfp5 hb5 HFP
        go_wp2_with (first
          | (go_at_call 10; refine (PK.out _).mono ?_; rintro e w' ⟨rfl, hb⟩; obtain ⟨X6, rfl, hl6, hm6⟩ := later _ hb (Nat.le_refl _); clear hb; (try simp only [World.size_alloc, World.size_setCell, World.size_drew] at hm6 hl6)))
        go_ret
        exact ⟨rfl, by repeat' (first | (with_reducible exact Below.refl _ _) | (with_reducible assumption) | (with_reducible refine Later.step ?_ ?_ _) | (with_reducible refine Below.alloc ?_ ?_ _) | (with_reducible refine Below.drew ?_) | (with_reducible refine bel_drewN ?_ _) | (with_reducible refine bel_grown ?_ (by assumption) ?_ ?_) | (with_reducible refine Below.setCell ?_ ?_ _) | go_size)⟩
      · obtain ⟨X2, rfl⟩ : ∃ Z : Later X1.w.heap.size X1.w, w2 = Z.w := ⟨⟨w2, hb2⟩, rfl⟩
        clear hfp hb2 hall
        (try unfold zeroCK)
        go_wp2_with (first
          | (go_at_call 12; refine (PF2.out _).mono ?_; rintro e w' ⟨rfl, hb⟩; obtain ⟨X3, rfl, hl3, hm3⟩ := later _ hb (Nat.le_refl _); clear hb; (try simp only [World.size_alloc, World.size_setCell, World.size_drew] at hm3 hl3))
          | (go_at_call 13; refine (PR.out _).mono ?_; rintro e w' ⟨rfl, hb⟩; obtain ⟨X4, rfl, hl4, hm4⟩ := later _ hb (Nat.le_refl _); clear hb; (try simp only [World.size_alloc, World.size_setCell, World.size_drew] at hm4 hl4)))
        refine (PRF.out _ (by repeat' (first | (with_reducible exact Below.refl _ _) | (with_reducible assumption) | (with_reducible refine Later.step ?_ ?_ _) | (with_reducible refine Below.alloc ?_ ?_ _) | (with_reducible refine Below.drew ?_) | (with_reducible refine bel_drewN ?_ _) | (with_reducible refine bel_grown ?_ (by assumption) ?_ ?_) | (with_reducible refine Below.setCell ?_ ?_ _) | go_size))).mono ?_
        intro e w5 hfp5
        have hb5 := hfp5.2
        have hs5 := hb5.size
        have hE : e = .returned (.tuple #[zeroCK, .bool false]) := by
          rcases find_same HFP.out hfp5 with ⟨V, h1, h2, _⟩ | ⟨h1, h2⟩
          · injection h1 with h1
            injection h1 with h1
            simp at h1
          · exact h2
        subst hE
        obtain ⟨X5, rfl⟩ : ∃ Z : Later X4.w.heap.size X4.w, w5 = Z.w := ⟨⟨w5, hb5⟩, rfl⟩
        clear hfp5 hb5 HFP
        (try unfold zeroCK)
        go_wp2_with (first
          | (go_at_call 10; refine (PK.out _).mono ?_; rintro e w' ⟨rfl, hb⟩; obtain ⟨X6, rfl, hl6, hm6⟩ := later _ hb (Nat.le_refl _); clear hb; (try simp only [World.size_alloc, World.size_setCell, World.size_drew] at hm6 hl6)))
        go_ret
        exact ⟨rfl, by repeat' (first | (with_reducible exact Below.refl _ _) | (with_reducible assumption) | (with_reducible refine Later.step ?_ ?_ _) | (with_reducible refine Below.alloc ?_ ?_ _) | (with_reducible refine Below.drew ?_) | (with_reducible refine bel_drewN ?_ _) | (with_reducible refine bel_grown ?_ (by assumption) ?_ ?_) | (with_reducible refine Below.setCell ?_ ?_ _) | go_size)⟩
    · have hno : fitsB x y = false ∨ (fitsB x y = true ∧ rightK K = false) := by
        cases h1 : fitsB x y with
        | false => exact .inl rfl
        | true =>
          cases h2 : rightK K with
          | false => exact .inr ⟨rfl, rfl⟩
          | true => exact absurd ⟨h1, h2⟩ hok
      have PFI := Lib.hid (fun Y : World => find_arg x y K A q Y hno)
      clear hok
      rcases hno with h1 | ⟨h1, h2⟩
      · rw [h1] at pf
        have PF2 := Lib.hid pf
        unfold zeroCK at PFI
        clear pf pr h1
        go_wp2_with (first
          | (go_at_call 11; refine (PFI.out _).mono ?_; rintro e w' ⟨rfl, hb⟩; obtain ⟨X2, rfl, hl2, hm2⟩ := later _ hb (Nat.le_refl _); clear hb; (try simp only [World.size_alloc, World.size_setCell, World.size_drew] at hm2 hl2))
          | (go_at_call 12; refine (PF2.out _).mono ?_; rintro e w' ⟨rfl, hb⟩; obtain ⟨X3, rfl, hl3, hm3⟩ := later _ hb (Nat.le_refl _); clear hb; (try simp only [World.size_alloc, World.size_setCell, World.size_drew] at hm3 hl3))
          | (go_at_call 10; refine (PK.out _).mono ?_; rintro e w' ⟨rfl, hb⟩; obtain ⟨X6, rfl, hl6, hm6⟩ := later _ hb (Nat.le_refl _); clear hb; (try simp only [World.size_alloc, World.size_setCell, World.size_drew] at hm6 hl6)))
        go_ret
        exact ⟨rfl, by repeat' (first | (with_reducible exact Below.refl _ _) | (with_reducible assumption) | (with_reducible refine Later.step ?_ ?_ _) | (with_reducible refine Below.alloc ?_ ?_ _) | (with_reducible refine Below.drew ?_) | (with_reducible refine bel_drewN ?_ _) | (with_reducible refine bel_grown ?_ (by assumption) ?_ ?_) | (with_reducible refine Below.setCell ?_ ?_ _) | go_size)⟩
      · rw [h1] at pf
        rw [h2] at pr
        have PF2 := Lib.hid pf
        have PR := Lib.hid pr
        unfold zeroCK at PFI
        clear pf pr h1 h2
        go_wp2_with (first
          | (go_at_call 11; refine (PFI.out _).mono ?_; rintro e w' ⟨rfl, hb⟩; obtain ⟨X2, rfl, hl2, hm2⟩ := later _ hb (Nat.le_refl _); clear hb; (try simp only [World.size_alloc, World.size_setCell, World.size_drew] at hm2 hl2))
          | (go_at_call 12; refine (PF2.out _).mono ?_; rintro e w' ⟨rfl, hb⟩; obtain ⟨X3, rfl, hl3, hm3⟩ := later _ hb (Nat.le_refl _); clear hb; (try simp only [World.size_alloc, World.size_setCell, World.size_drew] at hm3 hl3))
          | (go_at_call 13; refine (PR.out _).mono ?_; rintro e w' ⟨rfl, hb⟩; obtain ⟨X4, rfl, hl4, hm4⟩ := later _ hb (Nat.le_refl _); clear hb; (try simp only [World.size_alloc, World.size_setCell, World.size_drew] at hm4 hl4))
          | (go_at_call 10; refine (PK.out _).mono ?_; rintro e w' ⟨rfl, hb⟩; obtain ⟨X6, rfl, hl6, hm6⟩ := later _ hb (Nat.le_refl _); clear hb; (try simp only [World.size_alloc, World.size_setCell, World.size_drew] at hm6 hl6)))
        go_ret
        exact ⟨rfl, by repeat' (first | (with_reducible exact Below.refl _ _) | (with_reducible assumption) | (with_reducible refine Later.step ?_ ?_ _) | (with_reducible refine Below.alloc ?_ ?_ _) | (with_reducible refine Below.drew ?_) | (with_reducible refine bel_drewN ?_ _) | (with_reducible refine bel_grown ?_ (by assumption) ?_ ?_) | (with_reducible refine Below.setCell ?_ ?_ _) | go_size)⟩
  · have hbg : 60 < len := by have := HL.out; omega
    obtain ⟨X1, rfl⟩ : ∃ Z : Later (w.heap.size + 2) ((w.alloc (Obj.cells #[.int .i64 x, .int .i64 y] 24)).alloc (Obj.cells #[.int .i64 K, .int .u64 A] 27)), w1 = Z.w := ⟨⟨w1, hB1⟩, rfl⟩
    clear hb hB1 hbig pf pr
    go_wp2_with (first
      | (go_at_call 10; refine (PK.out _).mono ?_; rintro e w' ⟨rfl, hb⟩; obtain ⟨X6, rfl, hl6, hm6⟩ := later _ hb (Nat.le_refl _); clear hb; (try simp only [World.size_alloc, World.size_setCell, World.size_drew] at hm6 hl6)))
    go_ret
    exact ⟨rfl, by repeat' (first | (with_reducible exact Below.refl _ _) | (with_reducible assumption) | (with_reducible refine Later.step ?_ ?_ _) | (with_reducible refine Below.alloc ?_ ?_ _) | (with_reducible refine Below.drew ?_) | (with_reducible refine bel_drewN ?_ _) | (with_reducible refine bel_grown ?_ (by assumption) ?_ ?_) | (with_reducible refine Below.setCell ?_ ?_ _) | go_size)⟩
theorem finds_open (S : Option Addr) (len cp : Nat) (Q : List (Int × Int)) (x y K A : Int) (w : World) (hQ : Q.length = len ∧ len ≤ 9223372036854775807 ∧ Pts w w.heap.size S Q) (hx : (Lit.int .i64 x).wf = true) (hy : (Lit.int .i64 y).wf = true) (hK : (Lit.int .i64 K).wf = true) (hA : (Lit.int .u64 A).wf = true) :
    Calls Try.prog 3 #[.slice S len cp, .agg #[.int .i64 x, .int .i64 y], .agg #[.int .i64 K, .int .u64 A]] w fun e w' => e = .returned (.bool true) ∧ Below w.heap.size w w' := finds_law S len cp Q x y K A w hQ
end Go.Proofs.Ythoanoaigfcchaa
