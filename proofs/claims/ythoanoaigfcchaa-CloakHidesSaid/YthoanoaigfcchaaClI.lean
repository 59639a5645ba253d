/- A pyramid of points is built, walked. No condition beyond what the slice reads as. -/
import Derived.Test.YthoanoaigfcchaaClG
import Derived.Test.YthoanoaigfcchaaClH
namespace Go.Proofs.Ythoanoaigfcchaa
open Go.RowKit Go.Maps
set_option linter.unusedSimpArgs false
set_option linter.unusedVariables false
set_option maxRecDepth 2000

def fitP (p : Int × Int) : Bool := fitsB p.1 p.2
/-- What is built of points. -/
def BuiltPost (w : World) (Q : List (Int × Int)) (e : Ending) (w' : World) : Prop :=
  ((Q.length ≤ 60 ∧ ∃ q n F A c P, e = .returned (.tuple #[.pointer (some ⟨q, 0, none⟩), .slice A P.length c]) ∧ Pyr w' q n F ∧ FitsF F P ∧ GoodP P ∧ P.Perm (Q.filter fitP) ∧ Pts w' w'.heap.size A P)
    ∨ (60 < Q.length ∧ e = .returned (.tuple #[.pointer none, .slice none 0 0]))) ∧ Below w.heap.size w w'
/-- The state behind so many points. -/
def BuiltAt (Q : List (Int × Int)) (q k : Nat) (A : Option Addr) (P : List (Int × Int)) (wr : World) : Prop :=
  ∃ n F, Pyr wr q n F ∧ n ≤ 17 * k ∧ FitsF F P ∧ GoodP P ∧ P.Perm ((Q.take k).filter fitP) ∧ Pts wr wr.heap.size A P ∧ P.length ≤ k ∧ ∀ l c, 0 ≤ F l c ∧ F l c ≤ k
theorem stepF_bd {F : Nat → Nat → Int} {C k : Nat} (h : ∀ l c, 0 ≤ F l c ∧ F l c ≤ k) : ∀ l c, 0 ≤ stepF F C 17 l c ∧ stepF F C 17 l c ≤ (k + 1 : Nat) := fun l c => by
  have := h l c
  unfold stepF
  split <;> (push_cast; omega)
theorem take_filter {Q : List (Int × Int)} {k : Nat} (hk : k < Q.length) : (Q.take (k + 1)).filter fitP = (Q.take k).filter fitP ++ if fitP (Q.getD k (0, 0)) = true then [Q.getD k (0, 0)] else [] := by
  rw [List.take_succ_eq_append_getElem hk, List.filter_append]
  simp only [List.getD, List.getElem?_eq_getElem hk, Option.getD_some, List.filter_cons, List.filter_nil]
set_option maxHeartbeats 16000000 in
theorem built_any (S : Option Addr) (cp : Nat) (Q : List (Int × Int)) (w : World) (h : Pts w w.heap.size S Q) (hn : Q.length ≤ 9223372036854775807) :
    Calls Try.prog 9 #[.slice S Q.length cp] w (BuiltPost w Q) := by
  obtain ⟨n, hnn⟩ : ∃ n, Q.length = n := ⟨_, rfl⟩
  have H := Lib.hid h
  have HB2 := Lib.hid (show 60 < n → ∀ w', Below w.heap.size w w' → BuiltPost w Q (.returned (.tuple #[.pointer none, .slice none 0 0])) w' from fun h1 w' h2 => ⟨.inr ⟨by omega, rfl⟩, h2⟩)
  have HB1 := Lib.hid (show ∀ (q k : Nat) (A : Option Addr) (c : Nat) (P : List (Int × Int)) (w' : World), n ≤ 60 → k = n → BuiltAt Q q k A P w' → Below w.heap.size w w' → BuiltPost w Q (.returned (.tuple #[.pointer (some ⟨q, 0, none⟩), .slice A P.length c])) w' from by
    rintro q k A c P w' h1 rfl ⟨m, F, a1, a2, a3, a4, a5, a6, a7, a8⟩ h2
    refine ⟨.inl ⟨by omega, q, m, F, A, c, P, rfl, a1, a3, a4, ?_, a6⟩, h2⟩
    rwa [List.take_of_length_le (by omega)] at a5)
  rw [hnn] at hn ⊢
  have HN := Lib.hid hnn
  clear h hnn
  by_cases hbig : 60 < n
  · have PN := Lib.hid new_any
    go_enter Try.func9, Try.ntmps9
    go_wp2_with fail
    refine (PN.out _).mono ?_
    rintro e w1 ⟨q, rfl, hP, hq, hb⟩
    obtain ⟨X1, rfl⟩ : ∃ Z : Later w.heap.size w, w1 = Z.w := ⟨⟨w1, hb⟩, rfl⟩
    clear hP hb
    go_wp2
    go_ret2
    exact HB2.out hbig _ (by repeat' (first | (with_reducible exact Below.refl _ _) | (with_reducible assumption) | (with_reducible refine Later.step ?_ ?_ _) | (with_reducible refine Below.alloc ?_ ?_ _) | (with_reducible refine Below.drew ?_) | (with_reducible refine bel_drewN ?_ _) | (with_reducible refine bel_grown ?_ (by assumption) ?_ ?_) | (with_reducible refine Below.setCell ?_ ?_ _) | go_size))
  · have PN := Lib.hid new_any
    have hsm : n ≤ 60 := by omega
    clear hbig HB2
    go_enter Try.func9, Try.ntmps9
    go_wp2_with fail
    refine (PN.out _).mono ?_
    rintro e w1 ⟨q, rfl, hP, hq, hb⟩
    have hs1 := hb.size
    have HS := Lib.hid (show BuiltAt Q q 0 none [] w1 from ⟨0, _, hP, by omega, fitsF_nil, (fun p hp => by cases hp), by simp, (fun hp => by cases hp), by simp, fun l c => ⟨by omega, by omega⟩⟩)
    obtain ⟨X1, rfl⟩ : ∃ Z : Later w.heap.size w, w1 = Z.w := ⟨⟨w1, hb⟩, rfl⟩
    clear hP hb
    go_wp2
    go_loopw [5, 6] (fun v i wr => ∃ (k : Nat) (A : Option Addr) (c : Nat) (P : List (Int × Int)), k ≤ n ∧ v = .slice A P.length c ∧ i = .int .i64 k ∧ Hid (BuiltAt Q q k A P wr) ∧ Below w.heap.size w wr) (fun _ i _ => n - (intOf i).toNat)
    case atStart => exact ⟨0, none, 0, [], by omega, rfl, rfl, HS.out, X1.is⟩
    case round =>
      obtain ⟨k, A, c, P, hk, rfl, rfl, hat, hb⟩ := hrel
      have hsz := hb.size
      obtain ⟨X, rfl⟩ : ∃ Z : Later w.heap.size w, wr = Z.w := ⟨⟨wr, hb⟩, rfl⟩
      clear hb
      by_cases hlt : k < n
      · obtain ⟨m, F, a1, a2, a3, a4, a5, a6, a7, a8⟩ := hat.out
        obtain ⟨g, o, hA, hbl, hc⟩ := H.out (by rw [HN.out]; omega)
        subst hA
        obtain ⟨k0, k1⟩ := hc k (by rw [HN.out]; exact hlt)
        have htf := take_filter (Q := Q) (k := k) (by rw [HN.out]; exact hlt)
        obtain ⟨x, hx⟩ : ∃ x, (Q.getD k (0, 0)).1 = x := ⟨_, rfl⟩
        obtain ⟨y, hy⟩ : ∃ y, (Q.getD k (0, 0)).2 = y := ⟨_, rfl⟩
        have hxy : Q.getD k (0, 0) = (x, y) := by rw [← hx, ← hy]
        rw [hxy] at htf
        rw [hx] at k0
        rw [hy] at k1
        have hi0 : (0 : Int) ≤ (k : Int) := Int.natCast_nonneg _
        have hi1 : (k : Int) < (n : Int) := by omega
        have pf := rfits_any x y
        have HTF := Lib.hid htf
        clear hc hx hy hxy htf hat
        cases hf : fitsB x y with
        | false =>
          have PA := Lib.hid (add_no x y q m F X.w a1 hf)
          have HAT := Lib.hid (show ∀ w', Below X.w.heap.size X.w w' → BuiltAt Q q (k + 1) A P w' from fun w' hw => ⟨m, F, a1.keep hw, by omega, a3, a4, by
            have h9 := HTF.out
            unfold fitP at h9
            rw [hf] at h9
            simp only [Bool.false_eq_true, if_false, List.append_nil] at h9
            unfold fitP
            rw [h9]
            exact a5, (a6.keep hw).more hw.size, by omega, fun l c => by have := a8 l c; push_cast; omega⟩)
          clear a1 a2 a3 a4 a5 a6 a7 a8 hf pf
          go_wp2_with (first
            | (go_at_call 26; refine PA.out.mono ?_; rintro e w' ⟨rfl, hb⟩; obtain ⟨X2, rfl, hl2, hm2⟩ := later _ hb (Nat.le_refl _); clear hb; (try simp only [World.size_alloc, World.size_setCell, World.size_drew] at hm2 hl2)))
          go_roundw
          case rel => exact ⟨k + 1, A, c, P, by omega, rfl, by go_num, HAT.out _ (by repeat' (first | (with_reducible exact Below.refl _ _) | (with_reducible assumption) | (with_reducible refine Later.step ?_ ?_ _) | (with_reducible refine Below.alloc ?_ ?_ _) | (with_reducible refine Below.drew ?_) | (with_reducible refine bel_drewN ?_ _) | (with_reducible refine bel_grown ?_ (by assumption) ?_ ?_) | (with_reducible refine Below.setCell ?_ ?_ _) | go_size)), by repeat' (first | (with_reducible exact Below.refl _ _) | (with_reducible assumption) | (with_reducible refine Later.step ?_ ?_ _) | (with_reducible refine Below.alloc ?_ ?_ _) | (with_reducible refine Below.drew ?_) | (with_reducible refine bel_drewN ?_ _) | (with_reducible refine bel_grown ?_ (by assumption) ?_ ?_) | (with_reducible refine Below.setCell ?_ ?_ _) | go_size)⟩
          case measure => simp [intOf]; omega
        | true =>
          rw [hf] at pf
          have PF2 := Lib.hid pf
          have PA := Lib.hid (add_yes x y q m F X.w a1 hf (by omega) (fun l c => by have := a8 l c; omega))
          have hpl : P.length ≤ 60 := by omega
          have HPT := Lib.hid a6
          have HAT := Lib.hid (show ∀ (A' : Option Addr) (i : Nat) (w' : World), i ≤ P.length → Pyr w' q (m + 17) (stepF F (ptC x y) 17) → Pts w' w'.heap.size A' (P.take i ++ (x, y) :: P.drop i) → BuiltAt Q q (k + 1) A' (P.take i ++ (x, y) :: P.drop i) w' from fun A' i w' hi hpy hpt => ⟨m + 17, _, hpy, by omega, fitsF_put a3 x y i, put_good a4 hf i, by
            have h9 := HTF.out
            unfold fitP at h9
            rw [if_pos hf] at h9
            unfold fitP
            rw [h9]
            exact (put_perm P (x, y) i).trans (a5.append_right _), hpt, by rw [put_len P (x, y) hi]; omega, stepF_bd a8⟩)
          clear a1 a2 a3 a4 a5 a6 a7 a8 hf pf
          go_wp2_with fail
          refine PA.out.mono ?_
          rintro e w2 ⟨rfl, hpy, hkm, hbq⟩
          have hs2 := hkm.size
          have HPY := Lib.hid hpy
          have HPT2 := Lib.hid ((HPT.out.kept hkm).more hkm.size)
          have hb2 : Below w.heap.size w w2 := X.is.trans (hbq.mono (by omega))
          obtain ⟨X2, rfl⟩ : ∃ Z : Later w.heap.size w, w2 = Z.w := ⟨⟨w2, hb2⟩, rfl⟩
          clear hpy hkm hbq hb2
          go_wp2_with (first
            | (go_at_call 12; refine (PF2.out _).mono ?_; rintro e w' ⟨rfl, hb⟩; obtain ⟨X3, rfl, hl3, hm3⟩ := later _ hb (Nat.le_refl _); clear hb; (try simp only [World.size_alloc, World.size_setCell, World.size_drew] at hm3 hl3)))
          refine (put_pt A c P x y X3.w ((HPT2.out.keep X3.is).more hm3) (by omega)).mono ?_
          rintro e w4 ⟨A4, c4, i4, hi4, rfl, hpt4, hb4⟩
          have hs4 := hb4.size
          have HAT4 := Lib.hid (HAT.out A4 i4 w4 hi4 ((HPY.out.keep X3.is).keep hb4) hpt4)
          have hln := put_len P (x, y) hi4
          obtain ⟨X4, rfl⟩ : ∃ Z : Later X3.w.heap.size X3.w, w4 = Z.w := ⟨⟨w4, hb4⟩, rfl⟩
          have HLN := Lib.hid hln
          clear hpt4 hb4 hln
          go_wp2
          go_roundw
          case rel => exact ⟨k + 1, A4, c4, _, by omega, by rw [HLN.out], by go_num, HAT4.out, by repeat' (first | (with_reducible exact Below.refl _ _) | (with_reducible assumption) | (with_reducible refine Later.step ?_ ?_ _) | (with_reducible refine Below.alloc ?_ ?_ _) | (with_reducible refine Below.drew ?_) | (with_reducible refine bel_drewN ?_ _) | (with_reducible refine bel_grown ?_ (by assumption) ?_ ?_) | (with_reducible refine Below.setCell ?_ ?_ _) | go_size)⟩
          case measure => simp [intOf]; omega
      · have hkn := Lib.hid (show k = n by omega)
        go_wp2
        go_ret2
        exact HB1.out q k A c P _ hsm hkn.out hat.out (by repeat' (first | (with_reducible exact Below.refl _ _) | (with_reducible assumption) | (with_reducible refine Later.step ?_ ?_ _) | (with_reducible refine Below.alloc ?_ ?_ _) | (with_reducible refine Below.drew ?_) | (with_reducible refine bel_drewN ?_ _) | (with_reducible refine bel_grown ?_ (by assumption) ?_ ?_) | (with_reducible refine Below.setCell ?_ ?_ _) | go_size))
end Go.Proofs.Ythoanoaigfcchaa
