/- What is revoked; what is over: the statements walked. No condition beyond what the row of operations reads as. -/
import Derived.Test.YtjfgjlklbepnjaaTkS
namespace Go.Proofs.Ytjfgjlklbepnjaa
open Go.RowKit
set_option linter.unusedSimpArgs false
set_option linter.unusedVariables false
set_option maxRecDepth 4000

/-- Tickets told once more. -/
theorem tickets_is {M : List Tk} {now : Int} (q c : Nat) (A : Option Addr) (w : World) (h : GTab w q A c M) (hl : leftT M now = M) :
    Calls Try.prog 21 #[.pointer (some ⟨q, 0, none⟩), .int .i64 now] w (TksPost w q A M) := by
  have h9 := tickets_any q c A M now w h
  rw [hl] at h9
  exact h9
theorem revoke_is {M : List Tk} {now : Int} (q c s : Nat) (A : Option Addr) (w : World) (h : GTab w q A c M) (hl : leftT M now = M) (hs : s < 18446744073709551616) :
    Calls Try.prog 16 #[.pointer (some ⟨q, 0, none⟩), .int .u64 (s : Nat), .int .i64 now] w (MPost w q A (.int .i64 (revE M s)) (revT M s)) := by
  have h9 := revoke_any q c A M s now w h hs
  rw [hl] at h9
  exact h9
theorem live_no {M : List Tk} {now : Int} {s : Nat} (q c : Nat) (A : Option Addr) (w : World) (h : GTab w q A c M) (hl : leftT M now = M) (hx : findT M s = none) (hs : s < 18446744073709551616) :
    Calls Try.prog 18 #[.pointer (some ⟨q, 0, none⟩), .int .u64 (s : Nat), .int .i64 now] w (MPost w q A (.tuple #[.agg #[.int .i64 zeroG.ops, .int .i64 zeroG.zoom, .int .i64 zeroG.a, .int .i64 zeroG.b, .int .i64 zeroG.c, .int .i64 zeroG.d, .bool zeroG.void, .int .i64 zeroG.til], .bool false]) M) := by
  have h9 := live_any q c A M s now w h hs
  rw [hl, show liveG M s = zeroG by unfold liveG; rw [hx], hx] at h9
  exact h9
set_option maxHeartbeats 16000000 in
theorem revokes_law (A : Option Addr) (n c : Nat) (L : List OpT) (s0 now : Int) (w : World) (h : L.length = n ∧ n ≤ 9223372036854775807 ∧ Ops w w.heap.size A L ∧ U64o L) (hsw : (Lit.int .u64 s0).wf = true) (hw : (Lit.int .i64 now).wf = true) :
    Calls Try.prog 4 #[.slice A n c, .int .u64 s0, .int .i64 now] w fun e w' => e = .returned (.bool true) ∧ Below w.heap.size w w' := by
  obtain ⟨s, rfl, hs⟩ : ∃ s : Nat, s0 = (s : Int) ∧ s < 18446744073709551616 := by
    simp only [Lit.wf, Bool.and_eq_true, decide_eq_true_eq] at hsw
    have h1 : 0 ≤ s0 := hsw.1
    have h2 : s0 ≤ 18446744073709551615 := hsw.2
    exact ⟨s0.toNat, by omega, by omega⟩
  have P0 := Lib.hid (fun (Y : World) (hY : Below w.heap.size w Y) => played_any n c A L Y ((h.2.2.1.keep hY).more hY.size) h.1 h.2.1 h.2.2.2)
  obtain ⟨T, hT⟩ : ∃ T, playT L = T := ⟨_, rfl⟩
  rw [hT] at P0
  have PK := Lib.hid tknown_any
  have HS := Lib.hid hs
  clear h hw hT hsw hs
  go_enter Try.func4, Try.ntmps4
  go_wp2_with fail
  refine (P0.out _ (by repeat' (first | (with_reducible exact Below.refl _ _) | (with_reducible assumption) | (with_reducible refine Later.step ?_ ?_ _) | (with_reducible refine Below.alloc ?_ ?_ _) | (with_reducible refine Below.drew ?_) | (with_reducible refine bel_drewN ?_ _) | (with_reducible refine bel_grown ?_ (by assumption) ?_ ?_) | (with_reducible refine Below.setCell ?_ ?_ _) | go_size))).mono ?_
  rintro e w1 ⟨⟨q, A1, c1, rfl, hq, hG⟩, hb⟩
  have HG1 := Lib.hid hG
  obtain ⟨X1, rfl⟩ : ∃ Z : Later w.heap.size w, w1 = Z.w := ⟨⟨w1, hb⟩, rfl⟩
  clear hG hb
  go_wp2_with fail
  refine (tickets_any q c1 A1 T now _ (HG1.out.keep (by repeat' (first | (with_reducible exact Below.refl _ _) | (with_reducible assumption) | (with_reducible refine Later.step ?_ ?_ _) | (with_reducible refine Below.alloc ?_ ?_ _) | (with_reducible refine Below.drew ?_) | (with_reducible refine bel_drewN ?_ _) | (with_reducible refine bel_grown ?_ (by assumption) ?_ ?_) | (with_reducible refine Below.setCell ?_ ?_ _) | go_size)))).mono ?_
  rintro e w2 ⟨C, cc, A2, c2, rfl, hRow, hnew, hG2, hto⟩
  have hb2 : Below w.heap.size w w2 := X1.is.trans ((hto.elder HG1.out.tab).mono hq)
  have HGOOD := Lib.hid (show GoodT (leftT T now) ∧ leftT (leftT T now) now = leftT T now ∧ (leftT T now).length ≤ 8 ∧ U64 (leftT T now) ∧ ∀ k ∈ leftT T now, now ≤ (grantsT (leftT T now) k).til from ⟨hG2.good, left_left HG1.out.good now, hG2.len, hG2.u64, fun k hk => left_til HG1.out.good hk⟩)
  obtain ⟨M, hM⟩ : ∃ M, leftT T now = M := ⟨_, rfl⟩
  rw [hM] at hRow hG2 HGOOD hnew ⊢
  obtain ⟨m, hm⟩ : ∃ m, M.length = m := ⟨_, rfl⟩
  rw [hm]
  have HMM := Lib.hid hm
  have hm8 : m ≤ 8 := by rw [← hm]; exact HGOOD.out.2.2.1
  have HG2 := Lib.hid hG2
  have HROW := Lib.hid hRow
  obtain ⟨X2, rfl⟩ : ∃ Z : Later w.heap.size w, w2 = Z.w := ⟨⟨w2, hb2⟩, rfl⟩
  clear hRow hnew hG2 hto hb2 hm hM
  have HRV := Lib.hid (show revE M s = (if (findT M s).isSome = true then 0 else 21) ∧ revT M s = if (findT M s).isSome = true then withoutT M s else M from ⟨rfl, rfl⟩)
  have P3 := Lib.hid (fun (A' : Option Addr) (c' : Nat) (Y : World) (hY : GTab Y q A' c' M) => revoke_is (now := now) q c' s A' Y hY HGOOD.out.2.1 HS.out)
  obtain ⟨E, hE⟩ : ∃ E, revE M s = E := ⟨_, rfl⟩
  obtain ⟨V, hV⟩ : ∃ V, revT M s = V := ⟨_, rfl⟩
  rw [hE, hV] at P3 HRV
  clear hE hV
  go_wp2_with fail
  refine (P3.out _ _ _ (HG2.out.keep (by repeat' (first | (with_reducible exact Below.refl _ _) | (with_reducible assumption) | (with_reducible refine Later.step ?_ ?_ _) | (with_reducible refine Below.alloc ?_ ?_ _) | (with_reducible refine Below.drew ?_) | (with_reducible refine bel_drewN ?_ _) | (with_reducible refine bel_grown ?_ (by assumption) ?_ ?_) | (with_reducible refine Below.setCell ?_ ?_ _) | go_size)))).mono ?_
  rintro e w3 ⟨rfl, A3, c3, hG3, hto⟩
  have hb3 : Below w.heap.size w w3 := X2.is.trans ((hto.elder HG2.out.tab).mono hq)
  have HR3 := Lib.hid (HROW.out.to hto)
  have HG3 := Lib.hid hG3
  obtain ⟨X3, rfl⟩ : ∃ Z : Later w.heap.size w, w3 = Z.w := ⟨⟨w3, hb3⟩, rfl⟩
  clear hG3 hto hb3
  have P4 := Lib.hid (fun (Y : World) (hY : Below X3.w.heap.size X3.w Y) => kfind_any m cc C M s Y ((HR3.out.1.keep hY).more hY.size) HMM.out (by omega))
  obtain ⟨d, hd⟩ : ∃ d, (findT M s).isSome = d := ⟨_, rfl⟩
  obtain ⟨f, hf⟩ : ∃ f, fndT M s = f := ⟨_, rfl⟩
  rw [hd] at HRV P4
  rw [hf] at P4
  have HD := Lib.hid hd
  clear hd hf
  go_wp2_with fail
  refine (P4.out _ (by repeat' (first | (with_reducible exact Below.refl _ _) | (with_reducible assumption) | (with_reducible refine Later.step ?_ ?_ _) | (with_reducible refine Below.alloc ?_ ?_ _) | (with_reducible refine Below.drew ?_) | (with_reducible refine bel_drewN ?_ _) | (with_reducible refine bel_grown ?_ (by assumption) ?_ ?_) | (with_reducible refine Below.setCell ?_ ?_ _) | go_size))).mono ?_
  rintro e w' ⟨rfl, hb⟩; obtain ⟨X4, rfl, hl4, hm4⟩ := later _ hb (Nat.le_refl _); clear hb; (try simp only [World.size_alloc, World.size_setCell, World.size_drew] at hm4 hl4)
  have HG4 := Lib.hid (HG3.out.keep X4.is)
  have HR4 := Lib.hid (HR3.out.keep X4.is)
  have hb4 : Below w.heap.size w X4.w := X3.is.trans (X4.is.mono X3.is.size)
  have hs4 := hb4.size
  cases d with
  | false =>
    have eV : M = V := HRV.out.2.symm
    obtain rfl : E = 21 := HRV.out.1
    subst eV
    go_wp2_with fail
    refine (tickets_is q c3 A3 _ (HG4.out.keep (by repeat' (first | (with_reducible exact Below.refl _ _) | (with_reducible assumption) | (with_reducible refine Later.step ?_ ?_ _) | (with_reducible refine Below.alloc ?_ ?_ _) | (with_reducible refine Below.drew ?_) | (with_reducible refine bel_drewN ?_ _) | (with_reducible refine bel_grown ?_ (by assumption) ?_ ?_) | (with_reducible refine Below.setCell ?_ ?_ _) | go_size))) HGOOD.out.2.1).mono ?_
    rintro e w5 ⟨C5, cc5, A5, c5, rfl, hRow5, hnew5, hG5, hto5⟩
    rw [HMM.out]
    have hR5 := (HR4.out.keep (by repeat' (first | (with_reducible exact Below.refl _ _) | (with_reducible assumption) | (with_reducible refine Later.step ?_ ?_ _) | (with_reducible refine Below.alloc ?_ ?_ _) | (with_reducible refine Below.drew ?_) | (with_reducible refine bel_drewN ?_ _) | (with_reducible refine bel_grown ?_ (by assumption) ?_ ?_) | (with_reducible refine Below.setCell ?_ ?_ _) | go_size))).to hto5
    have hb5 : Below w.heap.size w w5 := by
      refine Below.trans ?_ ((hto5.elder (HG4.out.keep (by repeat' (first | (with_reducible exact Below.refl _ _) | (with_reducible assumption) | (with_reducible refine Later.step ?_ ?_ _) | (with_reducible refine Below.alloc ?_ ?_ _) | (with_reducible refine Below.drew ?_) | (with_reducible refine bel_drewN ?_ _) | (with_reducible refine bel_grown ?_ (by assumption) ?_ ?_) | (with_reducible refine Below.setCell ?_ ?_ _) | go_size))).tab).mono hq)
      repeat' (first | (with_reducible exact Below.refl _ _) | (with_reducible assumption) | (with_reducible refine Later.step ?_ ?_ _) | (with_reducible refine Below.alloc ?_ ?_ _) | (with_reducible refine Below.drew ?_) | (with_reducible refine bel_drewN ?_ _) | (with_reducible refine bel_grown ?_ (by assumption) ?_ ?_) | (with_reducible refine Below.setCell ?_ ?_ _) | go_size)
    have p5 := same_any m m cc5 cc C5 C M M w5 hRow5.1 hR5.1 HMM.out HMM.out (by omega)
    rw [show decide (M = M) = true from decide_eq_true rfl] at p5
    have P5 := Lib.hid p5
    obtain ⟨X5, rfl⟩ : ∃ Z : Later w.heap.size w, w5 = Z.w := ⟨⟨w5, hb5⟩, rfl⟩
    have hs5 := X5.is.size
    clear hRow5 hnew5 hG5 hto5 hR5 hb5 p5
    go_wp2_with (first
      | (go_at_call 20; refine P5.out.mono ?_; rintro e w' ⟨rfl, hb⟩; obtain ⟨X6, rfl, hl6, hm6⟩ := later _ hb (Nat.le_refl _); clear hb; (try simp only [World.size_alloc, World.size_setCell, World.size_drew] at hm6 hl6))
      | (go_at_call 23; refine (PK.out _).mono ?_; rintro e w' ⟨rfl, hb⟩; obtain ⟨X9, rfl, hl9, hm9⟩ := later _ hb (Nat.le_refl _); clear hb; (try simp only [World.size_alloc, World.size_setCell, World.size_drew] at hm9 hl9)))
    go_ret
    exact ⟨rfl, by repeat' (first | (with_reducible exact Below.refl _ _) | (with_reducible assumption) | (with_reducible refine Later.step ?_ ?_ _) | (with_reducible refine Below.alloc ?_ ?_ _) | (with_reducible refine Below.drew ?_) | (with_reducible refine bel_drewN ?_ _) | (with_reducible refine bel_grown ?_ (by assumption) ?_ ?_) | (with_reducible refine Below.setCell ?_ ?_ _) | go_size)⟩
  | true =>
    obtain rfl : E = 0 := HRV.out.1
    have eV : withoutT M s = V := HRV.out.2.symm
    subst eV
    have HW := Lib.hid (show leftT (withoutT M s) now = withoutT M s ∧ findT (withoutT M s) s = none from ⟨without_left HGOOD.out.1 now s HGOOD.out.2.2.2.2, without_none HGOOD.out.1 s⟩)
    obtain ⟨V, hV⟩ : ∃ V, withoutT M s = V := ⟨_, rfl⟩
    rw [hV] at HG4 HW HG3 HRV
    have HV := Lib.hid hV
    clear hV
    obtain ⟨v, hv⟩ : ∃ v, V.length = v := ⟨_, rfl⟩
    have HVV := Lib.hid hv
    have hv8 : v ≤ 8 := by rw [← hv]; exact HG4.out.len
    clear hv
    go_wp2_with fail
    refine (live_no (now := now) (s := s) q c3 A3 _ (HG4.out.keep (by repeat' (first | (with_reducible exact Below.refl _ _) | (with_reducible assumption) | (with_reducible refine Later.step ?_ ?_ _) | (with_reducible refine Below.alloc ?_ ?_ _) | (with_reducible refine Below.drew ?_) | (with_reducible refine bel_drewN ?_ _) | (with_reducible refine bel_grown ?_ (by assumption) ?_ ?_) | (with_reducible refine Below.setCell ?_ ?_ _) | go_size))) HW.out.1 HW.out.2 HS.out).mono ?_
    rintro e w5 ⟨rfl, A5, c5, hG5, hto5⟩
    have HR5 := Lib.hid ((HR4.out.keep (by repeat' (first | (with_reducible exact Below.refl _ _) | (with_reducible assumption) | (with_reducible refine Later.step ?_ ?_ _) | (with_reducible refine Below.alloc ?_ ?_ _) | (with_reducible refine Below.drew ?_) | (with_reducible refine bel_drewN ?_ _) | (with_reducible refine bel_grown ?_ (by assumption) ?_ ?_) | (with_reducible refine Below.setCell ?_ ?_ _) | go_size))).to hto5)
    have hb5 : Below w.heap.size w w5 := by
      refine Below.trans ?_ ((hto5.elder (HG4.out.keep (by repeat' (first | (with_reducible exact Below.refl _ _) | (with_reducible assumption) | (with_reducible refine Later.step ?_ ?_ _) | (with_reducible refine Below.alloc ?_ ?_ _) | (with_reducible refine Below.drew ?_) | (with_reducible refine bel_drewN ?_ _) | (with_reducible refine bel_grown ?_ (by assumption) ?_ ?_) | (with_reducible refine Below.setCell ?_ ?_ _) | go_size))).tab).mono hq)
      repeat' (first | (with_reducible exact Below.refl _ _) | (with_reducible assumption) | (with_reducible refine Later.step ?_ ?_ _) | (with_reducible refine Below.alloc ?_ ?_ _) | (with_reducible refine Below.drew ?_) | (with_reducible refine bel_drewN ?_ _) | (with_reducible refine bel_grown ?_ (by assumption) ?_ ?_) | (with_reducible refine Below.setCell ?_ ?_ _) | go_size)
    have HG5 := Lib.hid hG5
    obtain ⟨X5, rfl⟩ : ∃ Z : Later w.heap.size w, w5 = Z.w := ⟨⟨w5, hb5⟩, rfl⟩
    have hs5 := X5.is.size
    clear hG5 hto5 hb5
    go_wp2_with fail
    refine (tickets_is q c5 A5 _ (HG5.out.keep (by repeat' (first | (with_reducible exact Below.refl _ _) | (with_reducible assumption) | (with_reducible refine Later.step ?_ ?_ _) | (with_reducible refine Below.alloc ?_ ?_ _) | (with_reducible refine Below.drew ?_) | (with_reducible refine bel_drewN ?_ _) | (with_reducible refine bel_grown ?_ (by assumption) ?_ ?_) | (with_reducible refine Below.setCell ?_ ?_ _) | go_size))) HW.out.1).mono ?_
    rintro e w6 ⟨C6, cc6, A6, c6, rfl, hRow6, hnew6, hG6, hto6⟩
    rw [HVV.out]
    have HR6 := Lib.hid ((HR5.out.keep (by repeat' (first | (with_reducible exact Below.refl _ _) | (with_reducible assumption) | (with_reducible refine Later.step ?_ ?_ _) | (with_reducible refine Below.alloc ?_ ?_ _) | (with_reducible refine Below.drew ?_) | (with_reducible refine bel_drewN ?_ _) | (with_reducible refine bel_grown ?_ (by assumption) ?_ ?_) | (with_reducible refine Below.setCell ?_ ?_ _) | go_size))).to hto6)
    have hb6 : Below w.heap.size w w6 := by
      refine Below.trans ?_ ((hto6.elder (HG5.out.keep (by repeat' (first | (with_reducible exact Below.refl _ _) | (with_reducible assumption) | (with_reducible refine Later.step ?_ ?_ _) | (with_reducible refine Below.alloc ?_ ?_ _) | (with_reducible refine Below.drew ?_) | (with_reducible refine bel_drewN ?_ _) | (with_reducible refine bel_grown ?_ (by assumption) ?_ ?_) | (with_reducible refine Below.setCell ?_ ?_ _) | go_size))).tab).mono hq)
      repeat' (first | (with_reducible exact Below.refl _ _) | (with_reducible assumption) | (with_reducible refine Later.step ?_ ?_ _) | (with_reducible refine Below.alloc ?_ ?_ _) | (with_reducible refine Below.drew ?_) | (with_reducible refine bel_drewN ?_ _) | (with_reducible refine bel_grown ?_ (by assumption) ?_ ?_) | (with_reducible refine Below.setCell ?_ ?_ _) | go_size)
    have HN6 := Lib.hid hRow6
    obtain ⟨X6, rfl⟩ : ∃ Z : Later w.heap.size w, w6 = Z.w := ⟨⟨w6, hb6⟩, rfl⟩
    have hs6 := X6.is.size
    clear hRow6 hnew6 hG6 hto6 hb6
    go_wp2_with fail
    refine (kwithout_any m cc C M s X6.w HR6.out.1 HMM.out (by omega)).mono ?_
    rintro e w7 ⟨⟨C7, cc7, rfl, hRow7⟩, hb7⟩
    rw [HV.out, HVV.out]
    rw [HV.out] at hRow7
    have p7 := same_any v v cc6 cc7 C6 C7 V V w7 ((HN6.out.1.keep hb7).more hb7.size) hRow7.1 HVV.out HVV.out (by omega)
    rw [show decide (V = V) = true from decide_eq_true rfl] at p7
    have P7 := Lib.hid p7
    obtain ⟨X7, rfl, hl7, hm7⟩ := later _ hb7 (Nat.le_refl _)
    clear hRow7 hb7 p7
    go_wp2_with (first
      | (go_at_call 20; refine P7.out.mono ?_; rintro e w' ⟨rfl, hb⟩; obtain ⟨X8, rfl, hl8, hm8⟩ := later _ hb (Nat.le_refl _); clear hb; (try simp only [World.size_alloc, World.size_setCell, World.size_drew] at hm8 hl8))
      | (go_at_call 23; refine (PK.out _).mono ?_; rintro e w' ⟨rfl, hb⟩; obtain ⟨X9, rfl, hl9, hm9⟩ := later _ hb (Nat.le_refl _); clear hb; (try simp only [World.size_alloc, World.size_setCell, World.size_drew] at hm9 hl9)))
    go_ret
    exact ⟨rfl, by repeat' (first | (with_reducible exact Below.refl _ _) | (with_reducible assumption) | (with_reducible refine Later.step ?_ ?_ _) | (with_reducible refine Below.alloc ?_ ?_ _) | (with_reducible refine Below.drew ?_) | (with_reducible refine bel_drewN ?_ _) | (with_reducible refine bel_grown ?_ (by assumption) ?_ ?_) | (with_reducible refine Below.setCell ?_ ?_ _) | go_size)⟩
end Go.Proofs.Ytjfgjlklbepnjaa
