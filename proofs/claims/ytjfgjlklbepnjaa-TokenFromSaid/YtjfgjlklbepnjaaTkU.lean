/- What is over: the statement walked. No condition beyond what the row of operations reads as. -/
import Derived.Test.YtjfgjlklbepnjaaTkT
namespace Go.Proofs.Ytjfgjlklbepnjaa
open Go.RowKit
set_option linter.unusedSimpArgs false
set_option linter.unusedVariables false
set_option maxRecDepth 4000

set_option maxHeartbeats 16000000 in
theorem ends_law (A : Option Addr) (n c : Nat) (L : List OpT) (now lat : Int) (w : World) (h : L.length = n ∧ n ≤ 9223372036854775807 ∧ Ops w w.heap.size A L ∧ U64o L) (hw : (Lit.int .i64 now).wf = true) (hw2 : (Lit.int .i64 lat).wf = true) :
    Calls Try.prog 5 #[.slice A n c, .int .i64 now, .int .i64 lat] w fun e w' => e = .returned (.bool true) ∧ Below w.heap.size w w' := by
  have P0 := Lib.hid (fun (Y : World) (hY : Below w.heap.size w Y) => played_any n c A L Y ((h.2.2.1.keep hY).more hY.size) h.1 h.2.1 h.2.2.2)
  obtain ⟨T, hT⟩ : ∃ T, playT L = T := ⟨_, rfl⟩
  rw [hT] at P0
  have PK := Lib.hid tknown_any
  clear h hw hw2 hT
  go_enter Try.func5, Try.ntmps5
  go_wp2_with fail
  refine (P0.out _ (by repeat' (first | (with_reducible exact Below.refl _ _) | (with_reducible assumption) | (with_reducible refine Later.step ?_ ?_ _) | (with_reducible refine Below.alloc ?_ ?_ _) | (with_reducible refine Below.drew ?_) | (with_reducible refine bel_drewN ?_ _) | (with_reducible refine bel_grown ?_ (by assumption) ?_ ?_) | (with_reducible refine Below.setCell ?_ ?_ _) | go_size))).mono ?_
  rintro e w1 ⟨⟨q, A1, c1, rfl, hq, hG⟩, hb⟩
  have HG1 := Lib.hid hG
  obtain ⟨X1, rfl⟩ : ∃ Z : Later w.heap.size w, w1 = Z.w := ⟨⟨w1, hb⟩, rfl⟩
  clear hG hb
  go_wp2_with fail
  refine (tickets_any q c1 A1 T now _ (HG1.out.keep (by repeat' (first | (with_reducible exact Below.refl _ _) | (with_reducible assumption) | (with_reducible refine Later.step ?_ ?_ _) | (with_reducible refine Below.alloc ?_ ?_ _) | (with_reducible refine Below.drew ?_) | (with_reducible refine bel_drewN ?_ _) | (with_reducible refine bel_grown ?_ (by assumption) ?_ ?_) | (with_reducible refine Below.setCell ?_ ?_ _) | go_size)))).mono ?_
  rintro e w2 ⟨C, cc, A2, c2, rfl, hRow, hnew, hG2, hto⟩
  have hb2 : Below w.heap.size w w2 := X1.is.trans ((hto.elder HG1.out.tab).mono hq)
  obtain ⟨S, hS⟩ : ∃ S, leftT T now = S := ⟨_, rfl⟩
  rw [hS] at hRow hG2 hnew ⊢
  obtain ⟨r, hr⟩ : ∃ r, S.length = r := ⟨_, rfl⟩
  rw [hr]
  have HSS := Lib.hid hr
  have hr8 : r ≤ 8 := by rw [← hr]; exact hG2.len
  have HG2 := Lib.hid hG2
  have HROW := Lib.hid hRow
  have hql := hG2.tab.lt
  obtain ⟨X2, rfl⟩ : ∃ Z : Later w.heap.size w, w2 = Z.w := ⟨⟨w2, hb2⟩, rfl⟩
  clear hRow hnew hG2 hto hb2 hr hS
  by_cases hlt : lat < now
  · go_wp2_with (first | (go_at_call 23; refine (PK.out _).mono ?_; rintro e w' ⟨rfl, hb⟩; obtain ⟨X9, rfl, hl9, hm9⟩ := later _ hb (Nat.le_refl _); clear hb; (try simp only [World.size_alloc, World.size_setCell, World.size_drew] at hm9 hl9)))
    go_ret
    exact ⟨rfl, by repeat' (first | (with_reducible exact Below.refl _ _) | (with_reducible assumption) | (with_reducible refine Later.step ?_ ?_ _) | (with_reducible refine Below.alloc ?_ ?_ _) | (with_reducible refine Below.drew ?_) | (with_reducible refine bel_drewN ?_ _) | (with_reducible refine bel_grown ?_ (by assumption) ?_ ?_) | (with_reducible refine Below.setCell ?_ ?_ _) | go_size)⟩
  · go_wp2_with fail
    refine (tickets_any q c2 A2 S lat _ (HG2.out.keep (by repeat' (first | (with_reducible exact Below.refl _ _) | (with_reducible assumption) | (with_reducible refine Later.step ?_ ?_ _) | (with_reducible refine Below.alloc ?_ ?_ _) | (with_reducible refine Below.drew ?_) | (with_reducible refine bel_drewN ?_ _) | (with_reducible refine bel_grown ?_ (by assumption) ?_ ?_) | (with_reducible refine Below.setCell ?_ ?_ _) | go_size)))).mono ?_
    rintro e w3 ⟨D, cd, A3, c3, rfl, hRow3, hnew3, hG3, hto3⟩
    have hb3 : Below w.heap.size w w3 := X2.is.trans ((hto3.elder HG2.out.tab).mono hq)
    have hRC := HROW.out.to hto3
    have HGOOD := Lib.hid (show GoodT (leftT S lat) ∧ leftT (leftT S lat) lat = leftT S lat ∧ (leftT S lat).length ≤ 8 ∧ U64 (leftT S lat) ∧ ∀ k ∈ leftT S lat, lat ≤ (grantsT (leftT S lat) k).til from ⟨hG3.good, left_left HG2.out.good lat, hG3.len, hG3.u64, fun k hk => left_til HG2.out.good hk⟩)
    obtain ⟨M, hM⟩ : ∃ M, leftT S lat = M := ⟨_, rfl⟩
    rw [hM] at hRow3 hG3 HGOOD hnew3 ⊢
    obtain ⟨m, hm⟩ : ∃ m, M.length = m := ⟨_, rfl⟩
    rw [hm]
    have HMM := Lib.hid (show M.length = m ∧ leftT S lat = M ∧ GoodT S from ⟨hm, hM, HG2.out.good⟩)
    have hm8 : m ≤ 8 := by rw [← hm]; exact HGOOD.out.2.2.1
    have HG3 := Lib.hid hG3
    have HR3 := Lib.hid (show Row w3 q A3 D M ∧ Row w3 q A3 C S from ⟨hRow3, hRC⟩)
    have hql3 := hG3.tab.lt
    obtain ⟨X3, rfl⟩ : ∃ Z : Later w.heap.size w, w3 = Z.w := ⟨⟨w3, hb3⟩, rfl⟩
    clear hRow3 hnew3 hG3 hto3 hb3 hm hM hRC
    go_wp2_with fail
    go_loopw [10] (fun i wr => ∃ (k : Nat), i = .int .i64 k ∧ k ≤ m ∧ q < wr.heap.size ∧ Hid (∃ A' c', GTab wr q A' c' M ∧ Row wr q A' D M ∧ Row wr q A' C S) ∧ Below w.heap.size w wr) (fun i _ => m - (intOf i).toNat)
    case atStart => exact ⟨0, rfl, by omega, hql3, ⟨A3, c3, HG3.out, HR3.out⟩, by repeat' (first | (with_reducible exact Below.refl _ _) | (with_reducible assumption) | (with_reducible refine Later.step ?_ ?_ _) | (with_reducible refine Below.alloc ?_ ?_ _) | (with_reducible refine Below.drew ?_) | (with_reducible refine bel_drewN ?_ _) | (with_reducible refine bel_grown ?_ (by assumption) ?_ ?_) | (with_reducible refine Below.setCell ?_ ?_ _) | go_size)⟩
    case round =>
      obtain ⟨k, rfl, hk, hqs, hG, hbel⟩ := hrel
      obtain ⟨X, rfl⟩ : ∃ X : Later w.heap.size w, wr = X.w := ⟨⟨wr, hbel⟩, rfl⟩
      clear hbel
      by_cases hkm : k < m
      · obtain ⟨A', c', hG', hR'⟩ := hG.out
        have HG := Lib.hid hG'
        have HR := Lib.hid hR'
        have hkM : k < M.length := by rw [HMM.out.1]; exact hkm
        obtain ⟨b, o, hC, hB, c0, d1, c2, c3, c4, c5, c6, c7, c8, c9⟩ := tks_at hR'.1.1 hkM
        subst hC
        have hmem : M.getD k t0 ∈ M := by rw [getD_lt hkM]; exact List.getElem_mem _
        obtain ⟨x, hx⟩ : ∃ x, M.getD k t0 = x := ⟨_, rfl⟩
        have HX := Lib.hid hx
        rw [hx] at c0 d1 c2 c3 c4 c5 c6 c7 c8 c9 hmem
        have hfx := HGOOD.out.1.find x hmem
        have P1 := Lib.hid (fun (A' : Option Addr) (c' : Nat) (Y : World) (hY : GTab Y q A' c' M) => live_is (now := lat) q c' A' Y hY HGOOD.out.2.1 hfx (HGOOD.out.2.2.2.1 x hmem).1)
        have htil : decide ((grantsT M x).til < lat) = false := decide_eq_false (by have := HGOOD.out.2.2.2.2 x hmem; omega)
        have htil2 : decide (x.g.til < lat) = false := decide_eq_false (by have := HGOOD.out.2.2.2.2 x hmem; have := grants_til M x; omega)
        generalize grantsT M x = G at *
        clear hG' hR' hx hmem hfx
        go_wp2_with fail
        refine (P1.out _ _ _ (HG.out.keep (by repeat' (first | (with_reducible exact Below.refl _ _) | (with_reducible assumption) | (with_reducible refine Later.step ?_ ?_ _) | (with_reducible refine Below.alloc ?_ ?_ _) | (with_reducible refine Below.drew ?_) | (with_reducible refine bel_drewN ?_ _) | (with_reducible refine bel_grown ?_ (by assumption) ?_ ?_) | (with_reducible refine Below.setCell ?_ ?_ _) | go_size)))).mono ?_
        rintro e w4 ⟨rfl, A4, c4', hG4, hto4⟩
        have hR4 := HR.out.1.to hto4
        have hR5 := HR.out.2.to hto4
        have hb4 : Below w.heap.size w w4 := X.is.trans ((hto4.elder HG.out.tab).mono hq)
        obtain ⟨hB4, e0, e1, e2, e3, e4, e5, e6, e7, e8, e9⟩ := tks_in hR4.1 (by rw [HMM.out.1]; exact hkm : k < M.length)
        rw [HX.out] at e0 e1 e2 e3 e4 e5 e6 e7 e8 e9
        have HG4 := Lib.hid hG4
        have HR4 := Lib.hid (And.intro hR4 hR5)
        have hq4 := hG4.tab.lt
        obtain ⟨X4, rfl⟩ : ∃ Z : Later w.heap.size w, w4 = Z.w := ⟨⟨w4, hb4⟩, rfl⟩
        clear hR4 hR5 hb4 hG4 hto4
        go_wp2_with fail
        go_roundw
        case rel => exact ⟨k + 1, by go_num, by omega, by go_size, ⟨A4, c4', HG4.out.keep (by repeat' (first | (with_reducible exact Below.refl _ _) | (with_reducible assumption) | (with_reducible refine Later.step ?_ ?_ _) | (with_reducible refine Below.alloc ?_ ?_ _) | (with_reducible refine Below.drew ?_) | (with_reducible refine bel_drewN ?_ _) | (with_reducible refine bel_grown ?_ (by assumption) ?_ ?_) | (with_reducible refine Below.setCell ?_ ?_ _) | go_size)), HR4.out.1.keep (by repeat' (first | (with_reducible exact Below.refl _ _) | (with_reducible assumption) | (with_reducible refine Later.step ?_ ?_ _) | (with_reducible refine Below.alloc ?_ ?_ _) | (with_reducible refine Below.drew ?_) | (with_reducible refine bel_drewN ?_ _) | (with_reducible refine bel_grown ?_ (by assumption) ?_ ?_) | (with_reducible refine Below.setCell ?_ ?_ _) | go_size)), HR4.out.2.keep (by repeat' (first | (with_reducible exact Below.refl _ _) | (with_reducible assumption) | (with_reducible refine Later.step ?_ ?_ _) | (with_reducible refine Below.alloc ?_ ?_ _) | (with_reducible refine Below.drew ?_) | (with_reducible refine bel_drewN ?_ _) | (with_reducible refine bel_grown ?_ (by assumption) ?_ ?_) | (with_reducible refine Below.setCell ?_ ?_ _) | go_size))⟩, by repeat' (first | (with_reducible exact Below.refl _ _) | (with_reducible assumption) | (with_reducible refine Later.step ?_ ?_ _) | (with_reducible refine Below.alloc ?_ ?_ _) | (with_reducible refine Below.drew ?_) | (with_reducible refine bel_drewN ?_ _) | (with_reducible refine bel_grown ?_ (by assumption) ?_ ?_) | (with_reducible refine Below.setCell ?_ ?_ _) | go_size)⟩
        case measure => simp [intOf]; omega
      · obtain rfl : k = m := by omega
        obtain ⟨A', c', hG', hR'⟩ := hG.out
        have HR := Lib.hid hR'
        clear hG' hR'
        go_wp2_with fail
        refine (kleft_any r cc C S lat X.w HR.out.2.1 HSS.out (by omega) HMM.out.2.2).mono ?_
        rintro e w7 ⟨⟨C7, cc7, rfl, hRow7⟩, hb7⟩
        rw [HMM.out.2.1, HMM.out.1]
        rw [HMM.out.2.1] at hRow7
        have p7 := same_any k k cd cc7 D C7 M M w7 ((HR.out.1.1.keep hb7).more hb7.size) hRow7.1 HMM.out.1 HMM.out.1 (by omega)
        rw [show decide (M = M) = true from decide_eq_true rfl] at p7
        have P7 := Lib.hid p7
        obtain ⟨X7, rfl, hl7, hm7⟩ := later _ hb7 (Nat.le_refl _)
        have hs7 := X.is.size
        clear hRow7 hb7 p7
        go_wp2_with (first
          | (go_at_call 20; refine P7.out.mono ?_; rintro e w' ⟨rfl, hb⟩; obtain ⟨X8, rfl, hl8, hm8⟩ := later _ hb (Nat.le_refl _); clear hb; (try simp only [World.size_alloc, World.size_setCell, World.size_drew] at hm8 hl8))
          | (go_at_call 23; refine (PK.out _).mono ?_; rintro e w' ⟨rfl, hb⟩; obtain ⟨X9, rfl, hl9, hm9⟩ := later _ hb (Nat.le_refl _); clear hb; (try simp only [World.size_alloc, World.size_setCell, World.size_drew] at hm9 hl9)))
        go_ret
        exact ⟨rfl, by repeat' (first | (with_reducible exact Below.refl _ _) | (with_reducible assumption) | (with_reducible refine Later.step ?_ ?_ _) | (with_reducible refine Below.alloc ?_ ?_ _) | (with_reducible refine Below.drew ?_) | (with_reducible refine bel_drewN ?_ _) | (with_reducible refine bel_grown ?_ (by assumption) ?_ ?_) | (with_reducible refine Below.setCell ?_ ?_ _) | go_size)⟩
end Go.Proofs.Ytjfgjlklbepnjaa
