/- Tables played: walked. No condition beyond what the row of operations reads as. -/
import Derived.Test.YtjfgjlklbepnjaaTkQ
import Derived.Test.YtjfgjlklbepnjaaTkK
namespace Go.Proofs.Ytjfgjlklbepnjaa
open Go.RowKit
set_option linter.unusedSimpArgs false
set_option linter.unusedVariables false
set_option maxRecDepth 4000

set_option maxHeartbeats 8000000 in
theorem played_any (n c : Nat) (A : Option Addr) (L : List OpT) (w : World) (h : Ops w w.heap.size A L) (hn : L.length = n) (hn1 : n ≤ 9223372036854775807) (hu : U64o L) :
    Calls Try.prog 24 #[.slice A n c] w fun e w' => (∃ q A' c', e = .returned (.pointer (some ⟨q, 0, none⟩)) ∧ w.heap.size ≤ q ∧ GTab w' q A' c' (playT L)) ∧ Below w.heap.size w w' := by
  have HA := Lib.hid h
  have HN := Lib.hid hn
  have HU := Lib.hid hu
  have HP : playT L = playN L (min n 40) := by rw [← hn]; rfl
  rw [HP]
  clear h hn hu HP
  have P0 := Lib.hid mint_any
  have P1 := Lib.hid derive_any
  have P2 := Lib.hid revoke_any
  go_enter Try.func24, Try.ntmps24
  go_wp2_with fail
  refine (tnew_any _).mono ?_
  rintro e w1 ⟨rfl, hT, hb⟩
  have HT1 := Lib.hid hT
  have hql := hT.tab.lt
  obtain ⟨X1, rfl⟩ : ∃ Z : Later w.heap.size w, w1 = Z.w := ⟨⟨w1, hb⟩, rfl⟩
  clear hT hb
  go_wp2_with fail
  go_loopw [4] (fun i wr => ∃ (k : Nat), i = .int .i64 k ∧ k ≤ n ∧ k ≤ 40 ∧ Hid (∃ A' c', GTab wr w.heap.size A' c' (playN L k)) ∧ Below w.heap.size w wr) (fun i _ => n - (intOf i).toNat)
  case atStart => exact ⟨0, rfl, by omega, by omega, ⟨none, 0, HT1.out⟩, by repeat' (first | (with_reducible exact Below.refl _ _) | (with_reducible assumption) | (with_reducible refine Later.step ?_ ?_ _) | (with_reducible refine Below.alloc ?_ ?_ _) | (with_reducible refine Below.drew ?_) | (with_reducible refine bel_drewN ?_ _) | (with_reducible refine bel_grown ?_ (by assumption) ?_ ?_) | (with_reducible refine Below.setCell ?_ ?_ _) | go_size)⟩
  case round =>
    obtain ⟨k, rfl, hk, hk40, hG, hbel⟩ := hrel
    obtain ⟨X, rfl⟩ : ∃ X : Later w.heap.size w, wr = X.w := ⟨⟨wr, hbel⟩, rfl⟩
    clear hbel
    by_cases hlt : k < n ∧ k < 40
    · obtain ⟨hlt, hlt4⟩ := hlt
      obtain ⟨b, o, hAe, hB, c0, d1, c2, c3, c4, c5, c6, c7, c8, c9, c10, c11⟩ := ops_at HA.out (i := k) (by rw [HN.out]; exact hlt)
      subst hAe
      have hu := HU.out k (by rw [HN.out]; exact hlt)
      have hst : playN L (k + 1) = stepT (playN L k) (L.getD k op0) := rfl
      obtain ⟨x, hx⟩ : ∃ x, L.getD k op0 = x := ⟨_, rfl⟩
      rw [hx] at c0 d1 c2 c3 c4 c5 c6 c7 c8 c9 c10 c11 hu hst
      obtain ⟨A', c', hG'⟩ := hG.out
      have HG := Lib.hid hG'
      have hqs : w.heap.size < X.w.heap.size := hG'.tab.lt
      obtain ⟨T, hT⟩ : ∃ T, playN L k = T := ⟨_, rfl⟩
      rw [hT] at HG hst
      obtain ⟨T', hT'⟩ : ∃ T', playN L (k + 1) = T' := ⟨_, rfl⟩
      rw [hT'] at hst
      have HST := Lib.hid (⟨hst, hT'⟩ : T' = stepT T x ∧ playN L (k + 1) = T')
      have HU2 := Lib.hid hu
      clear hu hst hT hT' hG' hG hx
      obtain ⟨kd, fr, dr, g, now⟩ := x
      simp only at c0 d1 c2 c3 c4 c5 c6 c7 c8 c9 c10 c11
      by_cases h0 : kd = 0
      · subst h0
        go_wp2_with fail
        (refine wp_region_later_tail 16 (X.w.heap.size) (by kernel_rfl) (by kernel_rfl) (by go_size) ?_; simp only [List.take_succ_cons, List.take_zero, List.drop_succ_cons, List.drop_zero]; (repeat (go_big_quiet_step (fail))); refine wpQuiet_nil ?_; intro Xq hlq hmq)
        go_wp2_with fail
        have hbq : Below X.w.heap.size X.w Xq.w := by repeat' (first | (with_reducible exact Below.refl _ _) | (with_reducible assumption) | (with_reducible refine Later.step ?_ ?_ _) | (with_reducible refine Below.alloc ?_ ?_ _) | (with_reducible refine Below.drew ?_) | (with_reducible refine bel_drewN ?_ _) | (with_reducible refine bel_grown ?_ (by assumption) ?_ ?_) | (with_reducible refine Below.setCell ?_ ?_ _) | go_size)
        refine (P0.out _ _ _ _ _ _ _ _ (HG.out.keep hbq) HU2.out.2).mono ?_
        rintro e w2 ⟨rfl, A9, c9', ht, hto⟩
        have hb2 : Below w.heap.size w w2 := (X.is.trans (hbq.mono (by omega))).trans (hto.elder (HG.out.keep hbq).tab)
        rw [show makeT (leftT T now) 0 dr g = playN L (k + 1) by rw [HST.out.2, HST.out.1]; rfl] at ht
        have HT2 := Lib.hid ht
        obtain ⟨X2, rfl⟩ : ∃ Z : Later w.heap.size w, w2 = Z.w := ⟨⟨w2, hb2⟩, rfl⟩
        clear ht hto hb2 hbq
        go_wp2_with fail
        go_roundw
        case rel => exact ⟨k + 1, by go_num, by omega, by omega, ⟨A9, c9', HT2.out⟩, X2.is⟩
        case measure => simp [intOf]; omega
      · by_cases h1 : kd = 1
        · subst h1
          clear h0
          go_wp2_with fail
          (refine wp_region_later_tail 21 (X.w.heap.size) (by kernel_rfl) (by kernel_rfl) (by go_size) ?_; simp only [List.take_succ_cons, List.take_zero, List.drop_succ_cons, List.drop_zero]; (repeat (go_big_quiet_step (fail))); refine wpQuiet_nil ?_; intro Xq hlq hmq)
          go_wp2_with fail
          have hbq : Below X.w.heap.size X.w Xq.w := by repeat' (first | (with_reducible exact Below.refl _ _) | (with_reducible assumption) | (with_reducible refine Later.step ?_ ?_ _) | (with_reducible refine Below.alloc ?_ ?_ _) | (with_reducible refine Below.drew ?_) | (with_reducible refine bel_drewN ?_ _) | (with_reducible refine bel_grown ?_ (by assumption) ?_ ?_) | (with_reducible refine Below.setCell ?_ ?_ _) | go_size)
          refine (P1.out _ _ _ _ _ _ _ _ _ (HG.out.keep hbq) HU2.out.1 HU2.out.2).mono ?_
          rintro e w2 ⟨rfl, A9, c9', ht, hto⟩
          have hb2 : Below w.heap.size w w2 := (X.is.trans (hbq.mono (by omega))).trans (hto.elder (HG.out.keep hbq).tab)
          rw [show derT (leftT T now) fr dr g = playN L (k + 1) by rw [HST.out.2, HST.out.1]; rfl] at ht
          have HT2 := Lib.hid ht
          obtain ⟨X2, rfl⟩ : ∃ Z : Later w.heap.size w, w2 = Z.w := ⟨⟨w2, hb2⟩, rfl⟩
          clear ht hto hb2 hbq
          go_wp2_with fail
          go_roundw
          case rel => exact ⟨k + 1, by go_num, by omega, by omega, ⟨A9, c9', HT2.out⟩, X2.is⟩
          case measure => simp [intOf]; omega
        · by_cases h2 : kd = 2
          · subst h2
            clear h0 h1
            go_wp2_with fail
            (refine wp_region_later_tail 11 (X.w.heap.size) (by kernel_rfl) (by kernel_rfl) (by go_size) ?_; simp only [List.take_succ_cons, List.take_zero, List.drop_succ_cons, List.drop_zero]; (repeat (go_big_quiet_step (fail))); refine wpQuiet_nil ?_; intro Xq hlq hmq)
            go_wp2_with fail
            have hbq : Below X.w.heap.size X.w Xq.w := by repeat' (first | (with_reducible exact Below.refl _ _) | (with_reducible assumption) | (with_reducible refine Later.step ?_ ?_ _) | (with_reducible refine Below.alloc ?_ ?_ _) | (with_reducible refine Below.drew ?_) | (with_reducible refine bel_drewN ?_ _) | (with_reducible refine bel_grown ?_ (by assumption) ?_ ?_) | (with_reducible refine Below.setCell ?_ ?_ _) | go_size)
            refine (P2.out _ _ _ _ _ _ _ (HG.out.keep hbq) HU2.out.1).mono ?_
            rintro e w2 ⟨rfl, A9, c9', ht, hto⟩
            have hb2 : Below w.heap.size w w2 := (X.is.trans (hbq.mono (by omega))).trans (hto.elder (HG.out.keep hbq).tab)
            rw [show revT (leftT T now) fr = playN L (k + 1) by rw [HST.out.2, HST.out.1]; rfl] at ht
            have HT2 := Lib.hid ht
            obtain ⟨X2, rfl⟩ : ∃ Z : Later w.heap.size w, w2 = Z.w := ⟨⟨w2, hb2⟩, rfl⟩
            clear ht hto hb2 hbq
            go_wp2_with fail
            go_roundw
            case rel => exact ⟨k + 1, by go_num, by omega, by omega, ⟨A9, c9', HT2.out⟩, X2.is⟩
            case measure => simp [intOf]; omega
          · have e0 : (kd == 0) = false := by rw [beq_eq_false_iff_ne]; exact h0
            have e1 : (kd == 1) = false := by rw [beq_eq_false_iff_ne]; exact h1
            have e2 : (kd == 2) = false := by rw [beq_eq_false_iff_ne]; exact h2
            have hTT : T = playN L (k + 1) := by rw [HST.out.2, HST.out.1]; unfold stepT; rw [if_neg h0, if_neg h1, if_neg h2]
            rw [hTT] at HG
            clear h0 h1 h2 hTT
            go_wp2_with fail
            go_roundw
            case rel => exact ⟨k + 1, by go_num, by omega, by omega, ⟨A', c', HG.out.keep (by repeat' (first | (with_reducible exact Below.refl _ _) | (with_reducible assumption) | (with_reducible refine Later.step ?_ ?_ _) | (with_reducible refine Below.alloc ?_ ?_ _) | (with_reducible refine Below.drew ?_) | (with_reducible refine bel_drewN ?_ _) | (with_reducible refine bel_grown ?_ (by assumption) ?_ ?_) | (with_reducible refine Below.setCell ?_ ?_ _) | go_size))⟩, by repeat' (first | (with_reducible exact Below.refl _ _) | (with_reducible assumption) | (with_reducible refine Later.step ?_ ?_ _) | (with_reducible refine Below.alloc ?_ ?_ _) | (with_reducible refine Below.drew ?_) | (with_reducible refine bel_drewN ?_ _) | (with_reducible refine bel_grown ?_ (by assumption) ?_ ?_) | (with_reducible refine Below.setCell ?_ ?_ _) | go_size)⟩
            case measure => simp [intOf]; omega
    · have hm : min n 40 = k := by omega
      have HM := Lib.hid hm
      have hcase : k = n ∨ (k < n ∧ k = 40) := by omega
      rcases hcase with hcase | hcase
      · obtain rfl : k = n := hcase
        clear hm hlt
        go_wp2_with fail
        go_ret
        obtain ⟨A', c', hG'⟩ := hG.out
        rw [HM.out]
        exact ⟨⟨_, A', c', rfl, Nat.le_refl _, hG'.keep (by repeat' (first | (with_reducible exact Below.refl _ _) | (with_reducible assumption) | (with_reducible refine Later.step ?_ ?_ _) | (with_reducible refine Below.alloc ?_ ?_ _) | (with_reducible refine Below.drew ?_) | (with_reducible refine bel_drewN ?_ _) | (with_reducible refine bel_grown ?_ (by assumption) ?_ ?_) | (with_reducible refine Below.setCell ?_ ?_ _) | go_size))⟩, by repeat' (first | (with_reducible exact Below.refl _ _) | (with_reducible assumption) | (with_reducible refine Later.step ?_ ?_ _) | (with_reducible refine Below.alloc ?_ ?_ _) | (with_reducible refine Below.drew ?_) | (with_reducible refine bel_drewN ?_ _) | (with_reducible refine bel_grown ?_ (by assumption) ?_ ?_) | (with_reducible refine Below.setCell ?_ ?_ _) | go_size)⟩
      · obtain ⟨hkn, rfl⟩ := hcase
        clear hm hlt
        go_wp2_with fail
        go_ret
        obtain ⟨A', c', hG'⟩ := hG.out
        rw [HM.out]
        exact ⟨⟨_, A', c', rfl, Nat.le_refl _, hG'.keep (by repeat' (first | (with_reducible exact Below.refl _ _) | (with_reducible assumption) | (with_reducible refine Later.step ?_ ?_ _) | (with_reducible refine Below.alloc ?_ ?_ _) | (with_reducible refine Below.drew ?_) | (with_reducible refine bel_drewN ?_ _) | (with_reducible refine bel_grown ?_ (by assumption) ?_ ?_) | (with_reducible refine Below.setCell ?_ ?_ _) | go_size))⟩, by repeat' (first | (with_reducible exact Below.refl _ _) | (with_reducible assumption) | (with_reducible refine Later.step ?_ ?_ _) | (with_reducible refine Below.alloc ?_ ?_ _) | (with_reducible refine Below.drew ?_) | (with_reducible refine bel_drewN ?_ _) | (with_reducible refine bel_grown ?_ (by assumption) ?_ ?_) | (with_reducible refine Below.setCell ?_ ?_ _) | go_size)⟩
end Go.Proofs.Ytjfgjlklbepnjaa
