/- All bytes behind what an answer has are 0, and one that is not makes it none: the statement walked. No condition beyond what the slices read as. -/
import Derived.Test.YtdjkhcnejbinjaaRepW
import Derived.Deep.CutRange
import Derived.IntWalk
namespace Go.Proofs.Ytdjkhcnejbinjaa
open Go.RowKit
set_option linter.unusedSimpArgs false
set_option linter.unusedVariables false
set_option maxRecDepth 2000

theorem encL_len {op m s k id x y lab b0 b1 b2 b3 : Int} {ns ne : Nat} {f g : Nat → Nat → Int} (h : fitsA op m s k id x y lab b0 b1 b2 b3 ns ne f g) :
    ((encL op s k x y lab b0 b1 b2 b3 ns ne f g).length : Int) = if s = 0 then 3 + onceI op + ((ns : Int) + ne) * eachI op else 3 := by
  unfold encL
  rw [List.length_append, wsL_len]
  by_cases h0 : s = 0
  · have hc := h.2.2
    rw [if_pos h0] at hc
    obtain ⟨i1, i2, i3, i4⟩ := hc.2.1
    rw [if_pos h0, if_pos h0, List.length_append, List.length_append, manyL_len (seenL_len f), manyL_len (evL_len g)]
    have ho := onceL_len op k x y lab b0 b1 b2 b3
    simp only [List.length_cons, List.length_nil]
    push_cast
    rw [ho]
    rcases each_cases op with he | he | he
    · rw [he] at i1 i2 ⊢
      have hz : ne = 0 := by omega
      subst hz
      omega
    · rw [he] at i1 i2 ⊢
      have hz : ns = 0 := by omega
      subst hz
      omega
    · rw [he] at i1 i2 ⊢
      have hz : ns = 0 ∧ ne = 0 := by omega
      obtain ⟨rfl, rfl⟩ := hz
      omega
  · rw [if_neg h0, if_neg h0]
    rfl
theorem padL_zero {l : List Nat} {n j : Nat} (h : l.length ≤ j) : atI (padL l n) j = 0 := by
  unfold atI padL
  simp only [List.getD]
  rw [List.getElem?_append_right h, List.getElem?_replicate]
  split <;> rfl
theorem reads_set {w : World} {B n at_ : Nat} {g : Nat} {L : List Nat} {u : Value} (h : Reads .u8 w B (some ⟨g, 0, none⟩) n (atI L)) (hn : L.length = n) (ha : at_ < n) (hu : w.cell? ⟨g, at_, none⟩ = some u) : Reads .u8 (w.setCell ⟨g, at_, none⟩ (.int .u8 1)) B (some ⟨g, 0, none⟩) n (atI (L.set at_ 1)) := fun hp => by
  obtain ⟨b, o, e, hb, hc⟩ := h hp
  injection e with e
  injection e with e1 e2
  subst e1 e2
  refine ⟨g, 0, rfl, hb, fun j hj => ?_⟩
  have h9 := hc j hj
  rw [Nat.zero_add] at h9 ⊢
  by_cases e : j = at_
  · subst e
    rw [World.cell?_setCell_same _ _ _ hu]
    simp [atI, List.getD, hn, ha]
  · rw [World.cell?_setCell_other _ _ _ _ (by intro h; injection h with _ h2; exact e h2.symm), h9]
    simp only [atI, List.getD]
    rw [List.getElem?_set_ne (Ne.symm e)]
set_option maxHeartbeats 16000000 in
theorem ends_law (op m s k id x y lab b0 b1 b2 b3 at_ : Int) (A1 A2 : Option Addr) (ns ne c1 c2 : Nat) (f g : Nat → Nat → Int) (w : World) (h1 : IsItems w w.heap.size A1 ns 6 f) (h2 : IsItems w w.heap.size A2 ne 4 g) (hn1 : ns ≤ 9223372036854775807) (hn2 : ne ≤ 9223372036854775807)
    (hk0 : 0 ≤ k) (hk1 : k ≤ 18446744073709551615) :
    Calls Try.prog 8 #[.int .i64 op, .int .i64 m, .agg #[.int .i64 s, .int .u64 k, .int .i64 id, .int .i64 x, .int .i64 y, .int .i64 lab, .int .i64 b0, .int .i64 b1, .int .i64 b2, .int .i64 b3, .slice A1 ns c1, .slice A2 ne c2], .int .i64 at_] w fun e w' => e = .returned (.bool true) ∧ Below w.heap.size w w' := by
  by_cases hf : fitsA op m s k id x y lab b0 b1 b2 b3 ns ne f g
  · have p3 := fun (Y : World) (hY : Below w.heap.size w Y) => encode_cap op m s k id x y lab b0 b1 b2 b3 A1 A2 ns ne c1 c2 f g Y ((h1.keep hY).more hY.size) ((h2.keep hY).more hY.size) hn1 hn2 hk0 hk1 hf
    have hlen := encL_fits hf
    have hel := encL_len hf
    have hb := length_bd op m
    have ht := hf.1
    have htt : 1 ≤ op ∧ op ≤ 19 ∧ 0 ≤ m ∧ m ≤ 64 := by simp [thereB] at ht; omega
    have hc := hf.2.2
    have hsum : ns ≤ 64 ∧ ne ≤ 64 := by
      by_cases h0 : s = 0
      · rw [if_pos h0] at hc
        obtain ⟨g1, g2, g3, g4⟩ := hc.2.1
        omega
      · rw [if_neg h0] at hc
        omega
    obtain ⟨n, hn⟩ := Int.eq_ofNat_of_zero_le (show 0 ≤ lengthI op m by omega)
    rw [hn] at p3 hlen hb
    rw [Int.toNat_natCast] at p3
    obtain ⟨el, hE⟩ : ∃ E, (encL op s k x y lab b0 b1 b2 b3 ns ne f g).length = E := ⟨_, rfl⟩
    rw [hE] at hlen hel
    obtain ⟨L, hL⟩ : ∃ L, padL (encL op s k x y lab b0 b1 b2 b3 ns ne f g) n = L := ⟨_, rfl⟩
    have hLn : L.length = n := by rw [← hL]; exact padlen (by omega)
    have hsm : Small L := by rw [← hL]; exact padL_small (encL_small _ _ _ _ _ _ _ _ _ _ _ _ _ _) _
    have hpre : Pre L 0 (encL op s k x y lab b0 b1 b2 b3 ns ne f g) := by rw [← hL]; exact pre_start _ _
    have hzero : ∀ j, el ≤ j → atI L j = 0 := fun j hj => by rw [← hL]; exact padL_zero (by omega)
    rw [hL] at p3
    have PD := Lib.hid (fun (a : Nat) (ha1 : el ≤ a) (ha2 : a < n) (Y : World) (A : Option Addr) (c : Nat) (hr : Reads .u8 Y Y.heap.size A n (atI (L.set a 1))) (hc : n ≤ c) (hc9 : c ≤ 9223372036854775807) =>
      (show Calls Try.prog 18 #[.int .i64 op, .int .i64 m, .slice A n c] Y fun e w' => e = .returned (.tuple #[.agg #[.int .i64 0, .int .u64 0, .int .i64 0, .int .i64 0, .int .i64 0, .int .i64 0, .int .i64 0, .int .i64 0, .int .i64 0, .int .i64 0, .slice none 0 0, .slice none 0 0], .int .i64 33]) ∧ Below Y.heap.size Y w' from by
        have hl9 : (L.set a 1).length = n := by rw [List.length_set]; exact hLn
        have hs9 : Small (L.set a 1) := fun x hx => by
          rcases List.mem_or_eq_of_mem_set hx with h | h
          · exact hsm x h
          · omega
        have h9 := decode_any op m A c (L.set a 1) Y ht (by rw [hl9]; exact hr) hs9 (by rw [hl9, hn]) (by rw [hl9]; exact hc) hc9
        rw [hl9] at h9
        refine h9.mono fun e w' hd => dec_no hf hk0 hk1 (hpre.set (by omega)) ?_ hd
        rw [hl9, hL]
        intro e9
        have h8 := hzero a ha1
        rw [e9] at h8
        simp [atI, List.getD, hLn, ha2] at h8))
    have P3 := Lib.hid p3
    have HZ := Lib.hid hzero
    have PK := Lib.hid pknown_any
    have HLN := Lib.hid hLn
    have hel3 : (3 : Int) ≤ el := by
      rw [hel]
      have h8 := once_bd op
      have h9 := each_cases op
      split
      · rcases h9 with e | e | e <;> (rw [e]; omega)
      · omega
    have PO := Lib.hid (ronce_any op htt.1 htt.2.1)
    have PE := Lib.hid (reach20_any op htt.1 htt.2.1)
    have hbo := once_bd op
    have hbe : 0 ≤ eachI op ∧ eachI op ≤ 11 := by rcases each_cases op with e | e | e <;> (rw [e]; omega)
    obtain ⟨i0, hi, hz0, hz1, hz2⟩ := info_parts Try.info5
    clear p3 hL hLn hsm hf hn h1 h2 hpre hzero hc ht hE
    generalize onceI op = o at *
    generalize eachI op = E at *
    have HEL := Lib.hid hel
    clear hel
    go_enter Try.func8, Try.ntmps8
    go_wp2_with fail
    refine (P3.out _ (by repeat' (first | (with_reducible exact Below.refl _ _) | (with_reducible assumption) | (with_reducible refine Later.step ?_ ?_ _) | (with_reducible refine Below.alloc ?_ ?_ _) | (with_reducible refine Below.drew ?_) | (with_reducible refine bel_drewN ?_ _) | (with_reducible refine bel_grown ?_ (by assumption) ?_ ?_) | (with_reducible refine Below.setCell ?_ ?_ _) | go_size))).mono ?_
    rintro e w1 ⟨A, c, rfl, hR, hb1, hc1, hc2⟩
    have hs1 := hb1.size
    simp only [World.size_alloc] at hs1
    have hB1 : Below (w.heap.size + 1) (w.alloc (Obj.cells #[.int .i64 s, .int .u64 k, .int .i64 id, .int .i64 x, .int .i64 y, .int .i64 lab, .int .i64 b0, .int .i64 b1, .int .i64 b2, .int .i64 b3, .slice A1 ns c1, .slice A2 ne c2] 38)) w1 := hb1.mono (by go_size)
    have HR1 := Lib.hid hR
    obtain ⟨X1, rfl⟩ : ∃ Z : Later (w.heap.size + 1) (w.alloc (Obj.cells #[.int .i64 s, .int .u64 k, .int .i64 id, .int .i64 x, .int .i64 y, .int .i64 lab, .int .i64 b0, .int .i64 b1, .int .i64 b2, .int .i64 b3, .slice A1 ns c1, .slice A2 ne c2] 38)), w1 = Z.w := ⟨⟨w1, hB1⟩, rfl⟩
    clear hb1 hB1 hR
    go_upto_if 29 with fail
    go_cut [11] from 30 to 43 (fun v wx => v = .int .i64 el ∧ Below X1.w.heap.size X1.w wx)
    case first =>
      have h9 := HEL.out
      by_cases hs0 : s = 0
      · rw [if_pos hs0] at h9
        have hmul : 0 ≤ ((ns : Int) + ne) * E ∧ ((ns : Int) + ne) * E ≤ 1408 := ⟨Int.mul_nonneg (by omega) hbe.1, by
          have := Int.mul_le_mul (show (ns : Int) + ne ≤ 128 by omega) hbe.2 hbe.1 (by omega)
          omega⟩
        have w1 : IntKind.i64.wrap (3 + o) = 3 + o := IntWalk.i64_in _ (by omega)
        have w2 : IntKind.i64.wrap ((ns : Int) + ne) = (ns : Int) + ne := IntWalk.i64_in _ (by omega)
        have w3 : IntKind.i64.wrap (((ns : Int) + ne) * E) = ((ns : Int) + ne) * E := IntWalk.i64_in _ (by omega)
        have w4 : IntKind.i64.wrap (3 + o + ((ns : Int) + ne) * E) = (el : Int) := by rw [h9]; exact IntWalk.i64_in _ (by omega)
        clear h9
        go_wp2_with fail
        (refine wp_region_later (X1.w.heap.size) (by kernel_rfl) (by kernel_rfl) (by go_size) ?_; (repeat (go_big_quiet_step ((first | (go_at_call 20; exact Later.call _ (Nat.le_trans (by go_size) (Later.is _).size) (PO.out _)) | (go_at_call 21; exact Later.call _ (Nat.le_trans (by go_size) (Later.is _).size) (PE.out _)))))); refine wpQuiet_nil ?_; intro Xq hlq hmq)
        go_wp2
        go_meet
        exact ⟨rfl, by repeat' (first | (with_reducible exact Below.refl _ _) | (with_reducible assumption) | (with_reducible refine Later.step ?_ ?_ _) | (with_reducible refine Below.alloc ?_ ?_ _) | (with_reducible refine Below.drew ?_) | (with_reducible refine bel_drewN ?_ _) | (with_reducible refine bel_grown ?_ (by assumption) ?_ ?_) | (with_reducible refine Below.setCell ?_ ?_ _) | go_size)⟩
      · rw [if_neg hs0] at h9
        go_wp2
        go_meet
        exact ⟨by rw [h9], by repeat' (first | (with_reducible exact Below.refl _ _) | (with_reducible assumption) | (with_reducible refine Later.step ?_ ?_ _) | (with_reducible refine Below.alloc ?_ ?_ _) | (with_reducible refine Below.drew ?_) | (with_reducible refine bel_drewN ?_ _) | (with_reducible refine bel_grown ?_ (by assumption) ?_ ?_) | (with_reducible refine Below.setCell ?_ ?_ _) | go_size)⟩
    case rest =>
      obtain ⟨rfl, hb⟩ := hcut
      have hsz := hb.size
      have HRZ := Lib.hid ((HR1.out.keep hb).more hb.size)
      obtain ⟨Z, rfl⟩ : ∃ Z : Later X1.w.heap.size X1.w, wc = Z.w := ⟨⟨wc, hb⟩, rfl⟩
      clear hb HR1
      go_wp2
      go_loopw [12] (fun i wr => ∃ j : Nat, el ≤ j ∧ j ≤ n ∧ i = .int .i64 j ∧ Below Z.w.heap.size Z.w wr) (fun i _ => n - (intOf i).toNat)
      case atStart => exact ⟨el, Nat.le_refl _, by omega, rfl, Below.refl _ _⟩
      case round =>
        obtain ⟨j, hj1, hj2, rfl, hb⟩ := hrel
        have hsz2 := hb.size
        have HRY := Lib.hid ((HRZ.out.keep hb).more hb.size)
        obtain ⟨Y, rfl⟩ : ∃ Y : Later Z.w.heap.size Z.w, wr = Y.w := ⟨⟨wr, hb⟩, rfl⟩
        clear hb
        by_cases hlt : j < n
        · obtain ⟨b, ob, rfl, hbl, hcl⟩ := HRY.out (by omega)
          have d0 := hcl j hlt
          rw [HZ.out j hj1] at d0
          clear hcl
          go_wp2
          go_roundw
          case rel => exact ⟨j + 1, by omega, by omega, by go_num, by repeat' (first | (with_reducible exact Below.refl _ _) | (with_reducible assumption) | (with_reducible refine Later.step ?_ ?_ _) | (with_reducible refine Below.alloc ?_ ?_ _) | (with_reducible refine Below.drew ?_) | (with_reducible refine bel_drewN ?_ _) | (with_reducible refine bel_grown ?_ (by assumption) ?_ ?_) | (with_reducible refine Below.setCell ?_ ?_ _) | go_size)⟩
          case measure => simp [intOf]; omega
        · obtain rfl : n = j := by omega
          have hcat : at_ < (el : Int) ∨ (¬ at_ < (el : Int) ∧ (n : Int) ≤ at_) ∨ ∃ a : Nat, at_ = a ∧ el ≤ a ∧ a < n := by
            by_cases g1 : at_ < (el : Int)
            · exact .inl g1
            · by_cases g2 : (n : Int) ≤ at_
              · exact .inr (.inl ⟨g1, g2⟩)
              · exact .inr (.inr ⟨at_.toNat, by omega, by omega, by omega⟩)
          rcases hcat with g1 | ⟨g1, g2⟩ | ⟨a, rfl, ha1, ha2⟩
          · go_wp2_with (first
              | (go_at_call 13; refine (PK.out _).mono ?_; rintro e w' ⟨rfl, hb⟩; obtain ⟨X4, rfl, hl4, hm4⟩ := later (Y.w.heap.size) hb (by first | exact Nat.le_refl _ | go_size); clear hb; (try simp only [World.size_alloc, World.size_setCell, World.size_drew] at hm4)))
            go_ret
            exact ⟨rfl, by repeat' (first | (with_reducible exact Below.refl _ _) | (with_reducible assumption) | (with_reducible refine Later.step ?_ ?_ _) | (with_reducible refine Below.alloc ?_ ?_ _) | (with_reducible refine Below.drew ?_) | (with_reducible refine bel_drewN ?_ _) | (with_reducible refine bel_grown ?_ (by assumption) ?_ ?_) | (with_reducible refine Below.setCell ?_ ?_ _) | go_size)⟩
          · go_wp2_with (first
              | (go_at_call 13; refine (PK.out _).mono ?_; rintro e w' ⟨rfl, hb⟩; obtain ⟨X4, rfl, hl4, hm4⟩ := later (Y.w.heap.size) hb (by first | exact Nat.le_refl _ | go_size); clear hb; (try simp only [World.size_alloc, World.size_setCell, World.size_drew] at hm4)))
            go_ret
            exact ⟨rfl, by repeat' (first | (with_reducible exact Below.refl _ _) | (with_reducible assumption) | (with_reducible refine Later.step ?_ ?_ _) | (with_reducible refine Below.alloc ?_ ?_ _) | (with_reducible refine Below.drew ?_) | (with_reducible refine bel_drewN ?_ _) | (with_reducible refine bel_grown ?_ (by assumption) ?_ ?_) | (with_reducible refine Below.setCell ?_ ?_ _) | go_size)⟩
          · have PDa := Lib.hid (PD.out a ha1 ha2)
            have hd1 : decide (a < el) = false := by simpa using ha1
            have hd2 : decide (n ≤ a) = false := by simpa using ha2
            go_wp2
            go_loopw [13, 14] (fun v i wr => ∃ (j : Nat) (A' : Option Addr) (c' : Nat), j ≤ n ∧ v = .slice A' j c' ∧ i = .int .i64 j ∧ Hid (wr.ownsRow Y.w.heap.size 5 1 (.slice A' j c') j (rowV .u8 j (atI L))) ∧ Below Y.w.heap.size Y.w wr) (fun _ i _ => n - (intOf i).toNat)
            case atStart => exact ⟨0, none, 0, by omega, rfl, rfl, World.ownsRow_nil _ _ _ _, Below.refl _ _⟩
            case round =>
              obtain ⟨j, A', c', hj, rfl, rfl, hown, hb⟩ := hrel
              have hsz3 := hb.size
              have HRV := Lib.hid ((HRY.out.keep hb).more hb.size)
              have HRY2 := Lib.hid (HRY.out)
              obtain ⟨V, rfl⟩ : ∃ V : Later Y.w.heap.size Y.w, wr = V.w := ⟨⟨wr, hb⟩, rfl⟩
              clear hb
              by_cases hlt2 : j < n
              · obtain ⟨b, ob, rfl, hbl, hcl⟩ := HRV.out (by omega)
                have d0 := hcl j hlt2
                have hjv := atI_nonneg L j
                clear hcl
                go_wp2_with (at_builtin; refine wpList_append_own_at _ rfl _ _ 24 rfl Y.w.heap.size 5 i0 (.int .u8 0) 1 1 Try.underlying24 hi hz0 hz1 hz2 rfl (by decide) _ _ _ rfl (hown.out.alloc _) ⟨V.w.heap.size, 0, none⟩ 1 1 [_] rfl rfl (cell_one_new _ _ _) (fun x hx => by simp at hx; subst hx; rfl) (by unfold maxLen; omega) (by omega) (by go_size) ?_)
                intro v' w3 hown3 hgrow3 _ hat
                obtain ⟨A3, c3, rfl⟩ := own_form hown3
                have hlt1 := hown.out.lt
                have hb3 : Below Y.w.heap.size Y.w w3 := (V.is.alloc (by omega) _).grown hgrow3 (by go_size) (fun k hk => (hlt1 k hk).1)
                have hs3 := hb3.size
                have HO3 := Lib.hid hown3
                obtain ⟨V3, rfl⟩ : ∃ V : Later Y.w.heap.size Y.w, w3 = V.w := ⟨⟨w3, hb3⟩, rfl⟩
                clear hb3 hown3 hgrow3 hat hlt1
                go_wp2
                go_roundw
                case rel =>
                  have h9 := HO3.out
                  rw [← rowV_succ] at h9
                  first
                    | exact ⟨j + 1, A3, c3, by omega, rfl, by go_num, h9, by repeat' (first | (with_reducible exact Below.refl _ _) | (with_reducible assumption) | (with_reducible refine Later.step ?_ ?_ _) | (with_reducible refine Below.alloc ?_ ?_ _) | (with_reducible refine Below.drew ?_) | (with_reducible refine bel_drewN ?_ _) | (with_reducible refine bel_grown ?_ (by assumption) ?_ ?_) | (with_reducible refine Below.setCell ?_ ?_ _) | go_size)⟩
                    | ((repeat apply Exists.intro); exact ⟨⟨j + 1, A3, c3, by omega, rfl, by go_num, h9, by repeat' (first | (with_reducible exact Below.refl _ _) | (with_reducible assumption) | (with_reducible refine Later.step ?_ ?_ _) | (with_reducible refine Below.alloc ?_ ?_ _) | (with_reducible refine Below.drew ?_) | (with_reducible refine bel_drewN ?_ _) | (with_reducible refine bel_grown ?_ (by assumption) ?_ ?_) | (with_reducible refine Below.setCell ?_ ?_ _) | go_size)⟩, rfl⟩)
                case measure => simp [intOf]; omega
              · obtain rfl : n = j := by omega
                have hcap := own_cap hown.out
                obtain ⟨gg, cap, hv, hgb, hgl⟩ := hown.out.form (by omega)
                injection hv with hA _ hcp
                subst hA hcp
                have hcl : V.w.cell? ⟨gg, a, none⟩ = some (.int .u8 (atI L a)) := hown.out.cellAt a (by omega) |>.trans (rowV_get ha2)
                have hfr : V.w.frozen? ⟨gg, a, none⟩ = false := by
                  exact hown.out.frozenAt a
                have hrd := Reads.own hown.out
                have hrs := Lib.hid (reads_set hrd HLN.out ha2 hcl)
                clear hrd
                go_wp2_with fail
                refine (PDa.out _ _ _ (by rw [World.size_setCell]; exact hrs.out) hcap.1 hcap.2).mono ?_
                rintro e w9 ⟨rfl, hb9⟩
                have hs9 := hb9.size
                rw [World.size_setCell] at hs9
                have hb8 : Below Y.w.heap.size Y.w w9 := Below.trans (b := V.w.setCell ⟨gg, a, none⟩ (.int .u8 1)) (Below.setCell V.is (by simp; omega) _) (hb9.mono (by rw [World.size_setCell]; omega))
                obtain ⟨V9, rfl⟩ : ∃ V : Later Y.w.heap.size Y.w, w9 = V.w := ⟨⟨w9, hb8⟩, rfl⟩
                clear hb9 hb8
                go_wp2_with (first
                  | (go_at_call 13; refine (PK.out _).mono ?_; rintro e w' ⟨rfl, hb⟩; obtain ⟨X4, rfl, hl4, hm4⟩ := later (V9.w.heap.size + 1) hb (by first | exact Nat.le_refl _ | go_size); clear hb; (try simp only [World.size_alloc, World.size_setCell, World.size_drew] at hm4)))
                go_ret
                exact ⟨rfl, by repeat' (first | (with_reducible exact Below.refl _ _) | (with_reducible assumption) | (with_reducible refine Later.step ?_ ?_ _) | (with_reducible refine Below.alloc ?_ ?_ _) | (with_reducible refine Below.drew ?_) | (with_reducible refine bel_drewN ?_ _) | (with_reducible refine bel_grown ?_ (by assumption) ?_ ?_) | (with_reducible refine Below.setCell ?_ ?_ _) | go_size)⟩
  · have P1 := Lib.hid (show ∀ (Y : World) (hY : Below w.heap.size w Y), ∃ z : Int, z ≠ 0 ∧ Calls Try.prog 14 #[.int .i64 op, .int .i64 m, .agg #[.int .i64 s, .int .u64 k, .int .i64 id, .int .i64 x, .int .i64 y, .int .i64 lab, .int .i64 b0, .int .i64 b1, .int .i64 b2, .int .i64 b3, .slice A1 ns c1, .slice A2 ne c2]] Y fun e w' => e = .returned (.tuple #[.slice none 0 0, .int .i64 z]) ∧ Below Y.heap.size Y w' from fun Y hY => by
      by_cases ho : 1 ≤ op ∧ op ≤ 19
      · exact ⟨1, by decide, encode_none op m s k id x y lab b0 b1 b2 b3 A1 A2 ns ne c1 c2 f g Y ((h1.keep hY).more hY.size) ((h2.keep hY).more hY.size) hn1 hn2 ho hf⟩
      · exact ⟨51, by decide, encode_op op m s k id x y lab b0 b1 b2 b3 _ _ Y ho⟩)
    clear hf h1 h2
    go_enter Try.func8, Try.ntmps8
    go_wp2_with fail
    obtain ⟨z, hz, hcall⟩ := P1.out (w.alloc (Obj.cells #[.int .i64 s, .int .u64 k, .int .i64 id, .int .i64 x, .int .i64 y, .int .i64 lab, .int .i64 b0, .int .i64 b1, .int .i64 b2, .int .i64 b3, .slice A1 ns c1, .slice A2 ne c2] 38)) (by repeat' (first | (with_reducible exact Below.refl _ _) | (with_reducible assumption) | (with_reducible refine Later.step ?_ ?_ _) | (with_reducible refine Below.alloc ?_ ?_ _) | (with_reducible refine Below.drew ?_) | (with_reducible refine bel_drewN ?_ _) | (with_reducible refine bel_grown ?_ (by assumption) ?_ ?_) | (with_reducible refine Below.setCell ?_ ?_ _) | go_size))
    refine hcall.mono ?_
    rintro e w' ⟨rfl, hb⟩; obtain ⟨X1, rfl, hl1, hm1⟩ := later (w.heap.size + 1) hb (by first | exact Nat.le_refl _ | go_size); clear hb; (try simp only [World.size_alloc, World.size_setCell, World.size_drew] at hm1)
    clear hcall
    go_wp2_with (first
      | (go_at_call 13; refine (pknown_any _).mono ?_; rintro e w' ⟨rfl, hb⟩; obtain ⟨X2, rfl, hl2, hm2⟩ := later (X1.w.heap.size) hb (by first | exact Nat.le_refl _ | go_size); clear hb; (try simp only [World.size_alloc, World.size_setCell, World.size_drew] at hm2)))
    go_ret
    exact ⟨rfl, by repeat' (first | (with_reducible exact Below.refl _ _) | (with_reducible assumption) | (with_reducible refine Later.step ?_ ?_ _) | (with_reducible refine Below.alloc ?_ ?_ _) | (with_reducible refine Below.drew ?_) | (with_reducible refine bel_drewN ?_ _) | (with_reducible refine bel_grown ?_ (by assumption) ?_ ?_) | (with_reducible refine Below.setCell ?_ ?_ _) | go_size)⟩
end Go.Proofs.Ytdjkhcnejbinjaa
