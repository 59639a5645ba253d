/- Bytes put together by the document, walked. No condition beyond what the memory holds. -/
import Derived.Test.YtdjkhcnejbinjaaRepL2
namespace Go.Proofs.Ytdjkhcnejbinjaa
open Go.RowKit
set_option linter.unusedSimpArgs false
set_option linter.unusedVariables false
set_option maxRecDepth 2000

/-- A row of bytes of the call's own, told by a list. -/
def OwnB (w : World) (base : Nat) (v : Value) (l : List Nat) : Prop := ∃ A c, v = .slice A l.length c ∧ w.ownsRow base 5 1 (.slice A l.length c) l.length (rowV .u8 l.length (atI l))
theorem OwnB.keep {w w' : World} {base : Nat} {v : Value} {l : List Nat} (h : OwnB w base v l) (hb : Below w.heap.size w w') : OwnB w' base v l := by
  obtain ⟨A, c, rfl, own⟩ := h
  exact ⟨A, c, rfl, own_keep own hb⟩
/-- All blocks but rows of bytes are as they were. -/
def KeptB (w w' : World) : Prop := ∀ q, KeptW w w' q
theorem KeptB.trans {a b c : World} (h : KeptB a b) (h' : KeptB b c) : KeptB a c := fun q => (h q).trans (h' q)
theorem keptB_below {w w' : World} (h : Below w.heap.size w w') : KeptB w w' := fun q => keptW_below q h
theorem rowB_snoc {L : List Nat} {m : Nat} {x : Int} (h : L.length = m) (hx : 0 ≤ x) : rowV .u8 m (atI L) ++ [.int .u8 x] = rowV .u8 (m + 1) (atI (L ++ [x.toNat])) := by
  subst h
  rw [rowV_succ]
  congr 1
  · refine rowV_congr fun j hj => ?_
    simp [atI, List.getD, List.getElem?_append_left hj]
  · simp [atI, List.getD]
    omega
theorem wL_take {n : Int} {wide k : Nat} (h : k < wide) : (wL n wide).take (k + 1) = (wL n wide).take k ++ [(putI n wide k).toNat] :=
  takesW_one (by simp [wL, h])
theorem rput_fit (n : Int) (wide : Nat) (w : World) (h : fitsW n wide) (w1 : 1 ≤ wide) (w8 : wide ≤ 8) :
    Calls Try.prog 47 #[.int .u64 n, .int .i64 wide] w (RowPost .u8 5 w wide (putI n wide) (.bool (decide (n / (256 : Int) ^ (wide - 1) < 256)))) :=
  rput_any wide n w h.1 (by have := h.2; have := pow256_le w8; omega) w1 w8
set_option maxHeartbeats 4000000 in
theorem bput_any (base wide : Nat) (l : List Nat) (A : Option Addr) (c : Nat) (n : Int) (w : World) (own : w.ownsRow base 5 1 (.slice A l.length c) l.length (rowV .u8 l.length (atI l))) (hb : base ≤ w.heap.size) (hf : fitsW n wide) (w1 : 1 ≤ wide) (w8 : wide ≤ 8) (hl : l.length ≤ 100000) :
    Calls Try.prog 36 #[.slice A l.length c, .int .u64 n, .int .i64 wide] w fun e w' => (∃ A' c', e = .returned (.slice A' (l.length + wide) c') ∧ w'.ownsRow base 5 1 (.slice A' (l.length + wide) c') (l.length + wide) (rowV .u8 (l.length + wide) (atI (l ++ wL n wide)))) ∧ Below base w w' ∧ KeptB w w' := by
  obtain ⟨i0, hi, hz0, hz1, hz2⟩ := info_parts Try.info5
  have HO := Lib.hid own
  have P1 := Lib.hid (rput_fit n wide w hf w1 w8)
  generalize decide (n / (256 : Int) ^ (wide - 1) < 256) = ok at P1
  clear own hf
  go_enter Try.func36, Try.ntmps36
  go_wp2_with fail
  refine P1.out.mono ?_
  intro e w2 hrp
  unfold RowPost at hrp
  obtain ⟨A2, c2, rfl, own2, hb2⟩ := hrp
  have hs2 := hb2.size
  have HR2 := Lib.hid (Reads.own own2)
  have HO2 := Lib.hid (own_keep HO.out hb2)
  have hcap2 := own_cap own2
  have HN2 := Lib.hid (fun b o (e : A2 = some ⟨b, o, none⟩) => (own2.lt b (by rw [e]; rfl)).1)
  have HK2 := Lib.hid (keptB_below hb2)
  obtain ⟨Y, rfl⟩ : ∃ Z : Later w.heap.size w, w2 = Z.w := ⟨⟨w2, hb2⟩, rfl⟩
  clear own2 hb2
  have hA2 : ∀ b o, A2 = some ⟨b, o, none⟩ → (Value.slice A l.length c).ownBlock ≠ some b := fun b o e h => by
    have h9 := (HO.out.lt b h).2
    have h8 := HN2.out b o e
    omega
  go_wp2
  go_loopw [0, 9] (fun v i wr => ∃ (k : Nat) (A' : Option Addr) (c' : Nat), v = .slice A' (l.length + k : Nat) c' ∧ i = .int .i64 k ∧ (k ≤ wide ∧ Hid (wr.ownsRow base 5 1 (.slice A' (l.length + k) c') (l.length + k) (rowV .u8 (l.length + k) (atI (l ++ (wL n wide).take k)))) ∧ Hid (Reads .u8 wr wr.heap.size A2 wide (putI n wide)) ∧ Hid (∀ b o, A2 = some ⟨b, o, none⟩ → (Value.slice A' (l.length + k) c').ownBlock ≠ some b) ∧ Hid (KeptB w wr)) ∧ Below base w wr ∧ Y.w.heap.size ≤ wr.heap.size) (fun _ i _ => wide - (intOf i).toNat)
  case atStart => exact ⟨0, A, c, rfl, rfl, ⟨Nat.zero_le _, by simpa [Hid] using HO2.out, HR2.out, hA2, HK2.out⟩, by repeat' (first | (with_reducible exact Below.refl _ _) | (with_reducible assumption) | (with_reducible refine Later.step ?_ ?_ _) | (with_reducible refine Below.alloc ?_ ?_ _) | (with_reducible refine Below.drew ?_) | (with_reducible refine bel_drewN ?_ _) | (with_reducible refine bel_grown ?_ (by assumption) ?_ ?_) | (with_reducible refine Below.setCell ?_ ?_ _) | go_size), Nat.le_refl _⟩
  case round =>
    obtain ⟨k, A', c', rfl, rfl, ⟨hk, hown, hrd, hne, hkp⟩, hbel, hsz⟩ := hrel
    obtain ⟨X, rfl⟩ : ∃ Z : Later base w, wr = Z.w := ⟨⟨wr, hbel⟩, rfl⟩
    clear hbel
    by_cases hlt : k < wide
    · obtain ⟨b2, o2, rfl, hb2, hc2⟩ := hrd.out (by omega)
      have kc := hc2 k hlt
      have hp0 := (putI_bd n wide k).1
      have hwl := Lib.hid (wL_take (n := n) hlt)
      clear hc2
      go_wp2_with (at_builtin; refine wpList_append_own_at _ rfl _ _ 24 rfl base 5 i0 (.int .u8 0) 1 1 Try.underlying24 hi hz0 hz1 hz2 rfl (by decide) _ _ _ rfl (hown.out.alloc _) ⟨X.w.heap.size, 0, none⟩ 1 1 [_] rfl rfl (cell_one_new _ _ _) (fun x hx => by simp at hx; subst hx; rfl) (by unfold maxLen; omega) (by omega) (by go_size) ?_)
      intro v' w3 hown3 hgrow3 _ hat
      obtain ⟨A3, c3, rfl⟩ := own_form hown3
      have hlt1 := hown.out.lt
      have hb3 : Below base X.w w3 := ((Below.refl _ _).alloc (by omega) _).grown hgrow3 (by go_size) (fun k hk => (hlt1 k hk).1)
      have hs3 := hb3.size
      have hn2 : (Value.slice A' (l.length + k) c').ownBlock ≠ some b2 := hne.out b2 o2 rfl
      have hkeep : ∀ j, j < wide → w3.cell? ⟨b2, o2 + j, none⟩ = some (.int .u8 (putI n wide j)) := fun j hj => by
        obtain ⟨b9, o9, e9, _, h9⟩ := hrd.out (by omega)
        injection e9 with e9
        injection e9 with e1 e2
        subst e1 e2
        have h8 := h9 j hj
        refine hgrow3.cell (a := ⟨b2, o2 + j, none⟩) ?_ (fun e => hn2 e.symm)
        rw [← h8]
        exact World.cell?_of_block (heap_alloc_old _ _ hb2)
      have hread : Reads .u8 w3 w3.heap.size (some ⟨b2, o2, none⟩) wide (putI n wide) := fun _ => ⟨b2, o2, rfl, by omega, hkeep⟩
      have hne3 : ∀ b o, some (⟨b2, o2, none⟩ : Addr) = some ⟨b, o, none⟩ → (Value.slice A3 (l.length + k + 1) c3).ownBlock ≠ some b := fun b o e h => by
        injection e with e
        injection e with e
        subst e
        rcases hat with hat | hat
        · exact hn2 (hat ▸ h)
        · rw [h] at hat
          injection hat with hat
          omega
      have hkp3 : KeptB w w3 := fun q => ((hkp.out q).trans (keptW_below q ((Below.refl _ _).alloc (Nat.le_refl _) _))).trans (keptW_grown hgrow3 (hown.out.alloc _))
      have HK3 := Lib.hid hkp3
      have HN3 := Lib.hid hne3
      have HR3 := Lib.hid hread
      have HO3 := Lib.hid hown3
      obtain ⟨Z, rfl⟩ : ∃ Z : Later base X.w, w3 = Z.w := ⟨⟨w3, hb3⟩, rfl⟩
      clear hown3 hgrow3 hat hb3 hkeep hread hne3 hkp3
      go_wp2
      go_roundw
      case rel =>
        have hO := HO3.out
        rw [rowB_snoc (by rw [List.length_append, List.length_take, wL_len]; omega) hp0, List.append_assoc, ← hwl.out] at hO
        exact ⟨k + 1, A3, c3, rfl, by go_num, ⟨by omega, hO, HR3.out, HN3.out, HK3.out⟩, by repeat' (first | (with_reducible exact Below.refl _ _) | (with_reducible assumption) | (with_reducible refine Later.step ?_ ?_ _) | (with_reducible refine Below.alloc ?_ ?_ _) | (with_reducible refine Below.drew ?_) | (with_reducible refine bel_drewN ?_ _) | (with_reducible refine bel_grown ?_ (by assumption) ?_ ?_) | (with_reducible refine Below.setCell ?_ ?_ _) | go_size), by omega⟩
      case measure => simp [intOf]; omega
    · obtain rfl : k = wide := by omega
      go_wp2
      go_ret
      have hO := hown.out
      rw [List.take_of_length_le (by rw [wL_len]; exact Nat.le_refl _)] at hO
      exact ⟨⟨A', c', rfl, hO⟩, by repeat' (first | (with_reducible exact Below.refl _ _) | (with_reducible assumption) | (with_reducible refine Later.step ?_ ?_ _) | (with_reducible refine Below.alloc ?_ ?_ _) | (with_reducible refine Below.drew ?_) | (with_reducible refine bel_drewN ?_ _) | (with_reducible refine bel_grown ?_ (by assumption) ?_ ?_) | (with_reducible refine Below.setCell ?_ ?_ _) | go_size), hkp.out⟩
theorem intsB {w w' : World} {b : Nat} {ns : List Int} (h : IntsAt w b ns) (hk : KeptB w w') : IntsAt w' b ns := h.kept (hk (b + 1)) (by omega)
set_option maxHeartbeats 4000000 in
theorem brect_any (base : Nat) (l : List Nat) (A : Option Addr) (cc : Nat) (a b c d : Int) (w : World) (own : w.ownsRow base 5 1 (.slice A l.length cc) l.length (rowV .u8 l.length (atI l))) (hb : base ≤ w.heap.size) (hr : rightB a b c d = true) (hl : l.length ≤ 10000) :
    Calls Try.prog 37 #[.slice A l.length cc, .agg #[.int .i64 a, .int .i64 b, .int .i64 c, .int .i64 d]] w fun e w' => (∃ A' c', e = .returned (.slice A' (l.length + 8) c') ∧ w'.ownsRow base 5 1 (.slice A' (l.length + 8) c') (l.length + 8) (rowV .u8 (l.length + 8) (atI (l ++ wsL [a, b, c, d] 2)))) ∧ Below base w w' ∧ KeptB w w' := by
  rw [right_iff] at hr
  have hfit : ∀ n ∈ [a, b, c, d], fitsW n 2 := fun n hn => by simp at hn; rcases hn with rfl | rfl | rfl | rfl <;> (unfold fitsW; omega)
  have HO := Lib.hid ((own.alloc (Obj.cells #[.int .i64 a, .int .i64 b, .int .i64 c, .int .i64 d] 34)).alloc (Obj.cells #[.int .i64 a, .int .i64 b, .int .i64 c, .int .i64 d] 3))
  have HI := Lib.hid (ints_new (w := w.alloc (Obj.cells #[.int .i64 a, .int .i64 b, .int .i64 c, .int .i64 d] 34)) (ns := [a, b, c, d]) (b := w.heap.size + 1) (by go_size) rfl)
  have HK0 := Lib.hid (keptB_below (w := w) (w' := (w.alloc (Obj.cells #[.int .i64 a, .int .i64 b, .int .i64 c, .int .i64 d] 34)).alloc (Obj.cells #[.int .i64 a, .int .i64 b, .int .i64 c, .int .i64 d] 3)) (by repeat' (first | (with_reducible exact Below.refl _ _) | (with_reducible assumption) | (with_reducible refine Later.step ?_ ?_ _) | (with_reducible refine Below.alloc ?_ ?_ _) | (with_reducible refine Below.drew ?_) | (with_reducible refine bel_drewN ?_ _) | (with_reducible refine bel_grown ?_ (by assumption) ?_ ?_) | (with_reducible refine Below.setCell ?_ ?_ _) | go_size)))
  have HF := Lib.hid hfit
  clear own hr hfit
  go_enter Try.func37, Try.ntmps37
  go_wp2
  go_loopw [0, 6] (fun v i wr => ∃ (k : Nat) (A' : Option Addr) (c' : Nat), v = .slice A' (l.length + 2 * k : Nat) c' ∧ i = .int .i64 k ∧ (k ≤ 4 ∧ Hid (wr.ownsRow base 5 1 (.slice A' (l.length + 2 * k) c') (l.length + 2 * k) (rowV .u8 (l.length + 2 * k) (atI (l ++ wsL ([a, b, c, d].take k) 2)))) ∧ Hid (KeptB ((w.alloc (Obj.cells #[.int .i64 a, .int .i64 b, .int .i64 c, .int .i64 d] 34)).alloc (Obj.cells #[.int .i64 a, .int .i64 b, .int .i64 c, .int .i64 d] 3)) wr)) ∧ Below base w wr) (fun _ i _ => 4 - (intOf i).toNat)
  case atStart => exact ⟨0, A, cc, rfl, rfl, ⟨by decide, by simpa [Hid, wsL] using HO.out, fun q => ⟨Nat.le_refl _, fun _ _ _ _ => rfl⟩⟩, by repeat' (first | (with_reducible exact Below.refl _ _) | (with_reducible assumption) | (with_reducible refine Later.step ?_ ?_ _) | (with_reducible refine Below.alloc ?_ ?_ _) | (with_reducible refine Below.drew ?_) | (with_reducible refine bel_drewN ?_ _) | (with_reducible refine bel_grown ?_ (by assumption) ?_ ?_) | (with_reducible refine Below.setCell ?_ ?_ _) | go_size)⟩
  case round =>
    obtain ⟨k, A', c', rfl, rfl, ⟨hk, hown, hkp⟩, hbel⟩ := hrel
    have hsz := (hkp.out 0).1
    simp only [World.size_alloc] at hsz
    obtain ⟨X, rfl⟩ : ∃ Z : Later base w, wr = Z.w := ⟨⟨wr, hbel⟩, rfl⟩
    clear hbel
    by_cases hlt : k < 4
    · obtain ⟨m, hm⟩ : ∃ m, ([a, b, c, d] : List Int)[k]? = some m := ⟨_, List.getElem?_eq_getElem (by simpa using hlt)⟩
      have hc := (intsB HI.out hkp.out).cell hm
      have hfm := HF.out m (List.mem_of_getElem? hm)
      have h0m : 0 ≤ m := hfm.1
      have h1m : m ≤ 18446744073709551615 := by have := hfm.2; omega
      have hcv : IntKind.u64.wrap m = m := IntWalk.u64_in _ ⟨h0m, h1m⟩
      have hmm := Lib.hid (takesW_one hm)
      have hll : (l ++ wsL ([a, b, c, d].take k) 2).length = l.length + 2 * k := by
        rw [List.length_append, wsL_len, List.length_take]
        simp
        omega
      obtain ⟨L, hL⟩ : ∃ L, l ++ wsL ([a, b, c, d].take k) 2 = L := ⟨_, rfl⟩
      rw [hL] at hll hown
      have HLL := Lib.hid hL
      have hOx := hown.out
      rw [← hll] at hOx
      have PP := Lib.hid (bput_any base 2 L A' c' m X.w hOx (by omega) hfm (by decide) (by decide) (by omega))
      rw [hll] at PP
      clear hfm hm hL hOx
      go_wp2_with fail
      refine PP.out.mono ?_
      rintro e w3 ⟨⟨A3, c3, rfl, hO3⟩, hb3, hk3⟩
      have HK3 := Lib.hid (hkp.out.trans hk3)
      have HO3 := Lib.hid hO3
      obtain ⟨Z, rfl⟩ : ∃ Z : Later base X.w, w3 = Z.w := ⟨⟨w3, hb3⟩, rfl⟩
      clear hO3 hb3 hk3
      go_wp2
      go_roundw
      case rel =>
        have e1 : L ++ wL m 2 = l ++ wsL ([a, b, c, d].take (k + 1)) 2 := by rw [hmm.out, wsL_snoc, ← List.append_assoc, HLL.out]
        have hO := HO3.out
        rw [e1] at hO
        exact ⟨k + 1, A3, c3, rfl, by go_num, ⟨by omega, hO, HK3.out⟩, by repeat' (first | (with_reducible exact Below.refl _ _) | (with_reducible assumption) | (with_reducible refine Later.step ?_ ?_ _) | (with_reducible refine Below.alloc ?_ ?_ _) | (with_reducible refine Below.drew ?_) | (with_reducible refine bel_drewN ?_ _) | (with_reducible refine bel_grown ?_ (by assumption) ?_ ?_) | (with_reducible refine Below.setCell ?_ ?_ _) | go_size)⟩
      case measure => simp [intOf]; omega
    · obtain rfl : k = 4 := by omega
      go_wp2
      go_ret
      exact ⟨⟨A', c', rfl, hown.out⟩, by repeat' (first | (with_reducible exact Below.refl _ _) | (with_reducible assumption) | (with_reducible refine Later.step ?_ ?_ _) | (with_reducible refine Below.alloc ?_ ?_ _) | (with_reducible refine Below.drew ?_) | (with_reducible refine bel_drewN ?_ _) | (with_reducible refine bel_grown ?_ (by assumption) ?_ ?_) | (with_reducible refine Below.setCell ?_ ?_ _) | go_size), HK0.out.trans hkp.out⟩
end Go.Proofs.Ytdjkhcnejbinjaa
