/- The document's frames of bytes, walked. No condition beyond what the slice reads as. -/
import Derived.Test.YthcecinhlhgohaaFrT
namespace Go.Proofs.Ythcecinhlhgohaa
open Go.RowKit
set_option linter.unusedSimpArgs false
set_option linter.unusedVariables false
set_option maxRecDepth 2000

theorem reads_in {k : IntKind} {w : World} {B B' n : Nat} {A : Option Addr} {f : Nat → Int} (h : Reads k w B A n f) (hb : 0 < n → ∀ b o, A = some ⟨b, o, none⟩ → b < B') : Reads k w B' A n f := fun hn => by
  obtain ⟨b, o, rfl, _, hc⟩ := h hn
  exact ⟨b, o, rfl, hb hn b o rfl, hc⟩
theorem Reads.body {w : World} {lo : Nat} {A : Option Addr} {l : List Nat} (h : Reads .u8 w lo A l.length (atI l)) (hs : lo ≤ w.heap.size) : Body w (fun b => b < lo) A l := fun hn => by
  obtain ⟨b, o, rfl, hb, hc⟩ := h hn
  exact ⟨b, o, rfl, hb, by omega, hc⟩
theorem cell_two_at (w : World) (s : Nat) (hs : w.heap.size = s) (x y : Value) (t : TypeId) : ∀ j u, [x, y][j]? = some u → (w.alloc (.cells #[x, y] t)).cell? ((⟨s, 0, none⟩ : Addr).add j) = some u := by
  subst hs
  exact cell_two_new w x y t
theorem rec_grow {w w' : World} {b room n c over : Nat} {A : Option Addr} {r : Option Nat} (h : Rec w b room A n c over) (hg : w.grownBy w' r) (hne : some b ≠ r) : Rec w' b room A n c over := (hg.block b h.cells.2.2.2.2 hne).trans h
/-- A part more behind the list, of bytes that were there before the call. -/
theorem split_round {y z : World} {lo base k c c2 kd : Nat} {p : List Nat} {ps : List (List Nat × Nat)} {xs : List Value} {A A2 : Option Addr} {ob : Obj} (hlo : lo ≤ base)
    (hown : y.ownsRow base 33 2 (.slice A k c) k xs) (hps : IsParts y (fun b => b < lo) xs ps) (hr : Reads .u8 y lo A2 p.length (atI p)) (hs : base ≤ y.heap.size)
    (hg3 : (y.alloc ob).grownBy z (Value.slice A k c).ownBlock) :
    IsParts z (fun b => b < lo) (xs ++ [.slice A2 p.length c2, .int .i64 (kd : Nat)]) (ps ++ [(p, kd)]) ∧ Below base y z := by
  have hlt := hown.lt
  have hbz : Below base y z := ((Below.refl _ _).alloc hs ob).grown hg3 (by rw [World.size_alloc]; omega) (fun k hk => (hlt k hk).1)
  have hyz := hbz.size
  exact ⟨(hps.push (c := c2) (k := kd) (hr.body (by omega))).keep (fun b hb h => ⟨hbz.block b (by omega), h⟩) hyz, hbz⟩
/-- What Split answers. -/
def SplitPost (l : List Nat) (w : World) (e : Ending) (w' : World) : Prop :=
  (∃ A c xs, e = .returned (.slice A (parts l).length c) ∧ w'.ownsRow (w.heap.size + 1) 33 2 (.slice A (parts l).length c) (parts l).length xs ∧ IsParts w' (fun b => b < w.heap.size) xs (parts l)) ∧ Below w.heap.size w w'
set_option maxHeartbeats 8000000 in
theorem split_any (x : Option Addr) (cx : Nat) (l : List Nat) (w : World) (hr : Reads .u8 w w.heap.size x l.length (atI l)) (hc : l.length ≤ cx ∧ cx ≤ 9223372036854775807) (hf : Small l) (hl : l.length ≤ 3000) :
    Calls Try.prog 12 #[.slice x l.length cx] w (SplitPost l w) := by
  obtain ⟨i0, hi, hz0, hz1, hz2⟩ := info_parts (P := Try.prog) (e := 33) (z := .agg #[.slice none 0 0, .int .i64 0]) (size := 2) (bytes := 32) (by kernel_rfl)
  have HR := Lib.hid hr
  have HF := Lib.hid hf
  obtain ⟨n, hn⟩ : ∃ n, l.length = n := ⟨_, rfl⟩
  have HR0 := Lib.hid (show Rec (w.alloc (Obj.cells #[.int .i64 n, .slice x n cx, .int .i64 (0 : Nat)] 48)) w.heap.size n x n cx 0 from heap_alloc_new _ _)
  rw [hn] at hc hl ⊢
  have HN := Lib.hid hn
  clear hr hf hn
  go_enter Try.func12, Try.ntmps12
  go_wp2
  go_loopw [3, 5] (fun v i wr => ∃ (k o : Nat) (l' : List Nat) (ps : List (List Nat × Nat)) (xs : List Value) (A A' : Option Addr) (c c' : Nat), v = .slice A k c ∧ i = .int .i64 k ∧ (k ≤ n + 1 ∧ Hid (ps.length = k) ∧ Hid (wr.ownsRow (w.heap.size + 1) 33 2 (.slice A k c) k xs) ∧ Hid (IsParts wr (fun b => b < w.heap.size) xs ps) ∧ Hid (Rec wr w.heap.size n A' l'.length c' o) ∧ Hid (Reads .u8 wr w.heap.size A' l'.length (atI l')) ∧ (l'.length ≤ c' ∧ c' ≤ 9223372036854775807) ∧ Hid (Small l') ∧ l'.length ≤ 3000 ∧ o ≤ 65535 ∧ Hid (0 < l'.length → o = 0) ∧ Hid (parts l = ps ++ (drainN (n + 1 - k) l' o).1)) ∧ Below w.heap.size w wr ∧ w.heap.size < wr.heap.size) (fun _ i _ => n + 1 - (intOf i).toNat)
  case atStart => exact ⟨0, 0, l, [], [], none, x, 0, cx, rfl, rfl, ⟨Nat.zero_le _, rfl, World.ownsRow_nil _ _ _ _, IsParts.nil _ _, by rw [HN.out]; exact HR0.out, HR.out.keep (by repeat' (first | (with_reducible exact Below.refl _ _) | (with_reducible assumption) | (with_reducible refine Later.step ?_ ?_ _) | (with_reducible refine Below.alloc ?_ ?_ _) | (with_reducible refine Below.drew ?_) | (with_reducible refine bel_drewN ?_ _) | (with_reducible refine bel_grown ?_ (by assumption) ?_ ?_) | (with_reducible refine Below.setCell ?_ ?_ _) | go_size)), by rw [HN.out]; exact hc, HF.out, by rw [HN.out]; exact hl, by omega, fun _ => rfl, by rw [Nat.sub_zero, ← HN.out]; rfl⟩, by repeat' (first | (with_reducible exact Below.refl _ _) | (with_reducible assumption) | (with_reducible refine Later.step ?_ ?_ _) | (with_reducible refine Below.alloc ?_ ?_ _) | (with_reducible refine Below.drew ?_) | (with_reducible refine bel_drewN ?_ _) | (with_reducible refine bel_grown ?_ (by assumption) ?_ ?_) | (with_reducible refine Below.setCell ?_ ?_ _) | go_size), by go_size⟩
  case round =>
    obtain ⟨k, o, l', ps, xs, A, A', c, c', rfl, rfl, ⟨hk, hpl, hown, hps, hRec, hRd, hca, hsm, hl', ho, hov, hdr⟩, hbel, hsz⟩ := hrel
    obtain ⟨X, rfl⟩ : ∃ X : Later w.heap.size w, wr = X.w := ⟨⟨wr, hbel⟩, rfl⟩
    clear hbel
    by_cases hlt : k ≤ n
    · obtain ⟨r0, r1, r2, rf, rlt⟩ := hRec.out.cells
      go_wp2_with fail
      refine (rnext_any n o A' c' l' X.w (hRd.out.more (by omega)) hca hsm.out hov.out (by omega) (by omega)).mono ?_
      rintro e w2 ⟨A2, c2, B2, d2, rfl, hA2, hB2, hc2, hb2, hf1, hf2⟩
      have hs2 := hb2.size
      obtain ⟨X2, rfl⟩ : ∃ Y : Later X.w.heap.size X.w, w2 = Y.w := ⟨⟨w2, hb2⟩, rfl⟩
      have hRX2 := rec_below hRec.out hb2
      have hfrom : ∀ A0, From A' A0 → 0 < l'.length → ∀ b o, A0 = some ⟨b, o, none⟩ → b < w.heap.size := fun A0 hf hp b o e => by
        obtain ⟨o2, e2⟩ := hf b o e
        obtain ⟨b3, o3, e3, hb3, _⟩ := hRd.out hp
        rw [e2] at e3
        injection e3 with e3
        injection e3 with e3
        omega
      have HA2 := Lib.hid (reads_in hA2 (fun hp => hfrom _ hf1 (rest_pos hp)))
      have HB2 := Lib.hid (reads_in hB2 (fun hp => hfrom _ hf2 (body_pos hp)))
      have HRX := Lib.hid hRX2
      have HO2 := Lib.hid (own_keep hown.out hb2)
      have HP2 := Lib.hid (hps.out.keep (fun b hb h => ⟨hb2.block b hb, h⟩) hs2)
      have hbl := body_len l'
      clear hA2 hB2 hb2 hRX2 hf1 hf2 hfrom
      by_cases hk0 : kindN l' = 0
      · rw [hk0]
        have HK := Lib.hid hk0
        clear hk0
        go_wp2
        go_ret
        have hD : parts l = ps := by rw [hdr.out, drain_stop HK.out, List.append_nil]
        unfold SplitPost
        rw [hD, hpl.out]
        exact ⟨⟨A, c, xs, rfl, HO2.out.alloc _, HP2.out.keep (fun b hb h => ⟨heap_alloc_old _ _ hb, h⟩) (by go_size)⟩, by repeat' (first | (with_reducible exact Below.refl _ _) | (with_reducible assumption) | (with_reducible refine Later.step ?_ ?_ _) | (with_reducible refine Below.alloc ?_ ?_ _) | (with_reducible refine Below.drew ?_) | (with_reducible refine bel_drewN ?_ _) | (with_reducible refine bel_grown ?_ (by assumption) ?_ ?_) | (with_reducible refine Below.setCell ?_ ?_ _) | go_size)⟩
      · have HK := Lib.hid hk0
        clear hk0
        have hk9 : ¬ (kindN l' : Int) = 0 := by have := HK.out; omega
        have HOA := Lib.hid (HO2.out.alloc (Obj.cells #[.int .i64 n, .slice A2 (nextL l').length c2, .int .i64 (nextO l' o : Nat)] 48))
        go_wp2_with (at_builtin; refine wpList_append_own_at _ rfl _ _ 29 rfl (w.heap.size + 1) 33 i0 (.agg #[.slice none 0 0, .int .i64 0]) 2 32 Try.underlying29 hi hz0 hz1 hz2 rfl (by decide) _ _ _ rfl (HOA.out.alloc _) ⟨X2.w.heap.size + 1, 0, none⟩ 1 1 [_, _] rfl rfl (cell_two_at _ _ (by go_size) _ _ _) (fun x hx => by simp at hx; rcases hx with rfl | rfl <;> rfl) (by unfold maxLen; omega) (by omega) (by go_size) ?_)
        intro v' w3 hown3 hgrow3 _ hat
        obtain ⟨A3, c3, rfl⟩ := own_form hown3
        have hb0 : ∀ o : Obj, Below X2.w.heap.size X2.w (X2.w.alloc o) := fun o => (Below.refl _ _).alloc (Nat.le_refl _) o
        have hXs := X2.is.size
        obtain ⟨p1, p2⟩ := split_round (kd := kindN l') (c2 := d2) (Nat.le_succ _) HOA.out (HP2.out.keep (fun b hb h => ⟨heap_alloc_old _ _ hb, h⟩) (by go_size)) (HB2.out.keep ((hb0 _).mono (by omega))) (by go_size) hgrow3
        have hs3 := p2.size
        rw [World.size_alloc] at hs3
        have hlt2 := HO2.out.lt
        have q9 := rec_grow (rec_below (show Rec (X2.w.alloc (Obj.cells #[.int .i64 n, .slice A2 (nextL l').length c2, .int .i64 (nextO l' o : Nat)] 48)) X2.w.heap.size n A2 (nextL l').length c2 (nextO l' o) from heap_alloc_new _ _) ((Below.refl _ _).alloc (Nat.le_refl _) _)) hgrow3 (fun e => by have := (hlt2 _ e.symm).2; omega)
        have q1 := rec_grow (rec_below (rec_below HRX.out (hb0 _)) ((Below.refl _ _).alloc (Nat.le_refl _) _)) hgrow3 (fun e => by have := (hlt2 _ e.symm).1; omega)
        have q2 := HA2.out.keep ((hb0 _).mono (show w.heap.size ≤ _ by omega) |>.trans (p2.mono (Nat.le_succ _)))
        have O3 := Lib.hid hown3
        have P1 := Lib.hid p1
        have Q9 := Lib.hid q9
        have Q1 := Lib.hid q1
        have Q2 := Lib.hid q2
        have hdl := next_shorter HK.out
        have hfa := Lib.hid (next_facts (room := 4096) (show l'.length ≤ 4096 by omega) hov.out ho hsm.out)
        obtain ⟨Z, rfl⟩ : ∃ Z : Later (w.heap.size + 1) (X2.w.alloc (Obj.cells #[.int .i64 n, .slice A2 (nextL l').length c2, .int .i64 (nextO l' o : Nat)] 48)), w3 = Z.w := ⟨⟨w3, p2⟩, rfl⟩
        obtain ⟨v0, v1, v2, _, _⟩ := Q9.out.cells
        obtain ⟨p0, p1, p2, pf, plt⟩ := Q1.out.cells
        have pf0 := pf 0
        have pf1 := pf 1
        have pf2 := pf 2
        clear pf hown3 hgrow3 hat hb0 q9 q1 q2 hlt2
        go_wp2
        go_roundw
        case rel =>
          have hB3 : Below w.heap.size Z.w (((Z.w.setCell ⟨w.heap.size, 0, none⟩ (.int .i64 n)).setCell ⟨w.heap.size, 1, none⟩ (.slice A2 (nextL l').length c2)).setCell ⟨w.heap.size, 2, none⟩ (.int .i64 (nextO l' o : Nat))) := by repeat' (first | (with_reducible exact Below.refl _ _) | (with_reducible assumption) | (with_reducible refine Later.step ?_ ?_ _) | (with_reducible refine Below.alloc ?_ ?_ _) | (with_reducible refine Below.drew ?_) | (with_reducible refine bel_drewN ?_ _) | (with_reducible refine bel_grown ?_ (by assumption) ?_ ?_) | (with_reducible refine Below.setCell ?_ ?_ _) | go_size)
          refine ⟨k + 1, nextO l' o, nextL l', ps ++ [(nextB l', kindN l')], xs ++ [Value.slice B2 (nextB l').length d2, Value.int IntKind.i64 ((kindN l' : Nat) : Int)], A3, A2, c3, c2, rfl, by go_num, ⟨by omega, ?_, own_set (own_set (own_set O3.out (Nat.lt_succ_self _) _) (Nat.lt_succ_self _) _) (Nat.lt_succ_self _) _, P1.out.keep (fun b hb h => ⟨hB3.block b h, h⟩) hB3.size, Rec.set2 (over' := nextO l' o) (Rec.set1 (A' := A2) (n' := (nextL l').length) (c' := c2) Q1.out.set0), Q2.out.keep hB3, hc2, hfa.out.2.2.2, by omega, hfa.out.2.2.1, hfa.out.2.1, ?_⟩, by repeat' (first | (with_reducible exact Below.refl _ _) | (with_reducible assumption) | (with_reducible refine Later.step ?_ ?_ _) | (with_reducible refine Below.alloc ?_ ?_ _) | (with_reducible refine Below.drew ?_) | (with_reducible refine bel_drewN ?_ _) | (with_reducible refine bel_grown ?_ (by assumption) ?_ ?_) | (with_reducible refine Below.setCell ?_ ?_ _) | go_size), by go_size⟩
          · rw [Hid, List.length_append, hpl.out]; rfl
          · have e := hdr.out
            rw [show n + 1 - k = (n + 1 - (k + 1)) + 1 by omega, drain_step HK.out] at e
            rw [Hid, e, List.append_assoc]
            rfl
        case measure => simp [intOf]; omega
    · have hkm : k = n + 1 := by omega
      go_wp2
      go_ret
      have hD : parts l = ps := by rw [hdr.out, hkm, Nat.sub_self]; simp [drainN]
      unfold SplitPost
      rw [hD, hpl.out]
      exact ⟨⟨A, c, xs, rfl, hown.out, hps.out⟩, by repeat' (first | (with_reducible exact Below.refl _ _) | (with_reducible assumption) | (with_reducible refine Later.step ?_ ?_ _) | (with_reducible refine Below.alloc ?_ ?_ _) | (with_reducible refine Below.drew ?_) | (with_reducible refine bel_drewN ?_ _) | (with_reducible refine bel_grown ?_ (by assumption) ?_ ?_) | (with_reducible refine Below.setCell ?_ ?_ _) | go_size)⟩
end Go.Proofs.Ythcecinhlhgohaa
