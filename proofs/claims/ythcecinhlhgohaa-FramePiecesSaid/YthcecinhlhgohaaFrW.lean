/- It does not matter in which pieces bytes come in: the statement walked. No condition beyond what the slices read as. -/
import Derived.Test.YthcecinhlhgohaaFrV
namespace Go.Proofs.Ythcecinhlhgohaa
open Go.RowKit
set_option linter.unusedSimpArgs false
set_option linter.unusedVariables false
set_option maxRecDepth 2000

theorem takes_one {α : Type} {l : List α} {j : Nat} {a : α} (h : l[j]? = some a) : l.take (j + 1) = l.take j ++ [a] := by
  rw [List.take_add_one, h]
  rfl
theorem takes_two {α : Type} {l : List α} {j : Nat} {a b : α} (h : l[j * 2]? = some a) (h' : l[j * 2 + 1]? = some b) : l.take ((j + 1) * 2) = l.take (j * 2) ++ [a, b] := by
  rw [show (j + 1) * 2 = j * 2 + 1 + 1 by omega, takes_one h', takes_one h, List.append_assoc]
  rfl
theorem piece_facts {r l : List Nat} {o at_ tt : Nat} (h1 : at_ ≤ tt) (h2 : tt ≤ l.length) (hrl : r.length ≤ at_) (hov : 0 < r.length → o = 0) (ho : o ≤ 65535) (hs : Small r) (hl : Small l) :
    (r ++ ((l.drop at_).take (tt - at_)).drop (min o (tt - at_))).length ≤ tt ∧ (0 < (r ++ ((l.drop at_).take (tt - at_)).drop (min o (tt - at_))).length → o - min o (tt - at_) = 0) ∧ o - min o (tt - at_) ≤ 65535 ∧ Small (r ++ ((l.drop at_).take (tt - at_)).drop (min o (tt - at_))) ∧
    r ++ (l.drop at_).drop o = (r ++ ((l.drop at_).take (tt - at_)).drop (min o (tt - at_))) ++ (l.drop tt).drop (o - min o (tt - at_)) := by
  have hlen : (r ++ ((l.drop at_).take (tt - at_)).drop (min o (tt - at_))).length = r.length + (tt - at_ - min o (tt - at_)) := by rw [List.length_append, List.length_drop, List.length_take, List.length_drop]; omega
  rw [hlen]
  refine ⟨by omega, fun hp => ?_, by omega, hs.app (((hl.drop _).take _).drop _), feed_piece r l o at_ tt h1 h2⟩
  by_cases h0 : 0 < r.length
  · have := hov h0; omega
  · omega
theorem lsame_true (A A' : Option Addr) (l : List Nat) (c c' : Nat) (w : World) (ha : Reads .u8 w w.heap.size A l.length (atI l)) (hb : Reads .u8 w w.heap.size A' l.length (atI l)) (hl : l.length ≤ 9223372036854775807) :
    Calls Try.prog 13 #[.slice A l.length c, .slice A' l.length c'] w fun e w' => e = .returned (.bool true) ∧ Below w.heap.size w w' := by
  have := lsame_any A A' l l c c' w ha hb hl hl
  rw [decide_eq_true (rfl : l = l)] at this
  exact this
theorem drain_len : ∀ (n : Nat) (l : List Nat) (o : Nat) (p : List Nat × Nat), p ∈ (drainN n l o).1 → p.1.length ≤ l.length
  | 0, _, _, _, h => by simp [drainN] at h
  | n + 1, l, o, p, h => by
    by_cases hk : kindN l = 0
    · rw [drain_stop hk] at h; simp at h
    · rw [drain_step hk] at h
      have := next_shorter hk
      rcases List.mem_cons.1 h with rfl | h
      · exact body_len l
      · have := drain_len n (nextL l) (nextO l o) p h
        omega
theorem feed_cut (q o at_ tt cc : Nat) (r l : List Nat) (x ao : Option Addr) (X : World) (hB : Buf X q 4096 r o) (hr : Reads .u8 X X.heap.size x l.length (atI l)) (hao : ∀ b oo, x = some ⟨b, oo, none⟩ → at_ < tt → ao = some ⟨b, oo + at_, none⟩) (h1 : at_ ≤ tt) (h2 : tt ≤ l.length) (h3 : l.length ≤ 3000)
    (hc : tt - at_ ≤ cc) (hc' : cc ≤ 9223372036854775807) (hrl : r.length ≤ at_) (ho : o ≤ 65535) :
    Calls Try.prog 10 #[.pointer (some ⟨q, 0, none⟩), .slice ao (tt - at_ : Nat) cc] X fun e w' => e = .returned (.bool true) ∧ Below q X w' ∧ X.heap.size ≤ w'.heap.size ∧ Buf w' q 4096 (r ++ ((l.drop at_).take (tt - at_)).drop (min o (tt - at_))) (o - min o (tt - at_)) ∧ Kept X w' q ∧ RowKeep X w' q := by
  have hlen : ((l.drop at_).take (tt - at_)).length = tt - at_ := by rw [List.length_take, List.length_drop]; omega
  have := feed_sep q 4096 o r ((l.drop at_).take (tt - at_)) ao cc X hB (reads_cut hr h2 hao) (by omega) hc' (by omega) (by omega) (by omega)
  have hok : fedOk 4096 o r ((l.drop at_).take (tt - at_)) = true := by unfold fedOk; rw [hlen]; exact decide_eq_true (by omega)
  unfold fedL fedO at this
  rw [hok, hlen, if_pos rfl, if_pos rfl] at this
  exact this.mono fun e w' ⟨a, b, c, d, e, _, g⟩ => ⟨a, b, c, d, e, g⟩
set_option maxHeartbeats 8000000 in
theorem pieces_walk (x : Option Addr) (cx : Nat) (l : List Nat) (C : Option Addr) (nc cc : Nat) (f : Nat → Int) (w : World) (hr : Reads .u8 w w.heap.size x l.length (atI l)) (hc : l.length ≤ cx ∧ cx ≤ 9223372036854775807) (hf : Small l) (hr2 : Reads .i64 w w.heap.size C nc f) (hc2 : nc ≤ cc ∧ cc ≤ 9223372036854775807) :
    Calls Try.prog 3 #[.slice x l.length cx, .slice C nc cc] w fun e w' => e = .returned (.bool true) ∧ Below w.heap.size w w' := by
  obtain ⟨i0, hi, hz0, hz1, hz2⟩ := info_parts (P := Try.prog) (e := 33) (z := .agg #[.slice none 0 0, .int .i64 0]) (size := 2) (bytes := 32) (by kernel_rfl)
  have HR := Lib.hid hr
  have HF := Lib.hid hf
  have HC := Lib.hid hr2
  obtain ⟨n, hn⟩ : ∃ n, l.length = n := ⟨_, rfl⟩
  rw [hn] at hc ⊢
  have HN := Lib.hid hn
  clear hr hf hn hr2
  by_cases hbig : 3000 < n ∨ 60 < nc
  · go_enter Try.func3, Try.ntmps3
    go_wp2_with (first
      | (go_at_call 8; refine (fknown_any _).mono ?_; rintro e w' ⟨rfl, hb⟩; obtain ⟨X9, rfl, hl9, hm9⟩ := later (w.heap.size) hb (by first | exact Nat.le_refl _ | go_size); clear hb; (try simp only [World.size_alloc, World.size_setCell, World.size_drew] at hm9)))
    all_goals
      go_ret
      exact ⟨rfl, by repeat' (first | (with_reducible exact Below.refl _ _) | (with_reducible assumption) | (with_reducible refine Later.step ?_ ?_ _) | (with_reducible refine Below.alloc ?_ ?_ _) | (with_reducible refine Below.drew ?_) | (with_reducible refine bel_drewN ?_ _) | (with_reducible refine bel_grown ?_ (by assumption) ?_ ?_) | (with_reducible refine Below.setCell ?_ ?_ _) | go_size)⟩
  · have hn3 : n ≤ 3000 := by omega
    have hnc : nc ≤ 60 := by omega
    clear hbig
    go_enter Try.func3, Try.ntmps3
    go_wp2_with fail
    refine (new_any 4096 _ (by decide) (by decide)).mono ?_
    rintro e w1 ⟨q, rfl, hq, hB1, hb1⟩
    have hs1 := hb1.size
    have hq1 := hB1.lt
    obtain ⟨X1, rfl⟩ : ∃ X : Later w.heap.size w, w1 = X.w := ⟨⟨w1, hb1⟩, rfl⟩
    have HB1 := Lib.hid hB1
    clear hB1 hb1
    go_wp2
    go_loopw [7, 8, 9] (fun v a i wr => ∃ (k at_ o cnt : Nat) (r : List Nat) (ps : List (List Nat × Nat)) (xs : List Value) (A : Option Addr) (c : Nat), v = .slice A cnt c ∧ a = .int .i64 at_ ∧ i = .int .i64 k ∧ (k ≤ nc + 1 ∧ at_ ≤ n ∧ Hid (k = nc + 1 → at_ = n) ∧ Hid (ps.length = cnt) ∧ Hid (wr.ownsRow X1.w.heap.size 33 2 (.slice A cnt c) cnt xs) ∧ Hid (IsParts wr (DOk X1.w.heap.size q wr (.slice A cnt c)) xs ps) ∧ Hid (Buf wr q 4096 r o) ∧ Hid (Small r) ∧ r.length ≤ at_ ∧ Hid (0 < r.length → o = 0) ∧ o ≤ 65535 ∧ Hid (kindN r = 0) ∧ Hid (parts l = ps ++ parts (r ++ (l.drop at_).drop o))) ∧ Below w.heap.size w wr ∧ X1.w.heap.size ≤ wr.heap.size) (fun _ _ i _ => nc + 1 - (intOf i).toNat)
    case atStart => exact ⟨0, 0, 0, 0, [], [], [], none, 0, rfl, rfl, rfl, ⟨by omega, by omega, (fun h => absurd h (by omega)), rfl, World.ownsRow_nil _ _ _ _, IsParts.nil _ _, HB1.out, (fun x hx => by cases hx), by simp, (fun _ => rfl), by omega, (show kindN [] = 0 by decide), (show parts l = [] ++ parts ([] ++ (l.drop 0).drop 0) by simp)⟩, by repeat' (first | (with_reducible exact Below.refl _ _) | (with_reducible assumption) | (with_reducible refine Later.step ?_ ?_ _) | (with_reducible refine Below.alloc ?_ ?_ _) | (with_reducible refine Below.drew ?_) | (with_reducible refine bel_drewN ?_ _) | (with_reducible refine bel_grown ?_ (by assumption) ?_ ?_) | (with_reducible refine Below.setCell ?_ ?_ _) | go_size), by go_size⟩
    case round =>
      obtain ⟨k, at_, o, cnt, r, ps, xs, A, c, rfl, rfl, rfl, ⟨hk, hat_, hlast, hcnt, hown, hps, hbuf, hsm, hrl, hov, ho, hkr, hparts⟩, hbel, hsz⟩ := hrel
      obtain ⟨X, rfl⟩ : ∃ X : Later w.heap.size w, wr = X.w := ⟨⟨wr, hbel⟩, rfl⟩
      clear hbel
      by_cases hlt : k ≤ nc
      · have hcutc : k < nc → ∃ b o, C = some ⟨b, o, none⟩ ∧ X.w.cell? ⟨b, o + k, none⟩ = some (.int .i64 (f k)) := fun h => by
          obtain ⟨b, o, rfl, hb, hcell⟩ := HC.out (by omega)
          have := hcell k h
          exact ⟨b, o, rfl, by go_simp⟩
        go_upto_region 12 with fail
        go_cut [62] from 34 to 92 (fun s wx => s = .bool (decide (k < nc ∧ (at_ : Int) ≤ f k ∧ f k ≤ (n : Int))) ∧ wx = X.w)
        case first =>
          by_cases h1 : k < nc
          · obtain ⟨b, ob, rfl, hcell⟩ := hcutc h1
            by_cases h2 : (at_ : Int) ≤ f k
            all_goals
              by_cases h3 : f k ≤ (n : Int)
            all_goals
              go_wp2_with fail
              go_meet
              refine ⟨congrArg Value.bool ?_, rfl⟩
              first
                | exact (decide_eq_true ⟨h1, h2, h3⟩).symm
                | exact (decide_eq_false (by omega)).symm
          · go_wp2_with fail
            go_meet
            exact ⟨congrArg Value.bool (decide_eq_false (fun h => h1 h.1)).symm, rfl⟩
        case rest =>
          obtain ⟨rfl, rfl⟩ := hcut
          go_upto_if 62 with fail
          go_cut [10] from 34 to 92 (fun s wx => ∃ tt : Nat, s = .int .i64 tt ∧ at_ ≤ tt ∧ tt ≤ n ∧ (k = nc → tt = n) ∧ wx = X.w)
          case first =>
            by_cases hb : k < nc ∧ (at_ : Int) ≤ f k ∧ f k ≤ (n : Int)
            · obtain ⟨b, ob, rfl, hcell⟩ := hcutc hb.1
              obtain ⟨tt, htt⟩ := Int.eq_ofNat_of_zero_le (show 0 ≤ f k by omega)
              have h1 := hb.1
              rw [decide_eq_true hb]
              go_wp2_with fail
              go_meet
              exact ⟨tt, by first | rfl | exact congrArg (Value.int .i64) htt, by omega, by omega, fun h => absurd h (by omega), rfl⟩
            · rw [decide_eq_false hb]
              go_wp2_with fail
              go_meet
              exact ⟨n, rfl, hat_, Nat.le_refl _, fun _ => rfl, rfl⟩
          case rest =>
            obtain ⟨tt, rfl, hat1, hat2, hat3, rfl⟩ := hcut
            have hcase : cx = at_ ∨ ¬ cx = at_ := by omega
            have HX := Lib.hid ((HR.out.keep X.is).more X.is.size)
            rcases hcase with hcc | hcc
            all_goals
              go_wp2_with fail
              refine (feed_cut q o at_ tt _ r l x _ X.w hbuf.out HX.out (fun b oo e hlt => by subst e; first | (exfalso; omega) | rfl | simp [Addr.add_lit] | skip) hat1 (by rw [HN.out]; exact hat2) (by rw [HN.out]; exact hn3) (by omega) (by omega) hrl ho).mono ?_
              rintro e w4 ⟨rfl, hb4, hs4, hB4, hK4, hR4⟩
              obtain ⟨f1, f2, f3, f4, f5⟩ := piece_facts hat1 (show tt ≤ l.length by rw [HN.out]; exact hat2) hrl hov.out ho hsm.out HF.out
              obtain ⟨e1, e2⟩ := got_feed hbuf.out hq1 hown.out hps.out hK4 hR4 hs4
              obtain ⟨y, hy⟩ : ∃ y, r ++ ((l.drop at_).take (tt - at_)).drop (min o (tt - at_)) = y := ⟨_, rfl⟩
              obtain ⟨oy, hoy⟩ : ∃ oy, o - min o (tt - at_) = oy := ⟨_, rfl⟩
              rw [hy, hoy] at hB4 f5
              rw [hy] at f1 f2 f4
              rw [hoy] at f2 f3
              have hpy := hparts.out
              rw [f5] at hpy
              have P5 := drained_any q 4096 oy (n + 1) y w4 hB4 f4 (by omega) (by omega)
              obtain ⟨g1, g2, g3, g4, g5, g6⟩ := drain_app (n + 1) y oy 4096 (l.drop tt) (by omega) f2 (by omega) f3 f4
              obtain ⟨qs, r', o', hd⟩ : ∃ qs r' o', drainN (n + 1) y oy = (qs, r', o') := ⟨_, _, _, rfl⟩
              unfold Drained at P5
              rw [hd] at P5 g1 g2 g3 g4 g5 g6
              simp only at P5 g1 g2 g3 g4 g5 g6
              rw [g1, ← List.append_assoc] at hpy
              have hcn := drain_count (l.length + 1) l 0
              rw [show (drainN (l.length + 1) l 0).1 = parts l from rfl, hpy, List.length_append, List.length_append, hcnt.out, HN.out] at hcn
              rw [show (((n + 1 : Nat)) : Int) = (n : Int) + 1 by push_cast; rfl] at P5
              obtain ⟨m, hm⟩ : ∃ m, qs.length = m := ⟨_, rfl⟩
              rw [hm] at hcn P5
              have Q5 := Lib.hid P5
              have E1 := Lib.hid e1
              have E2 := Lib.hid e2
              have G1 := Lib.hid (And.intro g2 (And.intro g3 (And.intro g5 g6)))
              have HPY := Lib.hid hpy
              have HM := Lib.hid hm
              obtain ⟨X4, rfl⟩ : ∃ Z : Later q X.w, w4 = Z.w := ⟨⟨w4, hb4⟩, rfl⟩
              clear hB4 hK4 hR4 f2 f3 f4 f5 hy hoy hpy P5 g1 g2 g3 g5 g6 e1 e2 hm hb4 hd
              go_wp2_with fail
              refine Q5.out.mono ?_
              rintro e w5 ⟨A5, c5, ys, rfl, own5, hp5, hB5, hb5, hs5, hg5, hR5⟩
              obtain ⟨e3, e4⟩ := got_grown hq1 E1.out E2.out hg5 hR5
              have hl1 := E1.out.lt
              have hl5 := own5.lt
              have e5 : IsParts w5 (DOk X1.w.heap.size q w5 (.slice A cnt c)) ys qs := hp5.keep (fun b hb ⟨d1, d2, d3⟩ => ⟨rfl, by omega, d2, fun e => by have := (hl1 b e).2; omega⟩) (Nat.le_refl _)
              have e6 : ∀ g, (Value.slice A5 m c5).ownBlock = some g → (Value.slice A cnt c).ownBlock ≠ some g := fun g h5 h1 => by
                have := (hl1 g h1).2
                have := (hl5 g h5).1
                omega
              have E3 := Lib.hid e3
              have E4 := Lib.hid e4
              have E5 := Lib.hid e5
              have E6 := Lib.hid e6
              have O5 := Lib.hid own5
              have U5 := Lib.hid hB5
              have HYS := Lib.hid e5.1
              obtain ⟨X5, rfl⟩ : ∃ Z : Later q X4.w, w5 = Z.w := ⟨⟨w5, hb5⟩, rfl⟩
              clear own5 hp5 hB5 hb5 hg5 hR5 e3 e4 e5 e6 hl1 hl5 Q5
              go_wp2
              go_loopw [7, 12] (fun v i wr => ∃ (j : Nat) (A' : Option Addr) (c' : Nat), v = .slice A' (cnt + j : Nat) c' ∧ i = .int .i64 j ∧ (j ≤ m ∧ Hid (wr.ownsRow X1.w.heap.size 33 2 (.slice A' (cnt + j) c') (cnt + j) (xs ++ ys.take (j * 2))) ∧ Hid (IsParts wr (DOk X1.w.heap.size q wr (.slice A' (cnt + j) c')) (xs ++ ys.take (j * 2)) (ps ++ qs.take j)) ∧ Hid (wr.ownsRow X4.w.heap.size 33 2 (.slice A5 m c5) m ys) ∧ Hid (IsParts wr (DOk X1.w.heap.size q wr (.slice A' (cnt + j) c')) ys qs) ∧ Hid (∀ g, (Value.slice A5 m c5).ownBlock = some g → (Value.slice A' (cnt + j) c').ownBlock ≠ some g) ∧ Hid (Buf wr q 4096 r' o')) ∧ Below X1.w.heap.size X5.w wr ∧ X5.w.heap.size ≤ wr.heap.size) (fun _ i _ => m - (intOf i).toNat)
              case atStart => exact ⟨0, A, c, rfl, rfl, ⟨Nat.zero_le _, by simpa [Hid] using E3.out, by simpa [Hid] using E4.out, O5.out, E5.out, E6.out, U5.out⟩, Below.refl _ _, Nat.le_refl _⟩
              case round =>
                obtain ⟨j, A', c', rfl, rfl, ⟨hj, hown', hps', hown5, hqs, hne, hbuf'⟩, hbel', hsz'⟩ := hrel
                obtain ⟨Y, rfl⟩ : ∃ Z : Later X1.w.heap.size X5.w, wr = Z.w := ⟨⟨wr, hbel'⟩, rfl⟩
                clear hbel'
                by_cases hjm : j < m
                · obtain ⟨p, hp⟩ : ∃ p, qs[j]? = some p := ⟨_, List.getElem?_eq_getElem (by rw [HM.out]; exact hjm)⟩
                  obtain ⟨A6, c6, y0, y1, hbody⟩ := hqs.out.2 j p hp
                  obtain ⟨p1, p2⟩ := p
                  obtain ⟨g5, cp5, hv5, _, _⟩ := hown5.out.form (by omega)
                  obtain rfl : A5 = some ⟨g5, 0, none⟩ := by injection hv5
                  have k0 := hown5.out.cells (g := g5) rfl _ _ y0
                  have k1 := hown5.out.cells (g := g5) rfl _ _ y1
                  simp only [Addr.add_lit, Nat.zero_add] at k0 k1
                  have hxs := Lib.hid (takes_two y0 y1)
                  have hqt := Lib.hid (takes_one hp)
                  have HBO := Lib.hid hbody
                  clear y0 y1 hp hbody hv5
                  go_wp2_with (at_builtin; refine wpList_append_own_at _ rfl _ _ 29 rfl X1.w.heap.size 33 i0 (.agg #[.slice none 0 0, .int .i64 0]) 2 32 Try.underlying29 hi hz0 hz1 hz2 rfl (by decide) _ _ _ rfl (hown'.out.alloc _) ⟨Y.w.heap.size, 0, none⟩ 1 1 [_, _] rfl rfl (cell_two_new _ _ _ _) (fun x hx => by simp at hx; rcases hx with rfl | rfl <;> rfl) (by unfold maxLen; omega) (by omega) (by go_size) ?_)
                  intro v' w6 hown6 hgrow6 _ hat6
                  obtain ⟨A3, c3, rfl⟩ := own_form hown6
                  obtain ⟨r1, r2, r3, r4, r5, r6⟩ := merge_round (c6 := c6) (kd := p2) hq1 hbuf'.out hown'.out hps'.out hown5.out hqs.out hne.out HBO.out hgrow6 hat6 (by omega)
                  have hs6 := r6.size
                  rw [List.append_assoc, ← hxs.out, List.append_assoc, ← hqt.out] at r1
                  first
                    | rw [← hxs.out] at hown6
                    | rw [List.append_assoc, ← hxs.out] at hown6
                  have O6 := Lib.hid hown6
                  have R1 := Lib.hid r1
                  have R2 := Lib.hid r2
                  have R3 := Lib.hid r3
                  have R4 := Lib.hid r4
                  have R5 := Lib.hid r5
                  obtain ⟨Z, rfl⟩ : ∃ Z : Later X1.w.heap.size Y.w, w6 = Z.w := ⟨⟨w6, r6⟩, rfl⟩
                  clear hown6 hgrow6 hat6 r1 r2 r3 r4 r5 r6
                  go_wp2
                  go_roundw
                  case rel => exact ⟨j + 1, A3, c3, rfl, by go_num, ⟨by omega, O6.out, R1.out, R2.out, R3.out, R4.out, R5.out⟩, by repeat' (first | (with_reducible exact Below.refl _ _) | (with_reducible assumption) | (with_reducible refine Later.step ?_ ?_ _) | (with_reducible refine Below.alloc ?_ ?_ _) | (with_reducible refine Below.drew ?_) | (with_reducible refine bel_drewN ?_ _) | (with_reducible refine bel_grown ?_ (by assumption) ?_ ?_) | (with_reducible refine Below.setCell ?_ ?_ _) | go_size), by omega⟩
                  case measure => simp [intOf]; omega
                · obtain rfl : j = m := by omega
                  go_wp2
                  go_roundw
                  case rel =>
                    (try rw [← hcc])
                    have hyl := HYS.out
                    have hq2 : qs.take j = qs := List.take_of_length_le (by rw [HM.out]; exact Nat.le_refl _)
                    have hy2 : ys.take (j * 2) = ys := List.take_of_length_le (by rw [hyl, HM.out]; exact Nat.le_refl _)
                    rw [hq2, hy2] at hps'
                    rw [hy2] at hown'
                    obtain ⟨g1, g2, g3, g4⟩ := G1.out
                    have hB9 : Below w.heap.size w Y.w := by repeat' (first | (with_reducible exact Below.refl _ _) | (with_reducible assumption) | (with_reducible refine Later.step ?_ ?_ _) | (with_reducible refine Below.alloc ?_ ?_ _) | (with_reducible refine Below.drew ?_) | (with_reducible refine bel_drewN ?_ _) | (with_reducible refine bel_grown ?_ (by assumption) ?_ ?_) | (with_reducible refine Below.setCell ?_ ?_ _) | go_size)
                    first
                      | exact ⟨k + 1, tt, o', cnt + j, r', ps ++ qs, xs ++ ys, A', c', rfl, rfl, by go_num, ⟨by omega, hat2, fun h => hat3 (by omega), by rw [Hid, List.length_append, hcnt.out, HM.out], hown'.out, hps'.out, hbuf'.out, g4, by omega, g2, g3, g1, HPY.out⟩, hB9, by omega⟩
                      | ((repeat apply Exists.intro); exact ⟨⟨k + 1, tt, o', cnt + j, r', ps ++ qs, xs ++ ys, A', c', rfl, rfl, by go_num, ⟨by omega, hat2, fun h => hat3 (by omega), by rw [Hid, List.length_append, hcnt.out, HM.out], hown'.out, hps'.out, hbuf'.out, g4, by omega, g2, g3, g1, HPY.out⟩, hB9, by omega⟩, rfl⟩)
                  case measure => simp [intOf]; omega
      · have hkn : k = nc + 1 := by omega
        have hat' := hlast.out hkn
        have hpe : parts l = ps := by
          rw [hparts.out, List.drop_eq_nil_iff.2 (show l.length ≤ at_ by rw [HN.out]; omega), List.drop_nil, List.append_nil, parts_stop hkr.out, List.append_nil]
        have PS := split_any x cx l X.w ((HR.out.keep X.is).more X.is.size) (by rw [HN.out]; exact hc) HF.out (by rw [HN.out]; exact hn3)
        unfold SplitPost at PS
        rw [HN.out, hpe, hcnt.out] at PS
        have QS := Lib.hid PS
        have HPE := Lib.hid (show ps = (drainN (l.length + 1) l 0).1 from hpe.symm)
        have hcb : cnt ≤ 3001 := by
          have h1 := drain_count (l.length + 1) l 0
          rw [← HPE.out, hcnt.out, HN.out] at h1
          omega
        clear PS hat' hpe
        go_wp2_with fail
        refine QS.out.mono ?_
        rintro e w2 ⟨⟨A2, c2, ys, rfl, own2, hp2⟩, hb2⟩
        have hs2 := hb2.size
        have HO := Lib.hid (own_keep hown.out hb2)
        have HP := Lib.hid (hps.out.keep (ok' := fun _ => True) (fun b hb _ => ⟨hb2.block b hb, trivial⟩) hs2)
        have HO2 := Lib.hid own2
        have HP2 := Lib.hid hp2
        obtain ⟨Y, rfl⟩ : ∃ Z : Later X.w.heap.size X.w, w2 = Z.w := ⟨⟨w2, hb2⟩, rfl⟩
        clear own2 hp2 hb2
        go_wp2
        go_loopw [14] (fun i wr => ∃ j : Nat, j ≤ cnt ∧ i = .int .i64 j ∧ Below Y.w.heap.size Y.w wr) (fun i _ => cnt - (intOf i).toNat)
        case atStart => exact ⟨0, Nat.zero_le _, rfl, Below.refl _ _⟩
        case round =>
          obtain ⟨j, hj, rfl, hb⟩ := hrel
          have hs := hb.size
          obtain ⟨Z, rfl⟩ : ∃ Z : Later Y.w.heap.size Y.w, wr = Z.w := ⟨⟨wr, hb⟩, rfl⟩
          clear hb
          by_cases hjm : j < cnt
          · obtain ⟨p, hp⟩ : ∃ p, ps[j]? = some p := ⟨_, List.getElem?_eq_getElem (by rw [hcnt.out]; exact hjm)⟩
            obtain ⟨A6, c6, y0, y1, hb6⟩ := HP.out.2 j p hp
            obtain ⟨A7, c7, z0, z1, hb7⟩ := HP2.out.2 j p hp
            obtain ⟨g6, cp6, hv6, _, _⟩ := HO.out.form (by omega)
            obtain rfl : A = some ⟨g6, 0, none⟩ := by injection hv6
            obtain ⟨g7, cp7, hv7, _, _⟩ := HO2.out.form (by omega)
            obtain rfl : A2 = some ⟨g7, 0, none⟩ := by injection hv7
            have k0 := HO.out.cells (g := g6) rfl _ _ y0
            have k1 := HO.out.cells (g := g6) rfl _ _ y1
            have k2 := HO2.out.cells (g := g7) rfl _ _ z0
            have k3 := HO2.out.cells (g := g7) rfl _ _ z1
            simp only [Addr.add_lit, Nat.zero_add] at k0 k1 k2 k3
            have hg6 := (HO.out.lt g6 rfl).2
            have hg7 := (HO2.out.lt g7 rfl).2
            have k0 : Z.w.cell? ⟨g6, j * 2, none⟩ = some (.slice A6 p.1.length c6) := by go_simp
            have k1 : Z.w.cell? ⟨g6, j * 2 + 1, none⟩ = some (.int .i64 (p.2 : Nat)) := by go_simp
            have k2 : Z.w.cell? ⟨g7, j * 2, none⟩ = some (.slice A7 p.1.length c7) := by go_simp
            have k3 : Z.w.cell? ⟨g7, j * 2 + 1, none⟩ = some (.int .i64 (p.2 : Nat)) := by go_simp
            have hp3 : p.1.length ≤ 9223372036854775807 := by
              have h1 := drain_len (l.length + 1) l 0 p (HPE.out ▸ List.mem_of_getElem? hp)
              rw [HN.out] at h1
              omega
            have P7 := Lib.hid (fun (W : World) (hW : Below Y.w.heap.size Y.w W) => lsame_true A6 A7 p.1 c6 c7 W ((hb6.reads.keep hW).more hW.size) ((hb7.reads.keep hW).more hW.size) hp3)
            clear y0 y1 z0 z1 hv6 hv7 hp hb6 hb7
            obtain ⟨p1, p2⟩ := p
            go_wp2_with fail
            (refine wp_region_later (Z.w.heap.size) (by kernel_rfl) (by kernel_rfl) (by go_size) ?_; (repeat (go_big_quiet_step ((go_at_call 13; exact Later.call _ (Nat.le_trans (by go_size) (Later.is _).size) (P7.out _ (by repeat' (first | (with_reducible exact Below.refl _ _) | (with_reducible assumption) | (with_reducible refine Later.step ?_ ?_ _) | (with_reducible refine Below.alloc ?_ ?_ _) | (with_reducible refine Below.drew ?_) | (with_reducible refine bel_drewN ?_ _) | (with_reducible refine bel_grown ?_ (by assumption) ?_ ?_) | (with_reducible refine Below.setCell ?_ ?_ _) | go_size))))))); refine wpQuiet_nil ?_; intro Xq hlq hmq)
            go_wp2
            go_roundw
            case rel => exact ⟨j + 1, by omega, by go_num, by repeat' (first | (with_reducible exact Below.refl _ _) | (with_reducible assumption) | (with_reducible refine Later.step ?_ ?_ _) | (with_reducible refine Below.alloc ?_ ?_ _) | (with_reducible refine Below.drew ?_) | (with_reducible refine bel_drewN ?_ _) | (with_reducible refine bel_grown ?_ (by assumption) ?_ ?_) | (with_reducible refine Below.setCell ?_ ?_ _) | go_size)⟩
            case measure => simp [intOf]; omega
          · obtain rfl : j = cnt := by omega
            go_wp2_with (first
              | (go_at_call 8; refine (fknown_any _).mono ?_; rintro e w' ⟨rfl, hb⟩; obtain ⟨X9, rfl, hl9, hm9⟩ := later (Z.w.heap.size) hb (by first | exact Nat.le_refl _ | go_size); clear hb; (try simp only [World.size_alloc, World.size_setCell, World.size_drew] at hm9)))
            go_ret
            exact ⟨rfl, by repeat' (first | (with_reducible exact Below.refl _ _) | (with_reducible assumption) | (with_reducible refine Later.step ?_ ?_ _) | (with_reducible refine Below.alloc ?_ ?_ _) | (with_reducible refine Below.drew ?_) | (with_reducible refine bel_drewN ?_ _) | (with_reducible refine bel_grown ?_ (by assumption) ?_ ?_) | (with_reducible refine Below.setCell ?_ ?_ _) | go_size)⟩
theorem pieces_law (x : Option Addr) (n cx : Nat) (zs : List Int) (C : Option Addr) (nc cc : Nat) (zc : List Int) (w : World) (h0 : IsRow .u8 w x n cx zs) (h1 : IsRow .i64 w C nc cc zc) :
    Calls Try.prog 3 #[.slice x n cx, .slice C nc cc] w fun e w' => e = .returned (.bool true) ∧ Below w.heap.size w w' := by
  obtain ⟨l, rfl, g1, g2, g3, g4⟩ := row_list h0
  obtain ⟨_, _, k3, k4⟩ := row_len h1
  exact pieces_walk x cx l C nc cc _ w g2 ⟨g3, g4⟩ g1 (row_reads h1) ⟨k3, k4⟩
end Go.Proofs.Ythcecinhlhgohaa
