/- Bodies put into frames come out as they were: the statement walked. No condition beyond what the slices read as. -/
import Derived.Test.YthcecinhlhgohaaFrF
import Derived.Test.YthcecinhlhgohaaOpen
namespace Go.Proofs.Ythcecinhlhgohaa
open Go.RowKit
set_option linter.unusedSimpArgs false
set_option linter.unusedVariables false
set_option maxRecDepth 2000

theorem reads_two {X : World} {b : Nat} {a c : Nat} {x y : Int} (hb : b < X.heap.size) (hx : x = a) (hy : y = c) (h0 : X.cell? ⟨b, 0, none⟩ = some (.int .u8 x)) (h1 : X.cell? ⟨b, 1, none⟩ = some (.int .u8 y)) : Reads .u8 X X.heap.size (some ⟨b, 0, none⟩) [a, c].length (atI [a, c]) := fun _ => ⟨b, 0, rfl, hb, fun j hj => by
  subst hx hy
  match j, hj with
  | 0, _ => exact h0
  | 1, _ => exact h1⟩
set_option maxHeartbeats 4000000 in
theorem rframe_any (A : Option Addr) (c : Nat) (m : List Nat) (w : World) (hr : Reads .u8 w w.heap.size A m.length (atI m)) (hm : m.length ≤ 600) :
    Calls Try.prog 15 #[.slice A m.length c] w fun e w' => (∃ B d, e = .returned (.slice B (frameL m).length d) ∧ w'.ownsRow w.heap.size 5 1 (.slice B (frameL m).length d) (frameL m).length (rowV .u8 (frameL m).length (atI (frameL m)))) ∧ Below w.heap.size w w' := by
  have HR := Lib.hid hr
  have P1 := Lib.hid (fun (X : World) (b : Nat) (x y : Int) (hX : Below w.heap.size w X) (hb : b < X.heap.size) (hx : x = ((m.length / 256 : Nat) : Int)) (hy : y = ((m.length % 256 : Nat) : Int)) (h0 : X.cell? ⟨b, 0, none⟩ = some (.int .u8 x)) (h1 : X.cell? ⟨b, 1, none⟩ = some (.int .u8 y)) =>
    join_any (some ⟨b, 0, none⟩) 2 [m.length / 256, m.length % 256] A c m X (reads_two hb hx hy h0 h1) ((HR.out.keep hX).more hX.size) (by simp; omega))
  clear hr HR
  go_enter Try.func15, Try.ntmps15
  go_wp2_with fail
  refine (P1.out _ w.heap.size _ _ (by repeat' (first | (with_reducible exact Below.refl _ _) | (with_reducible assumption) | (with_reducible refine Later.step ?_ ?_ _) | (with_reducible refine Below.alloc ?_ ?_ _) | (with_reducible refine Below.drew ?_) | (with_reducible refine bel_drewN ?_ _) | (with_reducible refine bel_grown ?_ (by assumption) ?_ ?_) | (with_reducible refine Below.setCell ?_ ?_ _) | go_size)) (by go_size) ?h1 ?h2 (by go_simp; rfl) (by go_simp; rfl)).mono ?_
  case h1 => push_cast; omega
  case h2 => push_cast; omega
  rintro e w1 ⟨⟨C, k, rfl, hown⟩, hb1⟩
  have hs : w.heap.size + 1 ≤ w1.heap.size := by have := hb1.size; simpa using this
  have HO := Lib.hid (own_base hown (show w.heap.size ≤ _ by simp))
  have HB := Lib.hid (((Below.refl w.heap.size w).alloc (Nat.le_refl _) _).trans (hb1.mono (by simp)))
  clear hown hb1
  go_wp2
  go_ret
  exact ⟨⟨C, k, rfl, HO.out⟩, HB.out⟩
theorem frameL_len (m : List Nat) : (frameL m).length = m.length + 2 := by simp [frameL]
theorem frameL_small {m : List Nat} (h : Small m) (hm : m.length ≤ 600) : Small (frameL m) := by
  intro x hx
  simp only [frameL, List.mem_append, List.mem_cons, List.not_mem_nil, or_false] at hx
  rcases hx with (h1 | h1) | h1
  · omega
  · omega
  · exact h x h1
theorem frameL_lenI (m : List Nat) (hm : m.length ≤ 600) : lenI (frameL m) = m.length := by
  simp [lenI, frameL]; omega
theorem frameL_kind (m : List Nat) (hm : m.length ≤ 600) : kindN (frameL m) = 1 := by
  unfold kindN
  rw [frameL_len, frameL_lenI m hm, if_neg (by omega), if_neg (by omega), if_neg (by omega)]
theorem frameL_body (m : List Nat) (hm : m.length ≤ 600) : nextB (frameL m) = m ∧ nextL (frameL m) = [] ∧ nextO (frameL m) 0 = 0 := by
  have hd : (frameL m).drop 2 = m := rfl
  unfold nextB nextL nextO
  rw [frameL_kind m hm, frameL_lenI m hm, hd, if_pos rfl, if_pos rfl, if_neg (by decide)]
  exact ⟨List.take_length, List.drop_length, rfl⟩
theorem next_frame (q room : Nat) (m : List Nat) (w : World) (h : Buf w q room (frameL m) 0) (hs : Small m) (hm : m.length ≤ 600) :
    Calls Try.prog 16 #[.pointer (some ⟨q, 0, none⟩)] w (RowBuf q room m m.length 1 [] w) := by
  have := next_any q room 0 (frameL m) w h (frameL_small hs hm) (by rw [frameL_len]; omega)
  unfold NextPost at this
  obtain ⟨e1, e2, e3⟩ := frameL_body m hm
  rw [e1, e2, e3, frameL_kind m hm] at this
  exact this
/-- A slice of slices of bytes that came in. -/
def IsRows (w : World) (x : Option Addr) (len : Nat) : Prop := ∀ i, i < len → ∃ b o A c l, x = some ⟨b, o, none⟩ ∧ b < w.heap.size ∧ w.cell? ⟨b, o + i, none⟩ = some (.slice A (l : List Nat).length c) ∧ Small l ∧ Reads .u8 w w.heap.size A l.length (atI l) ∧ l.length ≤ c ∧ c ≤ 9223372036854775807
set_option maxHeartbeats 8000000 in
theorem back_walk (x : Option Addr) (n c : Nat) (w : World) (h : IsRows w x n) (hn : n ≤ 9223372036854775807) :
    Calls Try.prog 4 #[.slice x n c] w fun e w' => e = .returned (.bool true) ∧ Below w.heap.size w w' := by
  have HX := Lib.hid h
  clear h
  by_cases hbig : 50 < n
  · go_enter Try.func4, Try.ntmps4
    go_wp2_with (first
      | (go_at_call 8; refine (fknown_any _).mono ?_; rintro e w' ⟨rfl, hb⟩; obtain ⟨X9, rfl, hl9, hm9⟩ := later (w.heap.size) hb (by first | exact Nat.le_refl _ | go_size); clear hb; (try simp only [World.size_alloc, World.size_setCell, World.size_drew] at hm9)))
    go_ret
    exact ⟨rfl, by repeat' (first | (with_reducible exact Below.refl _ _) | (with_reducible assumption) | (with_reducible refine Later.step ?_ ?_ _) | (with_reducible refine Below.alloc ?_ ?_ _) | (with_reducible refine Below.drew ?_) | (with_reducible refine bel_drewN ?_ _) | (with_reducible refine bel_grown ?_ (by assumption) ?_ ?_) | (with_reducible refine Below.setCell ?_ ?_ _) | go_size)⟩
  · go_enter Try.func4, Try.ntmps4
    go_wp2_with fail
    refine (new_any 4096 _ (by decide) (by decide)).mono ?_
    rintro e w1 ⟨q, rfl, hq, hB1, hb1⟩
    have hs1 := hb1.size
    have hq1 := hB1.lt
    obtain ⟨X1, rfl⟩ : ∃ X : Later w.heap.size w, w1 = X.w := ⟨⟨w1, hb1⟩, rfl⟩
    have HB1 := Lib.hid hB1
    clear hB1 hb1
    go_wp2
    go_loopw [5] (fun i wr => ∃ k : Nat, (k ≤ n ∧ Hid (Buf wr q 4096 [] 0)) ∧ i = .int .i64 k ∧ Below w.heap.size w wr ∧ q < wr.heap.size) (fun i _ => n - (intOf i).toNat)
    case atStart => exact ⟨0, ⟨Nat.zero_le _, HB1.out⟩, rfl, X1.is, by go_size⟩
    case round =>
      obtain ⟨k, ⟨hk, hB⟩, rfl, hbel, hsz⟩ := hrel
      obtain ⟨X, rfl⟩ : ∃ X : Later w.heap.size w, wr = X.w := ⟨⟨wr, hbel⟩, rfl⟩
      clear hbel
      by_cases hlt : k < n
      · obtain ⟨b, o, A, ca, l, rfl, hb, hcell, hsm, hr, hl1, hl2⟩ := HX.out k hlt
        by_cases hlong : 600 < l.length
        · have P1 := Lib.hid (fun X : World => frame_none A l.length ca X hlong (by omega))
          clear hr hsm
          generalize l.length = m at *
          go_wp2_with (first
            | (go_at_call 14; with_reducible refine (P1.out _).mono ?_; rintro e w' ⟨rfl, hb⟩; obtain ⟨X2, rfl, hl2, hm2⟩ := later (X.w.heap.size) hb (by first | exact Nat.le_refl _ | go_size); clear hb; (try simp only [World.size_alloc, World.size_setCell, World.size_drew] at hm2))
            | (go_at_call 8; refine (fknown_any _).mono ?_; rintro e w' ⟨rfl, hb⟩; obtain ⟨X9, rfl, hl9, hm9⟩ := later (X2.w.heap.size) hb (by first | exact Nat.le_refl _ | go_size); clear hb; (try simp only [World.size_alloc, World.size_setCell, World.size_drew] at hm9)))
          go_ret
          exact ⟨rfl, by repeat' (first | (with_reducible exact Below.refl _ _) | (with_reducible assumption) | (with_reducible refine Later.step ?_ ?_ _) | (with_reducible refine Below.alloc ?_ ?_ _) | (with_reducible refine Below.drew ?_) | (with_reducible refine bel_drewN ?_ _) | (with_reducible refine bel_grown ?_ (by assumption) ?_ ?_) | (with_reducible refine Below.setCell ?_ ?_ _) | go_size)⟩
        · have hm : l.length ≤ 600 := by omega
          have HR := Lib.hid hr
          have HS := Lib.hid hsm
          have P1 := Lib.hid (fun Y : Later w.heap.size w => frame_any A ca l Y.w ((hr.keep Y.is).more Y.is.size) hm)
          have P2 := Lib.hid (fun Y : Later w.heap.size w => rframe_any A ca l Y.w ((hr.keep Y.is).more Y.is.size) hm)
          have P3 := Lib.hid (fun (Y : World) (C D : Option Addr) (cc dd : Nat) (h1 : Reads .u8 Y Y.heap.size C (frameL l).length (atI (frameL l))) (h2 : Reads .u8 Y Y.heap.size D (frameL l).length (atI (frameL l))) => lsame_any C D (frameL l) (frameL l) cc dd Y h1 h2 (by rw [frameL_len]; omega) (by rw [frameL_len]; omega))
          rw [decide_eq_true (rfl : frameL l = frameL l)] at P3
          have P4 := Lib.hid (fun (Y : World) (C : Option Addr) (cc : Nat) (hB : Buf Y q 4096 [] 0) (h1 : Reads .u8 Y Y.heap.size C (frameL l).length (atI (frameL l))) (g1 : (frameL l).length ≤ cc) (g2 : cc ≤ 9223372036854775807) => feed_yes q 4096 [] (frameL l) C cc Y hB h1 g1 g2 (by omega) (by simp) (by rw [frameL_len]; simp; omega))
          rw [List.nil_append] at P4
          have P5 := Lib.hid (fun (Y : World) (hB : Buf Y q 4096 (frameL l) 0) => next_frame q 4096 l Y hB hsm hm)
          have P6 := Lib.hid (fun (Y : Later w.heap.size w) (C : Option Addr) (cc : Nat) (h1 : Reads .u8 Y.w Y.w.heap.size C l.length (atI l)) => lsame_any C A l l cc ca Y.w h1 ((hr.keep Y.is).more Y.is.size) (by omega) (by omega))
          rw [decide_eq_true (rfl : l = l)] at P6
          have P7 := Lib.hid (fun (Y : World) (hB : Buf Y q 4096 [] 0) => waiting_any q 4096 0 [] Y hB (by decide))
          clear hr hsm
          generalize frameL l = fl at *
          generalize fl.length = nf at *
          go_wp2_with fail
          refine (P1.out X).mono ?_
          rintro e w2 ⟨⟨C2, c2, rfl, own2⟩, hb2⟩
          have hs2 := hb2.size
          have HB2 := Lib.hid (hB.out.keep hb2)
          have HR2 := Lib.hid (Reads.own own2)
          have hc2 := own_cap own2
          obtain ⟨X2, rfl⟩ : ∃ Y : Later w.heap.size w, w2 = Y.w := ⟨⟨w2, X.is.trans (hb2.mono X.is.size)⟩, rfl⟩
          clear own2 hb2
          go_wp2_with fail
          refine (P2.out X2).mono ?_
          rintro e w3 ⟨⟨C3, c3, rfl, own3⟩, hb3⟩
          have hs3 := hb3.size
          have HB3 := Lib.hid (HB2.out.keep hb3)
          have HR3 := Lib.hid (Reads.own own3)
          have HR23 := Lib.hid ((HR2.out.keep hb3).more hs3)
          obtain ⟨X3, rfl⟩ : ∃ Y : Later w.heap.size w, w3 = Y.w := ⟨⟨w3, X2.is.trans (hb3.mono X2.is.size)⟩, rfl⟩
          clear own3 hb3
          go_wp2_with fail
          refine (P3.out _ _ _ _ _ HR23.out HR3.out).mono ?_
          rintro e w4 ⟨rfl, hb4⟩
          have hs4 := hb4.size
          have HB4 := Lib.hid (HB3.out.keep hb4)
          have HR24 := Lib.hid ((HR23.out.keep hb4).more hs4)
          obtain ⟨X4, rfl⟩ : ∃ Y : Later w.heap.size w, w4 = Y.w := ⟨⟨w4, X3.is.trans (hb4.mono X3.is.size)⟩, rfl⟩
          clear hb4
          go_wp2_with fail
          refine (P4.out _ _ _ HB4.out HR24.out hc2.1 hc2.2).mono ?_
          rintro e w5 ⟨rfl, hb5, hs5, hB5⟩
          have HB5 := Lib.hid hB5
          obtain ⟨X5, rfl⟩ : ∃ Y : Later w.heap.size w, w5 = Y.w := ⟨⟨w5, X4.is.trans (hb5.mono hq)⟩, rfl⟩
          clear hb5 hB5
          go_wp2_with fail
          refine (P5.out _ HB5.out).mono ?_
          rintro e w6 ⟨⟨A6, c6, rfl, own6⟩, hB6, hb6, hs6, _⟩
          have HB6 := Lib.hid hB6
          have HR6 := Lib.hid (Reads.own own6)
          obtain ⟨X6, rfl⟩ : ∃ Y : Later w.heap.size w, w6 = Y.w := ⟨⟨w6, X5.is.trans (hb6.mono hq)⟩, rfl⟩
          clear hb6 hB6 own6
          go_wp2_with fail
          refine (P6.out X6 _ _ HR6.out).mono ?_
          rintro e w7 ⟨rfl, hb7⟩
          have hs7 := hb7.size
          have HB7 := Lib.hid (HB6.out.keep hb7)
          obtain ⟨X7, rfl⟩ : ∃ Y : Later w.heap.size w, w7 = Y.w := ⟨⟨w7, X6.is.trans (hb7.mono X6.is.size)⟩, rfl⟩
          clear hb7
          go_wp2_with fail
          refine (P7.out _ HB7.out).mono ?_
          rintro e w8 ⟨rfl, hb8⟩
          have hs8 := hb8.size
          have HB8 := Lib.hid (HB7.out.keep hb8)
          obtain ⟨X8, rfl⟩ : ∃ Y : Later w.heap.size w, w8 = Y.w := ⟨⟨w8, X7.is.trans (hb8.mono X7.is.size)⟩, rfl⟩
          clear hb8
          go_wp2
          go_roundw
          case rel => exact ⟨k + 1, ⟨by omega, HB8.out⟩, by go_num, X8.is, by omega⟩
          case measure => simp [intOf]; omega
      · obtain rfl : k = n := by omega
        go_wp2_with (first
          | (go_at_call 8; refine (fknown_any _).mono ?_; rintro e w' ⟨rfl, hb⟩; obtain ⟨X9, rfl, hl9, hm9⟩ := later (X.w.heap.size) hb (by first | exact Nat.le_refl _ | go_size); clear hb; (try simp only [World.size_alloc, World.size_setCell, World.size_drew] at hm9)))
        go_ret
        exact ⟨rfl, by repeat' (first | (with_reducible exact Below.refl _ _) | (with_reducible assumption) | (with_reducible refine Later.step ?_ ?_ _) | (with_reducible refine Below.alloc ?_ ?_ _) | (with_reducible refine Below.drew ?_) | (with_reducible refine bel_drewN ?_ _) | (with_reducible refine bel_grown ?_ (by assumption) ?_ ?_) | (with_reducible refine Below.setCell ?_ ?_ _) | go_size)⟩
theorem back_law (x : Option Addr) (n c : Nat) (w : World) (f : n ≤ 9223372036854775807 ∧ ∀ i, i < n → ∃ ad A k c zs, x = some ad ∧ w.cell? (ad.add i) = some (.slice A k c) ∧ IsRow .u8 w A k c zs) :
    Calls Try.prog 4 #[.slice x n c] w fun e w' => e = .returned (.bool true) ∧ Below w.heap.size w w' := back_walk x n c w (rows_of f.2) f.1
end Go.Proofs.Ythcecinhlhgohaa
