/- An answer's items are put, walked. No condition beyond what the memory holds. -/
import Derived.Test.YtdjkhcnejbinjaaRepF
namespace Go.Proofs.Ytdjkhcnejbinjaa
open Go.RowKit
set_option linter.unusedSimpArgs false
set_option linter.unusedVariables false
set_option maxRecDepth 2000

def seenL (f : Nat → Nat → Int) (i : Nat) : List Nat := wsL [f i 0] 2 ++ (wsL [f i 1] 1 ++ wsL [f i 2, f i 3, f i 4, f i 5] 2)
def evL (g : Nat → Nat → Int) (i : Nat) : List Nat := wsL [g i 0] 2 ++ (wsL [g i 1, g i 2] 1 ++ wsL [g i 3] 4)
def manyL (F : Nat → List Nat) (n : Nat) : List Nat := (List.range n).flatMap F
theorem manyL_succ (F : Nat → List Nat) (n : Nat) : manyL F (n + 1) = manyL F n ++ F n := by simp [manyL, List.range_succ]
theorem manyL_len {F : Nat → List Nat} {c : Nat} (h : ∀ i, (F i).length = c) : ∀ n, (manyL F n).length = n * c
  | 0 => by simp [manyL]
  | n + 1 => by rw [manyL_succ, List.length_append, manyL_len h n, h, Nat.add_mul]; omega
theorem seenL_len (f : Nat → Nat → Int) (i : Nat) : (seenL f i).length = 11 := by simp only [seenL, List.length_append, wsL_len, List.length_cons, List.length_nil]
theorem evL_len (g : Nat → Nat → Int) (i : Nat) : (evL g i).length = 8 := by simp only [evL, List.length_append, wsL_len, List.length_cons, List.length_nil]
set_option maxHeartbeats 16000000 in
theorem witems_any (q : Nat) (l : List Nat) (s sec id x y lab b0 b1 b2 b3 : Int) (A1 A2 : Option Addr) (ns ne c1 c2 : Nat) (f g : Nat → Nat → Int) (w : World) (h : Wr w q l) (h1 : IsItems w q A1 ns 6 f) (h2 : IsItems w q A2 ne 4 g) (hs : ∀ i, i < ns → seenOk f i) (he : ∀ i, i < ne → evOk g i) (hn1 : ns ≤ 64) (hn2 : ne ≤ 64) (hl : l.length ≤ 1000) :
    Calls Try.prog 29 #[.pointer (some ⟨q, 0, none⟩), .agg #[.int .i64 s, .int .u64 sec, .int .i64 id, .int .i64 x, .int .i64 y, .int .i64 lab, .int .i64 b0, .int .i64 b1, .int .i64 b2, .int .i64 b3, .slice A1 ns c1, .slice A2 ne c2]] w fun e w' => e = .returned (.tuple #[]) ∧ Wr w' q (l ++ (manyL (seenL f) ns ++ manyL (evL g) ne)) ∧ Below q w w' ∧ KeptW w w' q := by
  have hq := h.lt
  have HW := Lib.hid h
  have H1 := Lib.hid h1
  have H2 := Lib.hid h2
  have HS := Lib.hid hs
  have HE := Lib.hid he
  have hbx0 := heap_alloc_new w (Obj.cells #[.int .i64 s, .int .u64 sec, .int .i64 id, .int .i64 x, .int .i64 y, .int .i64 lab, .int .i64 b0, .int .i64 b1, .int .i64 b2, .int .i64 b3, .slice A1 ns c1, .slice A2 ne c2] 38)
  have HBX := Lib.hid hbx0
  clear h h1 h2 hs he hbx0
  go_enter Try.func29, Try.ntmps29
  go_wp2
  go_loopw [11] (fun i wr => ∃ k : Nat, k ≤ ns ∧ i = .int .i64 k ∧ Hid (Wr wr q (l ++ manyL (seenL f) k)) ∧ Below q w wr ∧ Hid (KeptW (w.alloc (Obj.cells #[.int .i64 s, .int .u64 sec, .int .i64 id, .int .i64 x, .int .i64 y, .int .i64 lab, .int .i64 b0, .int .i64 b1, .int .i64 b2, .int .i64 b3, .slice A1 ns c1, .slice A2 ne c2] 38)) wr q)) (fun i _ => ns - (intOf i).toNat)
  case atStart => exact ⟨0, Nat.zero_le _, rfl, by simpa [Hid, manyL] using HW.out.keep (by repeat' (first | (with_reducible exact Below.refl _ _) | (with_reducible assumption) | (with_reducible refine Later.step ?_ ?_ _) | (with_reducible refine Below.alloc ?_ ?_ _) | (with_reducible refine Below.drew ?_) | (with_reducible refine bel_drewN ?_ _) | (with_reducible refine bel_grown ?_ (by assumption) ?_ ?_) | (with_reducible refine Below.setCell ?_ ?_ _) | go_size)), by repeat' (first | (with_reducible exact Below.refl _ _) | (with_reducible assumption) | (with_reducible refine Later.step ?_ ?_ _) | (with_reducible refine Below.alloc ?_ ?_ _) | (with_reducible refine Below.drew ?_) | (with_reducible refine bel_drewN ?_ _) | (with_reducible refine bel_grown ?_ (by assumption) ?_ ?_) | (with_reducible refine Below.setCell ?_ ?_ _) | go_size), ⟨Nat.le_refl _, fun _ _ _ _ => rfl⟩⟩
  case round =>
    obtain ⟨k, hk, rfl, hw, hb, hkp⟩ := hrel
    have hsz := hkp.out.1
    rw [World.size_alloc] at hsz
    obtain ⟨X, rfl⟩ : ∃ Z : Later q w, wr = Z.w := ⟨⟨wr, hb⟩, rfl⟩
    clear hb
    have hlen : (l ++ manyL (seenL f) k).length ≤ 1704 := by
      rw [List.length_append, manyL_len (seenL_len f)]
      omega
    by_cases hlt : k < ns
    · obtain ⟨b, o, rfl, hbl, hc⟩ := H1.out (by omega)
      have k0 := hc k hlt 0 (by omega)
      have k1 := hc k hlt 1 (by omega)
      have k2 := hc k hlt 2 (by omega)
      have k3 := hc k hlt 3 (by omega)
      have k4 := hc k hlt 4 (by omega)
      have k5 := hc k hlt 5 (by omega)
      rw [Nat.add_zero] at k0
      obtain ⟨o0, o1, o2⟩ := HS.out k hlt
      obtain ⟨L, hL⟩ : ∃ L, l ++ manyL (seenL f) k = L := ⟨_, rfl⟩
      rw [hL] at hw hlen
      have HLL := Lib.hid hL
      have hsb := heap_alloc_new X.w (Obj.cells #[.int .i64 (f k 0), .int .i64 (f k 1), .int .i64 (f k 2), .int .i64 (f k 3), .int .i64 (f k 4), .int .i64 (f k 5)] 61)
      clear hc hL
      go_wp2_with fail
      refine (wput_at q 2 L [f k 0] (X.w.heap.size + 1) 1 1 2 _ (hw.out.keep (by repeat' (first | (with_reducible exact Below.refl _ _) | (with_reducible assumption) | (with_reducible refine Later.step ?_ ?_ _) | (with_reducible refine Below.alloc ?_ ?_ _) | (with_reducible refine Below.drew ?_) | (with_reducible refine bel_drewN ?_ _) | (with_reducible refine bel_grown ?_ (by assumption) ?_ ?_) | (with_reducible refine Below.setCell ?_ ?_ _) | go_size))) (ints_new (by go_size) rfl) (by omega) (fun n hn => by simp at hn; subst hn; unfold fitsW; omega) (by decide) (by decide) rfl rfl (by simp) (by omega)).mono ?_
      rintro e w3 ⟨rfl, hW3, hb3, hk3⟩
      have hs3 := hk3.1
      simp only [World.size_alloc] at hs3
      have hbox := box_kept ((heap_alloc_old _ _ (by go_size)).trans hsb) hk3 (by omega) (by decide)
      have d1 := cell_heap (j := 1) hbox rfl
      have HB3 := Lib.hid hbox
      have HK3 := Lib.hid ((keptW_below (w := X.w) q (by repeat' (first | (with_reducible exact Below.refl _ _) | (with_reducible assumption) | (with_reducible refine Later.step ?_ ?_ _) | (with_reducible refine Below.alloc ?_ ?_ _) | (with_reducible refine Below.drew ?_) | (with_reducible refine bel_drewN ?_ _) | (with_reducible refine bel_grown ?_ (by assumption) ?_ ?_) | (with_reducible refine Below.setCell ?_ ?_ _) | go_size))).trans hk3)
      have HW3 := Lib.hid hW3
      have hb9 : Below q X.w w3 := Below.trans (b := (X.w.alloc (Obj.cells #[.int .i64 (f k 0), .int .i64 (f k 1), .int .i64 (f k 2), .int .i64 (f k 3), .int .i64 (f k 4), .int .i64 (f k 5)] 61)).alloc (Obj.cells #[.int .i64 (f k 0)] 3)) (by repeat' (first | (with_reducible exact Below.refl _ _) | (with_reducible assumption) | (with_reducible refine Later.step ?_ ?_ _) | (with_reducible refine Below.alloc ?_ ?_ _) | (with_reducible refine Below.drew ?_) | (with_reducible refine bel_drewN ?_ _) | (with_reducible refine bel_grown ?_ (by assumption) ?_ ?_) | (with_reducible refine Below.setCell ?_ ?_ _) | go_size)) hb3
      obtain ⟨X3, rfl⟩ : ∃ Z : Later q X.w, w3 = Z.w := ⟨⟨w3, hb9⟩, rfl⟩
      clear hW3 hb3 hk3 hb9 hbox hsb
      go_wp2_with fail
      refine (wput_at q 1 (L ++ wsL [f k 0] 2) [f k 1] X3.w.heap.size 1 1 1 _ (HW3.out.keep (by repeat' (first | (with_reducible exact Below.refl _ _) | (with_reducible assumption) | (with_reducible refine Later.step ?_ ?_ _) | (with_reducible refine Below.alloc ?_ ?_ _) | (with_reducible refine Below.drew ?_) | (with_reducible refine bel_drewN ?_ _) | (with_reducible refine bel_grown ?_ (by assumption) ?_ ?_) | (with_reducible refine Below.setCell ?_ ?_ _) | go_size))) (ints_new rfl rfl) (by omega) (fun n hn => by simp at hn; subst hn; unfold fitsW; omega) (by decide) (by decide) rfl rfl (by simp) (by rw [List.length_append, wsL_len]; simp; omega)).mono ?_
      rintro e w4 ⟨rfl, hW4, hb4, hk4⟩
      have hs4 := hk4.1
      simp only [World.size_alloc] at hs4
      have hbox := box_kept ((heap_alloc_old _ _ (by omega)).trans HB3.out) hk4 (by omega) (by decide)
      have d2 := cell_heap (j := 2) hbox rfl
      have d3 := cell_heap (j := 3) hbox rfl
      have d4 := cell_heap (j := 4) hbox rfl
      have d5 := cell_heap (j := 5) hbox rfl
      have HK4 := Lib.hid ((HK3.out.trans (keptW_below q (by repeat' (first | (with_reducible exact Below.refl _ _) | (with_reducible assumption) | (with_reducible refine Later.step ?_ ?_ _) | (with_reducible refine Below.alloc ?_ ?_ _) | (with_reducible refine Below.drew ?_) | (with_reducible refine bel_drewN ?_ _) | (with_reducible refine bel_grown ?_ (by assumption) ?_ ?_) | (with_reducible refine Below.setCell ?_ ?_ _) | go_size)))).trans hk4)
      have HW4 := Lib.hid hW4
      have hb9 : Below q X.w w4 := Below.trans (b := X3.w.alloc (Obj.cells #[.int .i64 (f k 1)] 3)) (by repeat' (first | (with_reducible exact Below.refl _ _) | (with_reducible assumption) | (with_reducible refine Later.step ?_ ?_ _) | (with_reducible refine Below.alloc ?_ ?_ _) | (with_reducible refine Below.drew ?_) | (with_reducible refine bel_drewN ?_ _) | (with_reducible refine bel_grown ?_ (by assumption) ?_ ?_) | (with_reducible refine Below.setCell ?_ ?_ _) | go_size)) hb4
      obtain ⟨X4, rfl⟩ : ∃ Z : Later q X.w, w4 = Z.w := ⟨⟨w4, hb9⟩, rfl⟩
      clear hW4 hb4 hk4 hb9 hbox d1
      go_wp2_with fail
      refine (wrect_any q (L ++ wsL [f k 0] 2 ++ wsL [f k 1] 1) (f k 2) (f k 3) (f k 4) (f k 5) X4.w HW4.out o2 (by rw [List.length_append, List.length_append, wsL_len, wsL_len]; simp; omega)).mono ?_
      rintro e w5 ⟨rfl, hW5, hb5, hk5⟩
      have hs5 := hk5.1
      have HK5 := Lib.hid ((hkp.out.trans (HK4.out)).trans hk5)
      have HW5 := Lib.hid hW5
      obtain ⟨X5, rfl⟩ : ∃ Z : Later q X4.w, w5 = Z.w := ⟨⟨w5, hb5⟩, rfl⟩
      clear hW5 hb5 hk5
      go_wp2
      go_roundw
      case rel =>
        have e1 : L ++ wsL [f k 0] 2 ++ wsL [f k 1] 1 ++ wsL [f k 2, f k 3, f k 4, f k 5] 2 = l ++ manyL (seenL f) (k + 1) := by
          rw [manyL_succ, ← List.append_assoc, HLL.out, seenL]
          simp only [List.append_assoc]
        have hW5 := HW5.out
        rw [e1] at hW5
        exact ⟨k + 1, by omega, by go_num, hW5, by repeat' (first | (with_reducible exact Below.refl _ _) | (with_reducible assumption) | (with_reducible refine Later.step ?_ ?_ _) | (with_reducible refine Below.alloc ?_ ?_ _) | (with_reducible refine Below.drew ?_) | (with_reducible refine bel_drewN ?_ _) | (with_reducible refine bel_grown ?_ (by assumption) ?_ ?_) | (with_reducible refine Below.setCell ?_ ?_ _) | go_size), HK5.out⟩
      case measure => simp [intOf]; omega
    · obtain rfl : ns = k := by omega
      have hbox := box_kept HBX.out hkp.out (by omega) (by decide)
      have d11 := cell_heap (j := 11) hbox rfl
      clear hbox
      go_wp2
      go_loopw [33] (fun i wr => ∃ k : Nat, k ≤ ne ∧ i = .int .i64 k ∧ Hid (Wr wr q (l ++ manyL (seenL f) ns ++ manyL (evL g) k)) ∧ Below q X.w wr ∧ Hid (KeptW X.w wr q)) (fun i _ => ne - (intOf i).toNat)
      case atStart => exact ⟨0, Nat.zero_le _, rfl, by simpa [Hid, manyL] using hw.out, Below.refl _ _, ⟨Nat.le_refl _, fun _ _ _ _ => rfl⟩⟩
      case round =>
        obtain ⟨k, hk, rfl, hw, hb, hkp2⟩ := hrel
        have hsz2 := hkp2.out.1
        obtain ⟨V, rfl⟩ : ∃ Z : Later q X.w, wr = Z.w := ⟨⟨wr, hb⟩, rfl⟩
        clear hb
        have hlen : (l ++ manyL (seenL f) ns ++ manyL (evL g) k).length ≤ 2400 := by
          rw [List.length_append, List.length_append, manyL_len (seenL_len f), manyL_len (evL_len g)]
          omega
        by_cases hlt : k < ne
        · obtain ⟨b, o, rfl, hbl, hc⟩ := H2.out (by omega)
          have k0 := hc k hlt 0 (by omega)
          have k1 := hc k hlt 1 (by omega)
          have k2 := hc k hlt 2 (by omega)
          have k3 := hc k hlt 3 (by omega)
          rw [Nat.add_zero] at k0
          obtain ⟨o0, ⟨o1, o2⟩, o3⟩ := HE.out k hlt
          obtain ⟨L, hL⟩ : ∃ L, l ++ manyL (seenL f) ns ++ manyL (evL g) k = L := ⟨_, rfl⟩
          rw [hL] at hw hlen
          have HLL := Lib.hid hL
          have hsb := heap_alloc_new V.w (Obj.cells #[.int .i64 (g k 0), .int .i64 (g k 1), .int .i64 (g k 2), .int .i64 (g k 3)] 64)
          clear hc hL
          go_wp2_with fail
          refine (wput_at q 2 L [g k 0] (V.w.heap.size + 1) 1 1 2 _ (hw.out.keep (by repeat' (first | (with_reducible exact Below.refl _ _) | (with_reducible assumption) | (with_reducible refine Later.step ?_ ?_ _) | (with_reducible refine Below.alloc ?_ ?_ _) | (with_reducible refine Below.drew ?_) | (with_reducible refine bel_drewN ?_ _) | (with_reducible refine bel_grown ?_ (by assumption) ?_ ?_) | (with_reducible refine Below.setCell ?_ ?_ _) | go_size))) (ints_new (by go_size) rfl) (by omega) (fun n hn => by simp at hn; subst hn; unfold fitsW; omega) (by decide) (by decide) rfl rfl (by simp) (by omega)).mono ?_
          rintro e w3 ⟨rfl, hW3, hb3, hk3⟩
          have hs3 := hk3.1
          simp only [World.size_alloc] at hs3
          have hbox := box_kept ((heap_alloc_old _ _ (by go_size)).trans hsb) hk3 (by omega) (by decide)
          have d1 := cell_heap (j := 1) hbox rfl
          have d2 := cell_heap (j := 2) hbox rfl
          have HB3 := Lib.hid hbox
          have HK3 := Lib.hid ((keptW_below (w := V.w) q (by repeat' (first | (with_reducible exact Below.refl _ _) | (with_reducible assumption) | (with_reducible refine Later.step ?_ ?_ _) | (with_reducible refine Below.alloc ?_ ?_ _) | (with_reducible refine Below.drew ?_) | (with_reducible refine bel_drewN ?_ _) | (with_reducible refine bel_grown ?_ (by assumption) ?_ ?_) | (with_reducible refine Below.setCell ?_ ?_ _) | go_size))).trans hk3)
          have HW3 := Lib.hid hW3
          have hb9 : Below q V.w w3 := Below.trans (b := (V.w.alloc (Obj.cells #[.int .i64 (g k 0), .int .i64 (g k 1), .int .i64 (g k 2), .int .i64 (g k 3)] 64)).alloc (Obj.cells #[.int .i64 (g k 0)] 3)) (by repeat' (first | (with_reducible exact Below.refl _ _) | (with_reducible assumption) | (with_reducible refine Later.step ?_ ?_ _) | (with_reducible refine Below.alloc ?_ ?_ _) | (with_reducible refine Below.drew ?_) | (with_reducible refine bel_drewN ?_ _) | (with_reducible refine bel_grown ?_ (by assumption) ?_ ?_) | (with_reducible refine Below.setCell ?_ ?_ _) | go_size)) hb3
          obtain ⟨X3, rfl⟩ : ∃ Z : Later q V.w, w3 = Z.w := ⟨⟨w3, hb9⟩, rfl⟩
          clear hW3 hb3 hk3 hb9 hbox hsb
          go_wp2_with fail
          refine (wput_at q 1 (L ++ wsL [g k 0] 2) [g k 1, g k 2] X3.w.heap.size 2 2 1 _ (HW3.out.keep (by repeat' (first | (with_reducible exact Below.refl _ _) | (with_reducible assumption) | (with_reducible refine Later.step ?_ ?_ _) | (with_reducible refine Below.alloc ?_ ?_ _) | (with_reducible refine Below.drew ?_) | (with_reducible refine bel_drewN ?_ _) | (with_reducible refine bel_grown ?_ (by assumption) ?_ ?_) | (with_reducible refine Below.setCell ?_ ?_ _) | go_size))) (ints_new rfl rfl) (by omega) (fun n hn => by simp at hn; rcases hn with rfl | rfl <;> (unfold fitsW; omega)) (by decide) (by decide) rfl rfl (by simp) (by rw [List.length_append, wsL_len]; simp; omega)).mono ?_
          rintro e w4 ⟨rfl, hW4, hb4, hk4⟩
          have hs4 := hk4.1
          simp only [World.size_alloc] at hs4
          have hbox := box_kept ((heap_alloc_old _ _ (by omega)).trans HB3.out) hk4 (by omega) (by decide)
          have d3 := cell_heap (j := 3) hbox rfl
          have HK4 := Lib.hid ((HK3.out.trans (keptW_below q (by repeat' (first | (with_reducible exact Below.refl _ _) | (with_reducible assumption) | (with_reducible refine Later.step ?_ ?_ _) | (with_reducible refine Below.alloc ?_ ?_ _) | (with_reducible refine Below.drew ?_) | (with_reducible refine bel_drewN ?_ _) | (with_reducible refine bel_grown ?_ (by assumption) ?_ ?_) | (with_reducible refine Below.setCell ?_ ?_ _) | go_size)))).trans hk4)
          have HW4 := Lib.hid hW4
          have hb9 : Below q V.w w4 := Below.trans (b := X3.w.alloc (Obj.cells #[.int .i64 (g k 1), .int .i64 (g k 2)] 3)) (by repeat' (first | (with_reducible exact Below.refl _ _) | (with_reducible assumption) | (with_reducible refine Later.step ?_ ?_ _) | (with_reducible refine Below.alloc ?_ ?_ _) | (with_reducible refine Below.drew ?_) | (with_reducible refine bel_drewN ?_ _) | (with_reducible refine bel_grown ?_ (by assumption) ?_ ?_) | (with_reducible refine Below.setCell ?_ ?_ _) | go_size)) hb4
          obtain ⟨X4, rfl⟩ : ∃ Z : Later q V.w, w4 = Z.w := ⟨⟨w4, hb9⟩, rfl⟩
          clear hW4 hb4 hk4 hb9 hbox d1 d2
          go_wp2_with fail
          refine (wput_at q 4 (L ++ wsL [g k 0] 2 ++ wsL [g k 1, g k 2] 1) [g k 3] X4.w.heap.size 1 1 4 _ (HW4.out.keep (by repeat' (first | (with_reducible exact Below.refl _ _) | (with_reducible assumption) | (with_reducible refine Later.step ?_ ?_ _) | (with_reducible refine Below.alloc ?_ ?_ _) | (with_reducible refine Below.drew ?_) | (with_reducible refine bel_drewN ?_ _) | (with_reducible refine bel_grown ?_ (by assumption) ?_ ?_) | (with_reducible refine Below.setCell ?_ ?_ _) | go_size))) (ints_new rfl rfl) (by omega) (fun n hn => by simp at hn; subst hn; unfold fitsW; omega) (by decide) (by decide) rfl rfl (by simp) (by rw [List.length_append, List.length_append, wsL_len, wsL_len]; simp; omega)).mono ?_
          rintro e w5 ⟨rfl, hW5, hb5, hk5⟩
          have hs5 := hk5.1
          simp only [World.size_alloc] at hs5
          have HK5 := Lib.hid ((hkp2.out.trans HK4.out).trans ((keptW_below q (by repeat' (first | (with_reducible exact Below.refl _ _) | (with_reducible assumption) | (with_reducible refine Later.step ?_ ?_ _) | (with_reducible refine Below.alloc ?_ ?_ _) | (with_reducible refine Below.drew ?_) | (with_reducible refine bel_drewN ?_ _) | (with_reducible refine bel_grown ?_ (by assumption) ?_ ?_) | (with_reducible refine Below.setCell ?_ ?_ _) | go_size))).trans hk5))
          have HW5 := Lib.hid hW5
          have hb9 : Below q X4.w w5 := Below.trans (b := X4.w.alloc (Obj.cells #[.int .i64 (g k 3)] 3)) (by repeat' (first | (with_reducible exact Below.refl _ _) | (with_reducible assumption) | (with_reducible refine Later.step ?_ ?_ _) | (with_reducible refine Below.alloc ?_ ?_ _) | (with_reducible refine Below.drew ?_) | (with_reducible refine bel_drewN ?_ _) | (with_reducible refine bel_grown ?_ (by assumption) ?_ ?_) | (with_reducible refine Below.setCell ?_ ?_ _) | go_size)) hb5
          obtain ⟨X5, rfl⟩ : ∃ Z : Later q X4.w, w5 = Z.w := ⟨⟨w5, hb9⟩, rfl⟩
          clear hW5 hb5 hk5 hb9
          go_wp2
          go_roundw
          case rel =>
            have e1 : L ++ wsL [g k 0] 2 ++ wsL [g k 1, g k 2] 1 ++ wsL [g k 3] 4 = l ++ manyL (seenL f) ns ++ manyL (evL g) (k + 1) := by
              rw [manyL_succ, ← List.append_assoc, HLL.out, evL]
              simp only [List.append_assoc]
            have hW5 := HW5.out
            rw [e1] at hW5
            first
              | exact ⟨k + 1, by omega, by go_num, hW5, by repeat' (first | (with_reducible exact Below.refl _ _) | (with_reducible assumption) | (with_reducible refine Later.step ?_ ?_ _) | (with_reducible refine Below.alloc ?_ ?_ _) | (with_reducible refine Below.drew ?_) | (with_reducible refine bel_drewN ?_ _) | (with_reducible refine bel_grown ?_ (by assumption) ?_ ?_) | (with_reducible refine Below.setCell ?_ ?_ _) | go_size), HK5.out⟩
              | ((repeat apply Exists.intro); exact ⟨⟨k + 1, by omega, by go_num, hW5, by repeat' (first | (with_reducible exact Below.refl _ _) | (with_reducible assumption) | (with_reducible refine Later.step ?_ ?_ _) | (with_reducible refine Below.alloc ?_ ?_ _) | (with_reducible refine Below.drew ?_) | (with_reducible refine bel_drewN ?_ _) | (with_reducible refine bel_grown ?_ (by assumption) ?_ ?_) | (with_reducible refine Below.setCell ?_ ?_ _) | go_size), HK5.out⟩, rfl⟩)
          case measure => simp [intOf]; omega
        · obtain rfl : k = ne := by omega
          go_wp2
          go_end0
          have hW9 := hw.out
          rw [List.append_assoc] at hW9
          exact ⟨rfl, hW9, by repeat' (first | (with_reducible exact Below.refl _ _) | (with_reducible assumption) | (with_reducible refine Later.step ?_ ?_ _) | (with_reducible refine Below.alloc ?_ ?_ _) | (with_reducible refine Below.drew ?_) | (with_reducible refine bel_drewN ?_ _) | (with_reducible refine bel_grown ?_ (by assumption) ?_ ?_) | (with_reducible refine Below.setCell ?_ ?_ _) | go_size), ((keptW_below q (by repeat' (first | (with_reducible exact Below.refl _ _) | (with_reducible assumption) | (with_reducible refine Later.step ?_ ?_ _) | (with_reducible refine Below.alloc ?_ ?_ _) | (with_reducible refine Below.drew ?_) | (with_reducible refine bel_drewN ?_ _) | (with_reducible refine bel_grown ?_ (by assumption) ?_ ?_) | (with_reducible refine Below.setCell ?_ ?_ _) | go_size))).trans hkp.out).trans hkp2.out⟩
end Go.Proofs.Ytdjkhcnejbinjaa
