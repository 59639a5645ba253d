/- An answer's bytes by the document, walked. No condition beyond what the slices read as. -/
import Derived.Test.YtdjkhcnejbinjaaRepN
namespace Go.Proofs.Ytdjkhcnejbinjaa
open Go.RowKit
set_option linter.unusedSimpArgs false
set_option linter.unusedVariables false
set_option maxRecDepth 2000

theorem box_keptB {w w' : World} {b : Nat} {cs : Array Value} {t : TypeId} {fz : Nat × Nat} (h : w.heap[b]? = some (.cells cs t fz)) (hk : KeptB w w') (ht : t ≠ 5) : w'.heap[b]? = some (.cells cs t fz) := box_kept h (hk (b + 1)) (by omega) ht
theorem box_keptD {w w' : World} {b : Nat} {cs : Array Value} {t : TypeId} {fz : Nat × Nat} (h : w.heap[b]? = some (.cells cs t fz)) (hk : KeptB w.drew w') (ht : t ≠ 5) : w'.heap[b]? = some (.cells cs t fz) := box_keptB (w := w.drew) h hk ht
/-- A row of bytes behind a call of the document's. -/
def RowB (base : Nat) (l : List Nat) (w : World) (e : Ending) (w' : World) : Prop :=
  (∃ A n c, e = .returned (.slice A n c) ∧ l.length = n ∧ w'.ownsRow base 5 1 (.slice A n c) n (rowV .u8 n (atI l))) ∧ Below base w w' ∧ KeptB w w'
theorem bput_at (base wide n : Nat) (l : List Nat) (A : Option Addr) (c : Nat) (v wd : Int) (w : World) (own : w.ownsRow base 5 1 (.slice A n c) n (rowV .u8 n (atI l))) (hn : l.length = n) (hwd : wd = (wide : Nat)) (hb : base ≤ w.heap.size) (hf : fitsW v wide) (w1 : 1 ≤ wide) (w8 : wide ≤ 8) (hl : n ≤ 100000) :
    Calls Try.prog 36 #[.slice A n c, .int .u64 v, .int .i64 wd] w (RowB base (l ++ wL v wide) w) := by
  subst hn hwd
  exact (bput_any base wide l A c v w own hb hf w1 w8 hl).mono fun e w' ⟨⟨A', c', he, ho⟩, hb, hk⟩ => ⟨⟨A', _, c', he, by rw [List.length_append, wL_len], ho⟩, hb, hk⟩
theorem brect_at (base n : Nat) (l : List Nat) (A : Option Addr) (cc : Nat) (a b c d : Int) (w : World) (own : w.ownsRow base 5 1 (.slice A n cc) n (rowV .u8 n (atI l))) (hn : l.length = n) (hb : base ≤ w.heap.size) (hr : rightB a b c d = true) (hl : n ≤ 10000) :
    Calls Try.prog 37 #[.slice A n cc, .agg #[.int .i64 a, .int .i64 b, .int .i64 c, .int .i64 d]] w (RowB base (l ++ wsL [a, b, c, d] 2) w) := by
  subst hn
  exact (brect_any base l A cc a b c d w own hb hr hl).mono fun e w' ⟨⟨A', c', he, ho⟩, hb, hk⟩ => ⟨⟨A', _, c', he, by rw [List.length_append, wsL_len]; rfl, ho⟩, hb, hk⟩
theorem own_lit3 {w : World} {b : Nat} {x y z : Int} {l : List Nat} (hb : b = w.heap.size) (hl : l = [x.toNat, y.toNat, z.toNat]) (hx : 0 ≤ x) (hy : 0 ≤ y) (hz : 0 ≤ z) : (w.alloc (Obj.cells #[.int .u8 x, .int .u8 y, .int .u8 z] 5)).ownsRow b 5 1 (.slice (some ⟨b, 0, none⟩) 3 3) 3 (rowV .u8 3 (atI l)) := by
  subst hb hl
  refine ⟨by rw [rowV_len], .inr ⟨w.heap.size, 3, _, rfl, Nat.le_refl _, heap_alloc_new _ _, Nat.le_refl _, by decide, rfl, ?_⟩⟩
  have e : ∀ u : Int, 0 ≤ u → ((u.toNat : Nat) : Int) = u := fun u hu => by omega
  simp [rowV, List.range_succ, atI, List.getD, e x hx, e y hy, e z hz]
/-- Zeros behind a row, till it is long enough: the document's last loop. -/
theorem padL_full {l : List Nat} {n : Nat} (h : l.length = n) : padL l n = l := by unfold padL; rw [h, Nat.sub_self]; simp
theorem padL_snoc (l : List Nat) (n : Nat) (h : l.length < n) : padL (l ++ [0]) n = padL l n := by
  unfold padL
  rw [List.append_assoc, List.length_append]
  congr 1
  rw [show n - l.length = (n - (l.length + [0].length)) + 1 by simp; omega, List.replicate_succ]
  rfl
def BytesPost (n : Nat) (l : List Nat) (w : World) (e : Ending) (w' : World) : Prop :=
  (∃ A c, e = .returned (.slice A n c) ∧ Reads .u8 w' w'.heap.size A n (atI (padL l n))) ∧ Below w.heap.size w w'
structure BAt (w : World) (C : Array Value) (wx : World) (k : Nat) (A : Option Addr) (c : Nat) (l : List Nat) : Prop where
  len : l.length = k
  own : wx.ownsRow (w.heap.size + 1) 5 1 (.slice A k c) k (rowV .u8 k (atI l))
  box : wx.heap[w.heap.size]? = some (.cells C 38)
  below : Below w.heap.size w wx
  size : w.heap.size + 2 ≤ wx.heap.size
theorem BAt.cell {w wx : World} {C CS : Array Value} {k c j : Nat} {A : Option Addr} {l : List Nat} {v : Value} (h : BAt w C wx k A c l) (hc : Hid (CS = C)) (hj : CS[j]? = some v) : wx.cell? ⟨w.heap.size, j, none⟩ = some v := by
  have e := hc.out
  subst e
  exact cell_heap h.box hj
theorem BAt.next {w wx wy : World} {C : Array Value} {k c k' c' : Nat} {A A' : Option Addr} {l l' : List Nat} (h : BAt w C wx k A c l) (hl : l'.length = k') (ho : wy.ownsRow (w.heap.size + 1) 5 1 (.slice A' k' c') k' (rowV .u8 k' (atI l'))) (hb : Below (w.heap.size + 1) wx wy) (hk : KeptB wx wy) : BAt w C wy k' A' c' l' :=
  ⟨hl, ho, box_keptB h.box hk (by decide), h.below.trans (hb.mono (by omega)), Nat.le_trans h.size hb.size⟩
theorem BAt.drew {w wx : World} {C : Array Value} {k c : Nat} {A : Option Addr} {l : List Nat} (h : BAt w C wx k A c l) : BAt w C wx.drew k A c l := ⟨h.len, own_keep h.own (by repeat' (first | (with_reducible exact Below.refl _ _) | (with_reducible assumption) | (with_reducible refine Later.step ?_ ?_ _) | (with_reducible refine Below.alloc ?_ ?_ _) | (with_reducible refine Below.drew ?_) | (with_reducible refine bel_drewN ?_ _) | (with_reducible refine bel_grown ?_ (by assumption) ?_ ?_) | (with_reducible refine Below.setCell ?_ ?_ _) | go_size)), h.box, Below.drew h.below, h.size⟩
/-- A slot that holds the row so far. -/
def IsB (w : World) (C : Array Value) (l : List Nat) (v : Value) (wx : World) : Prop := ∃ k A c, v = .slice A k c ∧ BAt w C wx k A c l
theorem digit_nat {s : Int} (h : 0 ≤ s ∧ s ≤ 255) : wL s 1 = [s.toNat] := by
  have h1 : putI s 1 0 = s := by
    unfold putI
    simp
    omega
  simp [wL, h1]
set_option maxHeartbeats 16000000 in
theorem bytes_any (op m s k id x y lab b0 b1 b2 b3 : Int) (A1 A2 : Option Addr) (ns ne c1 c2 : Nat) (f g : Nat → Nat → Int) (w : World) (h1 : IsItems w w.heap.size A1 ns 6 f) (h2 : IsItems w w.heap.size A2 ne 4 g)
    (hk0 : 0 ≤ k) (hk1 : k ≤ 18446744073709551615) (hf : fitsA op m s k id x y lab b0 b1 b2 b3 ns ne f g) :
    Calls Try.prog 17 #[.int .i64 op, .int .i64 m, .agg #[.int .i64 s, .int .u64 k, .int .i64 id, .int .i64 x, .int .i64 y, .int .i64 lab, .int .i64 b0, .int .i64 b1, .int .i64 b2, .int .i64 b3, .slice A1 ns c1, .slice A2 ne c2]] w (BytesPost (lengthI op m).toNat (encL op s k x y lab b0 b1 b2 b3 ns ne f g) w) := by
  obtain ⟨i0, hi, hz0, hz1, hz2⟩ := info_parts Try.info5
  have hlen := encL_fits hf
  have hb := length_bd op m
  have P2 := Lib.hid (rlen20_any op m)
  have ht := hf.1
  have hop : 1 ≤ op ∧ op ≤ 19 ∧ 0 ≤ m ∧ m ≤ 64 := by simp [thereB] at ht; omega
  have hs := hf.2.1
  have HC := Lib.hid hf.2.2
  have H1 := Lib.hid h1
  have H2 := Lib.hid h2
  clear hf h1 h2 ht
  obtain ⟨n, hn⟩ := Int.eq_ofNat_of_zero_le (show 0 ≤ lengthI op m by omega)
  rw [hn] at P2 hb hlen ⊢
  clear hn
  rw [Int.toNat_natCast]
  obtain ⟨R, hR⟩ : ∃ R, encL op s k x y lab b0 b1 b2 b3 ns ne f g = R := ⟨_, rfl⟩
  rw [hR] at hlen ⊢
  unfold encL at hR
  unfold BytesPost
  have hws : IntKind.u8.wrap s = s := IntWalk.u8_in _ (by omega)
  have hwo : IntKind.u8.wrap op = op := IntWalk.u8_in _ (by omega)
  obtain ⟨hnn, h12, h10, hse, hev⟩ : (ns ≤ 64 ∧ ne ≤ 64 ∧ (s = 0 ∨ (ns = 0 ∧ ne = 0))) ∧ (s = 0 ∧ op = 12 → fitsB x y = true ∧ 0 ≤ lab ∧ lab ≤ 7) ∧ (s = 0 ∧ op = 10 → rightB b0 b1 b2 b3 = true) ∧ (∀ i, i < ns → seenOk f i) ∧ (∀ i, i < ne → evOk g i) := by
    have h := HC.out
    by_cases h0 : s = 0
    · rw [if_pos h0] at h
      obtain ⟨ho, ⟨d1, d2, d3, d4⟩, hse, hev⟩ := h
      refine ⟨?_, ?_, ?_, hse, hev⟩
      · rcases each_cases op with h9 | h9 | h9 <;> omega
      · rintro ⟨_, rfl⟩
        exact ⟨ho.1, ho.2.1, ho.2.2.1⟩
      · rintro ⟨_, rfl⟩
        exact ho.1
    · rw [if_neg h0] at h
      refine ⟨by omega, fun h => absurd h.1 h0, fun h => absurd h.1 h0, fun i hi => ?_, fun i hi => ?_⟩ <;> omega
  have H12 := Lib.hid h12
  have H10 := Lib.hid h10
  have HSE := Lib.hid hse
  have HEV := Lib.hid hev
  have HZ := Lib.hid hnn.2.2
  obtain ⟨hns, hne, _⟩ := hnn
  obtain ⟨sm, hsm⟩ : ∃ z, (ns : Int) + ne = z := ⟨_, rfl⟩
  have hsb : 0 ≤ sm ∧ sm ≤ 128 := by omega
  have hwm : IntKind.u8.wrap sm = sm := IntWalk.u8_in _ (by omega)
  have hw2 : IntKind.i64.wrap ((ns : Int) + ne) = sm := by rw [hsm]; exact IntWalk.i64_in _ (by omega)
  rw [hsm] at hR
  have L0e : wsL [s, op, sm] 1 = [s.toNat, op.toNat, sm.toNat] := by
    simp only [wsL, List.flatMap_cons, List.flatMap_nil, digit_nat (show 0 ≤ s ∧ s ≤ 255 by omega), digit_nat (show 0 ≤ op ∧ op ≤ 255 by omega), digit_nat (show 0 ≤ sm ∧ sm ≤ 255 by omega)]
    rfl
  obtain ⟨L0, hL0e⟩ : ∃ L, wsL [s, op, sm] 1 = L := ⟨_, rfl⟩
  have hl0 : L0.length = 3 := by rw [← hL0e, wsL_len]; rfl
  rw [hL0e] at L0e hR
  obtain ⟨L1, hL1⟩ : ∃ L, (if s = 0 ∧ (op = 4 ∨ op = 5) then L0 ++ wL k 8 else L0) = L := ⟨_, rfl⟩
  obtain ⟨L2, hL2⟩ : ∃ L, (if s = 0 ∧ op = 12 then L1 ++ wL x 2 ++ wL y 2 ++ wL lab 1 else L1) = L := ⟨_, rfl⟩
  obtain ⟨L3, hL3⟩ : ∃ L, (if s = 0 ∧ op = 10 then L2 ++ wsL [b0, b1, b2, b3] 2 else L2) = L := ⟨_, rfl⟩
  have hl1 : L1.length ≤ 11 := by rw [← hL1]; split <;> (try simp only [List.length_append, wL_len]) <;> omega
  have hl2 : L2.length ≤ 16 := by rw [← hL2]; split <;> (try simp only [List.length_append, wL_len]) <;> omega
  have hl3 : L3.length ≤ 24 := by rw [← hL3]; split <;> (try simp only [List.length_append, wL_len, wsL_len, List.length_cons, List.length_nil]) <;> omega
  have hRR : L3 ++ manyL (seenL f) ns ++ manyL (evL g) ne = R := by
    rw [← hR, ← hL3, ← hL2, ← hL1]
    by_cases h0 : s = 0
    · simp only [h0, true_and, if_true]
      unfold onceL
      by_cases h45 : op = 4 ∨ op = 5
      · rw [if_pos h45, if_pos h45, if_neg (by omega), if_neg (by omega)]
        simp only [List.append_assoc]
      · rw [if_neg h45, if_neg h45]
        by_cases h12' : op = 12
        · rw [if_pos h12', if_pos h12', if_neg (by omega)]
          simp [wsL]
        · rw [if_neg h12', if_neg h12']
          by_cases h10' : op = 10
          · rw [if_pos h10', if_pos h10']
            simp only [List.append_assoc]
          · rw [if_neg h10', if_neg h10']
            simp
    · obtain ⟨e1, e2⟩ : ns = 0 ∧ ne = 0 := by omega
      rw [e1, e2]
      simp [h0, manyL]
  have HL0 := Lib.hid hl0
  have HL1 := Lib.hid hL1
  have HL2 := Lib.hid hL2
  have HL3 := Lib.hid hL3
  have HR := Lib.hid hRR
  obtain ⟨C, hC⟩ : ∃ C : Array Value, #[.int .i64 s, .int .u64 k, .int .i64 id, .int .i64 x, .int .i64 y, .int .i64 lab, .int .i64 b0, .int .i64 b1, .int .i64 b2, .int .i64 b3, .slice A1 ns c1, .slice A2 ne c2] = C := ⟨_, rfl⟩
  obtain ⟨q1, hq1⟩ : ∃ q, decide (s = 0 ∧ (op = 4 ∨ op = 5)) = q := ⟨_, rfl⟩
  obtain ⟨q2, hq2⟩ : ∃ q, decide (s = 0 ∧ op = 12) = q := ⟨_, rfl⟩
  obtain ⟨q3, hq3⟩ : ∃ q, decide (s = 0 ∧ op = 10) = q := ⟨_, rfl⟩
  have HQ1 := Lib.hid hq1
  have HQ2 := Lib.hid hq2
  have HQ3 := Lib.hid hq3
  have HB0 := Lib.hid (show BAt w C ((w.alloc (Obj.cells #[.int .i64 s, .int .u64 k, .int .i64 id, .int .i64 x, .int .i64 y, .int .i64 lab, .int .i64 b0, .int .i64 b1, .int .i64 b2, .int .i64 b3, .slice A1 ns c1, .slice A2 ne c2] 38)).alloc (Obj.cells #[.int .u8 s, .int .u8 op, .int .u8 sm] 5)) 3 (some ⟨w.heap.size + 1, 0, none⟩) 3 L0 from ⟨hl0, own_lit3 (by go_size) L0e (by omega) (by omega) (by omega), (heap_alloc_old _ _ (by go_size)).trans (by rw [hC]; exact heap_alloc_new w _), by repeat' (first | (with_reducible exact Below.refl _ _) | (with_reducible assumption) | (with_reducible refine Later.step ?_ ?_ _) | (with_reducible refine Below.alloc ?_ ?_ _) | (with_reducible refine Below.drew ?_) | (with_reducible refine bel_drewN ?_ _) | (with_reducible refine bel_grown ?_ (by assumption) ?_ ?_) | (with_reducible refine Below.setCell ?_ ?_ _) | go_size), by go_size⟩)
  have HCC := Lib.hid hC
  have hkw : IntKind.u64.wrap k = k := IntWalk.u64_in _ (by omega)
  clear hR hRR hsm hq1 hq2 hq3 L0e hC hL0e hL1 hL2 hL3 hl0 h12 h10 hse hev
  go_enter Try.func17, Try.ntmps17
  go_upto_region 2 with fail
  go_cut [7, 35] from 25 to 35 (fun v u wx => u = .bool q1 ∧ IsB w C L0 v wx)
  case first =>
    have fin : ∀ q, decide (s = 0 ∧ (op = 4 ∨ op = 5)) = q → Value.bool q = Value.bool q1 := fun q h => by rw [← h, HQ1.out]
    by_cases h0 : (s == 0) = true
    · by_cases h4 : (op == 4) = true
      · go_wp2_with fail
        go_meet
        exact ⟨fin _ (by simp at h0 h4; simp [h0, h4]), _, _, _, rfl, HB0.out⟩
      · have h4' : (op == 4) = false := by simpa using h4
        by_cases h5 : (op == 5) = true
        · go_wp2_with fail
          go_meet
          exact ⟨fin _ (by simp at h0 h5; simp [h0, h5]), _, _, _, rfl, HB0.out⟩
        · have h5' : (op == 5) = false := by simpa using h5
          go_wp2_with fail
          go_meet
          exact ⟨fin _ (by simp at h0 h4 h5; simp [h0, h4, h5]), _, _, _, rfl, HB0.out⟩
    · have h0' : (s == 0) = false := by simpa using h0
      go_wp2_with fail
      go_meet
      exact ⟨fin _ (by simp at h0; simp [h0]), _, _, _, rfl, HB0.out⟩
  case rest =>
    obtain ⟨rfl, k1, A9, c9, rfl, hB⟩ := hcut
    have HB := Lib.hid hB
    obtain ⟨X, rfl⟩ : ∃ Z : Later w.heap.size w, wc = Z.w := ⟨⟨wc, hB.below⟩, rfl⟩
    have hsz := hB.size
    clear hB HB0
    go_upto_if 35 with fail
    go_cut [7] from 36 to 39 (fun v wx => IsB w C L1 v wx)
    case first =>
      rcases q1 with _ | _
      · go_wp2_with fail
        go_meet
        exact ⟨_, _, _, rfl, (by have h9 := HB.out; rw [← HL1.out, if_neg (of_decide_eq_false HQ1.out)]; exact h9)⟩
      · have a1 := HB.out.cell HCC (j := 1) rfl
        go_wp2_with (go_at_call 36; refine (bput_at (w.heap.size + 1) 8 k1 L0 A9 c9 k 8 X.w HB.out.own HB.out.len rfl (by omega) ⟨hk0, by omega⟩ (by decide) (by decide) (by have := HB.out.len; have := HL0.out; omega)).mono ?_; rintro e w2 ⟨⟨A2', n2, c2', rfl, hn2, ho2⟩, hb2, hkb2⟩; have HB2 := Lib.hid (HB.out.next hn2 ho2 hb2 hkb2); have hs2 := HB2.out.size; clear hn2 ho2 hkb2; obtain ⟨X2, rfl⟩ : ∃ Z : Later (w.heap.size + 1) X.w, w2 = Z.w := ⟨⟨w2, hb2⟩, rfl⟩; clear hb2)
        go_meet
        exact ⟨_, _, _, rfl, (by have h9 := HB2.out; rw [← HL1.out, if_pos (of_decide_eq_true HQ1.out)]; exact h9)⟩
    case rest =>
      obtain ⟨k2, A8, c8, rfl, hB⟩ := hcut
      have HB := Lib.hid hB
      clear hsz
      obtain ⟨Y, rfl⟩ : ∃ Z : Later w.heap.size w, wc = Z.w := ⟨⟨wc, hB.below⟩, rfl⟩
      have hsz := hB.size
      clear hB
      go_upto_region 4 with fail
      go_cut [46] from 40 to 46 (fun u wx => u = .bool q2 ∧ wx = Y.w)
      case first =>
        have fin : ∀ q, decide (s = 0 ∧ op = 12) = q → Value.bool q = Value.bool q2 := fun q h => by rw [← h, HQ2.out]
        have a0 := HB.out.cell HCC (j := 0) rfl
        by_cases h0 : (s == 0) = true
        · by_cases h4 : (op == 12) = true
          · go_wp2_with fail
            go_meet
            exact ⟨fin _ (by simp at h0 h4; simp [h0, h4]), rfl⟩
          · have h4' : (op == 12) = false := by simpa using h4
            go_wp2_with fail
            go_meet
            exact ⟨fin _ (by simp at h0 h4; simp [h0, h4]), rfl⟩
        · have h0' : (s == 0) = false := by simpa using h0
          go_wp2_with fail
          go_meet
          exact ⟨fin _ (by simp at h0; simp [h0]), rfl⟩
      case rest =>
        obtain ⟨rfl, rfl⟩ := hcut
        go_upto_if 46 with fail
        go_cut [7] from 47 to 64 (fun v wx => IsB w C L2 v wx)
        case first =>
          rcases q2 with _ | _
          · go_wp2_with fail
            go_meet
            exact ⟨_, _, _, rfl, (by have h9 := HB.out; rw [← HL2.out, if_neg (of_decide_eq_false HQ2.out)]; exact h9)⟩
          · obtain ⟨hfx, hl1', hl2'⟩ := H12.out (of_decide_eq_true HQ2.out)
            rw [fits_iff] at hfx
            have hcx : IntKind.u64.wrap x = x := IntWalk.u64_in _ (by omega)
            have hcy : IntKind.u64.wrap y = y := IntWalk.u64_in _ (by omega)
            have hcl : IntKind.u64.wrap lab = lab := IntWalk.u64_in _ (by omega)
            have fx : fitsW x 2 := ⟨by omega, by omega⟩
            have fy : fitsW y 2 := ⟨by omega, by omega⟩
            have fl : fitsW lab 1 := ⟨by omega, by omega⟩
            have s0 := HB.out.cell HCC (j := 3) rfl
            have s1 := HB.out.cell HCC (j := 4) rfl
            have s2 := HB.out.cell HCC (j := 5) rfl
            have hk2 : k2 ≤ 11 := by have := HB.out.len; omega
            go_wp2_with fail
            go_region_held3 (fun w' => w'.cell? ⟨w.heap.size, 3, none⟩ = some (.int .i64 x) ∧ w'.cell? ⟨w.heap.size, 4, none⟩ = some (.int .i64 y) ∧ w'.cell? ⟨w.heap.size, 5, none⟩ = some (.int .i64 lab)) (first | go_keep | (refine ⟨?_, ?_, ?_⟩ <;> assumption))
              (first
                | (go_at_call 36; with_reducible refine (bput_at (w.heap.size + 1) 2 k2 L1 A8 c8 x 2 _ (own_keep HB.out.own (by repeat' (first | (with_reducible exact Below.refl _ _) | (with_reducible assumption) | (with_reducible refine Later.step ?_ ?_ _) | (with_reducible refine Below.alloc ?_ ?_ _) | (with_reducible refine Below.drew ?_) | (with_reducible refine bel_drewN ?_ _) | (with_reducible refine bel_grown ?_ (by assumption) ?_ ?_) | (with_reducible refine Below.setCell ?_ ?_ _) | go_size))) HB.out.len rfl (by first | omega | go_size) fx (by decide) (by decide) (by omega)).mono ?_; intro e w2 hrp; unfold RowB at hrp; obtain ⟨⟨A2', n2, c2', rfl, hn2, ho2⟩, hb2, hkb2⟩ := hrp; have hB2 : BAt w C w2 n2 A2' c2' (L1 ++ wL x 2) := (by first | exact BAt.next HB.out hn2 ho2 hb2 hkb2 | exact BAt.next HB.out.drew hn2 ho2 hb2 hkb2); have hs2 := hB2.size; have hv2 : n2 ≤ 20 := (by have h9 := hB2.len; simp only [List.length_append, wL_len, wsL_len, List.length_cons, List.length_nil] at h9; omega); have r0 := hB2.cell HCC (j := 3) rfl; have r1 := hB2.cell HCC (j := 4) rfl; have r2 := hB2.cell HCC (j := 5) rfl; obtain ⟨X2, rfl⟩ : ∃ Z : Later (w.heap.size + 1) Y.w, w2 = Z.w := ⟨⟨w2, (by first | exact hb2 | exact Below.trans (b := Y.w.drew) (by repeat' (first | (with_reducible exact Below.refl _ _) | (with_reducible assumption) | (with_reducible refine Later.step ?_ ?_ _) | (with_reducible refine Below.alloc ?_ ?_ _) | (with_reducible refine Below.drew ?_) | (with_reducible refine bel_drewN ?_ _) | (with_reducible refine bel_grown ?_ (by assumption) ?_ ?_) | (with_reducible refine Below.setCell ?_ ?_ _) | go_size)) hb2)⟩, rfl⟩; have HB2 := Lib.hid hB2; clear hn2 ho2 hb2 hkb2 hB2; (try dsimp only))
                | (go_at_call 36; with_reducible refine (bput_at (w.heap.size + 1) 2 n2 _ _ _ y 2 _ (own_keep HB2.out.own (by repeat' (first | (with_reducible exact Below.refl _ _) | (with_reducible assumption) | (with_reducible refine Later.step ?_ ?_ _) | (with_reducible refine Below.alloc ?_ ?_ _) | (with_reducible refine Below.drew ?_) | (with_reducible refine bel_drewN ?_ _) | (with_reducible refine bel_grown ?_ (by assumption) ?_ ?_) | (with_reducible refine Below.setCell ?_ ?_ _) | go_size))) HB2.out.len rfl (by first | omega | go_size) fy (by decide) (by decide) (by omega)).mono ?_; intro e w3 hrp; unfold RowB at hrp; obtain ⟨⟨A3', n3, c3', rfl, hn3, ho3⟩, hb3, hkb3⟩ := hrp; have hB3 : BAt w C w3 n3 A3' c3' (L1 ++ wL x 2 ++ wL y 2) := (by first | exact BAt.next HB2.out hn3 ho3 hb3 hkb3 | exact BAt.next HB2.out.drew hn3 ho3 hb3 hkb3); have hs3 := hB3.size; have hv3 : n3 ≤ 40 := (by have h9 := hB3.len; simp only [List.length_append, wL_len, wsL_len, List.length_cons, List.length_nil] at h9; omega); have r0 := hB3.cell HCC (j := 3) rfl; have r1 := hB3.cell HCC (j := 4) rfl; have r2 := hB3.cell HCC (j := 5) rfl; obtain ⟨X3, rfl⟩ : ∃ Z : Later (w.heap.size + 1) X2.w, w3 = Z.w := ⟨⟨w3, (by first | exact hb3 | exact Below.trans (b := X2.w.drew) (by repeat' (first | (with_reducible exact Below.refl _ _) | (with_reducible assumption) | (with_reducible refine Later.step ?_ ?_ _) | (with_reducible refine Below.alloc ?_ ?_ _) | (with_reducible refine Below.drew ?_) | (with_reducible refine bel_drewN ?_ _) | (with_reducible refine bel_grown ?_ (by assumption) ?_ ?_) | (with_reducible refine Below.setCell ?_ ?_ _) | go_size)) hb3)⟩, rfl⟩; have HB3 := Lib.hid hB3; clear hn3 ho3 hb3 hkb3 hB3; (try dsimp only))
                | (go_at_call 36; with_reducible refine (bput_at (w.heap.size + 1) 1 n3 _ _ _ lab 1 _ (own_keep HB3.out.own (by repeat' (first | (with_reducible exact Below.refl _ _) | (with_reducible assumption) | (with_reducible refine Later.step ?_ ?_ _) | (with_reducible refine Below.alloc ?_ ?_ _) | (with_reducible refine Below.drew ?_) | (with_reducible refine bel_drewN ?_ _) | (with_reducible refine bel_grown ?_ (by assumption) ?_ ?_) | (with_reducible refine Below.setCell ?_ ?_ _) | go_size))) HB3.out.len rfl (by first | omega | go_size) fl (by decide) (by decide) (by omega)).mono ?_; intro e w4 hrp; unfold RowB at hrp; obtain ⟨⟨A4', n4, c4', rfl, hn4, ho4⟩, hb4, hkb4⟩ := hrp; have hB4 : BAt w C w4 n4 A4' c4' (L1 ++ wL x 2 ++ wL y 2 ++ wL lab 1) := (by first | exact BAt.next HB3.out hn4 ho4 hb4 hkb4 | exact BAt.next HB3.out.drew hn4 ho4 hb4 hkb4); have hs4 := hB4.size; have hv4 : n4 ≤ 60 := (by have h9 := hB4.len; simp only [List.length_append, wL_len, wsL_len, List.length_cons, List.length_nil] at h9; omega); have r0 := hB4.cell HCC (j := 3) rfl; have r1 := hB4.cell HCC (j := 4) rfl; have r2 := hB4.cell HCC (j := 5) rfl; obtain ⟨X4, rfl⟩ : ∃ Z : Later (w.heap.size + 1) X3.w, w4 = Z.w := ⟨⟨w4, (by first | exact hb4 | exact Below.trans (b := X3.w.drew) (by repeat' (first | (with_reducible exact Below.refl _ _) | (with_reducible assumption) | (with_reducible refine Later.step ?_ ?_ _) | (with_reducible refine Below.alloc ?_ ?_ _) | (with_reducible refine Below.drew ?_) | (with_reducible refine bel_drewN ?_ _) | (with_reducible refine bel_grown ?_ (by assumption) ?_ ?_) | (with_reducible refine Below.setCell ?_ ?_ _) | go_size)) hb4)⟩, rfl⟩; have HB4 := Lib.hid hB4; clear hn4 ho4 hb4 hkb4 hB4; (try dsimp only))
                | fail)
            rename_i hHd
            clear hHd
            go_wp2_with fail
            go_meet
            exact ⟨_, _, _, rfl, (by have h9 := HB4.out; rw [← HL2.out, if_pos (of_decide_eq_true HQ2.out)]; exact h9)⟩
        case rest =>
          obtain ⟨k3, A7, c7, rfl, hB⟩ := hcut
          have HB := Lib.hid hB
          clear hsz
          obtain ⟨V, rfl⟩ : ∃ Z : Later w.heap.size w, wc = Z.w := ⟨⟨wc, hB.below⟩, rfl⟩
          have hsz := hB.size
          clear hB
          go_upto_region 6 with fail
          go_cut [71] from 65 to 71 (fun u wx => u = .bool q3 ∧ wx = V.w)
          case first =>
            have fin : ∀ q, decide (s = 0 ∧ op = 10) = q → Value.bool q = Value.bool q3 := fun q h => by rw [← h, HQ3.out]
            have a0 := HB.out.cell HCC (j := 0) rfl
            by_cases h0 : (s == 0) = true
            · by_cases h4 : (op == 10) = true
              · go_wp2_with fail
                go_meet
                exact ⟨fin _ (by simp at h0 h4; simp [h0, h4]), rfl⟩
              · have h4' : (op == 10) = false := by simpa using h4
                go_wp2_with fail
                go_meet
                exact ⟨fin _ (by simp at h0 h4; simp [h0, h4]), rfl⟩
            · have h0' : (s == 0) = false := by simpa using h0
              go_wp2_with fail
              go_meet
              exact ⟨fin _ (by simp at h0; simp [h0]), rfl⟩
          case rest =>
            obtain ⟨rfl, rfl⟩ := hcut
            go_upto_if 71 with fail
            go_cut [7] from 72 to 75 (fun v wx => IsB w C L3 v wx)
            case first =>
              rcases q3 with _ | _
              · go_wp2_with fail
                go_meet
                exact ⟨_, _, _, rfl, (by have h9 := HB.out; rw [← HL3.out, if_neg (of_decide_eq_false HQ3.out)]; exact h9)⟩
              · have a6 := HB.out.cell HCC (j := 6) rfl
                have a7 := HB.out.cell HCC (j := 7) rfl
                have a8 := HB.out.cell HCC (j := 8) rfl
                have a9 := HB.out.cell HCC (j := 9) rfl
                go_wp2_with (go_at_call 37; refine (brect_at (w.heap.size + 1) k3 L2 A7 c7 b0 b1 b2 b3 V.w HB.out.own HB.out.len (by omega) (H10.out (of_decide_eq_true HQ3.out)) (by have := HB.out.len; omega)).mono ?_; rintro e w2 ⟨⟨A2', n2, c2', rfl, hn2, ho2⟩, hb2, hkb2⟩; have HB2 := Lib.hid (HB.out.next hn2 ho2 hb2 hkb2); have hs2 := HB2.out.size; clear hn2 ho2 hkb2; obtain ⟨X2, rfl⟩ : ∃ Z : Later (w.heap.size + 1) V.w, w2 = Z.w := ⟨⟨w2, hb2⟩, rfl⟩; clear hb2)
                go_meet
                exact ⟨_, _, _, rfl, (by have h9 := HB2.out; rw [← HL3.out, if_pos (of_decide_eq_true HQ3.out)]; exact h9)⟩
            case rest =>
              obtain ⟨k4, A6, c6, rfl, hB⟩ := hcut
              have HB := Lib.hid hB
              clear hsz
              obtain ⟨U, rfl⟩ : ∃ Z : Later w.heap.size w, wc = Z.w := ⟨⟨wc, hB.below⟩, rfl⟩
              have hsz := hB.size
              clear hB
              go_wp2
              go_loopw [7, 8] (fun v i wr => ∃ (j kk : Nat) (A : Option Addr) (c : Nat), v = .slice A kk c ∧ i = .int .i64 j ∧ (j ≤ ns ∧ Hid (BAt w C wr kk A c (L3 ++ manyL (seenL f) j))) ∧ Below w.heap.size w wr ∧ w.heap.size + 2 ≤ wr.heap.size) (fun _ i _ => ns - (intOf i).toNat)
              case atStart => exact ⟨0, k4, A6, c6, rfl, rfl, ⟨Nat.zero_le _, by simpa [Hid, manyL] using HB.out⟩, U.is, hsz⟩
              case round =>
                obtain ⟨j, kk, A, c, rfl, rfl, ⟨hj, hB1⟩, hbel, hsz1⟩ := hrel
                obtain ⟨P, rfl⟩ : ∃ Z : Later w.heap.size w, wr = Z.w := ⟨⟨wr, hbel⟩, rfl⟩
                clear hbel
                have t9 := hB1.out.cell HCC (j := 10) rfl
                by_cases hlt : j < ns
                · obtain ⟨b, o, rfl, hbl, hc⟩ := H1.out (by omega)
                  have HT := Lib.hid (show ∀ wz, Below w.heap.size w wz → wz.cell? ⟨b, o + j * 6, none⟩ = some (.int .i64 (f j 0)) ∧ wz.cell? ⟨b, o + j * 6 + 1, none⟩ = some (.int .i64 (f j 1)) ∧ wz.cell? ⟨b, o + j * 6 + 2, none⟩ = some (.int .i64 (f j 2)) ∧ wz.cell? ⟨b, o + j * 6 + 3, none⟩ = some (.int .i64 (f j 3)) ∧ wz.cell? ⟨b, o + j * 6 + 4, none⟩ = some (.int .i64 (f j 4)) ∧ wz.cell? ⟨b, o + j * 6 + 5, none⟩ = some (.int .i64 (f j 5)) from fun wz hz => ⟨(hz.cell (p := ⟨b, o + j * 6, none⟩) hbl).trans (hc j hlt 0 (by omega)), (hz.cell (p := ⟨b, o + j * 6 + 1, none⟩) hbl).trans (hc j hlt 1 (by omega)), (hz.cell (p := ⟨b, o + j * 6 + 2, none⟩) hbl).trans (hc j hlt 2 (by omega)), (hz.cell (p := ⟨b, o + j * 6 + 3, none⟩) hbl).trans (hc j hlt 3 (by omega)), (hz.cell (p := ⟨b, o + j * 6 + 4, none⟩) hbl).trans (hc j hlt 4 (by omega)), (hz.cell (p := ⟨b, o + j * 6 + 5, none⟩) hbl).trans (hc j hlt 5 (by omega))⟩)
                  obtain ⟨t0, t1, t2, t3, t4, t5⟩ := HT.out _ P.is
                  obtain ⟨o0, o1, o2⟩ := HSE.out j hlt
                  obtain ⟨LJ, hLJ⟩ : ∃ L, L3 ++ manyL (seenL f) j = L := ⟨_, rfl⟩
                  rw [hLJ] at hB1
                  have hlj : kk ≤ 728 := by
                    have h9 := hB1.out.len
                    rw [← hLJ, List.length_append, manyL_len (seenL_len f)] at h9
                    omega
                  have hll : LJ.length ≤ 728 := by rw [hB1.out.len]; exact hlj
                  have HLJ := Lib.hid hLJ
                  have hcx : IntKind.u64.wrap (f j 0) = f j 0 := IntWalk.u64_in _ (by omega)
                  have hcy : IntKind.u64.wrap (f j 1) = f j 1 := IntWalk.u64_in _ (by omega)
                  have fx : fitsW (f j 0) 2 := ⟨by omega, by omega⟩
                  have fy : fitsW (f j 1) 1 := ⟨by omega, by omega⟩
                  clear hc hLJ o0 o1
                  have hO2 := Lib.hid o2
                  clear o2
                  go_wp2_with fail
                  go_region_held3 (fun w' => w'.cell? ⟨w.heap.size, 10, none⟩ = some (.slice (some ⟨b, o, none⟩) ns c1) ∧ w'.cell? ⟨b, o + j * 6, none⟩ = some (.int .i64 (f j 0)) ∧ w'.cell? ⟨b, o + j * 6 + 1, none⟩ = some (.int .i64 (f j 1)) ∧ w'.cell? ⟨b, o + j * 6 + 2, none⟩ = some (.int .i64 (f j 2)) ∧ w'.cell? ⟨b, o + j * 6 + 3, none⟩ = some (.int .i64 (f j 3)) ∧ w'.cell? ⟨b, o + j * 6 + 4, none⟩ = some (.int .i64 (f j 4)) ∧ w'.cell? ⟨b, o + j * 6 + 5, none⟩ = some (.int .i64 (f j 5))) (first | go_keep | (refine ⟨?_, ?_, ?_, ?_, ?_, ?_, ?_⟩ <;> assumption))
                    (first
                      | (go_at_call 36; with_reducible refine (bput_at (w.heap.size + 1) 2 kk LJ A c (f j 0) 2 _ (own_keep hB1.out.own (by repeat' (first | (with_reducible exact Below.refl _ _) | (with_reducible assumption) | (with_reducible refine Later.step ?_ ?_ _) | (with_reducible refine Below.alloc ?_ ?_ _) | (with_reducible refine Below.drew ?_) | (with_reducible refine bel_drewN ?_ _) | (with_reducible refine bel_grown ?_ (by assumption) ?_ ?_) | (with_reducible refine Below.setCell ?_ ?_ _) | go_size))) hB1.out.len rfl (by first | omega | go_size) fx (by decide) (by decide) (by omega)).mono ?_; intro e w2 hrp; unfold RowB at hrp; obtain ⟨⟨A2', n2, c2', rfl, hn2, ho2⟩, hb2, hkb2⟩ := hrp; have hB2 : BAt w C w2 n2 A2' c2' (LJ ++ wL (f j 0) 2) := (by first | exact BAt.next hB1.out hn2 ho2 hb2 hkb2 | exact BAt.next hB1.out.drew hn2 ho2 hb2 hkb2); have hs2 := hB2.size; have hv2 : n2 ≤ 1310 := (by have h9 := hB2.len; simp only [List.length_append, wL_len, wsL_len, List.length_cons, List.length_nil] at h9; omega); have r9 := hB2.cell HCC (j := 10) rfl; have rT := HT.out _ hB2.below; have r0 := rT.1; have r1 := rT.2.1; have r2 := rT.2.2.1; have r3 := rT.2.2.2.1; have r4 := rT.2.2.2.2.1; have r5 := rT.2.2.2.2.2; clear rT; obtain ⟨X2, rfl⟩ : ∃ Z : Later (w.heap.size + 1) P.w, w2 = Z.w := ⟨⟨w2, (by first | exact hb2 | exact Below.trans (b := P.w.drew) (by repeat' (first | (with_reducible exact Below.refl _ _) | (with_reducible assumption) | (with_reducible refine Later.step ?_ ?_ _) | (with_reducible refine Below.alloc ?_ ?_ _) | (with_reducible refine Below.drew ?_) | (with_reducible refine bel_drewN ?_ _) | (with_reducible refine bel_grown ?_ (by assumption) ?_ ?_) | (with_reducible refine Below.setCell ?_ ?_ _) | go_size)) hb2)⟩, rfl⟩; have HB2 := Lib.hid hB2; clear hn2 ho2 hb2 hkb2 hB2; (try dsimp only))
                      | (go_at_call 36; with_reducible refine (bput_at (w.heap.size + 1) 1 n2 _ _ _ (f j 1) 1 _ (own_keep HB2.out.own (by repeat' (first | (with_reducible exact Below.refl _ _) | (with_reducible assumption) | (with_reducible refine Later.step ?_ ?_ _) | (with_reducible refine Below.alloc ?_ ?_ _) | (with_reducible refine Below.drew ?_) | (with_reducible refine bel_drewN ?_ _) | (with_reducible refine bel_grown ?_ (by assumption) ?_ ?_) | (with_reducible refine Below.setCell ?_ ?_ _) | go_size))) HB2.out.len rfl (by first | omega | go_size) fy (by decide) (by decide) (by omega)).mono ?_; intro e w3 hrp; unfold RowB at hrp; obtain ⟨⟨A3', n3, c3', rfl, hn3, ho3⟩, hb3, hkb3⟩ := hrp; have hB3 : BAt w C w3 n3 A3' c3' (LJ ++ wL (f j 0) 2 ++ wL (f j 1) 1) := (by first | exact BAt.next HB2.out hn3 ho3 hb3 hkb3 | exact BAt.next HB2.out.drew hn3 ho3 hb3 hkb3); have hs3 := hB3.size; have hv3 : n3 ≤ 1320 := (by have h9 := hB3.len; simp only [List.length_append, wL_len, wsL_len, List.length_cons, List.length_nil] at h9; omega); have r9 := hB3.cell HCC (j := 10) rfl; have rT := HT.out _ hB3.below; have r0 := rT.1; have r1 := rT.2.1; have r2 := rT.2.2.1; have r3 := rT.2.2.2.1; have r4 := rT.2.2.2.2.1; have r5 := rT.2.2.2.2.2; clear rT; obtain ⟨X3, rfl⟩ : ∃ Z : Later (w.heap.size + 1) X2.w, w3 = Z.w := ⟨⟨w3, (by first | exact hb3 | exact Below.trans (b := X2.w.drew) (by repeat' (first | (with_reducible exact Below.refl _ _) | (with_reducible assumption) | (with_reducible refine Later.step ?_ ?_ _) | (with_reducible refine Below.alloc ?_ ?_ _) | (with_reducible refine Below.drew ?_) | (with_reducible refine bel_drewN ?_ _) | (with_reducible refine bel_grown ?_ (by assumption) ?_ ?_) | (with_reducible refine Below.setCell ?_ ?_ _) | go_size)) hb3)⟩, rfl⟩; have HB3 := Lib.hid hB3; clear hn3 ho3 hb3 hkb3 hB3; (try dsimp only))
                      | (go_at_call 37; with_reducible refine (brect_at (w.heap.size + 1) n3 _ _ _ (f j 2) (f j 3) (f j 4) (f j 5) _ (own_keep HB3.out.own (by repeat' (first | (with_reducible exact Below.refl _ _) | (with_reducible assumption) | (with_reducible refine Later.step ?_ ?_ _) | (with_reducible refine Below.alloc ?_ ?_ _) | (with_reducible refine Below.drew ?_) | (with_reducible refine bel_drewN ?_ _) | (with_reducible refine bel_grown ?_ (by assumption) ?_ ?_) | (with_reducible refine Below.setCell ?_ ?_ _) | go_size))) HB3.out.len (by first | omega | go_size) hO2.out (by omega)).mono ?_; intro e w4 hrp; unfold RowB at hrp; obtain ⟨⟨A4', n4, c4', rfl, hn4, ho4⟩, hb4, hkb4⟩ := hrp; have hB4 : BAt w C w4 n4 A4' c4' (LJ ++ wL (f j 0) 2 ++ wL (f j 1) 1 ++ wsL [f j 2, f j 3, f j 4, f j 5] 2) := (by first | exact BAt.next HB3.out hn4 ho4 hb4 hkb4 | exact BAt.next HB3.out.drew hn4 ho4 hb4 hkb4); have hs4 := hB4.size; have hv4 : n4 ≤ 1330 := (by have h9 := hB4.len; simp only [List.length_append, wL_len, wsL_len, List.length_cons, List.length_nil] at h9; omega); have r9 := hB4.cell HCC (j := 10) rfl; have rT := HT.out _ hB4.below; have r0 := rT.1; have r1 := rT.2.1; have r2 := rT.2.2.1; have r3 := rT.2.2.2.1; have r4 := rT.2.2.2.2.1; have r5 := rT.2.2.2.2.2; clear rT; obtain ⟨X4, rfl⟩ : ∃ Z : Later (w.heap.size + 1) X3.w, w4 = Z.w := ⟨⟨w4, (by first | exact hb4 | exact Below.trans (b := X3.w.drew) (by repeat' (first | (with_reducible exact Below.refl _ _) | (with_reducible assumption) | (with_reducible refine Later.step ?_ ?_ _) | (with_reducible refine Below.alloc ?_ ?_ _) | (with_reducible refine Below.drew ?_) | (with_reducible refine bel_drewN ?_ _) | (with_reducible refine bel_grown ?_ (by assumption) ?_ ?_) | (with_reducible refine Below.setCell ?_ ?_ _) | go_size)) hb4)⟩, rfl⟩; have HB4 := Lib.hid hB4; clear hn4 ho4 hb4 hkb4 hB4; (try dsimp only))
                      | fail)
                  rename_i hHd
                  clear hHd
                  go_wp2
                  go_roundw
                  case rel =>
                    have h9 := HB4.out
                    rw [show LJ ++ wL (f j 0) 2 ++ wL (f j 1) 1 ++ wsL [f j 2, f j 3, f j 4, f j 5] 2 = L3 ++ manyL (seenL f) (j + 1) by rw [manyL_succ, ← List.append_assoc, HLJ.out]; simp [seenL, wsL]] at h9
                    exact ⟨j + 1, n4, A4', c4', rfl, by go_num, ⟨by omega, h9⟩, h9.below, h9.size⟩
                  case measure => simp [intOf]; omega
                · obtain rfl : j = ns := by omega
                  clear hlt hj hsz HB H1 HSE
                  go_wp2
                  go_loopw [7, 9] (fun v i wr => ∃ (l kk : Nat) (A : Option Addr) (c : Nat), v = .slice A kk c ∧ i = .int .i64 l ∧ (l ≤ ne ∧ Hid (BAt w C wr kk A c (L3 ++ manyL (seenL f) j ++ manyL (evL g) l))) ∧ Below w.heap.size w wr ∧ w.heap.size + 2 ≤ wr.heap.size) (fun _ i _ => ne - (intOf i).toNat)
                  case atStart => exact ⟨0, kk, A, c, rfl, rfl, ⟨Nat.zero_le _, by simpa [Hid, manyL] using hB1.out⟩, P.is, hsz1⟩
                  case round =>
                    obtain ⟨l, kk, A, c, rfl, rfl, ⟨hl, hB2⟩, hbel, hsz2⟩ := hrel
                    obtain ⟨Q, rfl⟩ : ∃ Z : Later w.heap.size w, wr = Z.w := ⟨⟨wr, hbel⟩, rfl⟩
                    clear hbel
                    have t9 := hB2.out.cell HCC (j := 11) rfl
                    by_cases hlt : l < ne
                    · obtain ⟨b, o, rfl, hbl, hc⟩ := H2.out (by omega)
                      have HT := Lib.hid (show ∀ wz, Below w.heap.size w wz → wz.cell? ⟨b, o + l * 4, none⟩ = some (.int .i64 (g l 0)) ∧ wz.cell? ⟨b, o + l * 4 + 1, none⟩ = some (.int .i64 (g l 1)) ∧ wz.cell? ⟨b, o + l * 4 + 2, none⟩ = some (.int .i64 (g l 2)) ∧ wz.cell? ⟨b, o + l * 4 + 3, none⟩ = some (.int .i64 (g l 3)) from fun wz hz => ⟨(hz.cell (p := ⟨b, o + l * 4, none⟩) hbl).trans (hc l hlt 0 (by omega)), (hz.cell (p := ⟨b, o + l * 4 + 1, none⟩) hbl).trans (hc l hlt 1 (by omega)), (hz.cell (p := ⟨b, o + l * 4 + 2, none⟩) hbl).trans (hc l hlt 2 (by omega)), (hz.cell (p := ⟨b, o + l * 4 + 3, none⟩) hbl).trans (hc l hlt 3 (by omega))⟩)
                      obtain ⟨t0, t1, t2, t3⟩ := HT.out _ Q.is
                      obtain ⟨o0, ⟨o1, o2⟩, o3⟩ := HEV.out l hlt
                      obtain ⟨LJ, hLJ⟩ : ∃ L, L3 ++ manyL (seenL f) j ++ manyL (evL g) l = L := ⟨_, rfl⟩
                      have hlj : kk ≤ 1300 := by
                        have h9 := hB2.out.len
                        rw [List.length_append, List.length_append, manyL_len (seenL_len f), manyL_len (evL_len g)] at h9
                        omega
                      rw [hLJ] at hB2
                      have hll : LJ.length ≤ 1300 := by rw [hB2.out.len]; exact hlj
                      have HLJ := Lib.hid hLJ
                      have hcx : IntKind.u64.wrap (g l 0) = g l 0 := IntWalk.u64_in _ (by omega)
                      have hcy : IntKind.u64.wrap (g l 1) = g l 1 := IntWalk.u64_in _ (by omega)
                      have hcz : IntKind.u64.wrap (g l 2) = g l 2 := IntWalk.u64_in _ (by omega)
                      have hcu : IntKind.u64.wrap (g l 3) = g l 3 := IntWalk.u64_in _ (by omega)
                      have fx : fitsW (g l 0) 2 := ⟨by omega, by omega⟩
                      have fy : fitsW (g l 1) 1 := ⟨by omega, by omega⟩
                      have fz : fitsW (g l 2) 1 := ⟨by omega, by omega⟩
                      have fu : fitsW (g l 3) 4 := ⟨by omega, by omega⟩
                      clear hc hLJ o0 o1 o2 o3
                      have hE1 := heap_alloc_new Q.w (Obj.cells #[.int .i64 (g l 0), .int .i64 (g l 1), .int .i64 (g l 2), .int .i64 (g l 3)] 64)
                      have u0 := cell_heap (j := 0) hE1 rfl
                      have u1 := cell_heap (j := 1) hE1 rfl
                      have u2 := cell_heap (j := 2) hE1 rfl
                      have u3 := cell_heap (j := 3) hE1 rfl
                      have HE1 := Lib.hid hE1
                      have hB3 := Lib.hid (hB2.out.next (wy := Q.w.alloc (Obj.cells #[.int .i64 (g l 0), .int .i64 (g l 1), .int .i64 (g l 2), .int .i64 (g l 3)] 64)) hB2.out.len (own_keep hB2.out.own (by repeat' (first | (with_reducible exact Below.refl _ _) | (with_reducible assumption) | (with_reducible refine Later.step ?_ ?_ _) | (with_reducible refine Below.alloc ?_ ?_ _) | (with_reducible refine Below.drew ?_) | (with_reducible refine bel_drewN ?_ _) | (with_reducible refine bel_grown ?_ (by assumption) ?_ ?_) | (with_reducible refine Below.setCell ?_ ?_ _) | go_size))) (by repeat' (first | (with_reducible exact Below.refl _ _) | (with_reducible assumption) | (with_reducible refine Later.step ?_ ?_ _) | (with_reducible refine Below.alloc ?_ ?_ _) | (with_reducible refine Below.drew ?_) | (with_reducible refine bel_drewN ?_ _) | (with_reducible refine bel_grown ?_ (by assumption) ?_ ?_) | (with_reducible refine Below.setCell ?_ ?_ _) | go_size)) (keptB_below (by repeat' (first | (with_reducible exact Below.refl _ _) | (with_reducible assumption) | (with_reducible refine Later.step ?_ ?_ _) | (with_reducible refine Below.alloc ?_ ?_ _) | (with_reducible refine Below.drew ?_) | (with_reducible refine bel_drewN ?_ _) | (with_reducible refine bel_grown ?_ (by assumption) ?_ ?_) | (with_reducible refine Below.setCell ?_ ?_ _) | go_size))))
                      clear hE1
                      go_wp2_with fail
                      go_region_held3 (fun w' => w'.cell? ⟨Q.w.heap.size, 0, none⟩ = some (.int .i64 (g l 0)) ∧ w'.cell? ⟨Q.w.heap.size, 1, none⟩ = some (.int .i64 (g l 1)) ∧ w'.cell? ⟨Q.w.heap.size, 2, none⟩ = some (.int .i64 (g l 2)) ∧ w'.cell? ⟨Q.w.heap.size, 3, none⟩ = some (.int .i64 (g l 3))) (first | go_keep | (refine ⟨?_, ?_, ?_, ?_⟩ <;> assumption))
                        (first
                          | (go_at_call 36; with_reducible refine (bput_at (w.heap.size + 1) 2 kk LJ A c (g l 0) 2 _ (own_keep hB3.out.own (by repeat' (first | (with_reducible exact Below.refl _ _) | (with_reducible assumption) | (with_reducible refine Later.step ?_ ?_ _) | (with_reducible refine Below.alloc ?_ ?_ _) | (with_reducible refine Below.drew ?_) | (with_reducible refine bel_drewN ?_ _) | (with_reducible refine bel_grown ?_ (by assumption) ?_ ?_) | (with_reducible refine Below.setCell ?_ ?_ _) | go_size))) hB3.out.len rfl (by first | omega | go_size) fx (by decide) (by decide) (by omega)).mono ?_; intro e w2 hrp; unfold RowB at hrp; obtain ⟨⟨A2', n2, c2', rfl, hn2, ho2⟩, hb2, hkb2⟩ := hrp; have hB2 : BAt w C w2 n2 A2' c2' (LJ ++ wL (g l 0) 2) := (by first | exact BAt.next hB3.out hn2 ho2 hb2 hkb2 | exact BAt.next hB3.out.drew hn2 ho2 hb2 hkb2); have hs2 := hB2.size; have hv2 : n2 ≤ 1310 := (by have h9 := hB2.len; simp only [List.length_append, wL_len, wsL_len, List.length_cons, List.length_nil] at h9; omega); have hbx2 : w2.heap[Q.w.heap.size]? = some (Obj.cells #[.int .i64 (g l 0), .int .i64 (g l 1), .int .i64 (g l 2), .int .i64 (g l 3)] 64) := (by first | exact box_keptB (HE1.out) hkb2 (by decide) | exact box_keptD (HE1.out) hkb2 (by decide)); have r0 := cell_heap (j := 0) hbx2 rfl; have r1 := cell_heap (j := 1) hbx2 rfl; have r2 := cell_heap (j := 2) hbx2 rfl; have r3 := cell_heap (j := 3) hbx2 rfl; have HE2 := Lib.hid hbx2; clear hbx2; obtain ⟨X2, rfl⟩ : ∃ Z : Later (w.heap.size + 1) (Q.w.alloc (Obj.cells #[.int .i64 (g l 0), .int .i64 (g l 1), .int .i64 (g l 2), .int .i64 (g l 3)] 64)), w2 = Z.w := ⟨⟨w2, (by first | exact hb2 | exact Below.trans (b := (Q.w.alloc (Obj.cells #[.int .i64 (g l 0), .int .i64 (g l 1), .int .i64 (g l 2), .int .i64 (g l 3)] 64)).drew) (by repeat' (first | (with_reducible exact Below.refl _ _) | (with_reducible assumption) | (with_reducible refine Later.step ?_ ?_ _) | (with_reducible refine Below.alloc ?_ ?_ _) | (with_reducible refine Below.drew ?_) | (with_reducible refine bel_drewN ?_ _) | (with_reducible refine bel_grown ?_ (by assumption) ?_ ?_) | (with_reducible refine Below.setCell ?_ ?_ _) | go_size)) hb2)⟩, rfl⟩; have HB2 := Lib.hid hB2; clear hn2 ho2 hb2 hkb2 hB2; (try dsimp only))
                          | (go_at_call 36; with_reducible refine (bput_at (w.heap.size + 1) 1 n2 _ _ _ (g l 1) 1 _ (own_keep HB2.out.own (by repeat' (first | (with_reducible exact Below.refl _ _) | (with_reducible assumption) | (with_reducible refine Later.step ?_ ?_ _) | (with_reducible refine Below.alloc ?_ ?_ _) | (with_reducible refine Below.drew ?_) | (with_reducible refine bel_drewN ?_ _) | (with_reducible refine bel_grown ?_ (by assumption) ?_ ?_) | (with_reducible refine Below.setCell ?_ ?_ _) | go_size))) HB2.out.len rfl (by first | omega | go_size) fy (by decide) (by decide) (by omega)).mono ?_; intro e w3 hrp; unfold RowB at hrp; obtain ⟨⟨A3', n3, c3', rfl, hn3, ho3⟩, hb3, hkb3⟩ := hrp; have hB3 : BAt w C w3 n3 A3' c3' (LJ ++ wL (g l 0) 2 ++ wL (g l 1) 1) := (by first | exact BAt.next HB2.out hn3 ho3 hb3 hkb3 | exact BAt.next HB2.out.drew hn3 ho3 hb3 hkb3); have hs3 := hB3.size; have hv3 : n3 ≤ 1320 := (by have h9 := hB3.len; simp only [List.length_append, wL_len, wsL_len, List.length_cons, List.length_nil] at h9; omega); have hbx3 : w3.heap[Q.w.heap.size]? = some (Obj.cells #[.int .i64 (g l 0), .int .i64 (g l 1), .int .i64 (g l 2), .int .i64 (g l 3)] 64) := (by first | exact box_keptB (HE2.out) hkb3 (by decide) | exact box_keptD (HE2.out) hkb3 (by decide)); have r0 := cell_heap (j := 0) hbx3 rfl; have r1 := cell_heap (j := 1) hbx3 rfl; have r2 := cell_heap (j := 2) hbx3 rfl; have r3 := cell_heap (j := 3) hbx3 rfl; have HE3 := Lib.hid hbx3; clear hbx3; obtain ⟨X3, rfl⟩ : ∃ Z : Later (w.heap.size + 1) X2.w, w3 = Z.w := ⟨⟨w3, (by first | exact hb3 | exact Below.trans (b := X2.w.drew) (by repeat' (first | (with_reducible exact Below.refl _ _) | (with_reducible assumption) | (with_reducible refine Later.step ?_ ?_ _) | (with_reducible refine Below.alloc ?_ ?_ _) | (with_reducible refine Below.drew ?_) | (with_reducible refine bel_drewN ?_ _) | (with_reducible refine bel_grown ?_ (by assumption) ?_ ?_) | (with_reducible refine Below.setCell ?_ ?_ _) | go_size)) hb3)⟩, rfl⟩; have HB3 := Lib.hid hB3; clear hn3 ho3 hb3 hkb3 hB3; (try dsimp only))
                          | (go_at_call 36; with_reducible refine (bput_at (w.heap.size + 1) 1 n3 _ _ _ (g l 2) 1 _ (own_keep HB3.out.own (by repeat' (first | (with_reducible exact Below.refl _ _) | (with_reducible assumption) | (with_reducible refine Later.step ?_ ?_ _) | (with_reducible refine Below.alloc ?_ ?_ _) | (with_reducible refine Below.drew ?_) | (with_reducible refine bel_drewN ?_ _) | (with_reducible refine bel_grown ?_ (by assumption) ?_ ?_) | (with_reducible refine Below.setCell ?_ ?_ _) | go_size))) HB3.out.len rfl (by first | omega | go_size) fz (by decide) (by decide) (by omega)).mono ?_; intro e w4 hrp; unfold RowB at hrp; obtain ⟨⟨A4', n4, c4', rfl, hn4, ho4⟩, hb4, hkb4⟩ := hrp; have hB4 : BAt w C w4 n4 A4' c4' (LJ ++ wL (g l 0) 2 ++ wL (g l 1) 1 ++ wL (g l 2) 1) := (by first | exact BAt.next HB3.out hn4 ho4 hb4 hkb4 | exact BAt.next HB3.out.drew hn4 ho4 hb4 hkb4); have hs4 := hB4.size; have hv4 : n4 ≤ 1330 := (by have h9 := hB4.len; simp only [List.length_append, wL_len, wsL_len, List.length_cons, List.length_nil] at h9; omega); have hbx4 : w4.heap[Q.w.heap.size]? = some (Obj.cells #[.int .i64 (g l 0), .int .i64 (g l 1), .int .i64 (g l 2), .int .i64 (g l 3)] 64) := (by first | exact box_keptB (HE3.out) hkb4 (by decide) | exact box_keptD (HE3.out) hkb4 (by decide)); have r0 := cell_heap (j := 0) hbx4 rfl; have r1 := cell_heap (j := 1) hbx4 rfl; have r2 := cell_heap (j := 2) hbx4 rfl; have r3 := cell_heap (j := 3) hbx4 rfl; have HE4 := Lib.hid hbx4; clear hbx4; obtain ⟨X4, rfl⟩ : ∃ Z : Later (w.heap.size + 1) X3.w, w4 = Z.w := ⟨⟨w4, (by first | exact hb4 | exact Below.trans (b := X3.w.drew) (by repeat' (first | (with_reducible exact Below.refl _ _) | (with_reducible assumption) | (with_reducible refine Later.step ?_ ?_ _) | (with_reducible refine Below.alloc ?_ ?_ _) | (with_reducible refine Below.drew ?_) | (with_reducible refine bel_drewN ?_ _) | (with_reducible refine bel_grown ?_ (by assumption) ?_ ?_) | (with_reducible refine Below.setCell ?_ ?_ _) | go_size)) hb4)⟩, rfl⟩; have HB4 := Lib.hid hB4; clear hn4 ho4 hb4 hkb4 hB4; (try dsimp only))
                          | (go_at_call 36; with_reducible refine (bput_at (w.heap.size + 1) 4 n4 _ _ _ (g l 3) 4 _ (own_keep HB4.out.own (by repeat' (first | (with_reducible exact Below.refl _ _) | (with_reducible assumption) | (with_reducible refine Later.step ?_ ?_ _) | (with_reducible refine Below.alloc ?_ ?_ _) | (with_reducible refine Below.drew ?_) | (with_reducible refine bel_drewN ?_ _) | (with_reducible refine bel_grown ?_ (by assumption) ?_ ?_) | (with_reducible refine Below.setCell ?_ ?_ _) | go_size))) HB4.out.len rfl (by first | omega | go_size) fu (by decide) (by decide) (by omega)).mono ?_; intro e w5 hrp; unfold RowB at hrp; obtain ⟨⟨A5', n5, c5', rfl, hn5, ho5⟩, hb5, hkb5⟩ := hrp; have hB5 : BAt w C w5 n5 A5' c5' (LJ ++ wL (g l 0) 2 ++ wL (g l 1) 1 ++ wL (g l 2) 1 ++ wL (g l 3) 4) := (by first | exact BAt.next HB4.out hn5 ho5 hb5 hkb5 | exact BAt.next HB4.out.drew hn5 ho5 hb5 hkb5); have hs5 := hB5.size; have hv5 : n5 ≤ 1340 := (by have h9 := hB5.len; simp only [List.length_append, wL_len, wsL_len, List.length_cons, List.length_nil] at h9; omega); have hbx5 : w5.heap[Q.w.heap.size]? = some (Obj.cells #[.int .i64 (g l 0), .int .i64 (g l 1), .int .i64 (g l 2), .int .i64 (g l 3)] 64) := (by first | exact box_keptB (HE4.out) hkb5 (by decide) | exact box_keptD (HE4.out) hkb5 (by decide)); have r0 := cell_heap (j := 0) hbx5 rfl; have r1 := cell_heap (j := 1) hbx5 rfl; have r2 := cell_heap (j := 2) hbx5 rfl; have r3 := cell_heap (j := 3) hbx5 rfl; have HE5 := Lib.hid hbx5; clear hbx5; obtain ⟨X5, rfl⟩ : ∃ Z : Later (w.heap.size + 1) X4.w, w5 = Z.w := ⟨⟨w5, (by first | exact hb5 | exact Below.trans (b := X4.w.drew) (by repeat' (first | (with_reducible exact Below.refl _ _) | (with_reducible assumption) | (with_reducible refine Later.step ?_ ?_ _) | (with_reducible refine Below.alloc ?_ ?_ _) | (with_reducible refine Below.drew ?_) | (with_reducible refine bel_drewN ?_ _) | (with_reducible refine bel_grown ?_ (by assumption) ?_ ?_) | (with_reducible refine Below.setCell ?_ ?_ _) | go_size)) hb5)⟩, rfl⟩; have HB5 := Lib.hid hB5; clear hn5 ho5 hb5 hkb5 hB5; (try dsimp only))
                          | fail)
                      rename_i hHd
                      clear hHd
                      go_wp2
                      go_roundw
                      case rel =>
                        have h9 := HB5.out
                        rw [show LJ ++ wL (g l 0) 2 ++ wL (g l 1) 1 ++ wL (g l 2) 1 ++ wL (g l 3) 4 = L3 ++ manyL (seenL f) j ++ manyL (evL g) (l + 1) by rw [manyL_succ, ← List.append_assoc, HLJ.out]; simp [evL, wsL]] at h9
                        exact ⟨l + 1, n5, A5', c5', rfl, by go_num, ⟨by omega, h9⟩, h9.below, h9.size⟩
                      case measure => simp [intOf]; omega
                    · obtain rfl : l = ne := by omega
                      clear hlt hl hB1 hsz1 H2 HEV
                      go_wp2
                      have hnn : kk ≤ n := by
                        have h9 := hB2.out.len
                        rw [HR.out] at h9
                        omega
                      go_loopw [7] (fun v wr => ∃ (k : Nat) (A : Option Addr) (c : Nat) (M : List Nat), v = .slice A k c ∧ (k ≤ n ∧ Hid (M.length = k) ∧ Hid (padL M n = padL R n) ∧ Hid (wr.ownsRow (w.heap.size + 1) 5 1 (.slice A k c) k (rowV .u8 k (atI M)))) ∧ Below w.heap.size w wr ∧ w.heap.size + 1 ≤ wr.heap.size) (fun v _ => n - (match v with | .slice _ k _ => k | _ => 0))
                      case atStart => exact ⟨kk, A, c, _, rfl, ⟨hnn, hB2.out.len, (by rw [Hid, HR.out]), hB2.out.own⟩, Q.is, by omega⟩
                      case round =>
                        obtain ⟨k, A, c, M, rfl, ⟨hk, hM, hpd, hown⟩, hb, hsz⟩ := hrel
                        obtain ⟨P, rfl⟩ : ∃ Z : Later w.heap.size w, wr = Z.w := ⟨⟨wr, hb⟩, rfl⟩
                        clear hb
                        by_cases hlt : k < n
                        · go_wp2_with (first
                            | (go_at_call 10; refine (P2.out _).mono ?_; rintro e w' ⟨rfl, hb⟩; obtain ⟨X11, rfl, hl11, hm11⟩ := later (P.w.heap.size) hb (by first | exact Nat.le_refl _ | go_size); clear hb; (try simp only [World.size_alloc, World.size_setCell, World.size_drew] at hm11))
                            | (at_builtin; refine wpList_append_own _ rfl _ _ 24 rfl (w.heap.size + 1) 5 i0 (.int .u8 0) 1 1 Try.underlying24 hi hz0 hz1 hz2 rfl (by decide) _ _ _ rfl ((own_keep hown.out X11.is).alloc _) ⟨X11.w.heap.size, 0, none⟩ 1 1 [_] rfl rfl (cell_one_new _ _ _) (fun x hx => by simp at hx; subst hx; rfl) (by unfold maxLen; omega) (by omega) (by go_size) ?_))
                          intro v' w9 hown9 hgrow9 _
                          obtain ⟨A9, c9, rfl⟩ := own_form hown9
                          have hb9 : Below w.heap.size w w9 := Below.trans (b := X11.w.alloc (Obj.cells #[.int .u8 0] 5)) (by repeat' (first | (with_reducible exact Below.refl _ _) | (with_reducible assumption) | (with_reducible refine Later.step ?_ ?_ _) | (with_reducible refine Below.alloc ?_ ?_ _) | (with_reducible refine Below.drew ?_) | (with_reducible refine bel_drewN ?_ _) | (with_reducible refine bel_grown ?_ (by assumption) ?_ ?_) | (with_reducible refine Below.setCell ?_ ?_ _) | go_size)) ((Below.refl _ _).grown hgrow9 (by go_size) (fun k hk => by have := (hown.out.lt k hk).1; omega))
                          have hs9 : X11.w.heap.size ≤ w9.heap.size := by have := hgrow9.size; rw [World.size_alloc] at this; omega
                          have HO9 := Lib.hid hown9
                          obtain ⟨V9, rfl⟩ : ∃ Z : Later w.heap.size w, w9 = Z.w := ⟨⟨w9, hb9⟩, rfl⟩
                          clear hown9 hgrow9 hb9
                          go_wp2
                          go_roundw
                          case rel =>
                            have h1 := HO9.out
                            rw [rowB_snoc hM.out (by decide)] at h1
                            exact ⟨k + 1, A9, c9, M ++ [0], rfl, ⟨by omega, by rw [Hid, List.length_append, hM.out]; rfl, by rw [Hid, padL_snoc M n (by rw [hM.out]; exact hlt)]; exact hpd.out, h1⟩, by repeat' (first | (with_reducible exact Below.refl _ _) | (with_reducible assumption) | (with_reducible refine Later.step ?_ ?_ _) | (with_reducible refine Below.alloc ?_ ?_ _) | (with_reducible refine Below.drew ?_) | (with_reducible refine bel_drewN ?_ _) | (with_reducible refine bel_grown ?_ (by assumption) ?_ ?_) | (with_reducible refine Below.setCell ?_ ?_ _) | go_size), by omega⟩
                          case measure => simp; omega
                        · obtain rfl : k = n := by omega
                          go_wp2_with (first
                            | (go_at_call 10; refine (P2.out _).mono ?_; rintro e w' ⟨rfl, hb⟩; obtain ⟨X11, rfl, hl11, hm11⟩ := later (P.w.heap.size) hb (by first | exact Nat.le_refl _ | go_size); clear hb; (try simp only [World.size_alloc, World.size_setCell, World.size_drew] at hm11)))
                          go_ret
                          have h9 := Reads.own (own_keep hown.out X11.is)
                          rw [← padL_full hM.out, hpd.out] at h9
                          exact ⟨⟨A, c, rfl, h9⟩, by repeat' (first | (with_reducible exact Below.refl _ _) | (with_reducible assumption) | (with_reducible refine Later.step ?_ ?_ _) | (with_reducible refine Below.alloc ?_ ?_ _) | (with_reducible refine Below.drew ?_) | (with_reducible refine bel_drewN ?_ _) | (with_reducible refine bel_grown ?_ (by assumption) ?_ ?_) | (with_reducible refine Below.setCell ?_ ?_ _) | go_size)⟩
end Go.Proofs.Ytdjkhcnejbinjaa
