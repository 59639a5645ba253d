/- An answer's bytes, walked whole. No condition beyond what the slices read as. -/
import Derived.Test.YtdjkhcnejbinjaaRepG
namespace Go.Proofs.Ytdjkhcnejbinjaa
open Go.RowKit
set_option linter.unusedSimpArgs false
set_option linter.unusedVariables false
set_option maxRecDepth 2000

/-- An answer's bytes, without the zeros behind them. -/
def encL (op s k x y lab b0 b1 b2 b3 : Int) (ns ne : Nat) (f g : Nat → Nat → Int) : List Nat :=
  wsL [s, op, (ns : Int) + ne] 1 ++ if s = 0 then onceL op k x y lab b0 b1 b2 b3 ++ (manyL (seenL f) ns ++ manyL (evL g) ne) else []
theorem onceL_len (op k x y lab b0 b1 b2 b3 : Int) : ((onceL op k x y lab b0 b1 b2 b3).length : Int) = onceI op := by
  unfold onceL onceI
  split
  · rw [wL_len]; rfl
  · split
    · rw [List.length_append, wsL_len, wsL_len]; rfl
    · split
      · rw [wsL_len]; rfl
      · rfl
theorem encL_fits {op m s k id x y lab b0 b1 b2 b3 : Int} {ns ne : Nat} {f g : Nat → Nat → Int} (h : fitsA op m s k id x y lab b0 b1 b2 b3 ns ne f g) : ((encL op s k x y lab b0 b1 b2 b3 ns ne f g).length : Int) ≤ lengthI op m := by
  obtain ⟨ht, hs, hc⟩ := h
  have hb := once_bd op
  unfold encL lengthI
  rw [if_pos ht, List.length_append, wsL_len]
  have hm : 0 ≤ m ∧ m ≤ 64 := by simp [thereB] at ht; omega
  by_cases h0 : s = 0
  · rw [if_pos h0] at hc ⊢
    rw [List.length_append, List.length_append, manyL_len (seenL_len f), manyL_len (evL_len g)]
    have ho := onceL_len op k x y lab b0 b1 b2 b3
    obtain ⟨h1, h2, h3, h4⟩ := hc.2.1
    simp only [List.length_cons, List.length_nil]
    push_cast
    rw [ho]
    rcases each_cases op with he | he | he
    · rw [he] at h1 h2 ⊢
      have hz : ne = 0 := by omega
      subst hz
      omega
    · rw [he] at h1 h2 ⊢
      have hz : ns = 0 := by omega
      subst hz
      omega
    · rw [he] at h1 h2 ⊢
      have hz : ns = 0 ∧ ne = 0 := by omega
      obtain ⟨rfl, rfl⟩ := hz
      omega
  · rw [if_neg h0]
    simp only [List.length_cons, List.length_nil]
    rcases each_cases op with he | he | he <;> (rw [he]; omega)
theorem encode_op (op m s k id x y lab b0 b1 b2 b3 : Int) (S E : Value) (w : World) (h : ¬ (1 ≤ op ∧ op ≤ 19)) :
    Calls Try.prog 14 #[.int .i64 op, .int .i64 m, .agg #[.int .i64 s, .int .u64 k, .int .i64 id, .int .i64 x, .int .i64 y, .int .i64 lab, .int .i64 b0, .int .i64 b1, .int .i64 b2, .int .i64 b3, S, E]] w fun e w' => e = .returned (.tuple #[.slice none 0 0, .int .i64 51]) ∧ Below w.heap.size w w' := by
  have hc : op < 1 ∨ (¬ op < 1 ∧ 19 < op) := by omega
  rcases hc with hc | ⟨hc, hc2⟩
  all_goals
    go_enter Try.func14, Try.ntmps14
    go_wp2
    go_ret2
    exact ⟨rfl, by repeat' (first | (with_reducible exact Below.refl _ _) | (with_reducible assumption) | (with_reducible refine Later.step ?_ ?_ _) | (with_reducible refine Below.alloc ?_ ?_ _) | (with_reducible refine Below.drew ?_) | (with_reducible refine bel_drewN ?_ _) | (with_reducible refine bel_grown ?_ (by assumption) ?_ ?_) | (with_reducible refine Below.setCell ?_ ?_ _) | go_size)⟩
set_option maxHeartbeats 4000000 in
theorem encode_none (op m s k id x y lab b0 b1 b2 b3 : Int) (A1 A2 : Option Addr) (ns ne c1 c2 : Nat) (f g : Nat → Nat → Int) (w : World) (h1 : IsItems w w.heap.size A1 ns 6 f) (h2 : IsItems w w.heap.size A2 ne 4 g) (hn1 : ns ≤ 9223372036854775807) (hn2 : ne ≤ 9223372036854775807)
    (ho : 1 ≤ op ∧ op ≤ 19) (hf : ¬ fitsA op m s k id x y lab b0 b1 b2 b3 ns ne f g) :
    Calls Try.prog 14 #[.int .i64 op, .int .i64 m, .agg #[.int .i64 s, .int .u64 k, .int .i64 id, .int .i64 x, .int .i64 y, .int .i64 lab, .int .i64 b0, .int .i64 b1, .int .i64 b2, .int .i64 b3, .slice A1 ns c1, .slice A2 ne c2]] w fun e w' => e = .returned (.tuple #[.slice none 0 0, .int .i64 1]) ∧ Below w.heap.size w w' := by
  have p1 := fun (Y : World) (hY : Below w.heap.size w Y) => fitsA_any op m s k id x y lab b0 b1 b2 b3 A1 A2 ns ne c1 c2 f g Y ((h1.keep hY).more hY.size) ((h2.keep hY).more hY.size) hn1 hn2
  rw [decide_eq_false hf] at p1
  have P1 := Lib.hid p1
  clear p1 hf h1 h2
  go_enter Try.func14, Try.ntmps14
  go_wp2_with (first
    | (go_at_call 16; with_reducible refine (P1.out _ (by repeat' (first | (with_reducible exact Below.refl _ _) | (with_reducible assumption) | (with_reducible refine Later.step ?_ ?_ _) | (with_reducible refine Below.alloc ?_ ?_ _) | (with_reducible refine Below.drew ?_) | (with_reducible refine bel_drewN ?_ _) | (with_reducible refine bel_grown ?_ (by assumption) ?_ ?_) | (with_reducible refine Below.setCell ?_ ?_ _) | go_size))).mono ?_; rintro e w' ⟨rfl, hb⟩; obtain ⟨X1, rfl, hl1, hm1⟩ := later (w.heap.size + 1) hb (by first | exact Nat.le_refl _ | go_size); clear hb; (try simp only [World.size_alloc, World.size_setCell, World.size_drew] at hm1)))
  go_ret2
  exact ⟨rfl, by repeat' (first | (with_reducible exact Below.refl _ _) | (with_reducible assumption) | (with_reducible refine Later.step ?_ ?_ _) | (with_reducible refine Below.alloc ?_ ?_ _) | (with_reducible refine Below.drew ?_) | (with_reducible refine bel_drewN ?_ _) | (with_reducible refine bel_grown ?_ (by assumption) ?_ ?_) | (with_reducible refine Below.setCell ?_ ?_ _) | go_size)⟩
set_option maxHeartbeats 8000000 in
theorem encode_cap (op m s k id x y lab b0 b1 b2 b3 : Int) (A1 A2 : Option Addr) (ns ne c1 c2 : Nat) (f g : Nat → Nat → Int) (w : World) (h1 : IsItems w w.heap.size A1 ns 6 f) (h2 : IsItems w w.heap.size A2 ne 4 g) (hn1 : ns ≤ 9223372036854775807) (hn2 : ne ≤ 9223372036854775807)
    (hk0 : 0 ≤ k) (hk1 : k ≤ 18446744073709551615) (hf : fitsA op m s k id x y lab b0 b1 b2 b3 ns ne f g) :
    Calls Try.prog 14 #[.int .i64 op, .int .i64 m, .agg #[.int .i64 s, .int .u64 k, .int .i64 id, .int .i64 x, .int .i64 y, .int .i64 lab, .int .i64 b0, .int .i64 b1, .int .i64 b2, .int .i64 b3, .slice A1 ns c1, .slice A2 ne c2]] w fun e w' =>
    ∃ A c, e = .returned (.tuple #[.slice A (lengthI op m).toNat c, .int .i64 0]) ∧ Reads .u8 w' w'.heap.size A (lengthI op m).toNat (atI (padL (encL op s k x y lab b0 b1 b2 b3 ns ne f g) (lengthI op m).toNat)) ∧ Below w.heap.size w w' ∧ (lengthI op m).toNat ≤ c ∧ c ≤ 9223372036854775807 := by
  have p1 := fun (Y : World) (hY : Below w.heap.size w Y) => fitsA_any op m s k id x y lab b0 b1 b2 b3 A1 A2 ns ne c1 c2 f g Y ((h1.keep hY).more hY.size) ((h2.keep hY).more hY.size) hn1 hn2
  rw [decide_eq_true hf] at p1
  have P1 := Lib.hid p1
  have hlen := encL_fits hf
  have hb := length_bd op m
  have P2 := Lib.hid (rlength_any op m)
  have ht := hf.1
  have hop : 1 ≤ op ∧ op ≤ 19 ∧ 0 ≤ m ∧ m ≤ 64 := by simp [thereB] at ht; omega
  have hs := hf.2.1
  have hc := hf.2.2
  have hsum : ns ≤ 64 ∧ ne ≤ 64 ∧ ns + ne ≤ 64 := by
    by_cases h0 : s = 0
    · rw [if_pos h0] at hc
      obtain ⟨g1, g2, g3, g4⟩ := hc.2.1
      rcases each_cases op with he | he | he <;> (rw [he] at g1 g2; omega)
    · rw [if_neg h0] at hc
      omega
  have H1 := Lib.hid h1
  have H2 := Lib.hid h2
  have HC := Lib.hid hc
  clear p1 hf h1 h2 ht hc
  obtain ⟨n, hn⟩ := Int.eq_ofNat_of_zero_le (show 0 ≤ lengthI op m by omega)
  rw [hn] at P2 hb hlen ⊢
  clear hn
  rw [Int.toNat_natCast]
  obtain ⟨i0, hi, hz0, hz1, hz2⟩ := info_parts Try.info5
  obtain ⟨R, hR⟩ : ∃ R, encL op s k x y lab b0 b1 b2 b3 ns ne f g = R := ⟨_, rfl⟩
  rw [hR] at hlen ⊢
  unfold encL at hR
  by_cases h0 : s = 0
  · subst h0
    rw [if_pos rfl] at hR HC
    go_enter Try.func14, Try.ntmps14
    go_wp2_with (first
      | (go_at_call 16; with_reducible refine (P1.out _ (by repeat' (first | (with_reducible exact Below.refl _ _) | (with_reducible assumption) | (with_reducible refine Later.step ?_ ?_ _) | (with_reducible refine Below.alloc ?_ ?_ _) | (with_reducible refine Below.drew ?_) | (with_reducible refine bel_drewN ?_ _) | (with_reducible refine bel_grown ?_ (by assumption) ?_ ?_) | (with_reducible refine Below.setCell ?_ ?_ _) | go_size))).mono ?_; rintro e w' ⟨rfl, hb⟩; obtain ⟨X1, rfl, hl1, hm1⟩ := later (w.heap.size + 1) hb (by first | exact Nat.le_refl _ | go_size); clear hb; (try simp only [World.size_alloc, World.size_setCell, World.size_drew] at hm1)))
    have hW0 : Wr (X1.w.alloc (Obj.cells #[.slice none 0 0] 55)) X1.w.heap.size [] := ⟨by go_size, ⟨none, 0, by go_simp, World.ownsRow_nil _ _ _ _⟩, by go_simp⟩
    have hW1 := hW0.keep (w' := (X1.w.alloc (Obj.cells #[.slice none 0 0] 55)).alloc (Obj.cells #[.int .i64 0, .int .i64 op, .int .i64 ((ns : Int) + ne)] 3)) ((Below.refl _ _).alloc (Nat.le_refl _) _)
    refine (wput_at X1.w.heap.size 1 [] [0, op, (ns : Int) + ne] (X1.w.heap.size + 1) 3 3 1 _ hW1 (ints_new (by go_size) rfl) (by omega) (fun n hn => by simp at hn; rcases hn with rfl | rfl | rfl <;> (unfold fitsW; omega)) (by decide) (by decide) rfl rfl (by simp) (by decide)).mono ?_
    rintro e w3 ⟨rfl, hW3, hb3, hk3⟩
    have hs3 := hk3.1
    simp only [World.size_alloc] at hs3
    rw [List.nil_append] at hW3
    obtain ⟨L1, hL1⟩ : ∃ L, wsL [0, op, (ns : Int) + ne] 1 = L := ⟨_, rfl⟩
    have hL1s : L1.length = 3 := by rw [← hL1, wsL_len]; rfl
    rw [hL1] at hW3 hR
    have HL1 := Lib.hid hL1s
    have HR := Lib.hid hR
    have HW3 := Lib.hid hW3
    have hb9 : Below (w.heap.size + 1) X1.w w3 := (((Below.refl _ _).alloc (by go_size) _).alloc (by go_size) _).trans (hb3.mono (by go_size))
    obtain ⟨Y1, rfl⟩ : ∃ Z : Later (w.heap.size + 1) X1.w, w3 = Z.w := ⟨⟨w3, hb9⟩, rfl⟩
    clear hW0 hW1 hW3 hb3 hk3 hL1 hb9 hL1s hR
    go_wp2_with fail
    refine (wonce_any X1.w.heap.size L1 op 0 k id x y lab b0 b1 b2 b3 _ _ Y1.w HW3.out hk0 hk1 HC.out.1 (by rw [HL1.out]; omega)).mono ?_
    rintro e w4 ⟨rfl, hW4, hb4, hk4⟩
    have hs4 := hk4.1
    obtain ⟨L2, hL2⟩ : ∃ L, onceL op k x y lab b0 b1 b2 b3 = L := ⟨_, rfl⟩
    have hL2s : (L2.length : Int) = onceI op := by rw [← hL2]; exact onceL_len _ _ _ _ _ _ _ _ _
    have hbo := once_bd op
    rw [hL2] at hW4
    have HR := Lib.hid (show L1 ++ (L2 ++ (manyL (seenL f) ns ++ manyL (evL g) ne)) = R from hL2 ▸ HR.out)
    have HW4 := Lib.hid hW4
    have HL2 := Lib.hid (show L2.length ≤ 8 by omega)
    have hb9 : Below (w.heap.size + 1) X1.w w4 := Y1.is.trans (hb4.mono (by go_size))
    obtain ⟨Y2, rfl⟩ : ∃ Z : Later (w.heap.size + 1) X1.w, w4 = Z.w := ⟨⟨w4, hb9⟩, rfl⟩
    clear hW4 hb4 hk4 hb9 hL2s hbo hL2
    go_wp2_with fail
    have hbw : Below w.heap.size w Y2.w := by repeat' (first | (with_reducible exact Below.refl _ _) | (with_reducible assumption) | (with_reducible refine Later.step ?_ ?_ _) | (with_reducible refine Below.alloc ?_ ?_ _) | (with_reducible refine Below.drew ?_) | (with_reducible refine bel_drewN ?_ _) | (with_reducible refine bel_grown ?_ (by assumption) ?_ ?_) | (with_reducible refine Below.setCell ?_ ?_ _) | go_size)
    refine (witems_any X1.w.heap.size (L1 ++ L2) 0 k id x y lab b0 b1 b2 b3 A1 A2 ns ne c1 c2 f g Y2.w HW4.out ((H1.out.keep hbw).more (by go_size)) ((H2.out.keep hbw).more (by go_size)) HC.out.2.2.1 HC.out.2.2.2 hsum.1 hsum.2.1 (by rw [List.length_append, HL1.out]; have := HL2.out; omega)).mono ?_
    rintro e w5 ⟨rfl, hW5, hb5, hk5⟩
    have hs5 := hk5.1
    obtain ⟨L, hL⟩ : ∃ L, L1 ++ L2 ++ (manyL (seenL f) ns ++ manyL (evL g) ne) = L := ⟨_, rfl⟩
    rw [hL] at hW5
    have hLR : L = R := by rw [← hL, List.append_assoc]; exact HR.out
    subst hLR
    have hLn : L.length ≤ n := by omega
    have HW3 := Lib.hid hW5
    have hb9 : Below (w.heap.size + 1) X1.w w5 := Y2.is.trans (hb5.mono (by go_size))
    obtain ⟨Y, rfl⟩ : ∃ Z : Later (w.heap.size + 1) X1.w, w5 = Z.w := ⟨⟨w5, hb9⟩, rfl⟩
    clear hW5 hb5 hk5 hb9 hL hbw
    go_wp2_with (first
      | (go_at_call 9; refine (P2.out _).mono ?_; rintro e w' ⟨rfl, hb⟩; obtain ⟨X4, rfl, hl4, hm4⟩ := later (Y.w.heap.size) hb (by first | exact Nat.le_refl _ | go_size); clear hb; (try simp only [World.size_alloc, World.size_setCell, World.size_drew] at hm4))
      | (refine wpList_make_full (o := ⟨some 49, _, _, _, _, _⟩) _ rfl _ _ 24 rfl X4.w.heap.size 5 i0 (.int .u8 0) 1 Try.underlying24 hi hz0 hz1 .i64 .i64 n n n rfl rfl rfl rfl (by rw [hz2]; omega) (by unfold maxLen; omega) (Nat.le_refl _) ?_))
    intro w5 hown5 hg5
    have hb5 : Below X4.w.heap.size X4.w w5 := (Below.refl _ _).grown hg5 (Nat.le_refl _) (fun k hk => by cases hk)
    rw [made_zero] at hown5
    have hg9 := made_heap hown5
    have hs5 := hb5.size
    obtain ⟨lt3, ⟨A3, c3, d1, own3⟩, z3⟩ := HW3.out
    have HR3 := Lib.hid (Reads.own own3)
    obtain ⟨Z, rfl⟩ : ∃ Z : Later X4.w.heap.size X4.w, w5 = Z.w := ⟨⟨w5, hb5⟩, rfl⟩
    clear hown5 hg5 hb5 own3
    have hmin : Nat.min L.length n = L.length := Nat.min_eq_left hLn
    have HM := Lib.hid hmin
    clear hmin
    go_wp2_with (refine wpList_copy_splice (o := ⟨some 55, _, _, _, _, _⟩) rfl _ _ 24 24 rfl 5 Try.underlying24 (by kernel_rfl) _ _ _ _ _ _ rfl rfl X4.w.heap.size 0 (List.replicate n (.int .u8 0)) 5 hg9 (rowV .u8 L.length (atI L)) (by rw [rowV_len]; exact HM.out.symm) ?cpos (by rw [rowV_len, List.length_replicate]; omega) rowV_one X4.w.heap.size X4.w (by repeat' (first | (with_reducible exact Below.refl _ _) | (with_reducible assumption) | (with_reducible refine Later.step ?_ ?_ _) | (with_reducible refine Below.alloc ?_ ?_ _) | (with_reducible refine Below.drew ?_) | (with_reducible refine bel_drewN ?_ _) | (with_reducible refine bel_grown ?_ (by assumption) ?_ ?_) | (with_reducible refine Below.setCell ?_ ?_ _) | go_size)) (Nat.le_refl _) ?_)
    case cpos =>
      intro hp
      rw [rowV_len] at hp
      obtain ⟨b3, o3, rfl, hb3, hc3⟩ := HR3.out hp
      first
        | refine ⟨rfl, _, rfl, ?_⟩
        | refine ⟨_, rfl, ?_⟩
      intro j v hv
      have hj : j < L.length := by have := (List.getElem?_eq_some_iff.1 hv).1; rwa [rowV_len] at this
      rw [rowV_get hj] at hv
      injection hv with hv
      subst hv
      rw [Addr.add_lit]
      have := hc3 j hj
      go_simp
    intro w6 hg6 hb6
    have hg6' := Lib.hid (hg6.out)
    obtain ⟨W, rfl⟩ : ∃ Z : Later X4.w.heap.size X4.w, w6 = Z.w := ⟨⟨w6, hb6⟩, rfl⟩
    clear hg6 hb6
    go_wp2
    go_ret2
    refine ⟨_, _, rfl, ?_, by repeat' (first | (with_reducible exact Below.refl _ _) | (with_reducible assumption) | (with_reducible refine Later.step ?_ ?_ _) | (with_reducible refine Below.alloc ?_ ?_ _) | (with_reducible refine Below.drew ?_) | (with_reducible refine bel_drewN ?_ _) | (with_reducible refine bel_grown ?_ (by assumption) ?_ ?_) | (with_reducible refine Below.setCell ?_ ?_ _) | go_size), Nat.le_refl _, by omega⟩
    have h9 := hg6'.out
    rw [pad_splice hLn] at h9
    exact reads_heap h9
  · rw [if_neg h0, List.append_nil] at hR
    rw [if_neg h0] at HC
    obtain ⟨rfl, rfl⟩ := HC.out.2
    go_enter Try.func14, Try.ntmps14
    go_wp2_with (first
      | (go_at_call 16; with_reducible refine (P1.out _ (by repeat' (first | (with_reducible exact Below.refl _ _) | (with_reducible assumption) | (with_reducible refine Later.step ?_ ?_ _) | (with_reducible refine Below.alloc ?_ ?_ _) | (with_reducible refine Below.drew ?_) | (with_reducible refine bel_drewN ?_ _) | (with_reducible refine bel_grown ?_ (by assumption) ?_ ?_) | (with_reducible refine Below.setCell ?_ ?_ _) | go_size))).mono ?_; rintro e w' ⟨rfl, hb⟩; obtain ⟨X1, rfl, hl1, hm1⟩ := later (w.heap.size + 1) hb (by first | exact Nat.le_refl _ | go_size); clear hb; (try simp only [World.size_alloc, World.size_setCell, World.size_drew] at hm1)))
    have hW0 : Wr (X1.w.alloc (Obj.cells #[.slice none 0 0] 55)) X1.w.heap.size [] := ⟨by go_size, ⟨none, 0, by go_simp, World.ownsRow_nil _ _ _ _⟩, by go_simp⟩
    have hW1 := hW0.keep (w' := (X1.w.alloc (Obj.cells #[.slice none 0 0] 55)).alloc (Obj.cells #[.int .i64 s, .int .i64 op, .int .i64 0] 3)) ((Below.refl _ _).alloc (Nat.le_refl _) _)
    refine (wput_at X1.w.heap.size 1 [] [s, op, 0] (X1.w.heap.size + 1) 3 3 1 _ hW1 (ints_new (by go_size) rfl) (by omega) (fun n hn => by simp at hn; rcases hn with rfl | rfl | rfl <;> (unfold fitsW; omega)) (by decide) (by decide) rfl rfl (by simp) (by decide)).mono ?_
    rintro e w3 ⟨rfl, hW3, hb3, hk3⟩
    have hs3 := hk3.1
    simp only [World.size_alloc] at hs3
    rw [List.nil_append] at hW3
    have hLR : wsL [s, op, 0] 1 = R := by rw [← hR]; rfl
    rw [hLR] at hW3
    have hLn : R.length ≤ n := by omega
    have HW3 := Lib.hid hW3
    have hb9 : Below (w.heap.size + 1) X1.w w3 := (((Below.refl _ _).alloc (by go_size) _).alloc (by go_size) _).trans (hb3.mono (by go_size))
    obtain ⟨Y, rfl⟩ : ∃ Z : Later (w.heap.size + 1) X1.w, w3 = Z.w := ⟨⟨w3, hb9⟩, rfl⟩
    clear hW0 hW1 hW3 hb3 hk3 hb9 hLR hR
    go_wp2_with (first
      | (go_at_call 9; refine (P2.out _).mono ?_; rintro e w' ⟨rfl, hb⟩; obtain ⟨X4, rfl, hl4, hm4⟩ := later (Y.w.heap.size) hb (by first | exact Nat.le_refl _ | go_size); clear hb; (try simp only [World.size_alloc, World.size_setCell, World.size_drew] at hm4))
      | (refine wpList_make_full (o := ⟨some 49, _, _, _, _, _⟩) _ rfl _ _ 24 rfl X4.w.heap.size 5 i0 (.int .u8 0) 1 Try.underlying24 hi hz0 hz1 .i64 .i64 n n n rfl rfl rfl rfl (by rw [hz2]; omega) (by unfold maxLen; omega) (Nat.le_refl _) ?_))
    intro w5 hown5 hg5
    have hb5 : Below X4.w.heap.size X4.w w5 := (Below.refl _ _).grown hg5 (Nat.le_refl _) (fun k hk => by cases hk)
    rw [made_zero] at hown5
    have hg9 := made_heap hown5
    have hs5 := hb5.size
    obtain ⟨lt3, ⟨A3, c3, d1, own3⟩, z3⟩ := HW3.out
    have HR3 := Lib.hid (Reads.own own3)
    obtain ⟨Z, rfl⟩ : ∃ Z : Later X4.w.heap.size X4.w, w5 = Z.w := ⟨⟨w5, hb5⟩, rfl⟩
    clear hown5 hg5 hb5 own3
    have hmin : Nat.min R.length n = R.length := Nat.min_eq_left hLn
    have HM := Lib.hid hmin
    clear hmin
    go_wp2_with (refine wpList_copy_splice (o := ⟨some 55, _, _, _, _, _⟩) rfl _ _ 24 24 rfl 5 Try.underlying24 (by kernel_rfl) _ _ _ _ _ _ rfl rfl X4.w.heap.size 0 (List.replicate n (.int .u8 0)) 5 hg9 (rowV .u8 R.length (atI R)) (by rw [rowV_len]; exact HM.out.symm) ?cpos (by rw [rowV_len, List.length_replicate]; omega) rowV_one X4.w.heap.size X4.w (by repeat' (first | (with_reducible exact Below.refl _ _) | (with_reducible assumption) | (with_reducible refine Later.step ?_ ?_ _) | (with_reducible refine Below.alloc ?_ ?_ _) | (with_reducible refine Below.drew ?_) | (with_reducible refine bel_drewN ?_ _) | (with_reducible refine bel_grown ?_ (by assumption) ?_ ?_) | (with_reducible refine Below.setCell ?_ ?_ _) | go_size)) (Nat.le_refl _) ?_)
    case cpos =>
      intro hp
      rw [rowV_len] at hp
      obtain ⟨b3, o3, rfl, hb3, hc3⟩ := HR3.out hp
      first
        | refine ⟨rfl, _, rfl, ?_⟩
        | refine ⟨_, rfl, ?_⟩
      intro j v hv
      have hj : j < R.length := by have := (List.getElem?_eq_some_iff.1 hv).1; rwa [rowV_len] at this
      rw [rowV_get hj] at hv
      injection hv with hv
      subst hv
      rw [Addr.add_lit]
      have := hc3 j hj
      go_simp
    intro w6 hg6 hb6
    have hg6' := Lib.hid (hg6.out)
    obtain ⟨W, rfl⟩ : ∃ Z : Later X4.w.heap.size X4.w, w6 = Z.w := ⟨⟨w6, hb6⟩, rfl⟩
    clear hg6 hb6
    go_wp2
    go_ret2
    refine ⟨_, _, rfl, ?_, by repeat' (first | (with_reducible exact Below.refl _ _) | (with_reducible assumption) | (with_reducible refine Later.step ?_ ?_ _) | (with_reducible refine Below.alloc ?_ ?_ _) | (with_reducible refine Below.drew ?_) | (with_reducible refine bel_drewN ?_ _) | (with_reducible refine bel_grown ?_ (by assumption) ?_ ?_) | (with_reducible refine Below.setCell ?_ ?_ _) | go_size), Nat.le_refl _, by omega⟩
    have h9 := hg6'.out
    rw [pad_splice hLn] at h9
    exact reads_heap h9
set_option maxHeartbeats 4000000 in
theorem encode_ok (op m s k id x y lab b0 b1 b2 b3 : Int) (A1 A2 : Option Addr) (ns ne c1 c2 : Nat) (f g : Nat → Nat → Int) (w : World) (h1 : IsItems w w.heap.size A1 ns 6 f) (h2 : IsItems w w.heap.size A2 ne 4 g) (hn1 : ns ≤ 9223372036854775807) (hn2 : ne ≤ 9223372036854775807)
    (hk0 : 0 ≤ k) (hk1 : k ≤ 18446744073709551615) (hf : fitsA op m s k id x y lab b0 b1 b2 b3 ns ne f g) :
    Calls Try.prog 14 #[.int .i64 op, .int .i64 m, .agg #[.int .i64 s, .int .u64 k, .int .i64 id, .int .i64 x, .int .i64 y, .int .i64 lab, .int .i64 b0, .int .i64 b1, .int .i64 b2, .int .i64 b3, .slice A1 ns c1, .slice A2 ne c2]] w fun e w' =>
    ∃ A c, e = .returned (.tuple #[.slice A (lengthI op m).toNat c, .int .i64 0]) ∧ Reads .u8 w' w'.heap.size A (lengthI op m).toNat (atI (padL (encL op s k x y lab b0 b1 b2 b3 ns ne f g) (lengthI op m).toNat)) ∧ Below w.heap.size w w' := 
  (encode_cap op m s k id x y lab b0 b1 b2 b3 A1 A2 ns ne c1 c2 f g w h1 h2 hn1 hn2 hk0 hk1 hf).mono fun e w' ⟨A, c, he, hr, hb, _⟩ => ⟨A, c, he, hr, hb⟩
end Go.Proofs.Ytdjkhcnejbinjaa
