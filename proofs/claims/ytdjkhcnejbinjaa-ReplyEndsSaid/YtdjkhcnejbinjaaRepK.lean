/- The layer's fixed calls, walked. No condition. -/
import Derived.Test.YtdjkhcnejbinjaaRepC
import Derived.OwnWalk
import Derived.Laws.CopyOwn
namespace Go.Proofs.Ytdjkhcnejbinjaa
open Go.RowKit
set_option linter.unusedSimpArgs false
set_option linter.unusedVariables false
set_option maxRecDepth 2000

set_option maxHeartbeats 4000000 in
theorem k_once (s : Int) (w : World) : Calls Try.prog 34 #[.int .i64 0, .agg #[.int .i64 s, .int .u64 0, .int .i64 0, .int .i64 0, .int .i64 0, .int .i64 0, .int .i64 0, .int .i64 0, .int .i64 0, .int .i64 0, .slice none 0 0, .slice none 0 0]] w fun e w' => e = .returned (.bool true) ∧ Below w.heap.size w w' := by
  go_enter Try.func34, Try.ntmps34
  go_wp2
  go_ret
  exact ⟨ret_b (by first | rfl | simp | decide), by repeat' (first | (with_reducible exact Below.refl _ _) | (with_reducible assumption) | (with_reducible refine Later.step ?_ ?_ _) | (with_reducible refine Below.alloc ?_ ?_ _) | (with_reducible refine Below.drew ?_) | (with_reducible refine bel_drewN ?_ _) | (with_reducible refine bel_grown ?_ (by assumption) ?_ ?_) | (with_reducible refine Below.setCell ?_ ?_ _) | go_size)⟩
set_option maxHeartbeats 4000000 in
theorem k_fits (op m s : Int) (w : World) (ht : thereB op m = true) (h1 : 1 ≤ s) (h2 : s ≤ 12) : Calls Try.prog 16 #[.int .i64 op, .int .i64 m, .agg #[.int .i64 s, .int .u64 0, .int .i64 0, .int .i64 0, .int .i64 0, .int .i64 0, .int .i64 0, .int .i64 0, .int .i64 0, .int .i64 0, .slice none 0 0, .slice none 0 0]] w fun e w' => e = .returned (.bool true) ∧ Below w.heap.size w w' := by
  have P1 : ∀ Y : World, Calls Try.prog 22 #[.int .i64 op, .int .i64 m] Y fun e w' => e = .returned (.bool true) ∧ Below Y.heap.size Y w' := fun Y => ht ▸ there_any op m Y
  have p2 := within_one 12 s
  rw [show inB1 12 s = true from decide_eq_true ⟨by omega, h2⟩] at p2
  have Q1 := Lib.hid P1
  have Q2 := Lib.hid p2
  have Q3 := Lib.hid (k_once s)
  have hs : ¬ s = 0 := by omega
  clear P1 p2 ht
  go_enter Try.func16, Try.ntmps16
  go_wp2_with (first
    | (go_at_call 22; with_reducible refine (Q1.out _).mono ?_; rintro e w' ⟨rfl, hb⟩; obtain ⟨X1, rfl, hl1, hm1⟩ := later (w.heap.size + 1) hb (by first | exact Nat.le_refl _ | go_size); clear hb; (try simp only [World.size_alloc, World.size_setCell, World.size_drew] at hm1))
    | (go_at_call 26; with_reducible refine (Q2.out _ _ (by go_size) (by go_simp)).mono ?_; rintro e w' ⟨rfl, hb⟩; obtain ⟨X2, rfl, hl2, hm2⟩ := later (X1.w.heap.size) hb (by first | exact Nat.le_refl _ | go_size); clear hb; (try simp only [World.size_alloc, World.size_setCell, World.size_drew] at hm2))
    | (go_at_call 34; with_reducible refine (Q3.out _).mono ?_; rintro e w' ⟨rfl, hb⟩; obtain ⟨X3, rfl, hl3, hm3⟩ := later (X2.w.heap.size) hb (by first | exact Nat.le_refl _ | go_size); clear hb; (try simp only [World.size_alloc, World.size_setCell, World.size_drew] at hm3)))
  all_goals
    go_ret
    exact ⟨ret_b (by first | rfl | simp | decide), by repeat' (first | (with_reducible exact Below.refl _ _) | (with_reducible assumption) | (with_reducible refine Later.step ?_ ?_ _) | (with_reducible refine Below.alloc ?_ ?_ _) | (with_reducible refine Below.drew ?_) | (with_reducible refine bel_drewN ?_ _) | (with_reducible refine bel_grown ?_ (by assumption) ?_ ?_) | (with_reducible refine Below.setCell ?_ ?_ _) | go_size)⟩
theorem wL_three (a b c : Int) : wsL [a, b, c] 1 = wL a 1 ++ (wL b 1 ++ wL c 1) := by simp [wsL]
theorem wL_byte {x : Int} (h0 : 0 ≤ x) (h1 : x < 256) : wL x 1 = [x.toNat] := by
  have e : putI x 1 0 = x := by unfold putI; simp; omega
  simp [wL, e]
theorem made_heap {w : World} {g n base : Nat} {t : TypeId} {xs : List Value} (h : w.ownsRow base t 1 (.slice (some ⟨g, 0, none⟩) n n) n xs) : w.heap[g]? = some (.cells xs.toArray t (0, 0)) := by
  rcases h.2 with ⟨hv, _⟩ | ⟨g', cap, cur, hv, _, hg, _, _, hs, ht⟩
  · injection hv with hA; cases hA
  · injection hv with hA _ hc
    injection hA with hA
    injection hA with hA
    subst hA hc
    rw [hg]
    have e : cur.toList = xs := by
      rw [← ht]
      exact (List.take_of_length_le (by rw [Array.length_toList]; omega)).symm
    rw [← e, Array.toArray_toList]
theorem made_zero (n : Nat) : (madeCells #[Value.int .u8 0] n).toList = List.replicate n (.int .u8 0) := by
  refine List.ext_getElem (by simp [madeCells]) fun j h1 h2 => ?_
  simp [madeCells, Nat.mod_one]
/-- Bytes, and zeros behind them. -/
def padL (l : List Nat) (n : Nat) : List Nat := l ++ List.replicate (n - l.length) 0
theorem pad_splice {n : Nat} {l : List Nat} (h : l.length ≤ n) : splice (List.replicate n (Value.int .u8 0)) 0 (rowV .u8 l.length (atI l)) = rowV .u8 n (atI (padL l n)) := by
  have hp : (padL l n).length = n := by simp [padL]; omega
  refine List.ext_getElem? fun j => ?_
  unfold splice
  rw [List.take_zero, List.nil_append, Nat.zero_add, rowV_len]
  by_cases hj : j < l.length
  · rw [List.getElem?_append_left (by rw [rowV_len]; exact hj), rowV_get hj, rowV_get (by omega)]
    simp [atI, List.getD, padL, List.getElem?_append_left hj]
  · rw [List.getElem?_append_right (by rw [rowV_len]; omega), rowV_len]
    by_cases hn : j < n
    · rw [rowV_get hn, List.getElem?_drop, List.getElem?_replicate, if_pos (by omega)]
      simp only [atI, List.getD, padL]
      rw [List.getElem?_append_right (by omega), List.getElem?_replicate, if_pos (by omega)]
      rfl
    · rw [List.getElem?_drop, List.getElem?_replicate, if_neg (by omega), List.getElem?_eq_none (by rw [rowV_len]; omega)]
theorem reads_heap {w : World} {g n : Nat} {f : Nat → Int} {t : TypeId} {fz : Nat × Nat} (h : w.heap[g]? = some (.cells (rowV .u8 n f).toArray t fz)) : Reads .u8 w w.heap.size (some ⟨g, 0, none⟩) n f := fun _ => by
  refine ⟨g, 0, rfl, ?_, fun j hj => ?_⟩
  · rcases Nat.lt_or_ge g w.heap.size with h' | h'
    · exact h'
    · rw [Array.getElem?_eq_none h'] at h; cases h
  · simp [World.cell?, h, rowV_get hj]
set_option maxHeartbeats 4000000 in
theorem k_encode (op m s : Int) (w : World) (ht : thereB op m = true) (h1 : 1 ≤ s) (h2 : s ≤ 12) : Calls Try.prog 14 #[.int .i64 op, .int .i64 m, .agg #[.int .i64 s, .int .u64 0, .int .i64 0, .int .i64 0, .int .i64 0, .int .i64 0, .int .i64 0, .int .i64 0, .int .i64 0, .int .i64 0, .slice none 0 0, .slice none 0 0]] w fun e w' =>
    ∃ A c, e = .returned (.tuple #[.slice A (lengthI op m).toNat c, .int .i64 0]) ∧ Reads .u8 w' w'.heap.size A (lengthI op m).toNat (atI (padL [s.toNat, op.toNat, 0] (lengthI op m).toNat)) ∧ Below w.heap.size w w' := by
  have hop : 1 ≤ op ∧ op ≤ 19 := by simp [thereB] at ht; omega
  have hb := length_bd op m
  have P1 := Lib.hid (fun Y : World => k_fits op m s Y ht h1 h2)
  have P2 := Lib.hid (rlength_any op m)
  have hs : ¬ s = 0 := by omega
  clear ht
  obtain ⟨n, hn⟩ := Int.eq_ofNat_of_zero_le (show 0 ≤ lengthI op m by omega)
  rw [hn] at P2 hb ⊢
  clear hn
  rw [Int.toNat_natCast]
  obtain ⟨i0, hi, hz0, hz1, hz2⟩ := info_parts Try.info5
  go_enter Try.func14, Try.ntmps14
  go_wp2_with (first
    | (go_at_call 16; with_reducible refine (P1.out _).mono ?_; rintro e w' ⟨rfl, hb⟩; obtain ⟨X1, rfl, hl1, hm1⟩ := later (w.heap.size + 1) hb (by first | exact Nat.le_refl _ | go_size); clear hb; (try simp only [World.size_alloc, World.size_setCell, World.size_drew] at hm1)))
  have hW0 : Wr (X1.w.alloc (Obj.cells #[.slice none 0 0] 55)) X1.w.heap.size [] := ⟨by go_size, ⟨none, 0, by go_simp, World.ownsRow_nil _ _ _ _⟩, by go_simp⟩
  have hW1 := hW0.keep (w' := (X1.w.alloc (Obj.cells #[.slice none 0 0] 55)).alloc (Obj.cells #[.int .i64 s, .int .i64 op, .int .i64 0] 3)) ((Below.refl _ _).alloc (Nat.le_refl _) _)
  refine (wput_at X1.w.heap.size 1 [] [s, op, 0] (X1.w.heap.size + 1) 3 3 1 _ hW1 (ints_new (by go_size) rfl) (by omega) (fun n hn => by simp at hn; rcases hn with rfl | rfl | rfl <;> (unfold fitsW; omega)) (by decide) (by decide) rfl rfl (by simp) (by decide)).mono ?_
  rintro e w3 ⟨rfl, hW3, hb3, hk3⟩
  have hs3 := hk3.1
  simp only [World.size_alloc] at hs3
  rw [List.nil_append] at hW3
  obtain ⟨L, hL⟩ : ∃ L, wsL [s, op, 0] 1 = L := ⟨_, rfl⟩
  rw [hL] at hW3
  have hLs : L.length = 3 := by rw [← hL, wsL_len]; rfl
  have HL := Lib.hid hL
  have HLS := Lib.hid hLs
  have HW3 := Lib.hid hW3
  have hb9 : Below (w.heap.size + 1) X1.w w3 := (((Below.refl _ _).alloc (by go_size) _).alloc (by go_size) _).trans (hb3.mono (by go_size))
  obtain ⟨Y, rfl⟩ : ∃ Z : Later (w.heap.size + 1) X1.w, w3 = Z.w := ⟨⟨w3, hb9⟩, rfl⟩
  clear hW0 hW1 hW3 hb3 hk3 hL hb9 hLs
  go_wp2_with (first
    | (go_at_call 9; refine (P2.out _).mono ?_; rintro e w' ⟨rfl, hb⟩; obtain ⟨X4, rfl, hl4, hm4⟩ := later (Y.w.heap.size) hb (by first | exact Nat.le_refl _ | go_size); clear hb; (try simp only [World.size_alloc, World.size_setCell, World.size_drew] at hm4))
    | (refine wpList_make_full (o := ⟨some 49, _, _, _, _, _⟩) _ rfl _ _ 24 rfl X4.w.heap.size 5 i0 (.int .u8 0) 1 Try.underlying24 hi hz0 hz1 .i64 .i64 n n n rfl rfl rfl rfl (by rw [hz2]; omega) (by unfold maxLen; omega) (Nat.le_refl _) ?_))
  intro w5 hown5 hg5
  have hb5 : Below X4.w.heap.size X4.w w5 := (Below.refl _ _).grown hg5 (Nat.le_refl _) (fun k hk => by cases hk)
  rw [made_zero] at hown5
  have hg9 := made_heap hown5
  have hs5 := hb5.size
  obtain ⟨lt3, ⟨A3, c3, d1, own3⟩, z3⟩ := HW3.out
  have HR3 := Lib.hid (Reads.own own3)
  obtain ⟨Z, rfl⟩ : ∃ Z : Later X4.w.heap.size X4.w, w5 = Z.w := ⟨⟨w5, hb5⟩, rfl⟩
  clear hown5 hg5 hb5 own3
  have hmin : Nat.min L.length n = L.length := Nat.min_eq_left (by rw [HLS.out]; omega)
  have HM := Lib.hid hmin
  clear hmin
  go_wp2_with (refine wpList_copy_splice (o := ⟨some 55, _, _, _, _, _⟩) rfl _ _ 24 24 rfl 5 Try.underlying24 (by kernel_rfl) _ _ _ _ _ _ rfl rfl X4.w.heap.size 0 (List.replicate n (.int .u8 0)) 5 hg9 (rowV .u8 L.length (atI L)) (by rw [rowV_len]; exact HM.out.symm) ?cpos (by rw [rowV_len, List.length_replicate, HLS.out]; omega) rowV_one X4.w.heap.size X4.w (by repeat' (first | (with_reducible exact Below.refl _ _) | (with_reducible assumption) | (with_reducible refine Later.step ?_ ?_ _) | (with_reducible refine Below.alloc ?_ ?_ _) | (with_reducible refine Below.drew ?_) | (with_reducible refine bel_drewN ?_ _) | (with_reducible refine bel_grown ?_ (by assumption) ?_ ?_) | (with_reducible refine Below.setCell ?_ ?_ _) | go_size)) (Nat.le_refl _) ?_)
  case cpos =>
    intro hp
    rw [rowV_len] at hp
    obtain ⟨b3, o3, rfl, hb3, hc3⟩ := HR3.out hp
    first
      | refine ⟨rfl, _, rfl, ?_⟩
      | refine ⟨_, rfl, ?_⟩
    intro j v hv
    have hj : j < L.length := by have := (List.getElem?_eq_some_iff.1 hv).1; rwa [rowV_len] at this
    rw [rowV_get hj] at hv
    injection hv with hv
    subst hv
    rw [Addr.add_lit]
    have := hc3 j hj
    go_simp
  intro w6 hg6 hb6
  have hg6' := Lib.hid (hg6.out)
  obtain ⟨W, rfl⟩ : ∃ Z : Later X4.w.heap.size X4.w, w6 = Z.w := ⟨⟨w6, hb6⟩, rfl⟩
  clear hg6 hb6
  go_wp2
  go_ret2
  refine ⟨_, _, rfl, ?_, by repeat' (first | (with_reducible exact Below.refl _ _) | (with_reducible assumption) | (with_reducible refine Later.step ?_ ?_ _) | (with_reducible refine Below.alloc ?_ ?_ _) | (with_reducible refine Below.drew ?_) | (with_reducible refine bel_drewN ?_ _) | (with_reducible refine bel_grown ?_ (by assumption) ?_ ?_) | (with_reducible refine Below.setCell ?_ ?_ _) | go_size)⟩
  have h9 := hg6'.out
  rw [pad_splice (by rw [HLS.out]; omega)] at h9
  have h8 := reads_heap h9
  rw [← HL.out] at h8
  have hl9 : wsL [s, op, 0] 1 = [s.toNat, op.toNat, 0] := by
    rw [wL_three, wL_byte (by omega) (by omega), wL_byte (by omega) (by omega), wL_byte (by omega) (by omega)]
    rfl
  rw [hl9] at h8
  exact h8
theorem reads_lit {w : World} {b : Nat} {l : List Nat} (hb : b < w.heap.size) (h : ∀ j, j < l.length → w.cell? ⟨b, j, none⟩ = some (.int .u8 (atI l j))) : Reads .u8 w w.heap.size (some ⟨b, 0, none⟩) l.length (atI l) := fun _ => ⟨b, 0, rfl, hb, fun j hj => by rw [Nat.zero_add]; exact h j hj⟩
theorem k_enc (w : World) : Calls Try.prog 14 #[.int .i64 12, .int .i64 3, .agg #[.int .i64 6, .int .u64 0, .int .i64 0, .int .i64 0, .int .i64 0, .int .i64 0, .int .i64 0, .int .i64 0, .int .i64 0, .int .i64 0, .slice none 0 0, .slice none 0 0]] w fun e w' =>
    ∃ A c, e = .returned (.tuple #[.slice A 8 c, .int .i64 0]) ∧ Reads .u8 w' w'.heap.size A [6, 12, 0, 0, 0, 0, 0, 0].length (atI [6, 12, 0, 0, 0, 0, 0, 0]) ∧ Below w.heap.size w w' := by
  have := k_encode 12 3 6 w (by decide) (by decide) (by decide)
  rw [show (lengthI 12 3).toNat = 8 by decide] at this
  exact this
theorem k_len (w : World) : Calls Try.prog 9 #[.int .i64 13, .int .i64 2] w fun e w' => e = .returned (.int .i64 25) ∧ Below w.heap.size w w' := by
  have := rlength_any 13 2 w
  rw [show lengthI 13 2 = 25 by decide] at this
  exact this
theorem k_fault (w : World) : Calls Try.prog 12 #[.int .i64 1] w fun e w' => ∃ b, e = .returned (.slice (some ⟨b, 0, none⟩) 3 3) ∧ b < w'.heap.size ∧ w'.cell? ⟨b, 0, none⟩ = some (.int .u8 1) ∧ w'.cell? ⟨b, 1, none⟩ = some (.int .u8 0) ∧ w'.cell? ⟨b, 2, none⟩ = some (.int .u8 0) ∧ Below w.heap.size w w' := by
  have := fault_any 1 w
  rw [show faultI 1 = 1 by decide] at this
  exact this
theorem lit8 {w : World} {b : Nat} (hb : b < w.heap.size) (h0 : w.cell? ⟨b, 0, none⟩ = some (.int .u8 6)) (h1 : w.cell? ⟨b, 1, none⟩ = some (.int .u8 12)) (h2 : w.cell? ⟨b, 2, none⟩ = some (.int .u8 0)) (h3 : w.cell? ⟨b, 3, none⟩ = some (.int .u8 0)) (h4 : w.cell? ⟨b, 4, none⟩ = some (.int .u8 0))
    (h5 : w.cell? ⟨b, 5, none⟩ = some (.int .u8 0)) (h6 : w.cell? ⟨b, 6, none⟩ = some (.int .u8 0)) (h7 : w.cell? ⟨b, 7, none⟩ = some (.int .u8 0)) : Reads .u8 w w.heap.size (some ⟨b, 0, none⟩) [6, 12, 0, 0, 0, 0, 0, 0].length (atI [6, 12, 0, 0, 0, 0, 0, 0]) := reads_lit hb fun j hj => by
  match j, hj with
  | 0, _ => exact h0
  | 1, _ => exact h1
  | 2, _ => exact h2
  | 3, _ => exact h3
  | 4, _ => exact h4
  | 5, _ => exact h5
  | 6, _ => exact h6
  | 7, _ => exact h7
theorem lit3 {w : World} {b x : Nat} {v : Int} (hb : b < w.heap.size) (hv : v = x) (h0 : w.cell? ⟨b, 0, none⟩ = some (.int .u8 v)) (h1 : w.cell? ⟨b, 1, none⟩ = some (.int .u8 0)) (h2 : w.cell? ⟨b, 2, none⟩ = some (.int .u8 0)) : Reads .u8 w w.heap.size (some ⟨b, 0, none⟩) [x, 0, 0].length (atI [x, 0, 0]) := reads_lit hb fun j hj => by
  subst hv
  match j, hj with
  | 0, _ => exact h0
  | 1, _ => exact h1
  | 2, _ => exact h2
theorem same8 (A : Option Addr) (c b : Nat) (w : World) (ha : Reads .u8 w w.heap.size A [6, 12, 0, 0, 0, 0, 0, 0].length (atI [6, 12, 0, 0, 0, 0, 0, 0])) (hb : Reads .u8 w w.heap.size (some ⟨b, 0, none⟩) [6, 12, 0, 0, 0, 0, 0, 0].length (atI [6, 12, 0, 0, 0, 0, 0, 0])) :
    Calls Try.prog 11 #[.slice A 8 c, .slice (some ⟨b, 0, none⟩) 8 8] w fun e w' => e = .returned (.bool true) ∧ Below w.heap.size w w' := by
  have := lsame_any A (some ⟨b, 0, none⟩) _ _ c 8 w ha hb (by decide) (by decide)
  exact this
theorem same3 (x b b' : Nat) (w : World) (ha : Reads .u8 w w.heap.size (some ⟨b, 0, none⟩) [x, 0, 0].length (atI [x, 0, 0])) (hb : Reads .u8 w w.heap.size (some ⟨b', 0, none⟩) [x, 0, 0].length (atI [x, 0, 0])) :
    Calls Try.prog 11 #[.slice (some ⟨b, 0, none⟩) 3 3, .slice (some ⟨b', 0, none⟩) 3 3] w fun e w' => e = .returned (.bool true) ∧ Below w.heap.size w w' := by
  have := lsame_any (some ⟨b, 0, none⟩) (some ⟨b', 0, none⟩) [x, 0, 0] [x, 0, 0] 3 3 w ha hb (by simp) (by simp)
  rw [decide_eq_true (rfl : [x, 0, 0] = [x, 0, 0])] at this
  exact this
set_option maxHeartbeats 4000000 in
theorem pknown_any (w : World) : Calls Try.prog 13 #[] w fun e w' => e = .returned (.bool true) ∧ Below w.heap.size w w' := by
  go_enter Try.func13, Try.ntmps13
  go_wp2_with fail
  refine (k_enc _).mono ?_
  rintro e w1 ⟨A, c, rfl, hr, hb⟩
  have HR := Lib.hid hr
  have hs1 := hb.size
  obtain ⟨X1, rfl⟩ : ∃ Z : Later w.heap.size w, w1 = Z.w := ⟨⟨w1, hb⟩, rfl⟩
  clear hr hb
  go_wp2_with (first
    | (go_at_call 9; refine (k_len _).mono ?_; rintro e w' ⟨rfl, hb⟩; obtain ⟨X2, rfl, hl2, hm2⟩ := later (X1.w.heap.size) hb (by first | exact Nat.le_refl _ | go_size); clear hb; (try simp only [World.size_alloc, World.size_setCell, World.size_drew] at hm2))
    | (go_at_call 11; with_reducible refine (same8 A c _ _ ((HR.out.keep (by repeat' (first | (with_reducible exact Below.refl _ _) | (with_reducible assumption) | (with_reducible refine Later.step ?_ ?_ _) | (with_reducible refine Below.alloc ?_ ?_ _) | (with_reducible refine Below.drew ?_) | (with_reducible refine bel_drewN ?_ _) | (with_reducible refine bel_grown ?_ (by assumption) ?_ ?_) | (with_reducible refine Below.setCell ?_ ?_ _) | go_size))).more (by go_size)) (lit8 (by go_size) (by go_simp) (by go_simp) (by go_simp) (by go_simp) (by go_simp) (by go_simp) (by go_simp) (by go_simp))).mono ?_; rintro e w' ⟨rfl, hb⟩; obtain ⟨X3, rfl, hl3, hm3⟩ := later (X2.w.heap.size + 1) hb (by first | exact Nat.le_refl _ | go_size); clear hb; (try simp only [World.size_alloc, World.size_setCell, World.size_drew] at hm3)))
  refine (k_fault _).mono ?_
  rintro e w4 ⟨b, rfl, hb1, g0, g1, g2, hb4⟩
  have hs4 := hb4.size
  obtain ⟨X4, rfl⟩ : ∃ Z : Later X3.w.heap.size X3.w, w4 = Z.w := ⟨⟨w4, hb4⟩, rfl⟩
  clear hb4
  go_wp2_with (first
    | (go_at_call 11; with_reducible refine (same3 1 _ _ _ (lit3 (v := 1) (by go_size) rfl (by go_simp) (by go_simp) (by go_simp)) (lit3 (v := 1) (by go_size) rfl (by go_simp) (by go_simp) (by go_simp))).mono ?_; rintro e w' ⟨rfl, hb⟩; obtain ⟨X5, rfl, hl5, hm5⟩ := later (X4.w.heap.size + 1) hb (by first | exact Nat.le_refl _ | go_size); clear hb; (try simp only [World.size_alloc, World.size_setCell, World.size_drew] at hm5)))
  go_ret
  exact ⟨rfl, by repeat' (first | (with_reducible exact Below.refl _ _) | (with_reducible assumption) | (with_reducible refine Later.step ?_ ?_ _) | (with_reducible refine Below.alloc ?_ ?_ _) | (with_reducible refine Below.drew ?_) | (with_reducible refine bel_drewN ?_ _) | (with_reducible refine bel_grown ?_ (by assumption) ?_ ?_) | (with_reducible refine Below.setCell ?_ ?_ _) | go_size)⟩
end Go.Proofs.Ytdjkhcnejbinjaa
