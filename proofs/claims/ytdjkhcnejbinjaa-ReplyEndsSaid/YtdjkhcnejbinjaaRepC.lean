/- Bytes that are put together, walked. No condition beyond what the memory holds. -/
import Derived.Test.YtdjkhcnejbinjaaRepB
namespace Go.Proofs.Ytdjkhcnejbinjaa
open Go.RowKit
set_option linter.unusedSimpArgs false
set_option linter.unusedVariables false
set_option maxRecDepth 2000

/-- A number's bytes. -/
def wL (n : Int) (wide : Nat) : List Nat := (List.range wide).map fun j => (putI n wide j).toNat
theorem putI_bd (n : Int) (wide j : Nat) : 0 ≤ putI n wide j ∧ putI n wide j < 256 := ⟨Int.emod_nonneg _ (by decide), Int.emod_lt_of_pos _ (by decide)⟩
theorem wL_len (n : Int) (wide : Nat) : (wL n wide).length = wide := by simp [wL]
theorem wL_row (n : Int) (wide : Nat) : rowV .u8 wide (putI n wide) = rowV .u8 (wL n wide).length (atI (wL n wide)) := by
  rw [wL_len]
  refine rowV_congr fun j hj => ?_
  have := putI_bd n wide j
  simp [atI, List.getD, wL, hj]
  omega
theorem wL_small (n : Int) (wide : Nat) : Small (wL n wide) := fun x hx => by
  obtain ⟨j, _, rfl⟩ := List.mem_map.1 hx
  have := putI_bd n wide j
  omega
/-- The bytes of numbers, one behind the other. -/
def wsL (ns : List Int) (wide : Nat) : List Nat := ns.flatMap fun n => wL n wide
theorem wsL_len (ns : List Int) (wide : Nat) : (wsL ns wide).length = ns.length * wide := by
  unfold wsL
  induction ns with
  | nil => simp
  | cons n r ih => rw [List.flatMap_cons, List.length_append, ih, wL_len, List.length_cons, Nat.add_mul]; omega
theorem wsL_snoc (ns : List Int) (n : Int) (wide : Nat) : wsL (ns ++ [n]) wide = wsL ns wide ++ wL n wide := by simp [wsL]
/-- A writer at a block, and what it has. -/
def Wr (w : World) (q : Nat) (l : List Nat) : Prop := q < w.heap.size ∧ (∃ A c, w.cell? ⟨q, 0, none⟩ = some (.slice A l.length c) ∧ w.ownsRow (q + 1) 5 1 (.slice A l.length c) l.length (rowV .u8 l.length (atI l))) ∧ w.frozen? ⟨q, 0, none⟩ = false
theorem Wr.lt {w : World} {q : Nat} {l : List Nat} (h : Wr w q l) : q < w.heap.size := h.1
theorem Wr.keep {w w' : World} {q : Nat} {l : List Nat} (h : Wr w q l) (hb : Below w.heap.size w w') : Wr w' q l := by
  obtain ⟨lt, ⟨A, c, c1, own⟩, z1⟩ := h
  exact ⟨Nat.lt_of_lt_of_le lt hb.size, ⟨A, c, (hb.cell (p := ⟨q, 0, none⟩) lt).trans c1, own_keep own hb⟩, (hb.frozen (p := ⟨q, 0, none⟩) lt).trans z1⟩
theorem takesW_one {α : Type} {l : List α} {j : Nat} {a : α} (h : l[j]? = some a) : l.take (j + 1) = l.take j ++ [a] := by
  rw [List.take_add_one, h]
  rfl
/-- A number that fits. -/
def fitsW (n : Int) (wide : Nat) : Prop := 0 ≤ n ∧ n < (256 : Int) ^ wide
theorem pow256_le {wide : Nat} (h : wide ≤ 8) : (256 : Int) ^ wide ≤ 18446744073709551616 := by
  have h8 : (256 : Int) ^ 8 = 18446744073709551616 := by decide
  rw [← h8]
  exact_mod_cast Nat.pow_le_pow_right (by decide : 0 < 256) h
theorem put_fit (n : Int) (wide : Nat) (w : World) (h : fitsW n wide) (w1 : 1 ≤ wide) (w8 : wide ≤ 8) :
    Calls Try.prog 42 #[.int .u64 n, .int .i64 wide] w (RowPost .u8 5 w wide (putI n wide) (.int .i64 0)) :=
  put_any n wide w h.1 (by have := h.2; have := pow256_le w8; omega) w1 w8 (fun _ => by
    rw [pow8]
    exact Int.ediv_eq_zero_of_lt h.1 h.2)
/-- All blocks but the writer's own and rows of bytes are as they were. -/
def KeptW (w w' : World) (q : Nat) : Prop := w.heap.size ≤ w'.heap.size ∧ ∀ k, k < w.heap.size → k ≠ q → (∀ cur fz, w.heap[k]? ≠ some (.cells cur 5 fz)) → w'.heap[k]? = w.heap[k]?
theorem KeptW.trans {a b c : World} {q : Nat} (h : KeptW a b q) (h' : KeptW b c q) : KeptW a c q :=
  ⟨Nat.le_trans h.1 h'.1, fun k hk hq hu => by
    have e := h.2 k hk hq hu
    exact (h'.2 k (Nat.lt_of_lt_of_le hk h.1) hq (fun cur fz => by rw [e]; exact hu cur fz)).trans e⟩
theorem keptW_below {w w' : World} (q : Nat) (h : Below w.heap.size w w') : KeptW w w' q := ⟨h.size, fun k hk _ _ => h.block k hk⟩
theorem keptW_grown {w w' : World} {q base n : Nat} {v : Value} {xs : List Value} (hg : w.grownBy w' v.ownBlock) (own : w.ownsRow base 5 1 v n xs) : KeptW w w' q :=
  ⟨hg.size, fun k hk _ hu => hg.block k hk (fun e => by
    rcases own.2 with ⟨hv, _⟩ | ⟨g, cap, cur, hv, _, hgg, _⟩
    · rw [hv] at e; simp [Value.ownBlock] at e
    · rw [hv] at e
      simp [Value.ownBlock] at e
      subst e
      exact hu _ _ hgg)⟩
theorem keptW_set (w : World) (q j : Nat) (u : Value) : KeptW w (w.setCell ⟨q, j, none⟩ u) q := ⟨by rw [World.size_setCell]; exact Nat.le_refl _, fun k _ hq _ => Below.heap_setCell w ⟨q, j, none⟩ u k hq⟩
/-- A row of ints at a block. -/
def IntsAt (w : World) (b : Nat) (ns : List Int) : Prop := w.heap[b]? = some (.cells (ns.map (Value.int .i64)).toArray 3 (0, 0))
theorem IntsAt.lt {w : World} {b : Nat} {ns : List Int} (h : IntsAt w b ns) : b < w.heap.size := by
  rcases Nat.lt_or_ge b w.heap.size with h' | h'
  · exact h'
  · unfold IntsAt at h; rw [Array.getElem?_eq_none h'] at h; cases h
theorem IntsAt.kept {w w' : World} {b q : Nat} {ns : List Int} (h : IntsAt w b ns) (hk : KeptW w w' q) (hq : b ≠ q) : IntsAt w' b ns :=
  (hk.2 b h.lt hq (fun cur fz e => by
    unfold IntsAt at h
    rw [h] at e
    injection e with e
    injection e with _ ht
    exact absurd ht (by decide))).trans h
theorem IntsAt.cell {w : World} {b k : Nat} {ns : List Int} {m : Int} (h : IntsAt w b ns) (hm : ns[k]? = some m) : w.cell? ⟨b, k, none⟩ = some (.int .i64 m) := by
  unfold IntsAt at h
  simp [World.cell?, h, hm]
set_option maxHeartbeats 4000000 in
theorem wput_any (q wide : Nat) (l : List Nat) (ns : List Int) (b c : Nat) (w : World) (h : Wr w q l) (hr : IntsAt w b ns) (hbq : b ≠ q) (hf : ∀ n ∈ ns, fitsW n wide) (w1 : 1 ≤ wide) (w8 : wide ≤ 8) (hn : ns.length ≤ 1000) (hl : l.length ≤ 100000) :
    Calls Try.prog 27 #[.pointer (some ⟨q, 0, none⟩), .int .i64 wide, .slice (some ⟨b, 0, none⟩) ns.length c] w fun e w' => e = .returned (.tuple #[]) ∧ Wr w' q (l ++ wsL ns wide) ∧ Below q w w' ∧ KeptW w w' q := by
  obtain ⟨i0, hi, hz0, hz1, hz2⟩ := info_parts Try.info5
  have HW := Lib.hid h
  have HR := Lib.hid hr
  have HF := Lib.hid hf
  have hq := h.lt
  have hbl := hr.lt
  obtain ⟨n, hnn⟩ : ∃ n, ns.length = n := ⟨_, rfl⟩
  rw [hnn] at hn ⊢
  have HN := Lib.hid hnn
  clear h hr hf hnn
  go_enter Try.func27, Try.ntmps27
  go_wp2
  go_loopw [12] (fun i wr => ∃ k : Nat, k ≤ n ∧ i = .int .i64 k ∧ Hid (Wr wr q (l ++ wsL (ns.take k) wide)) ∧ Below q w wr ∧ Hid (KeptW w wr q)) (fun i _ => n - (intOf i).toNat)
  case atStart => exact ⟨0, Nat.zero_le _, rfl, by simpa [Hid, wsL] using HW.out, Below.refl _ _, ⟨Nat.le_refl _, fun _ _ _ _ => rfl⟩⟩
  case round =>
    obtain ⟨k, hk, rfl, hw, hb, hs⟩ := hrel
    have hsz := hs.out.1
    obtain ⟨X, rfl⟩ : ∃ X : Later q w, wr = X.w := ⟨⟨wr, hb⟩, rfl⟩
    clear hb
    by_cases hlt : k < n
    · obtain ⟨m, hm⟩ : ∃ m, ns[k]? = some m := ⟨_, List.getElem?_eq_getElem (by rw [HN.out]; exact hlt)⟩
      have hc := (HR.out.kept hs.out hbq).cell hm
      have hfm := HF.out m (List.mem_of_getElem? hm)
      have h0m : 0 ≤ m := hfm.1
      have h1m : m ≤ 18446744073709551615 := by have := hfm.2; have := pow256_le w8; omega
      have hcv : IntKind.u64.wrap m = m := IntWalk.u64_in _ ⟨h0m, h1m⟩
      have PP := Lib.hid (fun Y : World => put_fit m wide Y hfm w1 w8)
      have hmm := Lib.hid (takesW_one hm)
      have hll : (l ++ wsL (ns.take k) wide).length ≤ 108000 := by
        rw [List.length_append, wsL_len, List.length_take]
        have : min k ns.length * wide ≤ 1000 * 8 := Nat.mul_le_mul (by rw [HN.out]; omega) w8
        omega
      clear hfm hm
      obtain ⟨L, hL⟩ : ∃ L, l ++ wsL (ns.take k) wide = L := ⟨_, rfl⟩
      rw [hL] at hw hll
      have HLL := Lib.hid hL
      clear hL
      go_wp2_with fail
      refine (PP.out _).mono ?_
      intro e w2 hrp
      unfold RowPost at hrp
      obtain ⟨A2, c2, rfl, own2, hb2⟩ := hrp
      have hs2 := hb2.size
      have hK2 := hs.out.trans (keptW_below q hb2)
      obtain ⟨lt3, ⟨A3, c3, d1, own3⟩, z3⟩ := hw.out.keep hb2
      have HO2 := Lib.hid own2
      have HO3 := Lib.hid own3
      have HK2 := Lib.hid hK2
      have hcap := own_cap own3
      have hcap2 := own_cap own2
      obtain ⟨Y, rfl⟩ : ∃ Z : Later X.w.heap.size X.w, w2 = Z.w := ⟨⟨w2, hb2⟩, rfl⟩
      clear own2 own3 hb2 hK2
      go_wp2_with (at_builtin; refine wpList_app _ rfl _ _ 24 rfl (q + 1) 5 i0 (.int .u8 0) 1 Try.underlying24 hi hz0 hz1 hz2 rfl _ L.length _ rfl HO3.out .u8 Y.w.heap.size A2 wide c2 (putI m wide) rfl (Reads.own HO2.out) (by omega) (by omega) (by omega) ?_)
      intro v1 w3 hown3 hgrow3
      obtain ⟨A4, c4, rfl⟩ := own_form hown3
      have hb3 : Below (q + 1) Y.w w3 := (Below.refl _ _).grown hgrow3 (by omega) (fun k hk => (HO3.out.lt k hk).1)
      have hs3 := hb3.size
      have hK3 := HK2.out.trans (keptW_grown (q := q) hgrow3 HO3.out)
      have O4 := Lib.hid hown3
      have HK3 := Lib.hid hK3
      obtain ⟨Z, rfl⟩ : ∃ Z : Later (q + 1) Y.w, w3 = Z.w := ⟨⟨w3, hb3⟩, rfl⟩
      clear hown3 hgrow3 hb3 hK3
      go_wp2
      go_roundw
      case rel =>
        refine ⟨k + 1, by omega, by go_num, ?_, by repeat' (first | (with_reducible exact Below.refl _ _) | (with_reducible assumption) | (with_reducible refine Later.step ?_ ?_ _) | (with_reducible refine Below.alloc ?_ ?_ _) | (with_reducible refine Below.drew ?_) | (with_reducible refine bel_drewN ?_ _) | (with_reducible refine bel_grown ?_ (by assumption) ?_ ?_) | (with_reducible refine Below.setCell ?_ ?_ _) | go_size), HK3.out.trans (keptW_set _ _ _ _)⟩
        have e1 : l ++ wsL (ns.take (k + 1)) wide = L ++ wL m wide := by rw [hmm.out, wsL_snoc, ← List.append_assoc, HLL.out]
        rw [Hid, e1]
        refine ⟨by go_size, ⟨A4, c4, ?_, ?_⟩, by go_simp⟩
        · rw [List.length_append, wL_len]; go_simp
        · have := own_set (p := ⟨q, 0, none⟩) O4.out (show q < q + 1 by omega) (.slice A4 (L.length + wide) c4)
          rw [wL_row, rowV_app] at this
          rw [List.length_append, wL_len] at this ⊢
          exact this
      case measure => simp [intOf]; omega
    · obtain rfl : k = n := by omega
      go_wp2
      go_end0
      refine ⟨rfl, ?_, by repeat' (first | (with_reducible exact Below.refl _ _) | (with_reducible assumption) | (with_reducible refine Later.step ?_ ?_ _) | (with_reducible refine Below.alloc ?_ ?_ _) | (with_reducible refine Below.drew ?_) | (with_reducible refine bel_drewN ?_ _) | (with_reducible refine bel_grown ?_ (by assumption) ?_ ?_) | (with_reducible refine Below.setCell ?_ ?_ _) | go_size), hs.out⟩
      have := hw.out
      rw [List.take_of_length_le (by rw [HN.out]; exact Nat.le_refl _)] at this
      exact this
theorem ints_new {w : World} {ns : List Int} {cs : Array Value} {b : Nat} (hb : b = w.heap.size) (hc : cs = (ns.map (Value.int .i64)).toArray) : IntsAt (w.alloc (Obj.cells cs 3)) b ns := by
  subst hb hc
  exact heap_alloc_new _ _
/-- The same, its numbers given apart. -/
theorem wput_at (q wide : Nat) (l : List Nat) (ns : List Int) (b n c : Nat) (wd : Int) (w : World) (h : Wr w q l) (hr : IntsAt w b ns) (hbq : b ≠ q) (hf : ∀ n ∈ ns, fitsW n wide) (w1 : 1 ≤ wide) (w8 : wide ≤ 8) (hn : ns.length = n) (hw : wd = (wide : Nat)) (hn' : ns.length ≤ 1000) (hl : l.length ≤ 100000) :
    Calls Try.prog 27 #[.pointer (some ⟨q, 0, none⟩), .int .i64 wd, .slice (some ⟨b, 0, none⟩) n c] w fun e w' => e = .returned (.tuple #[]) ∧ Wr w' q (l ++ wsL ns wide) ∧ Below q w w' ∧ KeptW w w' q := by
  subst hn hw
  exact wput_any q wide l ns b c w h hr hbq hf w1 w8 hn' hl
end Go.Proofs.Ytdjkhcnejbinjaa
