/- A table of tickets: what it reads as; its secrets listed; where one stands. No condition beyond what the table reads as. -/
import Derived.Test.YtjfgjlklbepnjaaTkA
import Derived.Test.YtjfgjlklbepnjaaCells
import Derived.Test.YtjfgjlklbepnjaaApp
import Derived.Test.YtjfgjlklbepnjaaSecB
import Derived.Maps.AppendAt
import Derived.Deep.AppendLies
namespace Go.Proofs.Ytjfgjlklbepnjaa
open Go.RowKit
set_option linter.unusedSimpArgs false
set_option linter.unusedVariables false
set_option maxRecDepth 2000

/-- A grant's cells; a ticket's. -/
def grC (g : Gr) (j : Nat) : Value := ([.int .i64 g.ops, .int .i64 g.zoom, .int .i64 g.a, .int .i64 g.b, .int .i64 g.c, .int .i64 g.d, .bool g.void, .int .i64 g.til] : List Value).getD j undef
def tkC (k : Tk) (j : Nat) : Value := ([.int .u64 (k.s : Nat), .int .u64 (k.p : Nat), .int .i64 k.g.ops, .int .i64 k.g.zoom, .int .i64 k.g.a, .int .i64 k.g.b, .int .i64 k.g.c, .int .i64 k.g.d, .bool k.g.void, .int .i64 k.g.til] : List Value).getD j undef
def tkV (T : List Tk) : List Value := T.flatMap fun k => [.int .u64 (k.s : Nat), .int .u64 (k.p : Nat), .int .i64 k.g.ops, .int .i64 k.g.zoom, .int .i64 k.g.a, .int .i64 k.g.b, .int .i64 k.g.c, .int .i64 k.g.d, .bool k.g.void, .int .i64 k.g.til]
theorem tkV_snoc (T : List Tk) (k : Tk) : tkV (T ++ [k]) = tkV T ++ [.int .u64 (k.s : Nat), .int .u64 (k.p : Nat), .int .i64 k.g.ops, .int .i64 k.g.zoom, .int .i64 k.g.a, .int .i64 k.g.b, .int .i64 k.g.c, .int .i64 k.g.d, .bool k.g.void, .int .i64 k.g.til] := by simp [tkV]
theorem tk_at {j : Nat} (hj : j < 10) : j = 0 ∨ j = 1 ∨ j = 2 ∨ j = 3 ∨ j = 4 ∨ j = 5 ∨ j = 6 ∨ j = 7 ∨ j = 8 ∨ j = 9 := by omega
theorem gr_at {j : Nat} (hj : j < 8) : j = 0 ∨ j = 1 ∨ j = 2 ∨ j = 3 ∨ j = 4 ∨ j = 5 ∨ j = 6 ∨ j = 7 := by omega
theorem tkV_get : ∀ (T : List Tk) (i j : Nat), i < T.length → j < 10 → (tkV T)[i * 10 + j]? = some (tkC (T.getD i t0) j)
  | [], i, j, h, _ => absurd h (by simp)
  | k :: T, 0, j, _, hj => by
    rcases tk_at hj with rfl | rfl | rfl | rfl | rfl | rfl | rfl | rfl | rfl | rfl <;> rfl
  | k :: T, i + 1, j, h, hj => by
    have h9 := tkV_get T i j (by simpa using h) hj
    have e1 : (i + 1) * 10 + j = i * 10 + j + 1 + 1 + 1 + 1 + 1 + 1 + 1 + 1 + 1 + 1 := by omega
    simp only [tkV, List.flatMap_cons, List.cons_append, List.nil_append, e1, List.getElem?_cons_succ]
    simpa [tkV, List.getD] using h9
theorem own_formT {w : World} {base n size : Nat} {e : TypeId} {v : Value} {xs : List Value} (h : w.ownsRow base e size v n xs) : ∃ A c, v = .slice A n c := by
  rcases h.2 with ⟨rfl, rfl⟩ | ⟨g, cap, cur, rfl, _⟩
  · exact ⟨_, _, rfl⟩
  · exact ⟨_, _, rfl⟩
theorem cells_ten_new (w : World) (k : Tk) (t : TypeId) : ∀ j u, ([.int .u64 (k.s : Nat), .int .u64 (k.p : Nat), .int .i64 k.g.ops, .int .i64 k.g.zoom, .int .i64 k.g.a, .int .i64 k.g.b, .int .i64 k.g.c, .int .i64 k.g.d, .bool k.g.void, .int .i64 k.g.til] : List Value)[j]? = some u → (w.alloc (.cells #[.int .u64 (k.s : Nat), .int .u64 (k.p : Nat), .int .i64 k.g.ops, .int .i64 k.g.zoom, .int .i64 k.g.a, .int .i64 k.g.b, .int .i64 k.g.c, .int .i64 k.g.d, .bool k.g.void, .int .i64 k.g.til] t)).cell? ((⟨w.heap.size, 0, none⟩ : Addr).add j) = some u := by
  intro j u hj
  match j, hj with
  | 0, hj | 1, hj | 2, hj | 3, hj | 4, hj | 5, hj | 6, hj | 7, hj | 8, hj | 9, hj => simp at hj; subst hj; simp [Addr.add]
theorem tk_ones (k : Tk) : ∀ u ∈ ([.int .u64 (k.s : Nat), .int .u64 (k.p : Nat), .int .i64 k.g.ops, .int .i64 k.g.zoom, .int .i64 k.g.a, .int .i64 k.g.b, .int .i64 k.g.c, .int .i64 k.g.d, .bool k.g.void, .int .i64 k.g.til] : List Value), u.oneCell' = true := by
  intro u hu
  simp at hu
  rcases hu with rfl | rfl | rfl | rfl | rfl | rfl | rfl | rfl | rfl | rfl <;> rfl
/-- A slice that reads as tickets. -/
def Tks (w : World) (B : Nat) (A : Option Addr) (T : List Tk) : Prop := 0 < T.length → ∃ b o, A = some ⟨b, o, none⟩ ∧ b < B ∧ ∀ i, i < T.length → ∀ j, j < 10 → w.cell? ⟨b, o + i * 10 + j, none⟩ = some (tkC (T.getD i t0) j)
theorem Tks.keep {w w' : World} {B : Nat} {A : Option Addr} {T : List Tk} (h : Tks w B A T) (hb : Below B w w') : Tks w' B A T := fun hn => by
  obtain ⟨b, o, rfl, hlt, hc⟩ := h hn
  exact ⟨b, o, rfl, hlt, fun i hi j hj => (hb.cell (p := ⟨b, o + i * 10 + j, none⟩) hlt).trans (hc i hi j hj)⟩
theorem Tks.more {w : World} {B B' : Nat} {A : Option Addr} {T : List Tk} (h : Tks w B A T) (hb : B ≤ B') : Tks w B' A T := fun hn => by
  obtain ⟨b, o, rfl, hlt, hc⟩ := h hn
  exact ⟨b, o, rfl, Nat.lt_of_lt_of_le hlt hb, hc⟩
theorem tks_own {w : World} {base c n : Nat} {e : TypeId} {A : Option Addr} {T : List Tk} (h : w.ownsRow base e 10 (.slice A n c) n (tkV T)) (hn : T.length = n) : Tks w w.heap.size A T := fun hp => by
  obtain ⟨g, cap, hv, _, hlt⟩ := h.form (by omega)
  have hA : A = some ⟨g, 0, none⟩ := by injection hv
  subst hA
  refine ⟨g, 0, rfl, hlt, fun i hi j hj => ?_⟩
  have a1 := h.cells (g := g) rfl _ _ (tkV_get T i j hi hj)
  rw [Addr.add_lit] at a1
  rw [Nat.add_assoc]
  exact a1
/-- A table. -/
structure Tab (w : World) (q : Nat) (A : Option Addr) (c : Nat) (T : List Tk) : Prop where
  lt : q < w.heap.size
  cell : w.cell? ⟨q, 0, none⟩ = some (.slice A T.length c)
  fz : w.frozen? ⟨q, 0, none⟩ = false
  own : w.ownsRow (q + 1) 73 10 (.slice A T.length c) T.length (tkV T)
theorem Tab.keep {w w' : World} {q c : Nat} {A : Option Addr} {T : List Tk} (h : Tab w q A c T) (hb : Below w.heap.size w w') : Tab w' q A c T :=
  ⟨Nat.lt_of_lt_of_le h.lt hb.size, (hb.cell (p := ⟨q, 0, none⟩) h.lt).trans h.cell, (hb.frozen (p := ⟨q, 0, none⟩) h.lt).trans h.fz, own_keep h.own hb⟩
theorem Tab.tks {w : World} {q c : Nat} {A : Option Addr} {T : List Tk} (h : Tab w q A c T) : Tks w w.heap.size A T := tks_own h.own rfl
/-- Numbers that fit. -/
def U64 (T : List Tk) : Prop := ∀ k ∈ T, k.s < 18446744073709551616 ∧ k.p < 18446744073709551616
theorem getD_lt {L : List Tk} {i : Nat} (h : i < L.length) : L.getD i t0 = L[i] := by simp [List.getD, List.getElem?_eq_getElem h]
theorem getD_ge {L : List Tk} {i : Nat} (h : L.length ≤ i) : L.getD i t0 = t0 := by simp [List.getD, List.getElem?_eq_none h]
theorem U64.at {T : List Tk} (h : U64 T) (i : Nat) : (T.getD i t0).s < 18446744073709551616 ∧ (T.getD i t0).p < 18446744073709551616 := by
  by_cases hi : i < T.length
  · rw [getD_lt hi]
    exact h _ (List.getElem_mem hi)
  · rw [getD_ge (by omega)]
    exact ⟨by decide, by decide⟩
/-- Where the program finds it, and what the list has. -/
def idxT (T : List Tk) (s : Nat) : Int := fstI (fun j => (T.getD j t0).s) s T.length
theorem idx_none {T : List Tk} {s : Nat} : idxT T s < 0 ↔ findT T s = none := by
  unfold idxT
  rw [fstI_neg]
  constructor
  · rintro (rfl | h)
    · exact find_zero T
    · unfold findT
      split
      · rfl
      · rw [List.find?_eq_none]
        intro k hk
        obtain ⟨i, hi, rfl⟩ := List.mem_iff_getElem.1 hk
        have := h i hi
        rw [getD_lt hi] at this
        simpa using this
  · intro h
    by_cases h0 : s = 0
    · exact .inl h0
    · refine .inr fun j hj => ?_
      rw [getD_lt hj]
      exact find_none h (List.getElem_mem hj) h0
theorem idx_some {T : List Tk} {s : Nat} (h : 0 ≤ idxT T s) : (idxT T s).toNat < T.length ∧ findT T s = some (T.getD (idxT T s).toNat t0) := by
  have hb := (fstI_bd (fun j => (T.getD j t0).s) s T.length).2
  obtain ⟨h1, h2, h3⟩ := fstI_pos h
  have hlt : (idxT T s).toNat < T.length := by unfold idxT at h ⊢; omega
  refine ⟨hlt, ?_⟩
  unfold findT
  rw [if_neg h2, List.find?_eq_some_iff_getElem]
  refine ⟨by simpa [idxT] using h1, (idxT T s).toNat, hlt, (getD_lt hlt).symm, fun j hj => ?_⟩
  have := h3 j hj
  rw [getD_lt (by omega)] at this
  simpa using this
theorem key_any (k : Tk) (w : World) : Calls Try.prog 50 #[.agg #[.int .u64 (k.s : Nat), .int .u64 (k.p : Nat), .int .i64 k.g.ops, .int .i64 k.g.zoom, .int .i64 k.g.a, .int .i64 k.g.b, .int .i64 k.g.c, .int .i64 k.g.d, .bool k.g.void, .int .i64 k.g.til]] w fun e w' => e = .returned (.int .u64 (k.s : Nat)) ∧ Below w.heap.size w w' := by
  go_enter Try.func50, Try.ntmps50
  go_wp2
  go_ret
  exact ⟨rfl, by repeat' (first | (with_reducible exact Below.refl _ _) | (with_reducible assumption) | (with_reducible refine Later.step ?_ ?_ _) | (with_reducible refine Below.alloc ?_ ?_ _) | (with_reducible refine Below.drew ?_) | (with_reducible refine Below.setCell ?_ ?_ _) | go_size)⟩
set_option maxHeartbeats 8000000 in
theorem listed_any (q c : Nat) (A : Option Addr) (T : List Tk) (w : World) (h : Tab w q A c T) (hn : T.length ≤ 100) :
    Calls Try.prog 49 #[.pointer (some ⟨q, 0, none⟩), .func (.func 50) #[] #[]] w fun e w' => (∃ C cc, e = .returned (.slice C T.length cc) ∧ Reads .u64 w' w'.heap.size C T.length (fun j => ((T.getD j t0).s : Nat))) ∧ Below w.heap.size w w' := by
  obtain ⟨i0, hi, hz0, hz1, hz2⟩ := info_parts (show (Try.prog.info? 26).map (fun i => (i.zero, i.size, i.bytes)) = some (some (.int .u64 0), 1, 8) by kernel_rfl)
  obtain ⟨f, hf⟩ : ∃ f : Nat → Nat, (fun j => (T.getD j t0).s) = f := ⟨_, rfl⟩
  obtain ⟨n, hnn⟩ : ∃ n, T.length = n := ⟨_, rfl⟩
  have HT := Lib.hid h.tks
  have hc := h.cell
  have hq := h.lt
  have P1 := Lib.hid key_any
  rw [hnn] at hc hn
  have HF := Lib.hid hf
  have HN := Lib.hid hnn
  have hgoal : (fun j => (((T.getD j t0).s : Nat) : Int)) = fun j => ((f j : Nat) : Int) := by rw [← hf]
  rw [hgoal, hnn]
  clear h hf hgoal hnn
  go_enter Try.func49, Try.ntmps49
  go_wp2
  go_loopw [5, 13] (fun al i wr => ∃ (k : Nat) (C : Option Addr) (cc : Nat), (k ≤ n ∧ Hid (wr.ownsRow w.heap.size 26 1 (.slice C k cc) k (rowV .u64 k (fun j => (f j : Nat))))) ∧ al = .slice C k cc ∧ i = .int .i64 k ∧ Below w.heap.size w wr ∧ w.heap.size ≤ wr.heap.size) (fun _ i _ => n - (intOf i).toNat)
  case atStart => exact ⟨0, none, 0, ⟨Nat.zero_le _, World.ownsRow_nil _ _ _ _⟩, rfl, rfl, Below.refl _ _, Nat.le_refl _⟩
  case round =>
    obtain ⟨k, C, cc, ⟨hk, hown⟩, rfl, rfl, hbel, hsz⟩ := hrel
    obtain ⟨X, rfl⟩ : ∃ X : Later w.heap.size w, wr = X.w := ⟨⟨wr, hbel⟩, rfl⟩
    clear hbel
    by_cases hlt : k < n
    · obtain ⟨b, o, hA, hB, hc9⟩ := HT.out (by rw [HN.out]; omega)
      subst hA
      have hck := hc9 k (by rw [HN.out]; exact hlt)
      have hfk : (T.getD k t0).s = f k := congrFun HF.out k
      obtain ⟨x, hx⟩ : ∃ x, T.getD k t0 = x := ⟨_, rfl⟩
      rw [hx] at hck hfk
      have c0 := hck 0 (by decide)
      have c1 := hck 1 (by decide)
      have c2 := hck 2 (by decide)
      have c3 := hck 3 (by decide)
      have c4 := hck 4 (by decide)
      have c5 := hck 5 (by decide)
      have c6 := hck 6 (by decide)
      have c7 := hck 7 (by decide)
      have c8 := hck 8 (by decide)
      have c9 := hck 9 (by decide)
      simp only [tkC, List.getD_cons_zero, List.getD_cons_succ, Nat.add_zero] at c0 c1 c2 c3 c4 c5 c6 c7 c8 c9
      have HFK := Lib.hid hfk
      clear hc9 hck hx hfk
      go_wp2_with (first
        | (go_at_call 50; refine (P1.out _ _).mono ?_; rintro e w' ⟨rfl, hb⟩; obtain ⟨X1, rfl, hl1, hm1⟩ := later _ hb (Nat.le_refl _); clear hb; (try simp only [World.size_alloc, World.size_setCell, World.size_drew] at hm1 hl1))
        | (at_builtin; refine wpList_append_own_at _ rfl _ _ 72 rfl w.heap.size 26 i0 (.int .u64 0) 1 8 Try.underlying72 hi hz0 hz1 hz2 rfl (by decide) _ _ _ rfl ((own_keep hown.out (show Below X.w.heap.size X.w X1.w by repeat' (first | (with_reducible exact Below.refl _ _) | (with_reducible assumption) | (with_reducible refine Later.step ?_ ?_ _) | (with_reducible refine Below.alloc ?_ ?_ _) | (with_reducible refine Below.drew ?_) | (with_reducible refine bel_drewN ?_ _) | (with_reducible refine bel_grown ?_ (by assumption) ?_ ?_) | (with_reducible refine Below.setCell ?_ ?_ _) | go_size))).alloc _) ⟨X1.w.heap.size, 0, none⟩ 1 1 [.int .u64 (x.s : Nat)] rfl rfl (fun j u hj => by match j, hj with | 0, hj => (simp at hj; subst hj; simp [Addr.add])) (fun u hu => by simp at hu; subst hu; rfl) (by unfold maxLen; omega) (by omega) (by go_size) ?_; intro v1 w1 hown1 hgrow1 _ _; obtain ⟨A1, k1, rfl⟩ := own_formT hown1; have hb1 : Below w.heap.size w w1 := Below.grown (Below.alloc (show Below w.heap.size w X1.w by repeat' (first | (with_reducible exact Below.refl _ _) | (with_reducible assumption) | (with_reducible refine Later.step ?_ ?_ _) | (with_reducible refine Below.alloc ?_ ?_ _) | (with_reducible refine Below.drew ?_) | (with_reducible refine bel_drewN ?_ _) | (with_reducible refine bel_grown ?_ (by assumption) ?_ ?_) | (with_reducible refine Below.setCell ?_ ?_ _) | go_size)) (by go_size) _) hgrow1 (by go_size) (fun k hk => (hown.out.lt k hk).1); have hs1 := hgrow1.size; have HO1 := Lib.hid hown1; clear hown1 hgrow1))
      go_roundw
      case rel =>
        have h9 := HO1.out
        rw [HFK.out, show rowV .u64 k (fun j => ((f j : Nat) : Int)) ++ [.int .u64 ((f k : Nat) : Int)] = rowV .u64 (k + 1) (fun j => ((f j : Nat) : Int)) from (rowV_succ ..).symm] at h9
        exact ⟨k + 1, _, _, ⟨by omega, h9⟩, rfl, by go_num, hb1, hb1.size⟩
      case measure => simp [intOf]; omega
    · obtain rfl : k = n := by omega
      go_wp2
      go_ret
      exact ⟨⟨_, _, rfl, Reads.own hown.out⟩, by repeat' (first | (with_reducible exact Below.refl _ _) | (with_reducible assumption) | (with_reducible refine Later.step ?_ ?_ _) | (with_reducible refine Below.alloc ?_ ?_ _) | (with_reducible refine Below.drew ?_) | (with_reducible refine bel_drewN ?_ _) | (with_reducible refine bel_grown ?_ (by assumption) ?_ ?_) | (with_reducible refine Below.setCell ?_ ?_ _) | go_size)⟩
end Go.Proofs.Ytjfgjlklbepnjaa
