/- Mint, Derive, Live, Tickets, Len, New: walked. No condition beyond what the table reads as. -/
import Derived.Test.YtjfgjlklbepnjaaTkF
namespace Go.Proofs.Ytjfgjlklbepnjaa
open Go.RowKit
set_option linter.unusedSimpArgs false
set_option linter.unusedVariables false
set_option maxRecDepth 2000

/-- A block that is neither the table nor its row. -/
def Far (q : Nat) (A : Option Addr) (g : Nat) : Prop := g ≠ q ∧ ∀ a, A = some a → a.block ≠ g
theorem Far.to {w w' : World} {q g : Nat} {A A' : Option Addr} (h : Far q A g) (ht : TabTo w q A w' A') (hg : g < w.heap.size) : Far q A' g :=
  ⟨h.1, fun a' e => by
    rcases ht.row a' e with ⟨a, e1, hb⟩ | hge
    · rw [← hb]; exact h.2 a e1
    · omega⟩
theorem Tab.row_lt {w : World} {q c : Nat} {A : Option Addr} {T : List Tk} (h : Tab w q A c T) : ∀ a, A = some a → q < a.block ∧ a.block < w.heap.size := fun a e => by
  have h1 := own_fresh h.own a e
  have h2 := (h.own.lt a.block (by rw [e]; rfl)).2
  exact ⟨h1, h2⟩
theorem Tab.far {w : World} {q c g : Nat} {A : Option Addr} {T : List Tk} (h : Tab w q A c T) (hg : w.heap.size ≤ g) : Far q A g :=
  ⟨by have := h.lt; omega, fun a e => by have := h.row_lt a e; omega⟩
theorem Tab.far_low {w : World} {q c g : Nat} {A : Option Addr} {T : List Tk} (h : Tab w q A c T) (hg : g < q) : Far q A g :=
  ⟨by omega, fun a e => by have := h.row_lt a e; omega⟩
theorem CellsAt.to {w w' : World} {q g n : Nat} {A A' : Option Addr} {F : Nat → Value} (h : CellsAt w g n F) (ht : TabTo w q A w' A') (hf : Far q A g) : CellsAt w' g n F := ht.cells h hf.1 hf.2
/-- A row of tickets apart from the table. -/
def Row (w : World) (q : Nat) (A : Option Addr) (C : Option Addr) (L : List Tk) : Prop := Tks w w.heap.size C L ∧ (0 < L.length → ∀ a, C = some a → Far q A a.block)
theorem Row.to {w w' : World} {q : Nat} {A A' C : Option Addr} {L : List Tk} (h : Row w q A C L) (ht : TabTo w q A w' A') : Row w' q A' C L := by
  have key : 0 < L.length → ∀ a, C = some a → a.block < w.heap.size := fun hn a e => by
    obtain ⟨b, o, e1, hb, _⟩ := h.1 hn
    rw [e] at e1
    injection e1 with e1
    subst e1
    exact hb
  refine ⟨fun hn => ?_, fun hn a e => (h.2 hn a e).to ht (key hn a e)⟩
  obtain ⟨b, o, rfl, hb, hc⟩ := h.1 hn
  have hf := h.2 hn _ rfl
  have e := ht.far hb hf.1 hf.2
  exact ⟨b, o, rfl, Nat.lt_of_lt_of_le hb ht.size, fun i hi j hj => (World.cell?_of_block (a := ⟨b, o + i * 10 + j, none⟩) e).trans (hc i hi j hj)⟩
theorem Row.keep {w w' : World} {q : Nat} {A C : Option Addr} {L : List Tk} (h : Row w q A C L) (hb : Below w.heap.size w w') : Row w' q A C L := h.to (TabTo.below hb)
theorem Row.nil (w : World) (q : Nat) (A C : Option Addr) : Row w q A C [] := ⟨fun h => absurd h (by simp), fun h => absurd h (by simp)⟩
/-- A row made behind the table. -/
theorem row_own {w : World} {base q n cc : Nat} {e : TypeId} {A C : Option Addr} {L : List Tk} (ho : w.ownsRow base e 10 (.slice C n cc) n (tkV L)) (hn : L.length = n) (hq : q < base) (hA : ∀ a, A = some a → a.block < base) : Row w q A C L :=
  ⟨tks_own ho hn, fun _ a e => by
    have := own_fresh ho a e
    exact ⟨by omega, fun b e2 => by have := hA b e2; omega⟩⟩
/-- A table that may be. -/
structure GTab (w : World) (q : Nat) (A : Option Addr) (c : Nat) (T : List Tk) : Prop where
  tab : Tab w q A c T
  good : GoodT T
  len : T.length ≤ 8
  u64 : U64 T
theorem GTab.keep {w w' : World} {q c : Nat} {A : Option Addr} {T : List Tk} (h : GTab w q A c T) (hb : Below w.heap.size w w') : GTab w' q A c T := ⟨h.tab.keep hb, h.good, h.len, h.u64⟩
theorem u64_filter {T : List Tk} (h : U64 T) (P : Tk → Bool) : U64 (T.filter P) := fun k hk => h k (List.mem_filter.1 hk).1
theorem u64_snoc {T : List Tk} (h : U64 T) {k : Tk} (h1 : k.s < 18446744073709551616) (h2 : k.p < 18446744073709551616) : U64 (T ++ [k]) := fun x hx => by
  rcases List.mem_append.1 hx with hx | hx
  · exact h x hx
  · obtain rfl : x = k := by simpa using hx
    exact ⟨h1, h2⟩
theorem u64_make {T : List Tk} (h : U64 T) {fr draw : Nat} {g : Gr} (h1 : draw < 18446744073709551616) (h2 : fr < 18446744073709551616) : U64 (makeT T fr draw g) := by
  unfold makeT
  split
  · exact u64_snoc h h1 h2
  · exact h
theorem cells_ten_at {w : World} {b : Nat} (hb : b = w.heap.size) (k : Tk) (t : TypeId) : ∀ j u, ([.int .u64 (k.s : Nat), .int .u64 (k.p : Nat), .int .i64 k.g.ops, .int .i64 k.g.zoom, .int .i64 k.g.a, .int .i64 k.g.b, .int .i64 k.g.c, .int .i64 k.g.d, .bool k.g.void, .int .i64 k.g.til] : List Value)[j]? = some u → (w.alloc (.cells #[.int .u64 (k.s : Nat), .int .u64 (k.p : Nat), .int .i64 k.g.ops, .int .i64 k.g.zoom, .int .i64 k.g.a, .int .i64 k.g.b, .int .i64 k.g.c, .int .i64 k.g.d, .bool k.g.void, .int .i64 k.g.til] t)).cell? ((⟨b, 0, none⟩ : Addr).add j) = some u := by
  subst hb
  exact cells_ten_new w k t
/-- A cell of another block is written. -/
theorem Tab.put {w : World} {q c : Nat} {A : Option Addr} {T : List Tk} {p : Addr} (h : Tab w q A c T) (hp : Far q A p.block) (v : Value) : Tab (w.setCell p v) q A c T := by
  have e1 := Below.heap_setCell w p v q (fun e => hp.1 e.symm)
  refine ⟨by rw [World.size_setCell]; exact h.lt, (World.cell?_of_block (a := ⟨q, 0, none⟩) e1).trans h.cell, (World.frozen?_of_block (a := ⟨q, 0, none⟩) e1).trans h.fz, h.own.1, ?_⟩
  rcases h.own.2 with hn | ⟨g, cap, cur, hv, hb, hg, rest⟩
  · exact .inl hn
  · have hA : A = some ⟨g, 0, none⟩ := by injection hv
    exact .inr ⟨g, cap, cur, hv, hb, (Below.heap_setCell w p v g (fun e => hp.2 _ hA e)).trans hg, rest⟩
theorem GTab.put {w : World} {q c : Nat} {A : Option Addr} {T : List Tk} {p : Addr} (h : GTab w q A c T) (hp : Far q A p.block) (v : Value) : GTab (w.setCell p v) q A c T := ⟨h.tab.put hp v, h.good, h.len, h.u64⟩
theorem TabTo.put {w w' : World} {q : Nat} {A A' : Option Addr} {p : Addr} (h : TabTo w q A w' A') (hp : w.heap.size ≤ p.block) (v : Value) : TabTo w q A (w'.setCell p v) A' :=
  ⟨h.os, h.tape, h.output, by rw [World.size_setCell]; exact h.size, fun k hk hq ha => (Below.heap_setCell w' p v k (by omega)).trans (h.block k hk hq ha), h.row⟩
theorem tnew_any (w : World) : Calls Try.prog 10 #[] w fun e w' => e = .returned (.pointer (some ⟨w.heap.size, 0, none⟩)) ∧ GTab w' w.heap.size none 0 [] ∧ Below w.heap.size w w' := by
  go_enter Try.func10, Try.ntmps10
  go_wp2
  go_ret
  refine ⟨rfl, ⟨⟨by simp, by go_simp, by go_simp, World.ownsRow_nil _ _ _ _⟩, .nil, by simp, fun k hk => by cases hk⟩, by repeat' (first | (with_reducible exact Below.refl _ _) | (with_reducible assumption) | (with_reducible refine Later.step ?_ ?_ _) | (with_reducible refine Below.alloc ?_ ?_ _) | (with_reducible refine Below.drew ?_) | (with_reducible refine Below.setCell ?_ ?_ _) | go_size)⟩
/-- What a function of the table leaves: its answer, the table, nothing else. -/
def MPost (w : World) (q : Nat) (A : Option Addr) (r : Value) (M : List Tk) (e : Ending) (w' : World) : Prop := e = .returned r ∧ ∃ A' c', GTab w' q A' c' M ∧ TabTo w q A w' A'
theorem left_gtab {w w' : World} {q c c' : Nat} {A A' : Option Addr} {T : List Tk} {now : Int} (h : GTab w q A c T) (h' : Tab w' q A' c' (leftT T now)) : GTab w' q A' c' (leftT T now) := ⟨h', left_good h.good now, Nat.le_trans (left_len T now) h.len, u64_filter h.u64 _⟩
set_option maxHeartbeats 8000000 in
theorem mint_any (q c : Nat) (A : Option Addr) (T : List Tk) (draw : Nat) (g : Gr) (now : Int) (w : World) (h : GTab w q A c T) (hd : draw < 18446744073709551616) :
    Calls Try.prog 13 #[.pointer (some ⟨q, 0, none⟩), .int .u64 (draw : Nat), .agg #[.int .i64 g.ops, .int .i64 g.zoom, .int .i64 g.a, .int .i64 g.b, .int .i64 g.c, .int .i64 g.d, .bool g.void, .int .i64 g.til], .int .i64 now] w (MPost w q A (.int .i64 (makeE (leftT T now) draw g)) (makeT (leftT T now) 0 draw g)) := by
  have HT := Lib.hid h
  have hq := h.tab.lt
  have P1 := Lib.hid (fun (Y : World) (hY : Below w.heap.size w Y) => sweep_any q c A T now Y (h.tab.keep hY) (by have := h.len; omega) h.u64 h.good)
  have P2 := Lib.hid (fun (A' : Option Addr) (c' : Nat) (Y : World) (hY : Tab Y q A' c' (leftT T now)) => make_any q c' A' (leftT T now) 0 draw g Y hY (by have := left_len T now; have := h.len; omega) (u64_filter h.u64 _) hd)
  have HM := Lib.hid (make_good (fr := 0) (draw := draw) (g := g) (left_good h.good now) (Nat.le_trans (left_len T now) h.len) (.inl rfl))
  have HU := Lib.hid (u64_make (fr := 0) (g := g) (u64_filter h.u64 (fun k => decide (now ≤ (grantsT T k).til))) hd (by decide))
  obtain ⟨E, hE⟩ : ∃ E, makeE (leftT T now) draw g = E := ⟨_, rfl⟩
  obtain ⟨M, hM⟩ : ∃ M, makeT (leftT T now) 0 draw g = M := ⟨_, rfl⟩
  rw [hM] at HM
  rw [show makeT (T.filter fun k => decide (now ≤ (grantsT T k).til)) 0 draw g = M from hM] at HU
  rw [hE, hM] at P2 ⊢
  clear h hd hE hM
  go_enter Try.func13, Try.ntmps13
  go_wp2_with fail
  refine (P1.out _ (by repeat' (first | (with_reducible exact Below.refl _ _) | (with_reducible assumption) | (with_reducible refine Later.step ?_ ?_ _) | (with_reducible refine Below.alloc ?_ ?_ _) | (with_reducible refine Below.drew ?_) | (with_reducible refine bel_drewN ?_ _) | (with_reducible refine bel_grown ?_ (by assumption) ?_ ?_) | (with_reducible refine Below.setCell ?_ ?_ _) | go_size))).mono ?_
  rintro e w1 ⟨rfl, A1, c1, ht, hto⟩
  have hfar : Far q A w.heap.size := HT.out.tab.far (Nat.le_refl _)
  have hg := CellsAt.to (grc_new (w := w) (g := g) (t := 30) rfl) hto hfar
  obtain ⟨g0, g1, g2, g3, g4, g5, g6, g7⟩ := grc_get hg
  have HTO := Lib.hid ((TabTo.below (A := A) (q := q) (show Below w.heap.size w (w.alloc (Obj.cells #[.int .i64 g.ops, .int .i64 g.zoom, .int .i64 g.a, .int .i64 g.b, .int .i64 g.c, .int .i64 g.d, .bool g.void, .int .i64 g.til] 30)) by repeat' (first | (with_reducible exact Below.refl _ _) | (with_reducible assumption) | (with_reducible refine Later.step ?_ ?_ _) | (with_reducible refine Below.alloc ?_ ?_ _) | (with_reducible refine Below.drew ?_) | (with_reducible refine Below.setCell ?_ ?_ _) | go_size))).trans hto)
  have HT1 := Lib.hid ht
  have hs1 := hto.size
  have hb := HTO.out.elder HT.out.tab
  obtain ⟨X1, rfl⟩ : ∃ Z : Later q w, w1 = Z.w := ⟨⟨w1, hb⟩, rfl⟩
  clear ht hto hg hb hfar
  go_wp2_with fail
  refine (P2.out _ _ _ HT1.out).mono ?_
  rintro e w2 ⟨rfl, A2, c2, ht2, hto2⟩
  have HF := Lib.hid (show ∃ A' c', GTab w2 q A' c' M ∧ TabTo w q A w2 A' from ⟨A2, c2, ⟨ht2, HM.out.1, HM.out.2, HU.out⟩, HTO.out.trans hto2⟩)
  clear ht2 hto2
  go_wp2
  go_ret
  exact ⟨rfl, HF.out⟩
/-- A ticket derived. -/
def derE (M : List Tk) (fr draw : Nat) (g : Gr) : Int := if (findT M fr).isSome = true then makeE M draw g else 21
def derT (M : List Tk) (fr draw : Nat) (g : Gr) : List Tk := if (findT M fr).isSome = true then makeT M fr draw g else M
set_option maxHeartbeats 8000000 in
theorem derive_any (q c : Nat) (A : Option Addr) (T : List Tk) (fr draw : Nat) (g : Gr) (now : Int) (w : World) (h : GTab w q A c T) (hf : fr < 18446744073709551616) (hd : draw < 18446744073709551616) :
    Calls Try.prog 15 #[.pointer (some ⟨q, 0, none⟩), .int .u64 (fr : Nat), .int .u64 (draw : Nat), .agg #[.int .i64 g.ops, .int .i64 g.zoom, .int .i64 g.a, .int .i64 g.b, .int .i64 g.c, .int .i64 g.d, .bool g.void, .int .i64 g.til], .int .i64 now] w (MPost w q A (.int .i64 (derE (leftT T now) fr draw g)) (derT (leftT T now) fr draw g)) := by
  have HT := Lib.hid h
  have hq := h.tab.lt
  have P1 := Lib.hid (fun (Y : World) (hY : Below w.heap.size w Y) => sweep_any q c A T now Y (h.tab.keep hY) (by have := h.len; omega) h.u64 h.good)
  have P2 := Lib.hid (fun (A' : Option Addr) (c' : Nat) (Y : World) (hY : Tab Y q A' c' (leftT T now)) => make_any q c' A' (leftT T now) fr draw g Y hY (by have := left_len T now; have := h.len; omega) (u64_filter h.u64 _) hd)
  have P3 := Lib.hid (fun (A' : Option Addr) (c' : Nat) (Y : World) (hY : Tab Y q A' c' (leftT T now)) => at_any q c' A' (leftT T now) fr Y hY (by have := left_len T now; have := h.len; omega) (u64_filter h.u64 _) hf)
  have HL := Lib.hid (show GoodT (leftT T now) ∧ (leftT T now).length ≤ 8 ∧ U64 (leftT T now) from ⟨left_good h.good now, Nat.le_trans (left_len T now) h.len, u64_filter h.u64 _⟩)
  obtain ⟨L, hL⟩ : ∃ L, leftT T now = L := ⟨_, rfl⟩
  rw [hL] at P1 P2 P3 HL ⊢
  clear h hL
  rcases Int.lt_or_le (idxT L fr) 0 with hneg | hpos
  · have hn := idx_none.1 hneg
    have e1 : derE L fr draw g = 21 := by unfold derE; rw [hn]; rfl
    have e2 : derT L fr draw g = L := by unfold derT; rw [hn]; rfl
    rw [e1, e2]
    obtain ⟨r, hr⟩ : ∃ r, idxT L fr = r := ⟨_, rfl⟩
    rw [hr] at hneg P3
    have hr0 : decide (r < 0) = true := decide_eq_true hneg
    clear hneg hn e1 e2 hr P2
    go_enter Try.func15, Try.ntmps15
    go_wp2_with fail
    refine (P1.out _ (by repeat' (first | (with_reducible exact Below.refl _ _) | (with_reducible assumption) | (with_reducible refine Later.step ?_ ?_ _) | (with_reducible refine Below.alloc ?_ ?_ _) | (with_reducible refine Below.drew ?_) | (with_reducible refine bel_drewN ?_ _) | (with_reducible refine bel_grown ?_ (by assumption) ?_ ?_) | (with_reducible refine Below.setCell ?_ ?_ _) | go_size))).mono ?_
    rintro e w1 ⟨rfl, A1, c1, ht, hto⟩
    have HTO := Lib.hid ((TabTo.below (A := A) (q := q) (show Below w.heap.size w (w.alloc (Obj.cells #[.int .i64 g.ops, .int .i64 g.zoom, .int .i64 g.a, .int .i64 g.b, .int .i64 g.c, .int .i64 g.d, .bool g.void, .int .i64 g.til] 30)) by repeat' (first | (with_reducible exact Below.refl _ _) | (with_reducible assumption) | (with_reducible refine Later.step ?_ ?_ _) | (with_reducible refine Below.alloc ?_ ?_ _) | (with_reducible refine Below.drew ?_) | (with_reducible refine Below.setCell ?_ ?_ _) | go_size))).trans hto)
    have HT1 := Lib.hid ht
    have hs1 := hto.size
    have hb := HTO.out.elder HT.out.tab
    obtain ⟨X1, rfl⟩ : ∃ Z : Later q w, w1 = Z.w := ⟨⟨w1, hb⟩, rfl⟩
    clear ht hto hb
    go_wp2_with (first
      | (go_at_call 34; refine (P3.out _ _ _ HT1.out).mono ?_; rintro e w' ⟨rfl, hb⟩; obtain ⟨X2, rfl, hl2, hm2⟩ := later _ hb (Nat.le_refl _); clear hb; (try simp only [World.size_alloc, World.size_setCell, World.size_drew] at hm2 hl2)))
    go_ret
    have hb2 : Below X1.w.heap.size X1.w X2.w := by repeat' (first | (with_reducible exact Below.refl _ _) | (with_reducible assumption) | (with_reducible refine Later.step ?_ ?_ _) | (with_reducible refine Below.alloc ?_ ?_ _) | (with_reducible refine Below.drew ?_) | (with_reducible refine bel_drewN ?_ _) | (with_reducible refine bel_grown ?_ (by assumption) ?_ ?_) | (with_reducible refine Below.setCell ?_ ?_ _) | go_size)
    exact ⟨rfl, A1, c1, ⟨HT1.out.keep hb2, HL.out.1, HL.out.2.1, HL.out.2.2⟩, HTO.out.trans (TabTo.below hb2)⟩
  · have hi := idx_some hpos
    have e1 : derE L fr draw g = makeE L draw g := by unfold derE; rw [hi.2]; rfl
    have e2 : derT L fr draw g = makeT L fr draw g := by unfold derT; rw [hi.2]; rfl
    rw [e1, e2]
    have HM := Lib.hid (make_good (fr := fr) (draw := draw) (g := g) HL.out.1 HL.out.2.1 (.inr ⟨_, hi.2⟩))
    have HU := Lib.hid (u64_make (fr := fr) (g := g) HL.out.2.2 hd hf)
    obtain ⟨E, hE⟩ : ∃ E, makeE L draw g = E := ⟨_, rfl⟩
    obtain ⟨M, hM⟩ : ∃ M, makeT L fr draw g = M := ⟨_, rfl⟩
    rw [hM] at HM HU
    rw [hE, hM] at P2 ⊢
    obtain ⟨r, hr⟩ : ∃ r, idxT L fr = r := ⟨_, rfl⟩
    rw [hr] at hpos P3
    have hr0 : decide (r < 0) = false := decide_eq_false (by omega)
    clear hpos hi e1 e2 hr hE hM
    go_enter Try.func15, Try.ntmps15
    go_wp2_with fail
    refine (P1.out _ (by repeat' (first | (with_reducible exact Below.refl _ _) | (with_reducible assumption) | (with_reducible refine Later.step ?_ ?_ _) | (with_reducible refine Below.alloc ?_ ?_ _) | (with_reducible refine Below.drew ?_) | (with_reducible refine bel_drewN ?_ _) | (with_reducible refine bel_grown ?_ (by assumption) ?_ ?_) | (with_reducible refine Below.setCell ?_ ?_ _) | go_size))).mono ?_
    rintro e w1 ⟨rfl, A1, c1, ht, hto⟩
    have hfar : Far q A w.heap.size := HT.out.tab.far (Nat.le_refl _)
    have hg := CellsAt.to (grc_new (w := w) (g := g) (t := 30) rfl) hto hfar
    obtain ⟨g0, g1, g2, g3, g4, g5, g6, g7⟩ := grc_get hg
    have hgl := hg.1
    have HTO := Lib.hid ((TabTo.below (A := A) (q := q) (show Below w.heap.size w (w.alloc (Obj.cells #[.int .i64 g.ops, .int .i64 g.zoom, .int .i64 g.a, .int .i64 g.b, .int .i64 g.c, .int .i64 g.d, .bool g.void, .int .i64 g.til] 30)) by repeat' (first | (with_reducible exact Below.refl _ _) | (with_reducible assumption) | (with_reducible refine Later.step ?_ ?_ _) | (with_reducible refine Below.alloc ?_ ?_ _) | (with_reducible refine Below.drew ?_) | (with_reducible refine Below.setCell ?_ ?_ _) | go_size))).trans hto)
    have HT1 := Lib.hid ht
    have hs1 := hto.size
    have hb := HTO.out.elder HT.out.tab
    obtain ⟨X1, rfl⟩ : ∃ Z : Later q w, w1 = Z.w := ⟨⟨w1, hb⟩, rfl⟩
    clear ht hto hg hb hfar
    go_wp2_with (first
      | (go_at_call 34; refine (P3.out _ _ _ HT1.out).mono ?_; rintro e w' ⟨rfl, hb⟩; obtain ⟨X2, rfl, hl2, hm2⟩ := later _ hb (Nat.le_refl _); clear hb; (try simp only [World.size_alloc, World.size_setCell, World.size_drew] at hm2 hl2)))
    have hb2 : Below X1.w.heap.size X1.w X2.w := by repeat' (first | (with_reducible exact Below.refl _ _) | (with_reducible assumption) | (with_reducible refine Later.step ?_ ?_ _) | (with_reducible refine Below.alloc ?_ ?_ _) | (with_reducible refine Below.drew ?_) | (with_reducible refine bel_drewN ?_ _) | (with_reducible refine bel_grown ?_ (by assumption) ?_ ?_) | (with_reducible refine Below.setCell ?_ ?_ _) | go_size)
    refine (P2.out _ _ _ (HT1.out.keep hb2)).mono ?_
    rintro e w2 ⟨rfl, A2, c2, ht2, hto2⟩
    have HF := Lib.hid (show ∃ A' c', GTab w2 q A' c' M ∧ TabTo w q A w2 A' from ⟨A2, c2, ⟨ht2, HM.out.1, HM.out.2, HU.out⟩, (HTO.out.trans (TabTo.below hb2)).trans hto2⟩)
    clear ht2 hto2
    go_wp2
    go_ret
    exact ⟨rfl, HF.out⟩
end Go.Proofs.Ytjfgjlklbepnjaa
