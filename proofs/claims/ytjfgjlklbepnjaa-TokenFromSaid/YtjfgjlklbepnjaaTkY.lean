/- A table of tickets that came in: the statement walked. No condition beyond what the rows read as. -/
import Derived.Test.YtjfgjlklbepnjaaTkX
namespace Go.Proofs.Ytjfgjlklbepnjaa
open Go.RowKit
set_option linter.unusedSimpArgs false
set_option linter.unusedVariables false
set_option maxRecDepth 4000

/-- The only one that may come up, guarded, and the guard lets it. -/
theorem wpAnyE_oneG {P : Program} {ops : Array Oper} {Q : Exit → Act → World → Prop} {md : Region.Mode} {S : World → Prop} {E : Nat → Bool} {i : Nat} {oi : Oper} {fuel : Nat} {listed : Array Bool} {a : Act} {w : World} (hi : ops[i]? = some oi) (hr : Region.ready md ops listed = [i]) (hw : Region.wanted oi (yielded ops a.tmps) = true)
    (h : wpList P ops (Exit.then (fun a' w' => (E i = true → S w') ∧ wpAnyE P md ops Q S E fuel (listed.setIfInBounds i true) a' w') Q) [{ oi with guard := none }] a w) : wpAnyE P md ops Q S E (fuel + 1) listed a w :=
  wpAnyE_one hi hr (by
    unfold wpList
    rw [if_pos hw]
    unfold wpList at h
    rw [if_pos (by simp [Region.wanted])] at h
    exact h)
theorem tickets_new {q c m : Nat} {A : Option Addr} {T M : List Tk} {now : Int} {w : World} (h : GTab w q A c T) (hM : leftT T now = M) (hm : M.length = m) :
    Calls Try.prog 21 #[.pointer (some ⟨q, 0, none⟩), .int .i64 now] w fun e w' => ∃ C cc A' c', e = .returned (.slice C m cc) ∧ Row w' q A' C M ∧ (0 < M.length → ∀ a, C = some a → w.heap.size ≤ a.block) ∧ GTab w' q A' c' M ∧ TabTo w q A w' A' := by
  subst hM hm
  exact tickets_any q c A T now w h
/-- Two tables that share nothing. -/
def Apart (q : Nat) (A : Option Addr) (q2 : Nat) (A2 : Option Addr) : Prop := q ≠ q2 ∧ (∀ a, A = some a → a.block ≠ q2) ∧ (∀ a, A2 = some a → a.block ≠ q) ∧ ∀ a, A = some a → ∀ a', A2 = some a' → a.block ≠ a'.block
theorem Apart.symm {q q2 : Nat} {A A2 : Option Addr} (h : Apart q A q2 A2) : Apart q2 A2 q A := ⟨h.1.symm, h.2.2.1, h.2.1, fun a e a' e' => (h.2.2.2 a' e' a e).symm⟩
theorem Apart.to {w w' : World} {q q2 c2 : Nat} {A A' A2 : Option Addr} {T : List Tk} (h : Apart q A q2 A2) (ht : TabTo w q A w' A') (h2 : Tab w q2 A2 c2 T) : Apart q A' q2 A2 := by
  refine ⟨h.1, fun a' e => ?_, h.2.2.1, fun a' e a2 e2 => ?_⟩
  · rcases ht.row a' e with ⟨a, e1, hb⟩ | hge
    · rw [← hb]; exact h.2.1 a e1
    · have := h2.lt; omega
  · rcases ht.row a' e with ⟨a, e1, hb⟩ | hge
    · rw [← hb]; exact h.2.2.2 a e1 a2 e2
    · have := h2.row_lt a2 e2; omega
theorem GTab.to {w w' : World} {q q2 c2 : Nat} {A A' A2 : Option Addr} {T : List Tk} (h : GTab w q2 A2 c2 T) (ht : TabTo w q A w' A') (ha : Apart q A q2 A2) : GTab w' q2 A2 c2 T := by
  have e1 := ht.far h.tab.lt ha.1.symm (fun a e => ha.2.1 a e)
  refine ⟨⟨Nat.lt_of_lt_of_le h.tab.lt ht.size, (World.cell?_of_block (a := ⟨q2, 0, none⟩) e1).trans h.tab.cell, (World.frozen?_of_block (a := ⟨q2, 0, none⟩) e1).trans h.tab.fz, h.tab.own.1, ?_⟩, h.good, h.len, h.u64⟩
  rcases h.tab.own.2 with hn | ⟨g, cap, cur, hv, hb, hg, rest⟩
  · exact .inl hn
  · have hA : A2 = some ⟨g, 0, none⟩ := by injection hv
    have hlt : g < w.heap.size := (h.tab.row_lt _ hA).2
    exact .inr ⟨g, cap, cur, hv, hb, (ht.far hlt (ha.2.2.1 _ hA) (fun a e => ha.2.2.2 a e _ hA)).trans hg, rest⟩
theorem Row.two {w w' : World} {q q2 : Nat} {A A' A2 C : Option Addr} {L : List Tk} (h : Row w q A C L) (h2 : ∀ a, C = some a → 0 < L.length → a.block ≠ q2) (h3 : ∀ a, C = some a → 0 < L.length → ∀ a', A2 = some a' → a'.block ≠ a.block) : Row w q2 A2 C L :=
  ⟨h.1, fun hn a e => ⟨h2 a e hn, fun a' e' => h3 a e hn a' e'⟩⟩
/-- The operation's cells. -/
def SO (w : World) (x : OpT) (w' : World) : Prop := w'.cell? ⟨w.heap.size, 1, none⟩ = some (.int .u64 (x.fr : Nat)) ∧ w'.cell? ⟨w.heap.size, 2, none⟩ = some (.int .u64 (x.draw : Nat)) ∧ w'.cell? ⟨w.heap.size, 3, none⟩ = some (.int .i64 x.g.ops) ∧ w'.cell? ⟨w.heap.size, 4, none⟩ = some (.int .i64 x.g.zoom) ∧ w'.cell? ⟨w.heap.size, 5, none⟩ = some (.int .i64 x.g.a) ∧ w'.cell? ⟨w.heap.size, 6, none⟩ = some (.int .i64 x.g.b) ∧ w'.cell? ⟨w.heap.size, 7, none⟩ = some (.int .i64 x.g.c) ∧ w'.cell? ⟨w.heap.size, 8, none⟩ = some (.int .i64 x.g.d) ∧ w'.cell? ⟨w.heap.size, 9, none⟩ = some (.bool x.g.void) ∧ w'.cell? ⟨w.heap.size, 10, none⟩ = some (.int .i64 x.g.til) ∧ w'.cell? ⟨w.heap.size, 11, none⟩ = some (.int .i64 x.now)
theorem so_of {w W Y : World} {x : OpT} (h : CellsAt W w.heap.size 12 (opC x)) (hb : Below W.heap.size W Y) : SO w x Y := by
  obtain ⟨o0, o1, o2, o3, o4, o5, o6, o7, o8, o9, o10, o11⟩ := opc_get (h.keep hb)
  exact ⟨o1, o2, o3, o4, o5, o6, o7, o8, o9, o10, o11⟩
set_option maxHeartbeats 64000000 in
theorem from_law (A : Option Addr) (n c : Nat) (L : List OpT) (C : Option Addr) (m cc : Nat) (K : List Tk) (x : OpT) (w : World) (h : L.length = n ∧ n ≤ 9223372036854775807 ∧ Ops w w.heap.size A L ∧ U64o L) (hk : K.length = m ∧ m ≤ cc ∧ cc ≤ 9223372036854775807 ∧ Tks w w.heap.size C K ∧ U64 K) (hx : x.fr < 18446744073709551616 ∧ x.draw < 18446744073709551616) :
    Calls Try.prog 9 #[.slice A n c, .slice C m cc, .agg #[.int .i64 x.kind, .int .u64 (x.fr : Nat), .int .u64 (x.draw : Nat), .int .i64 x.g.ops, .int .i64 x.g.zoom, .int .i64 x.g.a, .int .i64 x.g.b, .int .i64 x.g.c, .int .i64 x.g.d, .bool x.g.void, .int .i64 x.g.til, .int .i64 x.now]] w fun e w' => e = .returned (.bool true) ∧ Below w.heap.size w w' := by
  have HL := Lib.hid h
  have HK := Lib.hid hk
  have HX := Lib.hid hx
  have hmc := hk.2.1
  have hcc := hk.2.2.1
  have PK := Lib.hid tknown_any
  clear h hk hx
  by_cases h40 : 40 < m
  · go_enter Try.func9, Try.ntmps9
    go_wp2_with fail
    refine (from_any m cc C K _ ((HK.out.2.2.2.1.keep (by repeat' (first | (with_reducible exact Below.refl _ _) | (with_reducible assumption) | (with_reducible refine Later.step ?_ ?_ _) | (with_reducible refine Below.alloc ?_ ?_ _) | (with_reducible refine Below.drew ?_) | (with_reducible refine bel_drewN ?_ _) | (with_reducible refine bel_grown ?_ (by assumption) ?_ ?_) | (with_reducible refine Below.setCell ?_ ?_ _) | go_size))).more (by go_size)) HK.out.1 HK.out.2.2.2.2).mono ?_
    rintro e w1 ⟨hres, hb⟩
    have hb1 : Below w.heap.size w w1 := Below.trans (by repeat' (first | (with_reducible exact Below.refl _ _) | (with_reducible assumption) | (with_reducible refine Later.step ?_ ?_ _) | (with_reducible refine Below.alloc ?_ ?_ _) | (with_reducible refine Below.drew ?_) | (with_reducible refine bel_drewN ?_ _) | (with_reducible refine bel_grown ?_ (by assumption) ?_ ?_) | (with_reducible refine Below.setCell ?_ ?_ _) | go_size)) (hb.mono (by go_size))
    obtain ⟨X1, rfl⟩ : ∃ Z : Later w.heap.size w, w1 = Z.w := ⟨⟨w1, hb1⟩, rfl⟩
    have hs1 := X1.is.size
    clear hb hb1
    rcases hres with ⟨hall, q1, A1, c1, rfl, hq1, hG1⟩ | ⟨hno, rfl⟩
    · clear hall hq1 hG1
      go_wp2_with (first | (go_at_call 23; refine (PK.out _).mono ?_; rintro e w' ⟨rfl, hb⟩; obtain ⟨X9, rfl, hl9, hm9⟩ := later _ hb (Nat.le_refl _); clear hb; (try simp only [World.size_alloc, World.size_setCell, World.size_drew] at hm9 hl9)))
      go_ret
      exact ⟨rfl, by repeat' (first | (with_reducible exact Below.refl _ _) | (with_reducible assumption) | (with_reducible refine Later.step ?_ ?_ _) | (with_reducible refine Below.alloc ?_ ?_ _) | (with_reducible refine Below.drew ?_) | (with_reducible refine bel_drewN ?_ _) | (with_reducible refine bel_grown ?_ (by assumption) ?_ ?_) | (with_reducible refine Below.setCell ?_ ?_ _) | go_size)⟩
    · clear hno
      go_wp2_with (first | (go_at_call 23; refine (PK.out _).mono ?_; rintro e w' ⟨rfl, hb⟩; obtain ⟨X9, rfl, hl9, hm9⟩ := later _ hb (Nat.le_refl _); clear hb; (try simp only [World.size_alloc, World.size_setCell, World.size_drew] at hm9 hl9)))
      go_ret
      exact ⟨rfl, by repeat' (first | (with_reducible exact Below.refl _ _) | (with_reducible assumption) | (with_reducible refine Later.step ?_ ?_ _) | (with_reducible refine Below.alloc ?_ ?_ _) | (with_reducible refine Below.drew ?_) | (with_reducible refine bel_drewN ?_ _) | (with_reducible refine bel_grown ?_ (by assumption) ?_ ?_) | (with_reducible refine Below.setCell ?_ ?_ _) | go_size)⟩
  · have hm40 : m ≤ 40 := by omega
    clear h40
    go_enter Try.func9, Try.ntmps9
    go_wp2_with fail
    have hO : CellsAt (w.alloc (Obj.cells #[.int .i64 x.kind, .int .u64 (x.fr : Nat), .int .u64 (x.draw : Nat), .int .i64 x.g.ops, .int .i64 x.g.zoom, .int .i64 x.g.a, .int .i64 x.g.b, .int .i64 x.g.c, .int .i64 x.g.d, .bool x.g.void, .int .i64 x.g.til, .int .i64 x.now] 32)) w.heap.size 12 (opC x) := opc_new
    obtain ⟨X0, hX0⟩ : ∃ Z : Later w.heap.size w, w.alloc (Obj.cells #[.int .i64 x.kind, .int .u64 (x.fr : Nat), .int .u64 (x.draw : Nat), .int .i64 x.g.ops, .int .i64 x.g.zoom, .int .i64 x.g.a, .int .i64 x.g.b, .int .i64 x.g.c, .int .i64 x.g.d, .bool x.g.void, .int .i64 x.g.til, .int .i64 x.now] 32) = Z.w := ⟨⟨w.alloc (Obj.cells #[.int .i64 x.kind, .int .u64 (x.fr : Nat), .int .u64 (x.draw : Nat), .int .i64 x.g.ops, .int .i64 x.g.zoom, .int .i64 x.g.a, .int .i64 x.g.b, .int .i64 x.g.c, .int .i64 x.g.d, .bool x.g.void, .int .i64 x.g.til, .int .i64 x.now] 32), by repeat' (first | (with_reducible exact Below.refl _ _) | (with_reducible assumption) | (with_reducible refine Later.step ?_ ?_ _) | (with_reducible refine Below.alloc ?_ ?_ _) | (with_reducible refine Below.drew ?_) | (with_reducible refine bel_drewN ?_ _) | (with_reducible refine bel_grown ?_ (by assumption) ?_ ?_) | (with_reducible refine Below.setCell ?_ ?_ _) | go_size)⟩, rfl⟩
    rw [hX0] at hO ⊢
    clear hX0
    obtain ⟨o0, o1, o2, o3, o4, o5, o6, o7, o8, o9, o10, o11⟩ := opc_get hO
    have hol := hO.1
    have HO := Lib.hid hO
    have HL0 := Lib.hid (show Ops X0.w X0.w.heap.size A L from (HL.out.2.2.1.keep X0.is).more (by omega))
    have HK0 := Lib.hid (show Tks X0.w X0.w.heap.size C K from (HK.out.2.2.2.1.keep X0.is).more (by omega))
    clear hO
    refine (from_any m cc C K X0.w HK0.out HK.out.1 HK.out.2.2.2.2).mono ?_
    rintro e w1 ⟨hres, hb⟩
    obtain ⟨X1, rfl⟩ : ∃ Z : Later X0.w.heap.size X0.w, w1 = Z.w := ⟨⟨w1, hb⟩, rfl⟩
    have hs1 := X1.is.size
    clear hb
    have HAL := Lib.hid (@all_iff K)
    have pa := fun (Y : World) (hY : Below X0.w.heap.size X0.w Y) => kall_any m cc C K Y ((HK0.out.keep hY).more hY.size) HK.out.1 (by omega) hmc hcc
    obtain ⟨d, hd⟩ : ∃ d, allB K = d := ⟨_, rfl⟩
    rw [hd] at pa HAL
    have PA := Lib.hid pa
    clear pa hd
    rcases hres with ⟨hall, q1, A1, c1, rfl, hq1, hG1⟩ | ⟨hno, rfl⟩
    · obtain rfl : d = true := HAL.out.2 hall
      have HG1 := Lib.hid (show GTab X1.w q1 A1 c1 K ∧ leftT K 0 = K from ⟨hG1, left_zero hG1.good⟩)
      have hm8 : m ≤ 8 := by rw [← HK.out.1]; exact hall.2
      clear hall hG1
      go_wp2_with (first
        | (go_at_call 31; refine (PA.out _ (by repeat' (first | (with_reducible exact Below.refl _ _) | (with_reducible assumption) | (with_reducible refine Later.step ?_ ?_ _) | (with_reducible refine Below.alloc ?_ ?_ _) | (with_reducible refine Below.drew ?_) | (with_reducible refine bel_drewN ?_ _) | (with_reducible refine bel_grown ?_ (by assumption) ?_ ?_) | (with_reducible refine Below.setCell ?_ ?_ _) | go_size))).mono ?_; rintro e w' ⟨rfl, hb⟩; obtain ⟨X2, rfl, hl2, hm2⟩ := later _ hb (Nat.le_refl _); clear hb; (try simp only [World.size_alloc, World.size_setCell, World.size_drew] at hm2 hl2)))
      refine (tickets_to (M := K) (m := m) (HG1.out.1.keep (by repeat' (first | (with_reducible exact Below.refl _ _) | (with_reducible assumption) | (with_reducible refine Later.step ?_ ?_ _) | (with_reducible refine Below.alloc ?_ ?_ _) | (with_reducible refine Below.drew ?_) | (with_reducible refine bel_drewN ?_ _) | (with_reducible refine bel_grown ?_ (by assumption) ?_ ?_) | (with_reducible refine Below.setCell ?_ ?_ _) | go_size))) HG1.out.2 HK.out.1).mono ?_
      rintro e w7 ⟨C7, cc7, A7, c7, rfl, hR7, hG7, hto7⟩
      have hb7 : Below X0.w.heap.size X0.w w7 := Below.trans (by repeat' (first | (with_reducible exact Below.refl _ _) | (with_reducible assumption) | (with_reducible refine Later.step ?_ ?_ _) | (with_reducible refine Below.alloc ?_ ?_ _) | (with_reducible refine Below.drew ?_) | (with_reducible refine bel_drewN ?_ _) | (with_reducible refine bel_grown ?_ (by assumption) ?_ ?_) | (with_reducible refine Below.setCell ?_ ?_ _) | go_size)) ((hto7.elder (HG1.out.1.keep (by repeat' (first | (with_reducible exact Below.refl _ _) | (with_reducible assumption) | (with_reducible refine Later.step ?_ ?_ _) | (with_reducible refine Below.alloc ?_ ?_ _) | (with_reducible refine Below.drew ?_) | (with_reducible refine bel_drewN ?_ _) | (with_reducible refine bel_grown ?_ (by assumption) ?_ ?_) | (with_reducible refine Below.setCell ?_ ?_ _) | go_size))).tab).mono hq1)
      have HR7 := Lib.hid hR7
      obtain ⟨X7, rfl⟩ : ∃ Z : Later X0.w.heap.size X0.w, w7 = Z.w := ⟨⟨w7, hb7⟩, rfl⟩
      have hs7 := X7.is.size
      clear hb7 hR7 hG7 hto7
      go_wp2_with fail
      refine (same_to (n := m) (HR7.out.1.keep (by repeat' (first | (with_reducible exact Below.refl _ _) | (with_reducible assumption) | (with_reducible refine Later.step ?_ ?_ _) | (with_reducible refine Below.alloc ?_ ?_ _) | (with_reducible refine Below.drew ?_) | (with_reducible refine bel_drewN ?_ _) | (with_reducible refine bel_grown ?_ (by assumption) ?_ ?_) | (with_reducible refine Below.setCell ?_ ?_ _) | go_size))) ((HK0.out.keep (by repeat' (first | (with_reducible exact Below.refl _ _) | (with_reducible assumption) | (with_reducible refine Later.step ?_ ?_ _) | (with_reducible refine Below.alloc ?_ ?_ _) | (with_reducible refine Below.drew ?_) | (with_reducible refine bel_drewN ?_ _) | (with_reducible refine bel_grown ?_ (by assumption) ?_ ?_) | (with_reducible refine Below.setCell ?_ ?_ _) | go_size))).more (by go_size)) HK.out.1 hm8).mono ?_
      rintro e w' ⟨rfl, hb⟩; obtain ⟨X8, rfl, hl8, hm8⟩ := later _ hb (Nat.le_refl _); clear hb; (try simp only [World.size_alloc, World.size_setCell, World.size_drew] at hm8 hl8)
      go_wp2_with fail
      refine (played_any n c A L _ ((HL0.out.keep (by repeat' (first | (with_reducible exact Below.refl _ _) | (with_reducible assumption) | (with_reducible refine Later.step ?_ ?_ _) | (with_reducible refine Below.alloc ?_ ?_ _) | (with_reducible refine Below.drew ?_) | (with_reducible refine bel_drewN ?_ _) | (with_reducible refine bel_grown ?_ (by assumption) ?_ ?_) | (with_reducible refine Below.setCell ?_ ?_ _) | go_size))).more (by go_size)) HL.out.1 HL.out.2.1 HL.out.2.2.2).mono ?_
      rintro e w3 ⟨⟨q, A3, c3, rfl, hq, hG3⟩, hb3⟩
      have hq3 : X0.w.heap.size ≤ q := Nat.le_trans (by go_size) hq
      have hb3' : Below X0.w.heap.size X0.w w3 := Below.trans (by repeat' (first | (with_reducible exact Below.refl _ _) | (with_reducible assumption) | (with_reducible refine Later.step ?_ ?_ _) | (with_reducible refine Below.alloc ?_ ?_ _) | (with_reducible refine Below.drew ?_) | (with_reducible refine bel_drewN ?_ _) | (with_reducible refine bel_grown ?_ (by assumption) ?_ ?_) | (with_reducible refine Below.setCell ?_ ?_ _) | go_size)) (hb3.mono (by go_size))
      obtain ⟨T, hT⟩ : ∃ T, playT L = T := ⟨_, rfl⟩
      rw [hT] at hG3
      have HG3 := Lib.hid hG3
      obtain ⟨t, ht⟩ : ∃ t, T.length = t := ⟨_, rfl⟩
      have HTT := Lib.hid (show T.length = t ∧ leftT T 0 = T ∧ AllT T from ⟨ht, left_zero hG3.good, hG3.good, hG3.len⟩)
      obtain ⟨X3, rfl⟩ : ∃ Z : Later X0.w.heap.size X0.w, w3 = Z.w := ⟨⟨w3, hb3'⟩, rfl⟩
      have hs3 := X3.is.size
      clear hb3 hb3' hq hG3 hT ht
      go_wp2_with fail
      refine (tickets_to (M := T) (m := t) (HG3.out.keep (by repeat' (first | (with_reducible exact Below.refl _ _) | (with_reducible assumption) | (with_reducible refine Later.step ?_ ?_ _) | (with_reducible refine Below.alloc ?_ ?_ _) | (with_reducible refine Below.drew ?_) | (with_reducible refine bel_drewN ?_ _) | (with_reducible refine bel_grown ?_ (by assumption) ?_ ?_) | (with_reducible refine Below.setCell ?_ ?_ _) | go_size))) HTT.out.2.1 HTT.out.1).mono ?_
      rintro e w4 ⟨C4, cc4, A4, c4, rfl, hR4, hG4, hto4⟩
      have hb4 : Below X0.w.heap.size X0.w w4 := Below.trans (by repeat' (first | (with_reducible exact Below.refl _ _) | (with_reducible assumption) | (with_reducible refine Later.step ?_ ?_ _) | (with_reducible refine Below.alloc ?_ ?_ _) | (with_reducible refine Below.drew ?_) | (with_reducible refine bel_drewN ?_ _) | (with_reducible refine bel_grown ?_ (by assumption) ?_ ?_) | (with_reducible refine Below.setCell ?_ ?_ _) | go_size)) ((hto4.elder (HG3.out.keep (by repeat' (first | (with_reducible exact Below.refl _ _) | (with_reducible assumption) | (with_reducible refine Later.step ?_ ?_ _) | (with_reducible refine Below.alloc ?_ ?_ _) | (with_reducible refine Below.drew ?_) | (with_reducible refine bel_drewN ?_ _) | (with_reducible refine bel_grown ?_ (by assumption) ?_ ?_) | (with_reducible refine Below.setCell ?_ ?_ _) | go_size))).tab).mono hq3)
      have HG4 := Lib.hid hG4
      have HR4 := Lib.hid hR4
      obtain ⟨X4, rfl⟩ : ∃ Z : Later X0.w.heap.size X0.w, w4 = Z.w := ⟨⟨w4, hb4⟩, rfl⟩
      have hs4 := X4.is.size
      clear hb4 hG4 hR4 hto4
      go_wp2_with fail
      refine (from_any t cc4 C4 T _ ((HR4.out.1.keep (by repeat' (first | (with_reducible exact Below.refl _ _) | (with_reducible assumption) | (with_reducible refine Later.step ?_ ?_ _) | (with_reducible refine Below.alloc ?_ ?_ _) | (with_reducible refine Below.drew ?_) | (with_reducible refine bel_drewN ?_ _) | (with_reducible refine bel_grown ?_ (by assumption) ?_ ?_) | (with_reducible refine Below.setCell ?_ ?_ _) | go_size))).more (by go_size)) HTT.out.1 HG4.out.u64).mono ?_
      rintro e w5 ⟨hres, hb5⟩
      have hres2 := hres.resolve_right (fun h => h.1 HTT.out.2.2)
      clear hres
      obtain ⟨-, q2, A5, c5, rfl, hq5, hG5⟩ := hres2
      have hq5' : X4.w.heap.size ≤ q2 := Nat.le_trans (by go_size) hq5
      have hq52 : X0.w.heap.size ≤ q2 := by omega
      have hap : Apart q A4 q2 A5 := by
        have h1 := HG4.out.tab.lt
        refine ⟨by omega, fun a e => ?_, fun a e => ?_, fun a e a' e' => ?_⟩
        · have := HG4.out.tab.row_lt a e; omega
        · have := hG5.tab.row_lt a e; omega
        · have := HG4.out.tab.row_lt a e; have := hG5.tab.row_lt a' e'; omega
      have hG4' := (HG4.out.keep (by repeat' (first | (with_reducible exact Below.refl _ _) | (with_reducible assumption) | (with_reducible refine Later.step ?_ ?_ _) | (with_reducible refine Below.alloc ?_ ?_ _) | (with_reducible refine Below.drew ?_) | (with_reducible refine bel_drewN ?_ _) | (with_reducible refine bel_grown ?_ (by assumption) ?_ ?_) | (with_reducible refine Below.setCell ?_ ?_ _) | go_size))).keep hb5
      have hb5' : Below X0.w.heap.size X0.w w5 := Below.trans (by repeat' (first | (with_reducible exact Below.refl _ _) | (with_reducible assumption) | (with_reducible refine Later.step ?_ ?_ _) | (with_reducible refine Below.alloc ?_ ?_ _) | (with_reducible refine Below.drew ?_) | (with_reducible refine bel_drewN ?_ _) | (with_reducible refine bel_grown ?_ (by assumption) ?_ ?_) | (with_reducible refine Below.setCell ?_ ?_ _) | go_size)) (hb5.mono (by go_size))
      have HG5 := Lib.hid (show GTab w5 q A4 c4 T ∧ GTab w5 q2 A5 c5 T ∧ Apart q A4 q2 A5 from ⟨hG4', hG5, hap⟩)
      obtain ⟨X5, rfl⟩ : ∃ Z : Later X0.w.heap.size X0.w, w5 = Z.w := ⟨⟨w5, hb5'⟩, rfl⟩
      have hs5 := X5.is.size
      clear hb5 hb5' hq5 hq5' hG5 hG4' hap
      go_wp2_with fail
      obtain ⟨E, hE⟩ : ∃ E, derE (leftT T x.now) x.fr x.draw x.g = E := ⟨_, rfl⟩
      obtain ⟨M, hM⟩ : ∃ M, derT (leftT T x.now) x.fr x.draw x.g = M := ⟨_, rfl⟩
      have HE := Lib.hid (And.intro hE hM)
      clear hE hM
      have HSS := Lib.hid (show ∀ Y : World, Below X0.w.heap.size X0.w Y → SO w x Y from fun Y hY => so_of HO.out hY)
      refine wp_region_early (fun w' => w'.cell? ⟨w.heap.size, 1, none⟩ = some (.int .u64 (x.fr : Nat)) ∧ w'.cell? ⟨w.heap.size, 2, none⟩ = some (.int .u64 (x.draw : Nat)) ∧ w'.cell? ⟨w.heap.size, 3, none⟩ = some (.int .i64 x.g.ops) ∧ w'.cell? ⟨w.heap.size, 4, none⟩ = some (.int .i64 x.g.zoom) ∧ w'.cell? ⟨w.heap.size, 5, none⟩ = some (.int .i64 x.g.a) ∧ w'.cell? ⟨w.heap.size, 6, none⟩ = some (.int .i64 x.g.b) ∧ w'.cell? ⟨w.heap.size, 7, none⟩ = some (.int .i64 x.g.c) ∧ w'.cell? ⟨w.heap.size, 8, none⟩ = some (.int .i64 x.g.d) ∧ w'.cell? ⟨w.heap.size, 9, none⟩ = some (.bool x.g.void) ∧ w'.cell? ⟨w.heap.size, 10, none⟩ = some (.int .i64 x.g.til) ∧ w'.cell? ⟨w.heap.size, 11, none⟩ = some (.int .i64 x.now)) (fun _ => true) (by kernel_rfl) (by have h9 := HSS.out X5.w.drew (by repeat' (first | (with_reducible exact Below.refl _ _) | (with_reducible assumption) | (with_reducible refine Later.step ?_ ?_ _) | (with_reducible refine Below.alloc ?_ ?_ _) | (with_reducible refine Below.drew ?_) | (with_reducible refine bel_drewN ?_ _) | (with_reducible refine bel_grown ?_ (by assumption) ?_ ?_) | (with_reducible refine Below.setCell ?_ ?_ _) | go_size)); unfold SO at h9; exact h9) (fun HS => ?_)
      (refine wpAnyE_take (i := 0) (v := ?_) rfl (by kernel_rfl) (by kernel_rfl) (by kernel_rfl) (by kernel_rfl) (fun _ _ _ h => h) (Or.inl ⟨by rfl, ?_⟩) HS ?_; rotate_left 1; (focus (intro w9 hSw; (try dsimp only at hSw); go_simp; all_goals (with_reducible rfl))); (try simp only [Act.put, List.setIfInBounds_toArray, List.set_cons_zero, List.set_cons_succ]))
      (refine wpAnyE_take (i := 1) (v := ?_) rfl (by kernel_rfl) (by kernel_rfl) (by kernel_rfl) (by kernel_rfl) (fun _ _ _ h => h) (Or.inl ⟨by rfl, ?_⟩) HS ?_; rotate_left 1; (focus (intro w9 hSw; (try dsimp only at hSw); go_simp; all_goals (with_reducible rfl))); (try simp only [Act.put, List.setIfInBounds_toArray, List.set_cons_zero, List.set_cons_succ]))
      (refine wpAnyE_take (i := 2) (v := ?_) rfl (by kernel_rfl) (by kernel_rfl) (by kernel_rfl) (by kernel_rfl) (fun _ _ _ h => h) (Or.inl ⟨by rfl, ?_⟩) HS ?_; rotate_left 1; (focus (intro w9 hSw; (try dsimp only at hSw); go_simp; all_goals (with_reducible rfl))); (try simp only [Act.put, List.setIfInBounds_toArray, List.set_cons_zero, List.set_cons_succ]))
      (refine wpAnyE_take (i := 3) (v := ?_) rfl (by kernel_rfl) (by kernel_rfl) (by kernel_rfl) (by kernel_rfl) (fun _ _ _ h => h) (Or.inl ⟨by rfl, ?_⟩) HS ?_; rotate_left 1; (focus (intro w9 hSw; (try dsimp only at hSw); go_simp; all_goals (with_reducible rfl))); (try simp only [Act.put, List.setIfInBounds_toArray, List.set_cons_zero, List.set_cons_succ]))
      (refine wpAnyE_take (i := 4) (v := ?_) rfl (by kernel_rfl) (by kernel_rfl) (by kernel_rfl) (by kernel_rfl) (fun _ _ _ h => h) (Or.inl ⟨by rfl, ?_⟩) HS ?_; rotate_left 1; (focus (intro w9 hSw; (try dsimp only at hSw); go_simp; all_goals (with_reducible rfl))); (try simp only [Act.put, List.setIfInBounds_toArray, List.set_cons_zero, List.set_cons_succ]))
      (refine wpAnyE_take (i := 5) (v := ?_) rfl (by kernel_rfl) (by kernel_rfl) (by kernel_rfl) (by kernel_rfl) (fun _ _ _ h => h) (Or.inl ⟨by rfl, ?_⟩) HS ?_; rotate_left 1; (focus (intro w9 hSw; (try dsimp only at hSw); go_simp; all_goals (with_reducible rfl))); (try simp only [Act.put, List.setIfInBounds_toArray, List.set_cons_zero, List.set_cons_succ]))
      (refine wpAnyE_take (i := 6) (v := ?_) rfl (by kernel_rfl) (by kernel_rfl) (by kernel_rfl) (by kernel_rfl) (fun _ _ _ h => h) (Or.inl ⟨by rfl, ?_⟩) HS ?_; rotate_left 1; (focus (intro w9 hSw; (try dsimp only at hSw); go_simp; all_goals (with_reducible rfl))); (try simp only [Act.put, List.setIfInBounds_toArray, List.set_cons_zero, List.set_cons_succ]))
      (refine wpAnyE_take (i := 7) (v := ?_) rfl (by kernel_rfl) (by kernel_rfl) (by kernel_rfl) (by kernel_rfl) (fun _ _ _ h => h) (Or.inl ⟨by rfl, ?_⟩) HS ?_; rotate_left 1; (focus (intro w9 hSw; (try dsimp only at hSw); go_simp; all_goals (with_reducible rfl))); (try simp only [Act.put, List.setIfInBounds_toArray, List.set_cons_zero, List.set_cons_succ]))
      (refine wpAnyE_take (i := 8) (v := ?_) rfl (by kernel_rfl) (by kernel_rfl) (by kernel_rfl) (by kernel_rfl) (fun _ _ _ h => h) (Or.inl ⟨by rfl, ?_⟩) HS ?_; rotate_left 1; (focus (intro w9 hSw; (try dsimp only at hSw); go_simp; all_goals (with_reducible rfl))); (try simp only [Act.put, List.setIfInBounds_toArray, List.set_cons_zero, List.set_cons_succ]))
      (refine wpAnyE_take (i := 10) (v := ?_) rfl (by kernel_rfl) (by kernel_rfl) (by kernel_rfl) (by kernel_rfl) (fun _ _ _ h => h) (Or.inl ⟨by rfl, ?_⟩) HS ?_; rotate_left 1; (focus (intro w9 hSw; (try dsimp only at hSw); go_simp; all_goals (with_reducible rfl))); (try simp only [Act.put, List.setIfInBounds_toArray, List.set_cons_zero, List.set_cons_succ]))
      (refine wpAnyE_take (i := 11) (v := ?_) rfl (by kernel_rfl) (by kernel_rfl) (by kernel_rfl) (by kernel_rfl) (fun _ _ _ h => h) (Or.inl ⟨by rfl, ?_⟩) HS ?_; rotate_left 1; (focus (intro w9 hSw; (try dsimp only at hSw); go_simp; all_goals (with_reducible rfl))); (try simp only [Act.put, List.setIfInBounds_toArray, List.set_cons_zero, List.set_cons_succ]))
      (refine wpAnyE_take (i := 12) (v := ?_) rfl (by kernel_rfl) (by kernel_rfl) (by kernel_rfl) (by kernel_rfl) (fun _ _ _ h => h) (Or.inl ⟨by rfl, ?_⟩) HS ?_; rotate_left 1; (focus (intro w9 hSw; (try dsimp only at hSw); go_simp; all_goals (with_reducible rfl))); (try simp only [Act.put, List.setIfInBounds_toArray, List.set_cons_zero, List.set_cons_succ]))
      (refine wpAnyE_take (i := 13) (v := ?_) rfl (by kernel_rfl) (by kernel_rfl) (by kernel_rfl) (by kernel_rfl) (fun _ _ _ h => h) (Or.inl ⟨by rfl, ?_⟩) HS ?_; rotate_left 1; (focus (intro w9 hSw; (try dsimp only at hSw); go_simp; all_goals (with_reducible rfl))); (try simp only [Act.put, List.setIfInBounds_toArray, List.set_cons_zero, List.set_cons_succ]))
      (refine wpAnyE_take (i := 14) (v := ?_) rfl (by kernel_rfl) (by kernel_rfl) (by kernel_rfl) (by kernel_rfl) (fun _ _ _ h => h) (Or.inl ⟨by rfl, ?_⟩) HS ?_; rotate_left 1; (focus (intro w9 hSw; (try dsimp only at hSw); go_simp; all_goals (with_reducible rfl))); (try simp only [Act.put, List.setIfInBounds_toArray, List.set_cons_zero, List.set_cons_succ]))
      (refine wpAnyE_take (i := 15) (v := ?_) rfl (by kernel_rfl) (by kernel_rfl) (by kernel_rfl) (by kernel_rfl) (fun _ _ _ h => h) (Or.inl ⟨by rfl, ?_⟩) HS ?_; rotate_left 1; (focus (intro w9 hSw; (try dsimp only at hSw); go_simp; all_goals (with_reducible rfl))); (try simp only [Act.put, List.setIfInBounds_toArray, List.set_cons_zero, List.set_cons_succ]))
      (refine wpAnyE_take (i := 16) (v := ?_) rfl (by kernel_rfl) (by kernel_rfl) (by kernel_rfl) (by kernel_rfl) (fun _ _ _ h => h) (Or.inl ⟨by rfl, ?_⟩) HS ?_; rotate_left 1; (focus (intro w9 hSw; (try dsimp only at hSw); go_simp; all_goals (with_reducible rfl))); (try simp only [Act.put, List.setIfInBounds_toArray, List.set_cons_zero, List.set_cons_succ]))
      (refine wpAnyE_take (i := 17) (v := ?_) rfl (by kernel_rfl) (by kernel_rfl) (by kernel_rfl) (by kernel_rfl) (fun _ _ _ h => h) (Or.inl ⟨by rfl, ?_⟩) HS ?_; rotate_left 1; (focus (intro w9 hSw; (try dsimp only at hSw); go_simp; all_goals (with_reducible rfl))); (try simp only [Act.put, List.setIfInBounds_toArray, List.set_cons_zero, List.set_cons_succ]))
      (refine wpAnyE_take (i := 18) (v := ?_) rfl (by kernel_rfl) (by kernel_rfl) (by kernel_rfl) (by kernel_rfl) (fun _ _ _ h => h) (Or.inl ⟨by rfl, ?_⟩) HS ?_; rotate_left 1; (focus (intro w9 hSw; (try dsimp only at hSw); go_simp; all_goals (with_reducible rfl))); (try simp only [Act.put, List.setIfInBounds_toArray, List.set_cons_zero, List.set_cons_succ]))
      refine wpAnyE_one (i := 9) rfl (by kernel_rfl) ?_
      go_wp2_with fail
      refine (derive_to (E := E) (M := M) (HG5.out.1.keep (by repeat' (first | (with_reducible exact Below.refl _ _) | (with_reducible assumption) | (with_reducible refine Later.step ?_ ?_ _) | (with_reducible refine Below.alloc ?_ ?_ _) | (with_reducible refine Below.drew ?_) | (with_reducible refine bel_drewN ?_ _) | (with_reducible refine bel_grown ?_ (by assumption) ?_ ?_) | (with_reducible refine Below.setCell ?_ ?_ _) | go_size))) HX.out.1 HX.out.2 HE.out.1 HE.out.2).mono ?_
      rintro e w6 ⟨rfl, A6, c6, hG6, hto6⟩
      have hb6 : Below X0.w.heap.size X0.w w6 := Below.trans (by repeat' (first | (with_reducible exact Below.refl _ _) | (with_reducible assumption) | (with_reducible refine Later.step ?_ ?_ _) | (with_reducible refine Below.alloc ?_ ?_ _) | (with_reducible refine Below.drew ?_) | (with_reducible refine bel_drewN ?_ _) | (with_reducible refine bel_grown ?_ (by assumption) ?_ ?_) | (with_reducible refine Below.setCell ?_ ?_ _) | go_size)) ((hto6.elder (HG5.out.1.keep (by repeat' (first | (with_reducible exact Below.refl _ _) | (with_reducible assumption) | (with_reducible refine Later.step ?_ ?_ _) | (with_reducible refine Below.alloc ?_ ?_ _) | (with_reducible refine Below.drew ?_) | (with_reducible refine bel_drewN ?_ _) | (with_reducible refine bel_grown ?_ (by assumption) ?_ ?_) | (with_reducible refine Below.setCell ?_ ?_ _) | go_size))).tab).mono hq3)
      have hG6b := (HG5.out.2.1.keep (by repeat' (first | (with_reducible exact Below.refl _ _) | (with_reducible assumption) | (with_reducible refine Later.step ?_ ?_ _) | (with_reducible refine Below.alloc ?_ ?_ _) | (with_reducible refine Below.drew ?_) | (with_reducible refine bel_drewN ?_ _) | (with_reducible refine bel_grown ?_ (by assumption) ?_ ?_) | (with_reducible refine Below.setCell ?_ ?_ _) | go_size))).to hto6 HG5.out.2.2
      have hap6 := HG5.out.2.2.to hto6 (HG5.out.2.1.keep (by repeat' (first | (with_reducible exact Below.refl _ _) | (with_reducible assumption) | (with_reducible refine Later.step ?_ ?_ _) | (with_reducible refine Below.alloc ?_ ?_ _) | (with_reducible refine Below.drew ?_) | (with_reducible refine bel_drewN ?_ _) | (with_reducible refine bel_grown ?_ (by assumption) ?_ ?_) | (with_reducible refine Below.setCell ?_ ?_ _) | go_size))).tab
      have HG6 := Lib.hid (show GTab w6 q A6 c6 M ∧ GTab w6 q2 A5 c5 T ∧ Apart q A6 q2 A5 from ⟨hG6, hG6b, hap6⟩)
      obtain ⟨X6, rfl⟩ : ∃ Z : Later X0.w.heap.size X0.w, w6 = Z.w := ⟨⟨w6, hb6⟩, rfl⟩
      have hs6 := X6.is.size
      clear hb6 hG6 hG6b hap6 hto6
      go_wp2_with fail
      refine ⟨fun _ => HSS.out _ (by repeat' (first | (with_reducible exact Below.refl _ _) | (with_reducible assumption) | (with_reducible refine Later.step ?_ ?_ _) | (with_reducible refine Below.alloc ?_ ?_ _) | (with_reducible refine Below.drew ?_) | (with_reducible refine bel_drewN ?_ _) | (with_reducible refine bel_grown ?_ (by assumption) ?_ ?_) | (with_reducible refine Below.setCell ?_ ?_ _) | go_size)), ?_⟩
      refine wpAnyE_one (i := 19) rfl (by kernel_rfl) ?_
      go_wp2_with fail
      refine (derive_to (E := E) (M := M) (HG6.out.2.1.keep (by repeat' (first | (with_reducible exact Below.refl _ _) | (with_reducible assumption) | (with_reducible refine Later.step ?_ ?_ _) | (with_reducible refine Below.alloc ?_ ?_ _) | (with_reducible refine Below.drew ?_) | (with_reducible refine bel_drewN ?_ _) | (with_reducible refine bel_grown ?_ (by assumption) ?_ ?_) | (with_reducible refine Below.setCell ?_ ?_ _) | go_size))) HX.out.1 HX.out.2 HE.out.1 HE.out.2).mono ?_
      rintro e w7 ⟨rfl, A7, c7, hG7, hto7⟩
      have hb7 : Below X0.w.heap.size X0.w w7 := Below.trans (by repeat' (first | (with_reducible exact Below.refl _ _) | (with_reducible assumption) | (with_reducible refine Later.step ?_ ?_ _) | (with_reducible refine Below.alloc ?_ ?_ _) | (with_reducible refine Below.drew ?_) | (with_reducible refine bel_drewN ?_ _) | (with_reducible refine bel_grown ?_ (by assumption) ?_ ?_) | (with_reducible refine Below.setCell ?_ ?_ _) | go_size)) ((hto7.elder (HG6.out.2.1.keep (by repeat' (first | (with_reducible exact Below.refl _ _) | (with_reducible assumption) | (with_reducible refine Later.step ?_ ?_ _) | (with_reducible refine Below.alloc ?_ ?_ _) | (with_reducible refine Below.drew ?_) | (with_reducible refine bel_drewN ?_ _) | (with_reducible refine bel_grown ?_ (by assumption) ?_ ?_) | (with_reducible refine Below.setCell ?_ ?_ _) | go_size))).tab).mono hq52)
      have hG7a := (HG6.out.1.keep (by repeat' (first | (with_reducible exact Below.refl _ _) | (with_reducible assumption) | (with_reducible refine Later.step ?_ ?_ _) | (with_reducible refine Below.alloc ?_ ?_ _) | (with_reducible refine Below.drew ?_) | (with_reducible refine bel_drewN ?_ _) | (with_reducible refine bel_grown ?_ (by assumption) ?_ ?_) | (with_reducible refine Below.setCell ?_ ?_ _) | go_size))).to hto7 HG6.out.2.2.symm
      have hap7 := (HG6.out.2.2.symm.to hto7 (HG6.out.1.keep (by repeat' (first | (with_reducible exact Below.refl _ _) | (with_reducible assumption) | (with_reducible refine Later.step ?_ ?_ _) | (with_reducible refine Below.alloc ?_ ?_ _) | (with_reducible refine Below.drew ?_) | (with_reducible refine bel_drewN ?_ _) | (with_reducible refine bel_grown ?_ (by assumption) ?_ ?_) | (with_reducible refine Below.setCell ?_ ?_ _) | go_size))).tab).symm
      have HG7 := Lib.hid (show GTab w7 q A6 c6 M ∧ GTab w7 q2 A7 c7 M ∧ Apart q A6 q2 A7 from ⟨hG7a, hG7, hap7⟩)
      obtain ⟨X7, rfl⟩ : ∃ Z : Later X0.w.heap.size X0.w, w7 = Z.w := ⟨⟨w7, hb7⟩, rfl⟩
      have hs7 := X7.is.size
      clear hb7 hG7 hG7a hap7 hto7
      go_wp2_with fail
      refine ⟨fun _ => HSS.out _ (by repeat' (first | (with_reducible exact Below.refl _ _) | (with_reducible assumption) | (with_reducible refine Later.step ?_ ?_ _) | (with_reducible refine Below.alloc ?_ ?_ _) | (with_reducible refine Below.drew ?_) | (with_reducible refine bel_drewN ?_ _) | (with_reducible refine bel_grown ?_ (by assumption) ?_ ?_) | (with_reducible refine Below.setCell ?_ ?_ _) | go_size)), ?_⟩
      refine wpAnyE_one (i := 20) rfl (by kernel_rfl) ?_
      go_wp2_with fail
      refine ⟨fun _ => HSS.out _ (by repeat' (first | (with_reducible exact Below.refl _ _) | (with_reducible assumption) | (with_reducible refine Later.step ?_ ?_ _) | (with_reducible refine Below.alloc ?_ ?_ _) | (with_reducible refine Below.drew ?_) | (with_reducible refine bel_drewN ?_ _) | (with_reducible refine bel_grown ?_ (by assumption) ?_ ?_) | (with_reducible refine Below.setCell ?_ ?_ _) | go_size)), ?_⟩
      refine wpAnyE_one (i := 21) rfl (by kernel_rfl) ?_
      go_wp2_with fail
      refine ⟨fun _ => HSS.out _ (by repeat' (first | (with_reducible exact Below.refl _ _) | (with_reducible assumption) | (with_reducible refine Later.step ?_ ?_ _) | (with_reducible refine Below.alloc ?_ ?_ _) | (with_reducible refine Below.drew ?_) | (with_reducible refine bel_drewN ?_ _) | (with_reducible refine bel_grown ?_ (by assumption) ?_ ?_) | (with_reducible refine Below.setCell ?_ ?_ _) | go_size)), ?_⟩
      refine ⟨by kernel_rfl, ?_⟩
      go_wp2_with fail
      obtain ⟨N, hN⟩ : ∃ N, leftT M x.now = N := ⟨_, rfl⟩
      obtain ⟨r, hr⟩ : ∃ r, N.length = r := ⟨_, rfl⟩
      have hr8 : r ≤ 8 := by rw [← hr, ← hN]; exact Nat.le_trans (left_len _ _) HG7.out.1.len
      have HN := Lib.hid (And.intro hN hr)
      clear hN hr
      refine wp_region_early (fun w' => w'.cell? ⟨w.heap.size, 1, none⟩ = some (.int .u64 (x.fr : Nat)) ∧ w'.cell? ⟨w.heap.size, 2, none⟩ = some (.int .u64 (x.draw : Nat)) ∧ w'.cell? ⟨w.heap.size, 3, none⟩ = some (.int .i64 x.g.ops) ∧ w'.cell? ⟨w.heap.size, 4, none⟩ = some (.int .i64 x.g.zoom) ∧ w'.cell? ⟨w.heap.size, 5, none⟩ = some (.int .i64 x.g.a) ∧ w'.cell? ⟨w.heap.size, 6, none⟩ = some (.int .i64 x.g.b) ∧ w'.cell? ⟨w.heap.size, 7, none⟩ = some (.int .i64 x.g.c) ∧ w'.cell? ⟨w.heap.size, 8, none⟩ = some (.int .i64 x.g.d) ∧ w'.cell? ⟨w.heap.size, 9, none⟩ = some (.bool x.g.void) ∧ w'.cell? ⟨w.heap.size, 10, none⟩ = some (.int .i64 x.g.til) ∧ w'.cell? ⟨w.heap.size, 11, none⟩ = some (.int .i64 x.now)) (fun _ => true) (by kernel_rfl) (by have h9 := HSS.out X7.w.drew (by repeat' (first | (with_reducible exact Below.refl _ _) | (with_reducible assumption) | (with_reducible refine Later.step ?_ ?_ _) | (with_reducible refine Below.alloc ?_ ?_ _) | (with_reducible refine Below.drew ?_) | (with_reducible refine bel_drewN ?_ _) | (with_reducible refine bel_grown ?_ (by assumption) ?_ ?_) | (with_reducible refine Below.setCell ?_ ?_ _) | go_size)); unfold SO at h9; exact h9) (fun HS => ?_)
      (refine wpAnyE_take (i := 0) (v := ?_) rfl (by kernel_rfl) (by kernel_rfl) (by kernel_rfl) (by kernel_rfl) (fun _ _ _ h => h) (Or.inl ⟨by rfl, ?_⟩) HS ?_; rotate_left 1; (focus (intro w9 hSw; (try dsimp only at hSw); go_simp; all_goals (with_reducible rfl))); (try simp only [Act.put, List.setIfInBounds_toArray, List.set_cons_zero, List.set_cons_succ]))
      (refine wpAnyE_take (i := 1) (v := ?_) rfl (by kernel_rfl) (by kernel_rfl) (by kernel_rfl) (by kernel_rfl) (fun _ _ _ h => h) (Or.inl ⟨by rfl, ?_⟩) HS ?_; rotate_left 1; (focus (intro w9 hSw; (try dsimp only at hSw); go_simp; all_goals (with_reducible rfl))); (try simp only [Act.put, List.setIfInBounds_toArray, List.set_cons_zero, List.set_cons_succ]))
      (refine wpAnyE_take (i := 2) (v := ?_) rfl (by kernel_rfl) (by kernel_rfl) (by kernel_rfl) (by kernel_rfl) (fun _ _ _ h => h) (Or.inl ⟨by rfl, ?_⟩) HS ?_; rotate_left 1; (focus (intro w9 hSw; (try dsimp only at hSw); go_simp; all_goals (with_reducible rfl))); (try simp only [Act.put, List.setIfInBounds_toArray, List.set_cons_zero, List.set_cons_succ]))
      (refine wpAnyE_take (i := 3) (v := ?_) rfl (by kernel_rfl) (by kernel_rfl) (by kernel_rfl) (by kernel_rfl) (fun _ _ _ h => h) (Or.inl ⟨by rfl, ?_⟩) HS ?_; rotate_left 1; (focus (intro w9 hSw; (try dsimp only at hSw); go_simp; all_goals (with_reducible rfl))); (try simp only [Act.put, List.setIfInBounds_toArray, List.set_cons_zero, List.set_cons_succ]))
      (refine wpAnyE_take (i := 4) (v := ?_) rfl (by kernel_rfl) (by kernel_rfl) (by kernel_rfl) (by kernel_rfl) (fun _ _ _ h => h) (Or.inl ⟨by kernel_rfl, ?_⟩) HS ?_; rotate_left 1; (focus (intro w9 hSw; (try dsimp only at hSw); go_simp; all_goals (with_reducible rfl))); (try simp only [Act.put, List.setIfInBounds_toArray, List.set_cons_zero, List.set_cons_succ]))
      (refine wpAnyE_take (i := 5) (v := ?_) rfl (by kernel_rfl) (by kernel_rfl) (by kernel_rfl) (by kernel_rfl) (fun _ _ _ h => h) (Or.inl ⟨by kernel_rfl, ?_⟩) HS ?_; rotate_left 1; (focus (intro w9 hSw; (try dsimp only at hSw); go_simp; all_goals (with_reducible rfl))); (try simp only [Act.put, List.setIfInBounds_toArray, List.set_cons_zero, List.set_cons_succ]))
      (refine wpAnyE_take (i := 6) (v := ?_) rfl (by kernel_rfl) (by kernel_rfl) (by kernel_rfl) (by kernel_rfl) (fun _ _ _ h => h) (Or.inl ⟨by kernel_rfl, ?_⟩) HS ?_; rotate_left 1; (focus (intro w9 hSw; (try dsimp only at hSw); go_simp; all_goals (with_reducible rfl))); (try simp only [Act.put, List.setIfInBounds_toArray, List.set_cons_zero, List.set_cons_succ]))
      (refine wpAnyE_take (i := 8) (v := ?_) rfl (by kernel_rfl) (by kernel_rfl) (by kernel_rfl) (by kernel_rfl) (fun _ _ _ h => h) (Or.inl ⟨by kernel_rfl, ?_⟩) HS ?_; rotate_left 1; (focus (intro w9 hSw; (try dsimp only at hSw); go_simp; all_goals (with_reducible rfl))); (try simp only [Act.put, List.setIfInBounds_toArray, List.set_cons_zero, List.set_cons_succ]))
      (refine wpAnyE_take (i := 9) (v := ?_) rfl (by kernel_rfl) (by kernel_rfl) (by kernel_rfl) (by kernel_rfl) (fun _ _ _ h => h) (Or.inl ⟨by kernel_rfl, ?_⟩) HS ?_; rotate_left 1; (focus (intro w9 hSw; (try dsimp only at hSw); go_simp; all_goals (with_reducible rfl))); (try simp only [Act.put, List.setIfInBounds_toArray, List.set_cons_zero, List.set_cons_succ]))
      (refine wpAnyE_take (i := 10) (v := ?_) rfl (by kernel_rfl) (by kernel_rfl) (by kernel_rfl) (by kernel_rfl) (fun _ _ _ h => h) (Or.inl ⟨by kernel_rfl, ?_⟩) HS ?_; rotate_left 1; (focus (intro w9 hSw; (try dsimp only at hSw); go_simp; all_goals (with_reducible rfl))); (try simp only [Act.put, List.setIfInBounds_toArray, List.set_cons_zero, List.set_cons_succ]))
      refine wpAnyE_oneG (i := 7) rfl (by kernel_rfl) (by kernel_rfl) ?_

      go_wp2_with fail
      refine (tickets_new (M := N) (m := r) (HG7.out.1.keep (by repeat' (first | (with_reducible exact Below.refl _ _) | (with_reducible assumption) | (with_reducible refine Later.step ?_ ?_ _) | (with_reducible refine Below.alloc ?_ ?_ _) | (with_reducible refine Below.drew ?_) | (with_reducible refine bel_drewN ?_ _) | (with_reducible refine bel_grown ?_ (by assumption) ?_ ?_) | (with_reducible refine Below.setCell ?_ ?_ _) | go_size))) HN.out.1 HN.out.2).mono ?_
      rintro e w8 ⟨C8, cc8, A8, c8, rfl, hR8, hnw8, hG8, hto8⟩
      have hb8 : Below X0.w.heap.size X0.w w8 := Below.trans (by repeat' (first | (with_reducible exact Below.refl _ _) | (with_reducible assumption) | (with_reducible refine Later.step ?_ ?_ _) | (with_reducible refine Below.alloc ?_ ?_ _) | (with_reducible refine Below.drew ?_) | (with_reducible refine bel_drewN ?_ _) | (with_reducible refine bel_grown ?_ (by assumption) ?_ ?_) | (with_reducible refine Below.setCell ?_ ?_ _) | go_size)) ((hto8.elder (HG7.out.1.keep (by repeat' (first | (with_reducible exact Below.refl _ _) | (with_reducible assumption) | (with_reducible refine Later.step ?_ ?_ _) | (with_reducible refine Below.alloc ?_ ?_ _) | (with_reducible refine Below.drew ?_) | (with_reducible refine bel_drewN ?_ _) | (with_reducible refine bel_grown ?_ (by assumption) ?_ ?_) | (with_reducible refine Below.setCell ?_ ?_ _) | go_size))).tab).mono hq3)
      have hG8b := (HG7.out.2.1.keep (by repeat' (first | (with_reducible exact Below.refl _ _) | (with_reducible assumption) | (with_reducible refine Later.step ?_ ?_ _) | (with_reducible refine Below.alloc ?_ ?_ _) | (with_reducible refine Below.drew ?_) | (with_reducible refine bel_drewN ?_ _) | (with_reducible refine bel_grown ?_ (by assumption) ?_ ?_) | (with_reducible refine Below.setCell ?_ ?_ _) | go_size))).to hto8 HG7.out.2.2
      have hnw : 0 < N.length → ∀ a, C8 = some a → X7.w.heap.size ≤ a.block := fun hp a e => Nat.le_trans (by go_size) (hnw8 hp a e)
      have hR8b : Row w8 q2 A7 C8 N := ⟨hR8.1, fun hp a e => ⟨by have := hnw hp a e; have := HG7.out.2.1.tab.lt; omega, fun a' e' => by have := hnw hp a e; have := HG7.out.2.1.tab.row_lt a' e'; omega⟩⟩
      have HG8 := Lib.hid (show GTab w8 q2 A7 c7 M ∧ Row w8 q2 A7 C8 N from ⟨hG8b, hR8b⟩)
      obtain ⟨X8, rfl⟩ : ∃ Z : Later X0.w.heap.size X0.w, w8 = Z.w := ⟨⟨w8, hb8⟩, rfl⟩
      have hs8 := X8.is.size
      clear hb8 hG8 hG8b hR8 hR8b hnw hnw8 hto8
      go_wp2_with fail
      refine ⟨fun _ => HSS.out _ (by repeat' (first | (with_reducible exact Below.refl _ _) | (with_reducible assumption) | (with_reducible refine Later.step ?_ ?_ _) | (with_reducible refine Below.alloc ?_ ?_ _) | (with_reducible refine Below.drew ?_) | (with_reducible refine bel_drewN ?_ _) | (with_reducible refine bel_grown ?_ (by assumption) ?_ ?_) | (with_reducible refine Below.setCell ?_ ?_ _) | go_size)), ?_⟩
      refine wpAnyE_oneG (i := 11) rfl (by kernel_rfl) (by kernel_rfl) ?_

      go_wp2_with fail
      refine (tickets_new (M := N) (m := r) (HG8.out.1.keep (by repeat' (first | (with_reducible exact Below.refl _ _) | (with_reducible assumption) | (with_reducible refine Later.step ?_ ?_ _) | (with_reducible refine Below.alloc ?_ ?_ _) | (with_reducible refine Below.drew ?_) | (with_reducible refine bel_drewN ?_ _) | (with_reducible refine bel_grown ?_ (by assumption) ?_ ?_) | (with_reducible refine Below.setCell ?_ ?_ _) | go_size))) HN.out.1 HN.out.2).mono ?_
      rintro e w9 ⟨C9, cc9, A9, c9, rfl, hR9, hnw9, hG9, hto9⟩
      have hb9 : Below X0.w.heap.size X0.w w9 := Below.trans (by repeat' (first | (with_reducible exact Below.refl _ _) | (with_reducible assumption) | (with_reducible refine Later.step ?_ ?_ _) | (with_reducible refine Below.alloc ?_ ?_ _) | (with_reducible refine Below.drew ?_) | (with_reducible refine bel_drewN ?_ _) | (with_reducible refine bel_grown ?_ (by assumption) ?_ ?_) | (with_reducible refine Below.setCell ?_ ?_ _) | go_size)) ((hto9.elder (HG8.out.1.keep (by repeat' (first | (with_reducible exact Below.refl _ _) | (with_reducible assumption) | (with_reducible refine Later.step ?_ ?_ _) | (with_reducible refine Below.alloc ?_ ?_ _) | (with_reducible refine Below.drew ?_) | (with_reducible refine bel_drewN ?_ _) | (with_reducible refine bel_grown ?_ (by assumption) ?_ ?_) | (with_reducible refine Below.setCell ?_ ?_ _) | go_size))).tab).mono hq52)
      have HR9 := Lib.hid (show Tks w9 w9.heap.size C8 N ∧ Tks w9 w9.heap.size C9 N from ⟨((HG8.out.2.keep (by repeat' (first | (with_reducible exact Below.refl _ _) | (with_reducible assumption) | (with_reducible refine Later.step ?_ ?_ _) | (with_reducible refine Below.alloc ?_ ?_ _) | (with_reducible refine Below.drew ?_) | (with_reducible refine bel_drewN ?_ _) | (with_reducible refine bel_grown ?_ (by assumption) ?_ ?_) | (with_reducible refine Below.setCell ?_ ?_ _) | go_size))).to hto9).1, hR9.1⟩)
      obtain ⟨X9, rfl⟩ : ∃ Z : Later X0.w.heap.size X0.w, w9 = Z.w := ⟨⟨w9, hb9⟩, rfl⟩
      have hs9 := X9.is.size
      clear hb9 hG9 hR9 hnw9 hto9
      go_wp2_with fail
      refine ⟨fun _ => HSS.out _ (by repeat' (first | (with_reducible exact Below.refl _ _) | (with_reducible assumption) | (with_reducible refine Later.step ?_ ?_ _) | (with_reducible refine Below.alloc ?_ ?_ _) | (with_reducible refine Below.drew ?_) | (with_reducible refine bel_drewN ?_ _) | (with_reducible refine bel_grown ?_ (by assumption) ?_ ?_) | (with_reducible refine Below.setCell ?_ ?_ _) | go_size)), ?_⟩
      refine wpAnyE_oneG (i := 12) rfl (by kernel_rfl) (by kernel_rfl) ?_

      go_wp2_with fail
      refine (same_to (n := r) (HR9.out.1.keep (by repeat' (first | (with_reducible exact Below.refl _ _) | (with_reducible assumption) | (with_reducible refine Later.step ?_ ?_ _) | (with_reducible refine Below.alloc ?_ ?_ _) | (with_reducible refine Below.drew ?_) | (with_reducible refine bel_drewN ?_ _) | (with_reducible refine bel_grown ?_ (by assumption) ?_ ?_) | (with_reducible refine Below.setCell ?_ ?_ _) | go_size))) (HR9.out.2.keep (by repeat' (first | (with_reducible exact Below.refl _ _) | (with_reducible assumption) | (with_reducible refine Later.step ?_ ?_ _) | (with_reducible refine Below.alloc ?_ ?_ _) | (with_reducible refine Below.drew ?_) | (with_reducible refine bel_drewN ?_ _) | (with_reducible refine bel_grown ?_ (by assumption) ?_ ?_) | (with_reducible refine Below.setCell ?_ ?_ _) | go_size))) HN.out.2 hr8).mono ?_
      rintro e w10 ⟨rfl, hb10⟩
      have hb10' : Below X0.w.heap.size X0.w w10 := Below.trans (by repeat' (first | (with_reducible exact Below.refl _ _) | (with_reducible assumption) | (with_reducible refine Later.step ?_ ?_ _) | (with_reducible refine Below.alloc ?_ ?_ _) | (with_reducible refine Below.drew ?_) | (with_reducible refine bel_drewN ?_ _) | (with_reducible refine bel_grown ?_ (by assumption) ?_ ?_) | (with_reducible refine Below.setCell ?_ ?_ _) | go_size)) (hb10.mono (by go_size))
      obtain ⟨X10, rfl⟩ : ∃ Z : Later X0.w.heap.size X0.w, w10 = Z.w := ⟨⟨w10, hb10'⟩, rfl⟩
      have hs10 := X10.is.size
      clear hb10 hb10'
      go_wp2_with fail
      refine ⟨fun _ => HSS.out _ (by repeat' (first | (with_reducible exact Below.refl _ _) | (with_reducible assumption) | (with_reducible refine Later.step ?_ ?_ _) | (with_reducible refine Below.alloc ?_ ?_ _) | (with_reducible refine Below.drew ?_) | (with_reducible refine bel_drewN ?_ _) | (with_reducible refine bel_grown ?_ (by assumption) ?_ ?_) | (with_reducible refine Below.setCell ?_ ?_ _) | go_size)), ?_⟩
      refine wpAnyE_one (i := 13) rfl (by kernel_rfl) ?_
      go_wp2_with fail
      refine ⟨fun _ => HSS.out _ (by repeat' (first | (with_reducible exact Below.refl _ _) | (with_reducible assumption) | (with_reducible refine Later.step ?_ ?_ _) | (with_reducible refine Below.alloc ?_ ?_ _) | (with_reducible refine Below.drew ?_) | (with_reducible refine bel_drewN ?_ _) | (with_reducible refine bel_grown ?_ (by assumption) ?_ ?_) | (with_reducible refine Below.setCell ?_ ?_ _) | go_size)), ?_⟩
      refine wpAnyE_one (i := 14) rfl (by kernel_rfl) ?_
      go_wp2_with fail
      refine ⟨fun _ => HSS.out _ (by repeat' (first | (with_reducible exact Below.refl _ _) | (with_reducible assumption) | (with_reducible refine Later.step ?_ ?_ _) | (with_reducible refine Below.alloc ?_ ?_ _) | (with_reducible refine Below.drew ?_) | (with_reducible refine bel_drewN ?_ _) | (with_reducible refine bel_grown ?_ (by assumption) ?_ ?_) | (with_reducible refine Below.setCell ?_ ?_ _) | go_size)), ?_⟩
      refine wpAnyE_oneG (i := 15) rfl (by kernel_rfl) (by kernel_rfl) ?_

      go_wp2_with fail
      refine (PK.out _).mono ?_
      rintro e w11 ⟨rfl, hb11⟩
      have hb11' : Below X0.w.heap.size X0.w w11 := Below.trans (by repeat' (first | (with_reducible exact Below.refl _ _) | (with_reducible assumption) | (with_reducible refine Later.step ?_ ?_ _) | (with_reducible refine Below.alloc ?_ ?_ _) | (with_reducible refine Below.drew ?_) | (with_reducible refine bel_drewN ?_ _) | (with_reducible refine bel_grown ?_ (by assumption) ?_ ?_) | (with_reducible refine Below.setCell ?_ ?_ _) | go_size)) (hb11.mono (by go_size))
      obtain ⟨X11, rfl⟩ : ∃ Z : Later X0.w.heap.size X0.w, w11 = Z.w := ⟨⟨w11, hb11'⟩, rfl⟩
      have hs11 := X11.is.size
      clear hb11 hb11'
      go_wp2_with fail
      refine ⟨fun _ => HSS.out _ (by repeat' (first | (with_reducible exact Below.refl _ _) | (with_reducible assumption) | (with_reducible refine Later.step ?_ ?_ _) | (with_reducible refine Below.alloc ?_ ?_ _) | (with_reducible refine Below.drew ?_) | (with_reducible refine bel_drewN ?_ _) | (with_reducible refine bel_grown ?_ (by assumption) ?_ ?_) | (with_reducible refine Below.setCell ?_ ?_ _) | go_size)), ?_⟩
      refine wpAnyE_one (i := 16) rfl (by kernel_rfl) ?_
      go_wp2_with fail
      refine ⟨fun _ => HSS.out _ (by repeat' (first | (with_reducible exact Below.refl _ _) | (with_reducible assumption) | (with_reducible refine Later.step ?_ ?_ _) | (with_reducible refine Below.alloc ?_ ?_ _) | (with_reducible refine Below.drew ?_) | (with_reducible refine bel_drewN ?_ _) | (with_reducible refine bel_grown ?_ (by assumption) ?_ ?_) | (with_reducible refine Below.setCell ?_ ?_ _) | go_size)), ?_⟩
      refine wpAnyE_one (i := 17) rfl (by kernel_rfl) ?_
      go_wp2_with fail
      refine ⟨fun _ => HSS.out _ (by repeat' (first | (with_reducible exact Below.refl _ _) | (with_reducible assumption) | (with_reducible refine Later.step ?_ ?_ _) | (with_reducible refine Below.alloc ?_ ?_ _) | (with_reducible refine Below.drew ?_) | (with_reducible refine bel_drewN ?_ _) | (with_reducible refine bel_grown ?_ (by assumption) ?_ ?_) | (with_reducible refine Below.setCell ?_ ?_ _) | go_size)), ?_⟩
      refine ⟨by kernel_rfl, ?_⟩
      go_wp2_with fail
      go_ret
      exact ⟨rfl, X0.is.trans (X11.is.mono (by omega))⟩
    · obtain rfl : d = false := by
        cases d with
        | false => rfl
        | true => exact absurd (HAL.out.1 rfl) hno
      clear hno
      go_wp2_with (first
        | (go_at_call 31; refine (PA.out _ (by repeat' (first | (with_reducible exact Below.refl _ _) | (with_reducible assumption) | (with_reducible refine Later.step ?_ ?_ _) | (with_reducible refine Below.alloc ?_ ?_ _) | (with_reducible refine Below.drew ?_) | (with_reducible refine bel_drewN ?_ _) | (with_reducible refine bel_grown ?_ (by assumption) ?_ ?_) | (with_reducible refine Below.setCell ?_ ?_ _) | go_size))).mono ?_; rintro e w' ⟨rfl, hb⟩; obtain ⟨X2, rfl, hl2, hm2⟩ := later _ hb (Nat.le_refl _); clear hb; (try simp only [World.size_alloc, World.size_setCell, World.size_drew] at hm2 hl2)))
      go_wp2_with fail
      refine (played_any n c A L _ ((HL0.out.keep (by repeat' (first | (with_reducible exact Below.refl _ _) | (with_reducible assumption) | (with_reducible refine Later.step ?_ ?_ _) | (with_reducible refine Below.alloc ?_ ?_ _) | (with_reducible refine Below.drew ?_) | (with_reducible refine bel_drewN ?_ _) | (with_reducible refine bel_grown ?_ (by assumption) ?_ ?_) | (with_reducible refine Below.setCell ?_ ?_ _) | go_size))).more (by go_size)) HL.out.1 HL.out.2.1 HL.out.2.2.2).mono ?_
      rintro e w3 ⟨⟨q, A3, c3, rfl, hq, hG3⟩, hb3⟩
      have hq3 : X0.w.heap.size ≤ q := Nat.le_trans (by go_size) hq
      have hb3' : Below X0.w.heap.size X0.w w3 := Below.trans (by repeat' (first | (with_reducible exact Below.refl _ _) | (with_reducible assumption) | (with_reducible refine Later.step ?_ ?_ _) | (with_reducible refine Below.alloc ?_ ?_ _) | (with_reducible refine Below.drew ?_) | (with_reducible refine bel_drewN ?_ _) | (with_reducible refine bel_grown ?_ (by assumption) ?_ ?_) | (with_reducible refine Below.setCell ?_ ?_ _) | go_size)) (hb3.mono (by go_size))
      obtain ⟨T, hT⟩ : ∃ T, playT L = T := ⟨_, rfl⟩
      rw [hT] at hG3
      have HG3 := Lib.hid hG3
      obtain ⟨t, ht⟩ : ∃ t, T.length = t := ⟨_, rfl⟩
      have HTT := Lib.hid (show T.length = t ∧ leftT T 0 = T ∧ AllT T from ⟨ht, left_zero hG3.good, hG3.good, hG3.len⟩)
      obtain ⟨X3, rfl⟩ : ∃ Z : Later X0.w.heap.size X0.w, w3 = Z.w := ⟨⟨w3, hb3'⟩, rfl⟩
      have hs3 := X3.is.size
      clear hb3 hb3' hq hG3 hT ht
      go_wp2_with fail
      refine (tickets_to (M := T) (m := t) (HG3.out.keep (by repeat' (first | (with_reducible exact Below.refl _ _) | (with_reducible assumption) | (with_reducible refine Later.step ?_ ?_ _) | (with_reducible refine Below.alloc ?_ ?_ _) | (with_reducible refine Below.drew ?_) | (with_reducible refine bel_drewN ?_ _) | (with_reducible refine bel_grown ?_ (by assumption) ?_ ?_) | (with_reducible refine Below.setCell ?_ ?_ _) | go_size))) HTT.out.2.1 HTT.out.1).mono ?_
      rintro e w4 ⟨C4, cc4, A4, c4, rfl, hR4, hG4, hto4⟩
      have hb4 : Below X0.w.heap.size X0.w w4 := Below.trans (by repeat' (first | (with_reducible exact Below.refl _ _) | (with_reducible assumption) | (with_reducible refine Later.step ?_ ?_ _) | (with_reducible refine Below.alloc ?_ ?_ _) | (with_reducible refine Below.drew ?_) | (with_reducible refine bel_drewN ?_ _) | (with_reducible refine bel_grown ?_ (by assumption) ?_ ?_) | (with_reducible refine Below.setCell ?_ ?_ _) | go_size)) ((hto4.elder (HG3.out.keep (by repeat' (first | (with_reducible exact Below.refl _ _) | (with_reducible assumption) | (with_reducible refine Later.step ?_ ?_ _) | (with_reducible refine Below.alloc ?_ ?_ _) | (with_reducible refine Below.drew ?_) | (with_reducible refine bel_drewN ?_ _) | (with_reducible refine bel_grown ?_ (by assumption) ?_ ?_) | (with_reducible refine Below.setCell ?_ ?_ _) | go_size))).tab).mono hq3)
      have HG4 := Lib.hid hG4
      have HR4 := Lib.hid hR4
      obtain ⟨X4, rfl⟩ : ∃ Z : Later X0.w.heap.size X0.w, w4 = Z.w := ⟨⟨w4, hb4⟩, rfl⟩
      have hs4 := X4.is.size
      clear hb4 hG4 hR4 hto4
      go_wp2_with fail
      refine (from_any t cc4 C4 T _ ((HR4.out.1.keep (by repeat' (first | (with_reducible exact Below.refl _ _) | (with_reducible assumption) | (with_reducible refine Later.step ?_ ?_ _) | (with_reducible refine Below.alloc ?_ ?_ _) | (with_reducible refine Below.drew ?_) | (with_reducible refine bel_drewN ?_ _) | (with_reducible refine bel_grown ?_ (by assumption) ?_ ?_) | (with_reducible refine Below.setCell ?_ ?_ _) | go_size))).more (by go_size)) HTT.out.1 HG4.out.u64).mono ?_
      rintro e w5 ⟨hres, hb5⟩
      have hres2 := hres.resolve_right (fun h => h.1 HTT.out.2.2)
      clear hres
      obtain ⟨-, q2, A5, c5, rfl, hq5, hG5⟩ := hres2
      have hq5' : X4.w.heap.size ≤ q2 := Nat.le_trans (by go_size) hq5
      have hq52 : X0.w.heap.size ≤ q2 := by omega
      have hap : Apart q A4 q2 A5 := by
        have h1 := HG4.out.tab.lt
        refine ⟨by omega, fun a e => ?_, fun a e => ?_, fun a e a' e' => ?_⟩
        · have := HG4.out.tab.row_lt a e; omega
        · have := hG5.tab.row_lt a e; omega
        · have := HG4.out.tab.row_lt a e; have := hG5.tab.row_lt a' e'; omega
      have hG4' := (HG4.out.keep (by repeat' (first | (with_reducible exact Below.refl _ _) | (with_reducible assumption) | (with_reducible refine Later.step ?_ ?_ _) | (with_reducible refine Below.alloc ?_ ?_ _) | (with_reducible refine Below.drew ?_) | (with_reducible refine bel_drewN ?_ _) | (with_reducible refine bel_grown ?_ (by assumption) ?_ ?_) | (with_reducible refine Below.setCell ?_ ?_ _) | go_size))).keep hb5
      have hb5' : Below X0.w.heap.size X0.w w5 := Below.trans (by repeat' (first | (with_reducible exact Below.refl _ _) | (with_reducible assumption) | (with_reducible refine Later.step ?_ ?_ _) | (with_reducible refine Below.alloc ?_ ?_ _) | (with_reducible refine Below.drew ?_) | (with_reducible refine bel_drewN ?_ _) | (with_reducible refine bel_grown ?_ (by assumption) ?_ ?_) | (with_reducible refine Below.setCell ?_ ?_ _) | go_size)) (hb5.mono (by go_size))
      have HG5 := Lib.hid (show GTab w5 q A4 c4 T ∧ GTab w5 q2 A5 c5 T ∧ Apart q A4 q2 A5 from ⟨hG4', hG5, hap⟩)
      obtain ⟨X5, rfl⟩ : ∃ Z : Later X0.w.heap.size X0.w, w5 = Z.w := ⟨⟨w5, hb5'⟩, rfl⟩
      have hs5 := X5.is.size
      clear hb5 hb5' hq5 hq5' hG5 hG4' hap
      go_wp2_with fail
      obtain ⟨E, hE⟩ : ∃ E, derE (leftT T x.now) x.fr x.draw x.g = E := ⟨_, rfl⟩
      obtain ⟨M, hM⟩ : ∃ M, derT (leftT T x.now) x.fr x.draw x.g = M := ⟨_, rfl⟩
      have HE := Lib.hid (And.intro hE hM)
      clear hE hM
      have HSS := Lib.hid (show ∀ Y : World, Below X0.w.heap.size X0.w Y → SO w x Y from fun Y hY => so_of HO.out hY)
      refine wp_region_early (fun w' => w'.cell? ⟨w.heap.size, 1, none⟩ = some (.int .u64 (x.fr : Nat)) ∧ w'.cell? ⟨w.heap.size, 2, none⟩ = some (.int .u64 (x.draw : Nat)) ∧ w'.cell? ⟨w.heap.size, 3, none⟩ = some (.int .i64 x.g.ops) ∧ w'.cell? ⟨w.heap.size, 4, none⟩ = some (.int .i64 x.g.zoom) ∧ w'.cell? ⟨w.heap.size, 5, none⟩ = some (.int .i64 x.g.a) ∧ w'.cell? ⟨w.heap.size, 6, none⟩ = some (.int .i64 x.g.b) ∧ w'.cell? ⟨w.heap.size, 7, none⟩ = some (.int .i64 x.g.c) ∧ w'.cell? ⟨w.heap.size, 8, none⟩ = some (.int .i64 x.g.d) ∧ w'.cell? ⟨w.heap.size, 9, none⟩ = some (.bool x.g.void) ∧ w'.cell? ⟨w.heap.size, 10, none⟩ = some (.int .i64 x.g.til) ∧ w'.cell? ⟨w.heap.size, 11, none⟩ = some (.int .i64 x.now)) (fun _ => true) (by kernel_rfl) (by have h9 := HSS.out X5.w.drew (by repeat' (first | (with_reducible exact Below.refl _ _) | (with_reducible assumption) | (with_reducible refine Later.step ?_ ?_ _) | (with_reducible refine Below.alloc ?_ ?_ _) | (with_reducible refine Below.drew ?_) | (with_reducible refine bel_drewN ?_ _) | (with_reducible refine bel_grown ?_ (by assumption) ?_ ?_) | (with_reducible refine Below.setCell ?_ ?_ _) | go_size)); unfold SO at h9; exact h9) (fun HS => ?_)
      (refine wpAnyE_take (i := 0) (v := ?_) rfl (by kernel_rfl) (by kernel_rfl) (by kernel_rfl) (by kernel_rfl) (fun _ _ _ h => h) (Or.inl ⟨by rfl, ?_⟩) HS ?_; rotate_left 1; (focus (intro w9 hSw; (try dsimp only at hSw); go_simp; all_goals (with_reducible rfl))); (try simp only [Act.put, List.setIfInBounds_toArray, List.set_cons_zero, List.set_cons_succ]))
      (refine wpAnyE_take (i := 1) (v := ?_) rfl (by kernel_rfl) (by kernel_rfl) (by kernel_rfl) (by kernel_rfl) (fun _ _ _ h => h) (Or.inl ⟨by rfl, ?_⟩) HS ?_; rotate_left 1; (focus (intro w9 hSw; (try dsimp only at hSw); go_simp; all_goals (with_reducible rfl))); (try simp only [Act.put, List.setIfInBounds_toArray, List.set_cons_zero, List.set_cons_succ]))
      (refine wpAnyE_take (i := 2) (v := ?_) rfl (by kernel_rfl) (by kernel_rfl) (by kernel_rfl) (by kernel_rfl) (fun _ _ _ h => h) (Or.inl ⟨by rfl, ?_⟩) HS ?_; rotate_left 1; (focus (intro w9 hSw; (try dsimp only at hSw); go_simp; all_goals (with_reducible rfl))); (try simp only [Act.put, List.setIfInBounds_toArray, List.set_cons_zero, List.set_cons_succ]))
      (refine wpAnyE_take (i := 3) (v := ?_) rfl (by kernel_rfl) (by kernel_rfl) (by kernel_rfl) (by kernel_rfl) (fun _ _ _ h => h) (Or.inl ⟨by rfl, ?_⟩) HS ?_; rotate_left 1; (focus (intro w9 hSw; (try dsimp only at hSw); go_simp; all_goals (with_reducible rfl))); (try simp only [Act.put, List.setIfInBounds_toArray, List.set_cons_zero, List.set_cons_succ]))
      (refine wpAnyE_take (i := 4) (v := ?_) rfl (by kernel_rfl) (by kernel_rfl) (by kernel_rfl) (by kernel_rfl) (fun _ _ _ h => h) (Or.inl ⟨by rfl, ?_⟩) HS ?_; rotate_left 1; (focus (intro w9 hSw; (try dsimp only at hSw); go_simp; all_goals (with_reducible rfl))); (try simp only [Act.put, List.setIfInBounds_toArray, List.set_cons_zero, List.set_cons_succ]))
      (refine wpAnyE_take (i := 5) (v := ?_) rfl (by kernel_rfl) (by kernel_rfl) (by kernel_rfl) (by kernel_rfl) (fun _ _ _ h => h) (Or.inl ⟨by rfl, ?_⟩) HS ?_; rotate_left 1; (focus (intro w9 hSw; (try dsimp only at hSw); go_simp; all_goals (with_reducible rfl))); (try simp only [Act.put, List.setIfInBounds_toArray, List.set_cons_zero, List.set_cons_succ]))
      (refine wpAnyE_take (i := 6) (v := ?_) rfl (by kernel_rfl) (by kernel_rfl) (by kernel_rfl) (by kernel_rfl) (fun _ _ _ h => h) (Or.inl ⟨by rfl, ?_⟩) HS ?_; rotate_left 1; (focus (intro w9 hSw; (try dsimp only at hSw); go_simp; all_goals (with_reducible rfl))); (try simp only [Act.put, List.setIfInBounds_toArray, List.set_cons_zero, List.set_cons_succ]))
      (refine wpAnyE_take (i := 7) (v := ?_) rfl (by kernel_rfl) (by kernel_rfl) (by kernel_rfl) (by kernel_rfl) (fun _ _ _ h => h) (Or.inl ⟨by rfl, ?_⟩) HS ?_; rotate_left 1; (focus (intro w9 hSw; (try dsimp only at hSw); go_simp; all_goals (with_reducible rfl))); (try simp only [Act.put, List.setIfInBounds_toArray, List.set_cons_zero, List.set_cons_succ]))
      (refine wpAnyE_take (i := 8) (v := ?_) rfl (by kernel_rfl) (by kernel_rfl) (by kernel_rfl) (by kernel_rfl) (fun _ _ _ h => h) (Or.inl ⟨by rfl, ?_⟩) HS ?_; rotate_left 1; (focus (intro w9 hSw; (try dsimp only at hSw); go_simp; all_goals (with_reducible rfl))); (try simp only [Act.put, List.setIfInBounds_toArray, List.set_cons_zero, List.set_cons_succ]))
      (refine wpAnyE_take (i := 10) (v := ?_) rfl (by kernel_rfl) (by kernel_rfl) (by kernel_rfl) (by kernel_rfl) (fun _ _ _ h => h) (Or.inl ⟨by rfl, ?_⟩) HS ?_; rotate_left 1; (focus (intro w9 hSw; (try dsimp only at hSw); go_simp; all_goals (with_reducible rfl))); (try simp only [Act.put, List.setIfInBounds_toArray, List.set_cons_zero, List.set_cons_succ]))
      (refine wpAnyE_take (i := 11) (v := ?_) rfl (by kernel_rfl) (by kernel_rfl) (by kernel_rfl) (by kernel_rfl) (fun _ _ _ h => h) (Or.inl ⟨by rfl, ?_⟩) HS ?_; rotate_left 1; (focus (intro w9 hSw; (try dsimp only at hSw); go_simp; all_goals (with_reducible rfl))); (try simp only [Act.put, List.setIfInBounds_toArray, List.set_cons_zero, List.set_cons_succ]))
      (refine wpAnyE_take (i := 12) (v := ?_) rfl (by kernel_rfl) (by kernel_rfl) (by kernel_rfl) (by kernel_rfl) (fun _ _ _ h => h) (Or.inl ⟨by rfl, ?_⟩) HS ?_; rotate_left 1; (focus (intro w9 hSw; (try dsimp only at hSw); go_simp; all_goals (with_reducible rfl))); (try simp only [Act.put, List.setIfInBounds_toArray, List.set_cons_zero, List.set_cons_succ]))
      (refine wpAnyE_take (i := 13) (v := ?_) rfl (by kernel_rfl) (by kernel_rfl) (by kernel_rfl) (by kernel_rfl) (fun _ _ _ h => h) (Or.inl ⟨by rfl, ?_⟩) HS ?_; rotate_left 1; (focus (intro w9 hSw; (try dsimp only at hSw); go_simp; all_goals (with_reducible rfl))); (try simp only [Act.put, List.setIfInBounds_toArray, List.set_cons_zero, List.set_cons_succ]))
      (refine wpAnyE_take (i := 14) (v := ?_) rfl (by kernel_rfl) (by kernel_rfl) (by kernel_rfl) (by kernel_rfl) (fun _ _ _ h => h) (Or.inl ⟨by rfl, ?_⟩) HS ?_; rotate_left 1; (focus (intro w9 hSw; (try dsimp only at hSw); go_simp; all_goals (with_reducible rfl))); (try simp only [Act.put, List.setIfInBounds_toArray, List.set_cons_zero, List.set_cons_succ]))
      (refine wpAnyE_take (i := 15) (v := ?_) rfl (by kernel_rfl) (by kernel_rfl) (by kernel_rfl) (by kernel_rfl) (fun _ _ _ h => h) (Or.inl ⟨by rfl, ?_⟩) HS ?_; rotate_left 1; (focus (intro w9 hSw; (try dsimp only at hSw); go_simp; all_goals (with_reducible rfl))); (try simp only [Act.put, List.setIfInBounds_toArray, List.set_cons_zero, List.set_cons_succ]))
      (refine wpAnyE_take (i := 16) (v := ?_) rfl (by kernel_rfl) (by kernel_rfl) (by kernel_rfl) (by kernel_rfl) (fun _ _ _ h => h) (Or.inl ⟨by rfl, ?_⟩) HS ?_; rotate_left 1; (focus (intro w9 hSw; (try dsimp only at hSw); go_simp; all_goals (with_reducible rfl))); (try simp only [Act.put, List.setIfInBounds_toArray, List.set_cons_zero, List.set_cons_succ]))
      (refine wpAnyE_take (i := 17) (v := ?_) rfl (by kernel_rfl) (by kernel_rfl) (by kernel_rfl) (by kernel_rfl) (fun _ _ _ h => h) (Or.inl ⟨by rfl, ?_⟩) HS ?_; rotate_left 1; (focus (intro w9 hSw; (try dsimp only at hSw); go_simp; all_goals (with_reducible rfl))); (try simp only [Act.put, List.setIfInBounds_toArray, List.set_cons_zero, List.set_cons_succ]))
      (refine wpAnyE_take (i := 18) (v := ?_) rfl (by kernel_rfl) (by kernel_rfl) (by kernel_rfl) (by kernel_rfl) (fun _ _ _ h => h) (Or.inl ⟨by rfl, ?_⟩) HS ?_; rotate_left 1; (focus (intro w9 hSw; (try dsimp only at hSw); go_simp; all_goals (with_reducible rfl))); (try simp only [Act.put, List.setIfInBounds_toArray, List.set_cons_zero, List.set_cons_succ]))
      refine wpAnyE_one (i := 9) rfl (by kernel_rfl) ?_
      go_wp2_with fail
      refine (derive_to (E := E) (M := M) (HG5.out.1.keep (by repeat' (first | (with_reducible exact Below.refl _ _) | (with_reducible assumption) | (with_reducible refine Later.step ?_ ?_ _) | (with_reducible refine Below.alloc ?_ ?_ _) | (with_reducible refine Below.drew ?_) | (with_reducible refine bel_drewN ?_ _) | (with_reducible refine bel_grown ?_ (by assumption) ?_ ?_) | (with_reducible refine Below.setCell ?_ ?_ _) | go_size))) HX.out.1 HX.out.2 HE.out.1 HE.out.2).mono ?_
      rintro e w6 ⟨rfl, A6, c6, hG6, hto6⟩
      have hb6 : Below X0.w.heap.size X0.w w6 := Below.trans (by repeat' (first | (with_reducible exact Below.refl _ _) | (with_reducible assumption) | (with_reducible refine Later.step ?_ ?_ _) | (with_reducible refine Below.alloc ?_ ?_ _) | (with_reducible refine Below.drew ?_) | (with_reducible refine bel_drewN ?_ _) | (with_reducible refine bel_grown ?_ (by assumption) ?_ ?_) | (with_reducible refine Below.setCell ?_ ?_ _) | go_size)) ((hto6.elder (HG5.out.1.keep (by repeat' (first | (with_reducible exact Below.refl _ _) | (with_reducible assumption) | (with_reducible refine Later.step ?_ ?_ _) | (with_reducible refine Below.alloc ?_ ?_ _) | (with_reducible refine Below.drew ?_) | (with_reducible refine bel_drewN ?_ _) | (with_reducible refine bel_grown ?_ (by assumption) ?_ ?_) | (with_reducible refine Below.setCell ?_ ?_ _) | go_size))).tab).mono hq3)
      have hG6b := (HG5.out.2.1.keep (by repeat' (first | (with_reducible exact Below.refl _ _) | (with_reducible assumption) | (with_reducible refine Later.step ?_ ?_ _) | (with_reducible refine Below.alloc ?_ ?_ _) | (with_reducible refine Below.drew ?_) | (with_reducible refine bel_drewN ?_ _) | (with_reducible refine bel_grown ?_ (by assumption) ?_ ?_) | (with_reducible refine Below.setCell ?_ ?_ _) | go_size))).to hto6 HG5.out.2.2
      have hap6 := HG5.out.2.2.to hto6 (HG5.out.2.1.keep (by repeat' (first | (with_reducible exact Below.refl _ _) | (with_reducible assumption) | (with_reducible refine Later.step ?_ ?_ _) | (with_reducible refine Below.alloc ?_ ?_ _) | (with_reducible refine Below.drew ?_) | (with_reducible refine bel_drewN ?_ _) | (with_reducible refine bel_grown ?_ (by assumption) ?_ ?_) | (with_reducible refine Below.setCell ?_ ?_ _) | go_size))).tab
      have HG6 := Lib.hid (show GTab w6 q A6 c6 M ∧ GTab w6 q2 A5 c5 T ∧ Apart q A6 q2 A5 from ⟨hG6, hG6b, hap6⟩)
      obtain ⟨X6, rfl⟩ : ∃ Z : Later X0.w.heap.size X0.w, w6 = Z.w := ⟨⟨w6, hb6⟩, rfl⟩
      have hs6 := X6.is.size
      clear hb6 hG6 hG6b hap6 hto6
      go_wp2_with fail
      refine ⟨fun _ => HSS.out _ (by repeat' (first | (with_reducible exact Below.refl _ _) | (with_reducible assumption) | (with_reducible refine Later.step ?_ ?_ _) | (with_reducible refine Below.alloc ?_ ?_ _) | (with_reducible refine Below.drew ?_) | (with_reducible refine bel_drewN ?_ _) | (with_reducible refine bel_grown ?_ (by assumption) ?_ ?_) | (with_reducible refine Below.setCell ?_ ?_ _) | go_size)), ?_⟩
      refine wpAnyE_one (i := 19) rfl (by kernel_rfl) ?_
      go_wp2_with fail
      refine (derive_to (E := E) (M := M) (HG6.out.2.1.keep (by repeat' (first | (with_reducible exact Below.refl _ _) | (with_reducible assumption) | (with_reducible refine Later.step ?_ ?_ _) | (with_reducible refine Below.alloc ?_ ?_ _) | (with_reducible refine Below.drew ?_) | (with_reducible refine bel_drewN ?_ _) | (with_reducible refine bel_grown ?_ (by assumption) ?_ ?_) | (with_reducible refine Below.setCell ?_ ?_ _) | go_size))) HX.out.1 HX.out.2 HE.out.1 HE.out.2).mono ?_
      rintro e w7 ⟨rfl, A7, c7, hG7, hto7⟩
      have hb7 : Below X0.w.heap.size X0.w w7 := Below.trans (by repeat' (first | (with_reducible exact Below.refl _ _) | (with_reducible assumption) | (with_reducible refine Later.step ?_ ?_ _) | (with_reducible refine Below.alloc ?_ ?_ _) | (with_reducible refine Below.drew ?_) | (with_reducible refine bel_drewN ?_ _) | (with_reducible refine bel_grown ?_ (by assumption) ?_ ?_) | (with_reducible refine Below.setCell ?_ ?_ _) | go_size)) ((hto7.elder (HG6.out.2.1.keep (by repeat' (first | (with_reducible exact Below.refl _ _) | (with_reducible assumption) | (with_reducible refine Later.step ?_ ?_ _) | (with_reducible refine Below.alloc ?_ ?_ _) | (with_reducible refine Below.drew ?_) | (with_reducible refine bel_drewN ?_ _) | (with_reducible refine bel_grown ?_ (by assumption) ?_ ?_) | (with_reducible refine Below.setCell ?_ ?_ _) | go_size))).tab).mono hq52)
      have hG7a := (HG6.out.1.keep (by repeat' (first | (with_reducible exact Below.refl _ _) | (with_reducible assumption) | (with_reducible refine Later.step ?_ ?_ _) | (with_reducible refine Below.alloc ?_ ?_ _) | (with_reducible refine Below.drew ?_) | (with_reducible refine bel_drewN ?_ _) | (with_reducible refine bel_grown ?_ (by assumption) ?_ ?_) | (with_reducible refine Below.setCell ?_ ?_ _) | go_size))).to hto7 HG6.out.2.2.symm
      have hap7 := (HG6.out.2.2.symm.to hto7 (HG6.out.1.keep (by repeat' (first | (with_reducible exact Below.refl _ _) | (with_reducible assumption) | (with_reducible refine Later.step ?_ ?_ _) | (with_reducible refine Below.alloc ?_ ?_ _) | (with_reducible refine Below.drew ?_) | (with_reducible refine bel_drewN ?_ _) | (with_reducible refine bel_grown ?_ (by assumption) ?_ ?_) | (with_reducible refine Below.setCell ?_ ?_ _) | go_size))).tab).symm
      have HG7 := Lib.hid (show GTab w7 q A6 c6 M ∧ GTab w7 q2 A7 c7 M ∧ Apart q A6 q2 A7 from ⟨hG7a, hG7, hap7⟩)
      obtain ⟨X7, rfl⟩ : ∃ Z : Later X0.w.heap.size X0.w, w7 = Z.w := ⟨⟨w7, hb7⟩, rfl⟩
      have hs7 := X7.is.size
      clear hb7 hG7 hG7a hap7 hto7
      go_wp2_with fail
      refine ⟨fun _ => HSS.out _ (by repeat' (first | (with_reducible exact Below.refl _ _) | (with_reducible assumption) | (with_reducible refine Later.step ?_ ?_ _) | (with_reducible refine Below.alloc ?_ ?_ _) | (with_reducible refine Below.drew ?_) | (with_reducible refine bel_drewN ?_ _) | (with_reducible refine bel_grown ?_ (by assumption) ?_ ?_) | (with_reducible refine Below.setCell ?_ ?_ _) | go_size)), ?_⟩
      refine wpAnyE_one (i := 20) rfl (by kernel_rfl) ?_
      go_wp2_with fail
      refine ⟨fun _ => HSS.out _ (by repeat' (first | (with_reducible exact Below.refl _ _) | (with_reducible assumption) | (with_reducible refine Later.step ?_ ?_ _) | (with_reducible refine Below.alloc ?_ ?_ _) | (with_reducible refine Below.drew ?_) | (with_reducible refine bel_drewN ?_ _) | (with_reducible refine bel_grown ?_ (by assumption) ?_ ?_) | (with_reducible refine Below.setCell ?_ ?_ _) | go_size)), ?_⟩
      refine wpAnyE_one (i := 21) rfl (by kernel_rfl) ?_
      go_wp2_with fail
      refine ⟨fun _ => HSS.out _ (by repeat' (first | (with_reducible exact Below.refl _ _) | (with_reducible assumption) | (with_reducible refine Later.step ?_ ?_ _) | (with_reducible refine Below.alloc ?_ ?_ _) | (with_reducible refine Below.drew ?_) | (with_reducible refine bel_drewN ?_ _) | (with_reducible refine bel_grown ?_ (by assumption) ?_ ?_) | (with_reducible refine Below.setCell ?_ ?_ _) | go_size)), ?_⟩
      refine ⟨by kernel_rfl, ?_⟩
      go_wp2_with fail
      obtain ⟨N, hN⟩ : ∃ N, leftT M x.now = N := ⟨_, rfl⟩
      obtain ⟨r, hr⟩ : ∃ r, N.length = r := ⟨_, rfl⟩
      have hr8 : r ≤ 8 := by rw [← hr, ← hN]; exact Nat.le_trans (left_len _ _) HG7.out.1.len
      have HN := Lib.hid (And.intro hN hr)
      clear hN hr
      refine wp_region_early (fun w' => w'.cell? ⟨w.heap.size, 1, none⟩ = some (.int .u64 (x.fr : Nat)) ∧ w'.cell? ⟨w.heap.size, 2, none⟩ = some (.int .u64 (x.draw : Nat)) ∧ w'.cell? ⟨w.heap.size, 3, none⟩ = some (.int .i64 x.g.ops) ∧ w'.cell? ⟨w.heap.size, 4, none⟩ = some (.int .i64 x.g.zoom) ∧ w'.cell? ⟨w.heap.size, 5, none⟩ = some (.int .i64 x.g.a) ∧ w'.cell? ⟨w.heap.size, 6, none⟩ = some (.int .i64 x.g.b) ∧ w'.cell? ⟨w.heap.size, 7, none⟩ = some (.int .i64 x.g.c) ∧ w'.cell? ⟨w.heap.size, 8, none⟩ = some (.int .i64 x.g.d) ∧ w'.cell? ⟨w.heap.size, 9, none⟩ = some (.bool x.g.void) ∧ w'.cell? ⟨w.heap.size, 10, none⟩ = some (.int .i64 x.g.til) ∧ w'.cell? ⟨w.heap.size, 11, none⟩ = some (.int .i64 x.now)) (fun _ => true) (by kernel_rfl) (by have h9 := HSS.out X7.w.drew (by repeat' (first | (with_reducible exact Below.refl _ _) | (with_reducible assumption) | (with_reducible refine Later.step ?_ ?_ _) | (with_reducible refine Below.alloc ?_ ?_ _) | (with_reducible refine Below.drew ?_) | (with_reducible refine bel_drewN ?_ _) | (with_reducible refine bel_grown ?_ (by assumption) ?_ ?_) | (with_reducible refine Below.setCell ?_ ?_ _) | go_size)); unfold SO at h9; exact h9) (fun HS => ?_)
      (refine wpAnyE_take (i := 0) (v := ?_) rfl (by kernel_rfl) (by kernel_rfl) (by kernel_rfl) (by kernel_rfl) (fun _ _ _ h => h) (Or.inl ⟨by rfl, ?_⟩) HS ?_; rotate_left 1; (focus (intro w9 hSw; (try dsimp only at hSw); go_simp; all_goals (with_reducible rfl))); (try simp only [Act.put, List.setIfInBounds_toArray, List.set_cons_zero, List.set_cons_succ]))
      (refine wpAnyE_take (i := 1) (v := ?_) rfl (by kernel_rfl) (by kernel_rfl) (by kernel_rfl) (by kernel_rfl) (fun _ _ _ h => h) (Or.inl ⟨by rfl, ?_⟩) HS ?_; rotate_left 1; (focus (intro w9 hSw; (try dsimp only at hSw); go_simp; all_goals (with_reducible rfl))); (try simp only [Act.put, List.setIfInBounds_toArray, List.set_cons_zero, List.set_cons_succ]))
      (refine wpAnyE_take (i := 2) (v := ?_) rfl (by kernel_rfl) (by kernel_rfl) (by kernel_rfl) (by kernel_rfl) (fun _ _ _ h => h) (Or.inl ⟨by rfl, ?_⟩) HS ?_; rotate_left 1; (focus (intro w9 hSw; (try dsimp only at hSw); go_simp; all_goals (with_reducible rfl))); (try simp only [Act.put, List.setIfInBounds_toArray, List.set_cons_zero, List.set_cons_succ]))
      (refine wpAnyE_take (i := 3) (v := ?_) rfl (by kernel_rfl) (by kernel_rfl) (by kernel_rfl) (by kernel_rfl) (fun _ _ _ h => h) (Or.inl ⟨by rfl, ?_⟩) HS ?_; rotate_left 1; (focus (intro w9 hSw; (try dsimp only at hSw); go_simp; all_goals (with_reducible rfl))); (try simp only [Act.put, List.setIfInBounds_toArray, List.set_cons_zero, List.set_cons_succ]))
      (refine wpAnyE_take (i := 4) (v := ?_) rfl (by kernel_rfl) (by kernel_rfl) (by kernel_rfl) (by kernel_rfl) (fun _ _ _ h => h) (Or.inl ⟨by kernel_rfl, ?_⟩) HS ?_; rotate_left 1; (focus (intro w9 hSw; (try dsimp only at hSw); go_simp; all_goals (with_reducible rfl))); (try simp only [Act.put, List.setIfInBounds_toArray, List.set_cons_zero, List.set_cons_succ]))
      (refine wpAnyE_take (i := 5) (v := ?_) rfl (by kernel_rfl) (by kernel_rfl) (by kernel_rfl) (by kernel_rfl) (fun _ _ _ h => h) (Or.inl ⟨by kernel_rfl, ?_⟩) HS ?_; rotate_left 1; (focus (intro w9 hSw; (try dsimp only at hSw); go_simp; all_goals (with_reducible rfl))); (try simp only [Act.put, List.setIfInBounds_toArray, List.set_cons_zero, List.set_cons_succ]))
      (refine wpAnyE_take (i := 6) (v := ?_) rfl (by kernel_rfl) (by kernel_rfl) (by kernel_rfl) (by kernel_rfl) (fun _ _ _ h => h) (Or.inl ⟨by kernel_rfl, ?_⟩) HS ?_; rotate_left 1; (focus (intro w9 hSw; (try dsimp only at hSw); go_simp; all_goals (with_reducible rfl))); (try simp only [Act.put, List.setIfInBounds_toArray, List.set_cons_zero, List.set_cons_succ]))
      (refine wpAnyE_take (i := 8) (v := ?_) rfl (by kernel_rfl) (by kernel_rfl) (by kernel_rfl) (by kernel_rfl) (fun _ _ _ h => h) (Or.inl ⟨by kernel_rfl, ?_⟩) HS ?_; rotate_left 1; (focus (intro w9 hSw; (try dsimp only at hSw); go_simp; all_goals (with_reducible rfl))); (try simp only [Act.put, List.setIfInBounds_toArray, List.set_cons_zero, List.set_cons_succ]))
      (refine wpAnyE_take (i := 9) (v := ?_) rfl (by kernel_rfl) (by kernel_rfl) (by kernel_rfl) (by kernel_rfl) (fun _ _ _ h => h) (Or.inl ⟨by kernel_rfl, ?_⟩) HS ?_; rotate_left 1; (focus (intro w9 hSw; (try dsimp only at hSw); go_simp; all_goals (with_reducible rfl))); (try simp only [Act.put, List.setIfInBounds_toArray, List.set_cons_zero, List.set_cons_succ]))
      (refine wpAnyE_take (i := 10) (v := ?_) rfl (by kernel_rfl) (by kernel_rfl) (by kernel_rfl) (by kernel_rfl) (fun _ _ _ h => h) (Or.inl ⟨by kernel_rfl, ?_⟩) HS ?_; rotate_left 1; (focus (intro w9 hSw; (try dsimp only at hSw); go_simp; all_goals (with_reducible rfl))); (try simp only [Act.put, List.setIfInBounds_toArray, List.set_cons_zero, List.set_cons_succ]))
      refine wpAnyE_oneG (i := 7) rfl (by kernel_rfl) (by kernel_rfl) ?_

      go_wp2_with fail
      refine (tickets_new (M := N) (m := r) (HG7.out.1.keep (by repeat' (first | (with_reducible exact Below.refl _ _) | (with_reducible assumption) | (with_reducible refine Later.step ?_ ?_ _) | (with_reducible refine Below.alloc ?_ ?_ _) | (with_reducible refine Below.drew ?_) | (with_reducible refine bel_drewN ?_ _) | (with_reducible refine bel_grown ?_ (by assumption) ?_ ?_) | (with_reducible refine Below.setCell ?_ ?_ _) | go_size))) HN.out.1 HN.out.2).mono ?_
      rintro e w8 ⟨C8, cc8, A8, c8, rfl, hR8, hnw8, hG8, hto8⟩
      have hb8 : Below X0.w.heap.size X0.w w8 := Below.trans (by repeat' (first | (with_reducible exact Below.refl _ _) | (with_reducible assumption) | (with_reducible refine Later.step ?_ ?_ _) | (with_reducible refine Below.alloc ?_ ?_ _) | (with_reducible refine Below.drew ?_) | (with_reducible refine bel_drewN ?_ _) | (with_reducible refine bel_grown ?_ (by assumption) ?_ ?_) | (with_reducible refine Below.setCell ?_ ?_ _) | go_size)) ((hto8.elder (HG7.out.1.keep (by repeat' (first | (with_reducible exact Below.refl _ _) | (with_reducible assumption) | (with_reducible refine Later.step ?_ ?_ _) | (with_reducible refine Below.alloc ?_ ?_ _) | (with_reducible refine Below.drew ?_) | (with_reducible refine bel_drewN ?_ _) | (with_reducible refine bel_grown ?_ (by assumption) ?_ ?_) | (with_reducible refine Below.setCell ?_ ?_ _) | go_size))).tab).mono hq3)
      have hG8b := (HG7.out.2.1.keep (by repeat' (first | (with_reducible exact Below.refl _ _) | (with_reducible assumption) | (with_reducible refine Later.step ?_ ?_ _) | (with_reducible refine Below.alloc ?_ ?_ _) | (with_reducible refine Below.drew ?_) | (with_reducible refine bel_drewN ?_ _) | (with_reducible refine bel_grown ?_ (by assumption) ?_ ?_) | (with_reducible refine Below.setCell ?_ ?_ _) | go_size))).to hto8 HG7.out.2.2
      have hnw : 0 < N.length → ∀ a, C8 = some a → X7.w.heap.size ≤ a.block := fun hp a e => Nat.le_trans (by go_size) (hnw8 hp a e)
      have hR8b : Row w8 q2 A7 C8 N := ⟨hR8.1, fun hp a e => ⟨by have := hnw hp a e; have := HG7.out.2.1.tab.lt; omega, fun a' e' => by have := hnw hp a e; have := HG7.out.2.1.tab.row_lt a' e'; omega⟩⟩
      have HG8 := Lib.hid (show GTab w8 q2 A7 c7 M ∧ Row w8 q2 A7 C8 N from ⟨hG8b, hR8b⟩)
      obtain ⟨X8, rfl⟩ : ∃ Z : Later X0.w.heap.size X0.w, w8 = Z.w := ⟨⟨w8, hb8⟩, rfl⟩
      have hs8 := X8.is.size
      clear hb8 hG8 hG8b hR8 hR8b hnw hnw8 hto8
      go_wp2_with fail
      refine ⟨fun _ => HSS.out _ (by repeat' (first | (with_reducible exact Below.refl _ _) | (with_reducible assumption) | (with_reducible refine Later.step ?_ ?_ _) | (with_reducible refine Below.alloc ?_ ?_ _) | (with_reducible refine Below.drew ?_) | (with_reducible refine bel_drewN ?_ _) | (with_reducible refine bel_grown ?_ (by assumption) ?_ ?_) | (with_reducible refine Below.setCell ?_ ?_ _) | go_size)), ?_⟩
      refine wpAnyE_oneG (i := 11) rfl (by kernel_rfl) (by kernel_rfl) ?_

      go_wp2_with fail
      refine (tickets_new (M := N) (m := r) (HG8.out.1.keep (by repeat' (first | (with_reducible exact Below.refl _ _) | (with_reducible assumption) | (with_reducible refine Later.step ?_ ?_ _) | (with_reducible refine Below.alloc ?_ ?_ _) | (with_reducible refine Below.drew ?_) | (with_reducible refine bel_drewN ?_ _) | (with_reducible refine bel_grown ?_ (by assumption) ?_ ?_) | (with_reducible refine Below.setCell ?_ ?_ _) | go_size))) HN.out.1 HN.out.2).mono ?_
      rintro e w9 ⟨C9, cc9, A9, c9, rfl, hR9, hnw9, hG9, hto9⟩
      have hb9 : Below X0.w.heap.size X0.w w9 := Below.trans (by repeat' (first | (with_reducible exact Below.refl _ _) | (with_reducible assumption) | (with_reducible refine Later.step ?_ ?_ _) | (with_reducible refine Below.alloc ?_ ?_ _) | (with_reducible refine Below.drew ?_) | (with_reducible refine bel_drewN ?_ _) | (with_reducible refine bel_grown ?_ (by assumption) ?_ ?_) | (with_reducible refine Below.setCell ?_ ?_ _) | go_size)) ((hto9.elder (HG8.out.1.keep (by repeat' (first | (with_reducible exact Below.refl _ _) | (with_reducible assumption) | (with_reducible refine Later.step ?_ ?_ _) | (with_reducible refine Below.alloc ?_ ?_ _) | (with_reducible refine Below.drew ?_) | (with_reducible refine bel_drewN ?_ _) | (with_reducible refine bel_grown ?_ (by assumption) ?_ ?_) | (with_reducible refine Below.setCell ?_ ?_ _) | go_size))).tab).mono hq52)
      have HR9 := Lib.hid (show Tks w9 w9.heap.size C8 N ∧ Tks w9 w9.heap.size C9 N from ⟨((HG8.out.2.keep (by repeat' (first | (with_reducible exact Below.refl _ _) | (with_reducible assumption) | (with_reducible refine Later.step ?_ ?_ _) | (with_reducible refine Below.alloc ?_ ?_ _) | (with_reducible refine Below.drew ?_) | (with_reducible refine bel_drewN ?_ _) | (with_reducible refine bel_grown ?_ (by assumption) ?_ ?_) | (with_reducible refine Below.setCell ?_ ?_ _) | go_size))).to hto9).1, hR9.1⟩)
      obtain ⟨X9, rfl⟩ : ∃ Z : Later X0.w.heap.size X0.w, w9 = Z.w := ⟨⟨w9, hb9⟩, rfl⟩
      have hs9 := X9.is.size
      clear hb9 hG9 hR9 hnw9 hto9
      go_wp2_with fail
      refine ⟨fun _ => HSS.out _ (by repeat' (first | (with_reducible exact Below.refl _ _) | (with_reducible assumption) | (with_reducible refine Later.step ?_ ?_ _) | (with_reducible refine Below.alloc ?_ ?_ _) | (with_reducible refine Below.drew ?_) | (with_reducible refine bel_drewN ?_ _) | (with_reducible refine bel_grown ?_ (by assumption) ?_ ?_) | (with_reducible refine Below.setCell ?_ ?_ _) | go_size)), ?_⟩
      refine wpAnyE_oneG (i := 12) rfl (by kernel_rfl) (by kernel_rfl) ?_

      go_wp2_with fail
      refine (same_to (n := r) (HR9.out.1.keep (by repeat' (first | (with_reducible exact Below.refl _ _) | (with_reducible assumption) | (with_reducible refine Later.step ?_ ?_ _) | (with_reducible refine Below.alloc ?_ ?_ _) | (with_reducible refine Below.drew ?_) | (with_reducible refine bel_drewN ?_ _) | (with_reducible refine bel_grown ?_ (by assumption) ?_ ?_) | (with_reducible refine Below.setCell ?_ ?_ _) | go_size))) (HR9.out.2.keep (by repeat' (first | (with_reducible exact Below.refl _ _) | (with_reducible assumption) | (with_reducible refine Later.step ?_ ?_ _) | (with_reducible refine Below.alloc ?_ ?_ _) | (with_reducible refine Below.drew ?_) | (with_reducible refine bel_drewN ?_ _) | (with_reducible refine bel_grown ?_ (by assumption) ?_ ?_) | (with_reducible refine Below.setCell ?_ ?_ _) | go_size))) HN.out.2 hr8).mono ?_
      rintro e w10 ⟨rfl, hb10⟩
      have hb10' : Below X0.w.heap.size X0.w w10 := Below.trans (by repeat' (first | (with_reducible exact Below.refl _ _) | (with_reducible assumption) | (with_reducible refine Later.step ?_ ?_ _) | (with_reducible refine Below.alloc ?_ ?_ _) | (with_reducible refine Below.drew ?_) | (with_reducible refine bel_drewN ?_ _) | (with_reducible refine bel_grown ?_ (by assumption) ?_ ?_) | (with_reducible refine Below.setCell ?_ ?_ _) | go_size)) (hb10.mono (by go_size))
      obtain ⟨X10, rfl⟩ : ∃ Z : Later X0.w.heap.size X0.w, w10 = Z.w := ⟨⟨w10, hb10'⟩, rfl⟩
      have hs10 := X10.is.size
      clear hb10 hb10'
      go_wp2_with fail
      refine ⟨fun _ => HSS.out _ (by repeat' (first | (with_reducible exact Below.refl _ _) | (with_reducible assumption) | (with_reducible refine Later.step ?_ ?_ _) | (with_reducible refine Below.alloc ?_ ?_ _) | (with_reducible refine Below.drew ?_) | (with_reducible refine bel_drewN ?_ _) | (with_reducible refine bel_grown ?_ (by assumption) ?_ ?_) | (with_reducible refine Below.setCell ?_ ?_ _) | go_size)), ?_⟩
      refine wpAnyE_one (i := 13) rfl (by kernel_rfl) ?_
      go_wp2_with fail
      refine ⟨fun _ => HSS.out _ (by repeat' (first | (with_reducible exact Below.refl _ _) | (with_reducible assumption) | (with_reducible refine Later.step ?_ ?_ _) | (with_reducible refine Below.alloc ?_ ?_ _) | (with_reducible refine Below.drew ?_) | (with_reducible refine bel_drewN ?_ _) | (with_reducible refine bel_grown ?_ (by assumption) ?_ ?_) | (with_reducible refine Below.setCell ?_ ?_ _) | go_size)), ?_⟩
      refine wpAnyE_one (i := 14) rfl (by kernel_rfl) ?_
      go_wp2_with fail
      refine ⟨fun _ => HSS.out _ (by repeat' (first | (with_reducible exact Below.refl _ _) | (with_reducible assumption) | (with_reducible refine Later.step ?_ ?_ _) | (with_reducible refine Below.alloc ?_ ?_ _) | (with_reducible refine Below.drew ?_) | (with_reducible refine bel_drewN ?_ _) | (with_reducible refine bel_grown ?_ (by assumption) ?_ ?_) | (with_reducible refine Below.setCell ?_ ?_ _) | go_size)), ?_⟩
      refine wpAnyE_oneG (i := 15) rfl (by kernel_rfl) (by kernel_rfl) ?_

      go_wp2_with fail
      refine (PK.out _).mono ?_
      rintro e w11 ⟨rfl, hb11⟩
      have hb11' : Below X0.w.heap.size X0.w w11 := Below.trans (by repeat' (first | (with_reducible exact Below.refl _ _) | (with_reducible assumption) | (with_reducible refine Later.step ?_ ?_ _) | (with_reducible refine Below.alloc ?_ ?_ _) | (with_reducible refine Below.drew ?_) | (with_reducible refine bel_drewN ?_ _) | (with_reducible refine bel_grown ?_ (by assumption) ?_ ?_) | (with_reducible refine Below.setCell ?_ ?_ _) | go_size)) (hb11.mono (by go_size))
      obtain ⟨X11, rfl⟩ : ∃ Z : Later X0.w.heap.size X0.w, w11 = Z.w := ⟨⟨w11, hb11'⟩, rfl⟩
      have hs11 := X11.is.size
      clear hb11 hb11'
      go_wp2_with fail
      refine ⟨fun _ => HSS.out _ (by repeat' (first | (with_reducible exact Below.refl _ _) | (with_reducible assumption) | (with_reducible refine Later.step ?_ ?_ _) | (with_reducible refine Below.alloc ?_ ?_ _) | (with_reducible refine Below.drew ?_) | (with_reducible refine bel_drewN ?_ _) | (with_reducible refine bel_grown ?_ (by assumption) ?_ ?_) | (with_reducible refine Below.setCell ?_ ?_ _) | go_size)), ?_⟩
      refine wpAnyE_one (i := 16) rfl (by kernel_rfl) ?_
      go_wp2_with fail
      refine ⟨fun _ => HSS.out _ (by repeat' (first | (with_reducible exact Below.refl _ _) | (with_reducible assumption) | (with_reducible refine Later.step ?_ ?_ _) | (with_reducible refine Below.alloc ?_ ?_ _) | (with_reducible refine Below.drew ?_) | (with_reducible refine bel_drewN ?_ _) | (with_reducible refine bel_grown ?_ (by assumption) ?_ ?_) | (with_reducible refine Below.setCell ?_ ?_ _) | go_size)), ?_⟩
      refine wpAnyE_one (i := 17) rfl (by kernel_rfl) ?_
      go_wp2_with fail
      refine ⟨fun _ => HSS.out _ (by repeat' (first | (with_reducible exact Below.refl _ _) | (with_reducible assumption) | (with_reducible refine Later.step ?_ ?_ _) | (with_reducible refine Below.alloc ?_ ?_ _) | (with_reducible refine Below.drew ?_) | (with_reducible refine bel_drewN ?_ _) | (with_reducible refine bel_grown ?_ (by assumption) ?_ ?_) | (with_reducible refine Below.setCell ?_ ?_ _) | go_size)), ?_⟩
      refine ⟨by kernel_rfl, ?_⟩
      go_wp2_with fail
      go_ret
      exact ⟨rfl, X0.is.trans (X11.is.mono (by omega))⟩
end Go.Proofs.Ytjfgjlklbepnjaa
