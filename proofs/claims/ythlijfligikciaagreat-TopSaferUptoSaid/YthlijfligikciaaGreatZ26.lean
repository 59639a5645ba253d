/- Several texts of one proof, joined: world of rules that may be and one record: walked. No condition beyond what the rules read as and how many boxes there are. | What is seen: rows of it, two rows compared (the document's Same); a grant for all: walked. No condition beyond what the rows read as. | The arithmetic of cells: plain laws. No condition. | What is seen by rules of which no zoom goes up: plain law. No condition. -/
import Derived.Test.YthlijfligikciaaGreatZ19
import Derived.Test.YthlijfligikciaaGreatZ25
import Derived.Test.YthlijfligikciaaGreatZ13
import Derived.Test.YthlijfligikciaaGreatZ11
import Derived.Test.YthlijfligikciaaGreatZ22
/- world of rules that may be and one record: walked. No condition beyond what the rules read as and how many boxes there are. -/
namespace Go.Proofs.YthlijfligikciaaGreat
open Go.RowKit Go.Maps
set_option linter.unusedSimpArgs false
set_option linter.unusedVariables false
set_option maxRecDepth 2000

/-- What world leaves, with one record. -/
def WrecPost (L : List Rl) (id x y label : Int) (w : World) (e : Ending) (w' : World) : Prop :=
  Below w.heap.size w w' ∧ ∃ q qc lo qt bt s C cc D cd bd, e = .returned (.tuple #[.agg #[.pointer (some ⟨q, 0, none⟩), .pointer (some ⟨qc, 0, none⟩), .pointer (some ⟨qt, 0, none⟩)], .bool true]) ∧ Tb w' lo qt bt 0 L ∧ Pt1 w' s q C cc 1 (.slice D 1 cd) ∧ w'.ownsRow bd 32 4 (.slice D 1 cd) 1 [.int .i64 id, .int .i64 x, .int .i64 y, .int .i64 label] ∧ M1 w' s 1 (fun k => if k = id then some (.agg #[.int .i64 id, .int .i64 x, .int .i64 y, .int .i64 label]) else none) ∧ (q ≠ bt ∧ s ≠ bt ∧ (∀ k, gP C k → k ≠ bt) ∧ ∀ k, gP D k → k ≠ bt) ∧ w.heap.size ≤ bt
set_option maxHeartbeats 16000000 in
theorem world_rec (n c cr rb : Nat) (A : Option Addr) (L : List Rl) (P : Nat → Option Addr × Nat) (id x y label : Int) (w : World) (h : Rls w w.heap.size A L P) (hn : L.length = n) (hn1 : n ≤ 1000000) (hcnt : cntB L ≤ 1048576) (hPn : ∀ i, i < n → (P i).1 = none → (L.getD i rl0).boxes.length = 0) (h32 : L.length ≤ 32) (hall : L.all rightR = true) (r0 : w.cell? ⟨rb, 0, none⟩ = some (.int .i64 id)) (r1 : w.cell? ⟨rb, 1, none⟩ = some (.int .i64 x)) (r2 : w.cell? ⟨rb, 2, none⟩ = some (.int .i64 y)) (r3 : w.cell? ⟨rb, 3, none⟩ = some (.int .i64 label)) (hid : wf64 id) (hf : fitsB x y = true) :
    Calls Tryz.prog 6 #[.slice A n c, .slice (some ⟨rb, 0, none⟩) 1 cr, .slice none 0 0] w (WrecPost L id x y label w) := by
  have hrl : rb < w.heap.size := cell_lt r0
  have PG := Lib.hid (fun (Y : World) (hY : Below w.heap.size w Y) => gnew_any n c A L P Y ((h.keep hY).more hY.size) hn hn1 hcnt hPn)
  have PT := Lib.hid (fun (Y : World) => ptNew_any Y)
  have PC := Lib.hid (fun (Y : World) => cifNew_any Y)
  have PI := Lib.hid (fun (s q cc : Nat) (C : Option Addr) (Y : World) (hp : Pt1 Y s q C cc 0 (.slice none 0 0)) (hm : M1 Y s 0 (fun _ => none)) => pinsert_first s q cc C id x y label Y hp hm hid hf)
  have HL := Lib.hid (And.intro h32 hall)
  generalize hW : WrecPost L id x y label w = Post
  clear h hn hn1 hcnt hPn h32 hall hf
  go_enter Tryz.func6, Tryz.ntmps6
  go_wp2_with fail
  go_at_call 18
  refine (PT.out _).mono ?_
  rintro e w' ⟨C, cc, rfl, hpt, hmap, hb⟩
  obtain ⟨X1, rfl, hl1, hm1⟩ := later _ hb (Nat.le_refl _)
  simp only [World.size_alloc] at hpt hmap
  have hM1 := m1_of hmap
  have HP := Lib.hid (And.intro hpt hM1)
  have hqs := hpt.lt
  have hfarC := Lib.hid hpt.far
  clear hpt hmap hb hM1
  have hz1 : w.heap.size + 1 ≤ X1.w.heap.size := Nat.le_trans (by simp) hl1
  go_wp2_with fail
  go_at_call 19
  refine (PG.out _ (by repeat' (first | (with_reducible exact Below.refl _ _) | (with_reducible assumption) | (with_reducible refine Later.step ?_ ?_ _) | (with_reducible refine Below.alloc ?_ ?_ _) | (with_reducible refine Below.drew ?_) | (with_reducible refine bel_drewN ?_ _) | (with_reducible refine bel_grown ?_ (by assumption) ?_ ?_) | (with_reducible refine Below.setCell ?_ ?_ _) | go_size))).mono ?_
  rintro e w' ⟨hb, hor⟩
  rcases hor with ⟨h32, hall, qt, bt, rfl, hT⟩ | ⟨hnot, f, hf, rfl⟩
  · have hP2 := HP.out.1.keep hb
    have hm2 := HP.out.2.same (hb.block _ HP.out.2.lt)
    have HT := Lib.hid (And.intro hT (And.intro hP2 hm2))
    have hlob := hT.lb
    obtain ⟨X2, rfl, hl2, hm2'⟩ := later _ hb (Nat.le_refl _)
    clear h32 hall hT hP2 hm2 hb
    go_wp2_with fail
    go_at_call 20
    refine (PC.out _).mono ?_
    rintro e w' ⟨⟨qc, rfl, hqc⟩, hb⟩
    have HT3 := Lib.hid (show Tb w' X1.w.heap.size qt bt 0 L ∧ Pt1 w' (w.heap.size + 1) (w.heap.size + 1 + 1) C cc 0 (.slice none 0 0) ∧ M1 w' (w.heap.size + 1) 0 (fun _ => none) from ⟨HT.out.1.keep hb, HT.out.2.1.keep hb, HT.out.2.2.same (hb.block _ HT.out.2.2.lt)⟩)
    have hbt3 : bt < w'.heap.size := HT3.out.1.ltb
    obtain ⟨X3, rfl, hl3, hm3⟩ := later _ hb (Nat.le_refl _)
    clear hb HT
    have hw3 : Below w.heap.size w X3.w := by repeat' (first | (with_reducible exact Below.refl _ _) | (with_reducible assumption) | (with_reducible refine Later.step ?_ ?_ _) | (with_reducible refine Below.alloc ?_ ?_ _) | (with_reducible refine Below.drew ?_) | (with_reducible refine bel_drewN ?_ _) | (with_reducible refine bel_grown ?_ (by assumption) ?_ ?_) | (with_reducible refine Below.setCell ?_ ?_ _) | go_size)
    have hs3 := hw3.size
    have HW3 := Lib.hid hw3
    have z0 : X3.w.cell? ⟨rb, 0, none⟩ = some (.int .i64 id) := (hw3.cell (p := ⟨rb, 0, none⟩) hrl).trans r0
    have z1 : X3.w.cell? ⟨rb, 1, none⟩ = some (.int .i64 x) := (hw3.cell (p := ⟨rb, 1, none⟩) hrl).trans r1
    have z2 : X3.w.cell? ⟨rb, 2, none⟩ = some (.int .i64 y) := (hw3.cell (p := ⟨rb, 2, none⟩) hrl).trans r2
    have z3 : X3.w.cell? ⟨rb, 3, none⟩ = some (.int .i64 label) := (hw3.cell (p := ⟨rb, 3, none⟩) hrl).trans r3
    have hCl : ∀ k, gP C k → w.heap.size + 1 + 1 < k ∧ k < X1.w.heap.size := hfarC.out
    have HCl := Lib.hid hCl
    have hr0 : ∀ i, X3.w.cell? ⟨w.heap.size, i, none⟩ = (w.alloc (.cells #[.pointer none, .pointer none, .pointer none] 38)).cell? ⟨w.heap.size, i, none⟩ := fun i => by go_simp
    have y0 : X3.w.cell? ⟨w.heap.size, 0, none⟩ = some (.pointer none) := by go_simp
    have y1 : X3.w.cell? ⟨w.heap.size, 1, none⟩ = some (.pointer none) := by go_simp
    have y2 : X3.w.cell? ⟨w.heap.size, 2, none⟩ = some (.pointer none) := by go_simp
    have u0 : X3.w.frozen? ⟨w.heap.size, 0, none⟩ = false := by go_simp
    have u1 : X3.w.frozen? ⟨w.heap.size, 1, none⟩ = false := by go_simp
    have u2 : X3.w.frozen? ⟨w.heap.size, 2, none⟩ = false := by go_simp
    clear hw3 hCl hr0
    go_wp2_with fail
    go_loopw [13] (fun i wr => ∃ n : Nat, n ≤ 1 ∧ i = .int .i64 n ∧ Hid ((n = 0 → wr = X3.w) ∧ (n = 1 → ∃ D cd, Tb wr X1.w.heap.size qt bt 0 L ∧ Pt1 wr (w.heap.size + 1) (w.heap.size + 1 + 1) C cc 1 (.slice D 1 cd) ∧ wr.ownsRow X3.w.heap.size 32 4 (.slice D 1 cd) 1 [.int .i64 id, .int .i64 x, .int .i64 y, .int .i64 label] ∧ M1 wr (w.heap.size + 1) 1 (fun k => if k = id then some (.agg #[.int .i64 id, .int .i64 x, .int .i64 y, .int .i64 label]) else none) ∧ Chg (fun j => j = w.heap.size + 1 ∨ gP C j) X3.w wr))) (fun i _ => 1 - (intOf i).toNat)
    case atStart => exact ⟨0, by decide, rfl, ⟨fun _ => rfl, fun e => by cases e⟩⟩
    case round =>
      obtain ⟨n, hn, rfl, hrel⟩ := hrel
      match n, hn with
      | 0, _ =>
        obtain rfl := hrel.out.1 rfl
        clear hrel hn
        go_wp2_with fail
        go_at_call 21
        refine (PI.out _ _ cc C _ HT3.out.2.1 HT3.out.2.2).mono ?_
        rintro e w5 ⟨rfl, D, cd, hp5, hr5, hm5, hc5⟩
        have hs5 := hc5.size
        have HE := Lib.hid (show ∃ D cd, Tb w5 X1.w.heap.size qt bt 0 L ∧ Pt1 w5 (w.heap.size + 1) (w.heap.size + 1 + 1) C cc 1 (.slice D 1 cd) ∧ w5.ownsRow X3.w.heap.size 32 4 (.slice D 1 cd) 1 [.int .i64 id, .int .i64 x, .int .i64 y, .int .i64 label] ∧ M1 w5 (w.heap.size + 1) 1 (fun k => if k = id then some (.agg #[.int .i64 id, .int .i64 x, .int .i64 y, .int .i64 label]) else none) ∧ Chg (fun j => j = w.heap.size + 1 ∨ gP C j) X3.w w5 from ⟨D, cd, HT3.out.1.agree (fun j h1 h2 => hc5.block j h2 (fun e => e.elim (fun e => by omega) (fun e => by have := HCl.out j e; omega))) hc5.size, hp5, hr5, hm5, hc5⟩)
        clear hp5 hr5 hm5 hc5
        go_wp2_with fail
        go_roundw
        case rel => exact ⟨1, by decide, by go_num, ⟨fun e => (by cases e), fun _ => HE.out⟩⟩
        case measure => show 1 - 1 < 1 - 0; decide
      | 1, _ =>
        obtain ⟨D, cd, hT5, hp5, hr5, hm5, hc5⟩ := hrel.out.2 rfl
        have hs5 := hc5.size
        have hnr : ¬ (w.heap.size = w.heap.size + 1 ∨ gP C w.heap.size) := fun e => e.elim (fun e => by omega) (fun e => by have := HCl.out _ e; omega)
        have q0 : wr.cell? ⟨w.heap.size, 0, none⟩ = some (.pointer none) := (hc5.cell (p := ⟨w.heap.size, 0, none⟩) (by show w.heap.size < _; omega) hnr).trans y0
        have q1 : wr.cell? ⟨w.heap.size, 1, none⟩ = some (.pointer none) := (hc5.cell (p := ⟨w.heap.size, 1, none⟩) (by show w.heap.size < _; omega) hnr).trans y1
        have q2 : wr.cell? ⟨w.heap.size, 2, none⟩ = some (.pointer none) := (hc5.cell (p := ⟨w.heap.size, 2, none⟩) (by show w.heap.size < _; omega) hnr).trans y2
        have p0 : wr.frozen? ⟨w.heap.size, 0, none⟩ = false := (hc5.frozen (p := ⟨w.heap.size, 0, none⟩) (by show w.heap.size < _; omega) hnr).trans u0
        have p1 : wr.frozen? ⟨w.heap.size, 1, none⟩ = false := (hc5.frozen (p := ⟨w.heap.size, 1, none⟩) (by show w.heap.size < _; omega) hnr).trans u1
        have p2 : wr.frozen? ⟨w.heap.size, 2, none⟩ = false := (hc5.frozen (p := ⟨w.heap.size, 2, none⟩) (by show w.heap.size < _; omega) hnr).trans u2
        have HE := Lib.hid (And.intro hT5 (And.intro hp5 (And.intro hr5 (And.intro hm5 hc5))))
        clear hrel hT5 hp5 hr5 hm5 hc5 hnr y0 y1 y2 u0 u1 u2
        go_wp2_with fail
        go_loopw [14] (fun i w2 => i = .int .i64 0 ∧ w2 = wr) (fun _ _ => 0)
        case atStart => exact ⟨rfl, rfl⟩
        case round =>
          obtain ⟨rfl, rfl⟩ := hrel
          have hcV : Chg (fun j => j = w.heap.size) wr (((wr.setCell ⟨w.heap.size, 0, none⟩ (.pointer (some ⟨w.heap.size + 1 + 1, 0, none⟩))).setCell ⟨w.heap.size, 1, none⟩ (.pointer (some ⟨qc, 0, none⟩))).setCell ⟨w.heap.size, 2, none⟩ (.pointer (some ⟨qt, 0, none⟩))) := (((Chg.refl (X := fun j => j = w.heap.size)).set (p := ⟨w.heap.size, 0, none⟩) (.inl rfl) _).set (p := ⟨w.heap.size, 1, none⟩) (.inl rfl) _).set (p := ⟨w.heap.size, 2, none⟩) (.inl rfl) _
          have hrf := HE.out.2.2.1.lt
          have HV := Lib.hid (show Post (.returned (.tuple #[.agg #[.pointer (some ⟨w.heap.size + 1 + 1, 0, none⟩), .pointer (some ⟨qc, 0, none⟩), .pointer (some ⟨qt, 0, none⟩)], .bool true])) (((wr.setCell ⟨w.heap.size, 0, none⟩ (.pointer (some ⟨w.heap.size + 1 + 1, 0, none⟩))).setCell ⟨w.heap.size, 1, none⟩ (.pointer (some ⟨qc, 0, none⟩))).setCell ⟨w.heap.size, 2, none⟩ (.pointer (some ⟨qt, 0, none⟩))) by
            rw [← hW]
            refine ⟨HW3.out.trans ((HE.out.2.2.2.2.below (B := w.heap.size) (fun k hk => hk.elim (fun e => by omega) (fun e => by have := HCl.out k e; omega)) hs3).trans (hcV.below (B := w.heap.size) (fun k hk => by have e' : k = w.heap.size := hk; omega) (by omega))), w.heap.size + 1 + 1, qc, X1.w.heap.size, qt, bt, w.heap.size + 1, C, cc, D, cd, X3.w.heap.size, rfl, ?_, ?_, ?_, ?_, ?_, by omega⟩
            · exact HE.out.1.agree (fun j h1 h2 => hcV.block j h2 (fun e => by have e' : j = w.heap.size := e; omega)) hcV.size
            · exact HE.out.2.1.chg hcV (by show ¬ (w.heap.size + 1 + 1 = w.heap.size); omega) (fun k hk e => by have e' : k = w.heap.size := e; have := HCl.out k hk; omega)
            · exact own_chg HE.out.2.2.1 hcV (fun k hk e => by have e' : k = w.heap.size := e; have := hrf k hk; omega)
            · exact HE.out.2.2.2.1.chg hcV (by show ¬ (w.heap.size + 1 = w.heap.size); omega)
            · exact ⟨by omega, by omega, fun k hk => by have := HCl.out k hk; omega, fun k hk => by have := hrf k (by rw [gOf_own]; exact hk); omega⟩)
          clear hcV hrf
          go_wp2_with fail
          refine bodyPost_ret (by simp only [results, Tryz.results6]; go_simp; all_goals (first | rfl | simp [sel])) rfl HV.out
  · exact absurd ⟨HL.out.1, HL.out.2⟩ hnot
end Go.Proofs.YthlijfligikciaaGreat

/- What is seen: rows of it, two rows compared (the document's Same); a grant for all: walked. No condition beyond what the rows read as. -/
namespace Go.Proofs.YthlijfligikciaaGreat
open Go.RowKit Go.Maps
set_option linter.unusedSimpArgs false
set_option linter.unusedVariables false
set_option maxRecDepth 4000

/-- Something that is seen. -/
structure Sn where
  id : Int
  lv : Int
  a : Int
  b : Int
  c : Int
  d : Int
def sn0 : Sn := ⟨0, 0, 0, 0, 0, 0⟩
def eqN (x y : Sn) : Bool := decide (x.id = y.id ∧ x.lv = y.lv ∧ x.a = y.a ∧ x.b = y.b ∧ x.c = y.c ∧ x.d = y.d)
theorem eqN_iff {x y : Sn} : eqN x y = true ↔ x = y := by
  unfold eqN
  rw [decide_eq_true_eq]
  constructor
  · rintro ⟨a, b, c, d⟩; cases x; cases y; simp_all
  · rintro rfl; simp
instance : DecidableEq Sn := fun a b => decidable_of_iff (eqN a b = true) eqN_iff
/-- A row of what is seen. -/
def Sns (w : World) (B : Nat) (A : Option Addr) (L : List Sn) : Prop := 0 < L.length → ∃ b o, A = some ⟨b, o, none⟩ ∧ b < B ∧ ∀ i, i < L.length →
  w.cell? ⟨b, o + i * 6, none⟩ = some (.int .i64 (L.getD i sn0).id) ∧ w.cell? ⟨b, o + i * 6 + 1, none⟩ = some (.int .i64 (L.getD i sn0).lv) ∧ w.cell? ⟨b, o + i * 6 + 2, none⟩ = some (.int .i64 (L.getD i sn0).a) ∧ w.cell? ⟨b, o + i * 6 + 3, none⟩ = some (.int .i64 (L.getD i sn0).b) ∧ w.cell? ⟨b, o + i * 6 + 4, none⟩ = some (.int .i64 (L.getD i sn0).c) ∧ w.cell? ⟨b, o + i * 6 + 5, none⟩ = some (.int .i64 (L.getD i sn0).d)
theorem Sns.keep {w w' : World} {B : Nat} {A : Option Addr} {L : List Sn} (h : Sns w B A L) (hb : Below B w w') : Sns w' B A L := fun hn => by
  obtain ⟨b, o, rfl, hlt, hc⟩ := h hn
  have e : ∀ j, w'.cell? ⟨b, j, none⟩ = w.cell? ⟨b, j, none⟩ := fun j => hb.cell (p := ⟨b, j, none⟩) hlt
  refine ⟨b, o, rfl, hlt, fun i hi => ?_⟩
  obtain ⟨h0, h1, h2, h3, h4, h5⟩ := hc i hi
  exact ⟨(e _).trans h0, (e _).trans h1, (e _).trans h2, (e _).trans h3, (e _).trans h4, (e _).trans h5⟩
theorem Sns.more {w : World} {B B' : Nat} {A : Option Addr} {L : List Sn} (h : Sns w B A L) (hb : B ≤ B') : Sns w B' A L := fun hn => by
  obtain ⟨b, o, rfl, hlt, hc⟩ := h hn
  exact ⟨b, o, rfl, Nat.lt_of_lt_of_le hlt hb, hc⟩
theorem sns_at {w : World} {B i : Nat} {A : Option Addr} {L : List Sn} (h : Sns w B A L) (hi : i < L.length) : ∃ b o, A = some ⟨b, o, none⟩ ∧ b < B ∧
  w.cell? ⟨b, o + i * 6, none⟩ = some (.int .i64 (L.getD i sn0).id) ∧ w.cell? ⟨b, o + i * 6 + 1, none⟩ = some (.int .i64 (L.getD i sn0).lv) ∧ w.cell? ⟨b, o + i * 6 + 2, none⟩ = some (.int .i64 (L.getD i sn0).a) ∧ w.cell? ⟨b, o + i * 6 + 3, none⟩ = some (.int .i64 (L.getD i sn0).b) ∧ w.cell? ⟨b, o + i * 6 + 4, none⟩ = some (.int .i64 (L.getD i sn0).c) ∧ w.cell? ⟨b, o + i * 6 + 5, none⟩ = some (.int .i64 (L.getD i sn0).d) := by
  obtain ⟨b, o, e, hlt, hc⟩ := h (by omega)
  exact ⟨b, o, e, hlt, hc i hi⟩
theorem getN_lt {L : List Sn} {i : Nat} (h : i < L.length) : L.getD i sn0 = L[i] := by simp [List.getD, List.getElem?_eq_getElem h]
theorem eqIn_seen (x y : Sn) (w : World) : (Op.equalIn 10000 48 (.agg #[.int .i64 x.id, .int .i64 x.lv, .int .i64 x.a, .int .i64 x.b, .int .i64 x.c, .int .i64 x.d]) (.agg #[.int .i64 y.id, .int .i64 y.lv, .int .i64 y.a, .int .i64 y.b, .int .i64 y.c, .int .i64 y.d])).run Tryz.prog w = .ok (eqN x y) w := by
  have hS : Tryz.prog.underlying 48 = some (.struct (Tryz.prog.fieldsOf 48)) := by kernel_rfl
  have hp : Tryz.prog.stoodInHeld 48 = false := by kernel_rfl
  obtain ⟨id, lv, a, b, c, d⟩ := x
  obtain ⟨id', lv', a', b', c', d'⟩ := y
  rw [show (10000 : Nat) = 9999 + 1 from rfl, run_equalIn_agg w 9999 48 _ _ hS hp]
  unfold eqN
  simp only [Program.fieldsOf, Tryz.underlying48]
  clear hS hp
  go_simp
  repeat' split
  all_goals simp_all
theorem neq_seen (x y : Sn) (w : World) : (binOp .neq 48 (.agg #[.int .i64 x.id, .int .i64 x.lv, .int .i64 x.a, .int .i64 x.b, .int .i64 x.c, .int .i64 x.d]) (.agg #[.int .i64 y.id, .int .i64 y.lv, .int .i64 y.a, .int .i64 y.b, .int .i64 y.c, .int .i64 y.d])).run Tryz.prog w = .ok (.bool (!eqN x y)) w := by
  rw [run_neq_struct, eqIn_seen]
  rfl
set_option maxHeartbeats 8000000 in
theorem same_any (n1 n2 c1 c2 : Nat) (C1 C2 : Option Addr) (L M : List Sn) (w : World) (h1 : Sns w w.heap.size C1 L) (h2 : Sns w w.heap.size C2 M) (hn1 : L.length = n1) (hn2 : M.length = n2) (hb : n1 ≤ 1000000000) :
    Calls Tryz.prog 15 #[.slice C1 n1 c1, .slice C2 n2 c2] w fun e w' => e = .returned (.bool (decide (L = M))) ∧ Below w.heap.size w w' := by
  by_cases hne : n1 = n2
  · subst hne
    have HA := Lib.hid h1
    have HB := Lib.hid h2
    have HN := Lib.hid (show L.length = n1 ∧ M.length = n1 from ⟨hn1, hn2⟩)
    clear h1 h2 hn1 hn2
    obtain ⟨R, hR⟩ : ∃ R, decide (L = M) = R := ⟨_, rfl⟩
    have HR := Lib.hid hR
    rw [hR]
    clear hR
    go_enter Tryz.func15, Tryz.ntmps15
    go_wp2
    go_loopw [5] (fun i wr => ∃ k : Nat, (k ≤ n1 ∧ Hid (∀ j, j < k → L.getD j sn0 = M.getD j sn0)) ∧ i = .int .i64 k ∧ Below w.heap.size w wr) (fun i _ => n1 - (intOf i).toNat)
    case atStart => exact ⟨0, ⟨Nat.zero_le _, fun j hj => absurd hj (by omega)⟩, rfl, by repeat' (first | (with_reducible exact Below.refl _ _) | (with_reducible assumption) | (with_reducible refine Later.step ?_ ?_ _) | (with_reducible refine Below.alloc ?_ ?_ _) | (with_reducible refine Below.drew ?_) | (with_reducible refine Below.setCell ?_ ?_ _) | go_size)⟩
    case round =>
      obtain ⟨k, ⟨hk, hall⟩, rfl, hb⟩ := hrel
      obtain ⟨X, rfl⟩ : ∃ X : Later w.heap.size w, wr = X.w := ⟨⟨wr, hb⟩, rfl⟩
      by_cases hlt : k < n1
      · obtain ⟨b, o, hA, hB, c0, c1', c2', c3, c4, c5⟩ := sns_at (HA.out.keep hb) (show k < L.length by rw [HN.out.1]; exact hlt)
        obtain ⟨b', o', hA', hB', d0, d1, d2, d3, d4, d5⟩ := sns_at (HB.out.keep hb) (show k < M.length by rw [HN.out.2]; exact hlt)
        subst hA hA'
        clear hb
        obtain ⟨x, hx⟩ : ∃ x, L.getD k sn0 = x := ⟨_, rfl⟩
        obtain ⟨y, hy⟩ : ∃ y, M.getD k sn0 = y := ⟨_, rfl⟩
        have hno : x ≠ y → R = false := fun he => by
          rw [← HR.out, decide_eq_false_iff_not]
          rintro rfl
          exact he (by rw [← hx, ← hy])
        have hnx : x = y → ∀ j, j < k + 1 → L.getD j sn0 = M.getD j sn0 := fun he j hj => by
          rcases Nat.lt_or_eq_of_le (Nat.le_of_lt_succ hj) with h | rfl
          · exact hall.out j h
          · rw [hx, hy, he]
        rw [hx] at c0 c1' c2' c3 c4 c5
        rw [hy] at d0 d1 d2 d3 d4 d5
        have heq := eqN_iff (x := x) (y := y)
        have HQ := neq_seen x y
        obtain ⟨d, hd⟩ : ∃ d, eqN x y = d := ⟨_, rfl⟩
        rw [hd] at heq HQ
        cases d with
        | true =>
          have HNX := Lib.hid (hnx (heq.1 rfl))
          clear hno hnx hx hy heq hd
          go_wp2
          go_quiet (fail)
          go_wp2
          go_roundw
          case rel => exact ⟨k + 1, ⟨by omega, HNX.out⟩, by go_num, by repeat' (first | (with_reducible exact Below.refl _ _) | (with_reducible assumption) | (with_reducible refine Later.step ?_ ?_ _) | (with_reducible refine Below.alloc ?_ ?_ _) | (with_reducible refine Below.drew ?_) | (with_reducible refine bel_drewN ?_ _) | (with_reducible refine bel_grown ?_ (by assumption) ?_ ?_) | (with_reducible refine Below.setCell ?_ ?_ _) | go_size)⟩
          case measure => simp [intOf]; omega
        | false =>
          obtain rfl : R = false := hno (fun he => by have := heq.2 he; cases this)
          clear hno hnx hx hy heq hd
          go_wp2
          go_quiet (fail)
          go_wp2
          go_ret
          exact ⟨rfl, by repeat' (first | (with_reducible exact Below.refl _ _) | (with_reducible assumption) | (with_reducible refine Later.step ?_ ?_ _) | (with_reducible refine Below.alloc ?_ ?_ _) | (with_reducible refine Below.drew ?_) | (with_reducible refine bel_drewN ?_ _) | (with_reducible refine bel_grown ?_ (by assumption) ?_ ?_) | (with_reducible refine Below.setCell ?_ ?_ _) | go_size)⟩
      · obtain rfl : k = n1 := by omega
        obtain rfl : R = true := by
          rw [← HR.out, decide_eq_true_eq]
          refine List.ext_getElem (by rw [HN.out.1, HN.out.2]) fun i hi1 hi2 => ?_
          have := hall.out i (by rw [← HN.out.1]; exact hi1)
          rwa [getN_lt hi1, getN_lt hi2] at this
        clear hb
        go_wp2
        go_ret
        exact ⟨rfl, by repeat' (first | (with_reducible exact Below.refl _ _) | (with_reducible assumption) | (with_reducible refine Later.step ?_ ?_ _) | (with_reducible refine Below.alloc ?_ ?_ _) | (with_reducible refine Below.drew ?_) | (with_reducible refine bel_drewN ?_ _) | (with_reducible refine bel_grown ?_ (by assumption) ?_ ?_) | (with_reducible refine Below.setCell ?_ ?_ _) | go_size)⟩
  · have hR : decide (L = M) = false := by
      rw [decide_eq_false_iff_not]
      rintro rfl
      exact hne (hn1.symm.trans hn2)
    rw [hR]
    have hne' : ((n1 : Int) == (n2 : Int)) = false := by rw [beq_eq_false_iff_ne]; omega
    clear h1 h2 hn1 hn2 hR hne
    go_enter Tryz.func15, Tryz.ntmps15
    go_wp2
    go_ret
    exact ⟨rfl, by repeat' (first | (with_reducible exact Below.refl _ _) | (with_reducible assumption) | (with_reducible refine Later.step ?_ ?_ _) | (with_reducible refine Below.alloc ?_ ?_ _) | (with_reducible refine Below.drew ?_) | (with_reducible refine Below.setCell ?_ ?_ _) | go_size)⟩
/-- A grant for all. -/
def wideG : Gr := ⟨31, 16, 0, 0, 65535, 65535, false, 9⟩
theorem wide_any (w : World) : Calls Tryz.prog 17 #[] w fun e w' => e = .returned (.agg #[.int .i64 wideG.ops, .int .i64 wideG.zoom, .int .i64 wideG.a, .int .i64 wideG.b, .int .i64 wideG.c, .int .i64 wideG.d, .bool wideG.void, .int .i64 wideG.til]) ∧ Below w.heap.size w w' := by
  unfold wideG
  go_enter Tryz.func17, Tryz.ntmps17
  go_wp2
  refine bodyPost_ret (by simp only [results, Tryz.results17]; go_simp; all_goals (first | rfl | simp [sel])) rfl ⟨rfl, by repeat' (first | (with_reducible exact Below.refl _ _) | (with_reducible assumption) | (with_reducible refine Later.step ?_ ?_ _) | (with_reducible refine Below.alloc ?_ ?_ _) | (with_reducible refine Below.drew ?_) | (with_reducible refine Below.setCell ?_ ?_ _) | go_size)⟩
end Go.Proofs.YthlijfligikciaaGreat

/- The arithmetic of cells: plain laws. No condition. -/
namespace Go.Proofs.YthlijfligikciaaGreat
set_option linter.unusedSimpArgs false
set_option linter.unusedVariables false

theorem sd_mul {l m : Int} (h0 : 0 ≤ m) (h1 : m ≤ l) (h2 : l ≤ 16) : sd m = sd l * pw (l - m) := by
  unfold sd pw
  rw [← Int.pow_add, show (16 - l).toNat + (l - m).toNat = (16 - m).toNat by omega]
theorem pw_mul {l m : Int} (h0 : 0 ≤ m) (h1 : m ≤ l) : pw l = pw m * pw (l - m) := by
  unfold pw
  rw [← Int.pow_add, show m.toNat + (l - m).toNat = l.toNat by omega]
theorem div_div' {n s q : Int} (hs : 0 < s) : n / (s * q) = n / s / q := (Int.ediv_ediv_of_nonneg (Int.le_of_lt hs)).symm
/-- A number of a cell, divided by the side, is the cell's. -/
theorem div_in {x s r : Int} (hs : 0 < s) (h0 : 0 ≤ r) (h1 : r < s) : (x * s + r) / s = x := (div_iff hs).1 ⟨by omega, by omega⟩
theorem div_of {x s : Int} (hs : 0 < s) : x * s / s = x := by have := div_in (x := x) hs (Int.le_refl 0) hs; rwa [Int.add_zero] at this
theorem div_last {x s : Int} (hs : 0 < s) : (x * s + s - 1) / s = x := by have := div_in (x := x) (r := s - 1) hs (by omega) (by omega); rwa [show x * s + (s - 1) = x * s + s - 1 by omega] at this
/-- A cell's box is in the box of the cell that it stands under. -/
theorem under_box {x s q : Int} (hs : 0 < s) (hq : 0 < q) : x / q * (s * q) ≤ x * s ∧ x * s + s - 1 ≤ x / q * (s * q) + s * q - 1 := by
  have e := (div_iff (n := x) (x := x / q) hq).2 rfl
  have h1 := Int.mul_le_mul_of_nonneg_right e.1 (Int.le_of_lt hs)
  have h2 := Int.mul_le_mul_of_nonneg_right (show x + 1 ≤ x / q * q + q by omega) (Int.le_of_lt hs)
  rw [Int.add_mul, Int.add_mul, Int.one_mul] at h2
  rw [show x / q * (s * q) = x / q * q * s by rw [Int.mul_comm s q, Int.mul_assoc], Int.mul_comm s q]
  omega
theorem le_div {n u s : Int} (hs : 0 < s) : u * s ≤ n ↔ u ≤ n / s := (Int.le_ediv_iff_mul_le hs).symm
theorem last_div {n u s : Int} (hs : 0 < s) : n ≤ u * s + s - 1 ↔ n / s ≤ u := by
  constructor
  · intro h
    have := Int.ediv_lt_of_lt_mul hs (show n < (u + 1) * s by rw [Int.add_mul]; omega)
    omega
  · intro h
    have e := (div_iff (n := n) (x := n / s) hs).2 rfl
    have := Int.mul_le_mul_of_nonneg_right h (Int.le_of_lt hs)
    omega
/-- Snapped again: of a snapped number the lower level's cell is the number's own. -/
theorem snap_again {n s q r : Int} (hs : 0 < s) (h0 : 0 ≤ r) (h1 : r < s) : (n / s * s + r) / (s * q) = n / (s * q) := by
  rw [div_div' hs, div_div' hs, div_in hs h0 h1]
theorem mul_le_iff {u v s : Int} (hs : 0 < s) : u * s ≤ v * s ↔ u ≤ v := by
  constructor
  · intro h
    rcases Int.lt_or_le v u with h1 | h1
    · have := Int.mul_le_mul_of_nonneg_right (show v + 1 ≤ u from h1) (Int.le_of_lt hs)
      rw [Int.add_mul] at this
      omega
    · exact h1
  · intro h; exact Int.mul_le_mul_of_nonneg_right h (Int.le_of_lt hs)

/-- A snapped rectangle may be. -/
theorem snap_right {a b c d l : Int} (h0 : 0 ≤ l) (h1 : l ≤ 16) (h : rightB a b c d = true) : rightB (a / sd l * sd l) (b / sd l * sd l) (c / sd l * sd l + sd l - 1) (d / sd l * sd l + sd l - 1) = true := by
  have g := right_iff.1 h
  have hs := sd_pos l
  have ga := div_grid h0 h1 (n := a) (by omega) (by omega)
  have gb := div_grid h0 h1 (n := b) (by omega) (by omega)
  have gc := div_grid h0 h1 (n := c) (by omega) (by omega)
  have gd := div_grid h0 h1 (n := d) (by omega) (by omega)
  have qa := grid_lt h0 h1 ga.1 ga.2
  have qb := grid_lt h0 h1 gb.1 gb.2
  have qc := grid_lt h0 h1 gc.1 gc.2
  have qd := grid_lt h0 h1 gd.1 gd.2
  have ac : a / sd l ≤ c / sd l := Int.ediv_le_ediv hs (by omega)
  have bd : b / sd l ≤ d / sd l := Int.ediv_le_ediv hs (by omega)
  have ac' := (mul_le_iff hs).2 ac
  have bd' := (mul_le_iff hs).2 bd
  rw [right_iff]
  omega
/-- A cell's box may be. -/
theorem box_right {l x y : Int} (h : crightB l x y = true) : rightB (x * sd l) (y * sd l) (x * sd l + sd l - 1) (y * sd l + sd l - 1) = true := by
  obtain ⟨l0, l1, x0, y0, x1, y1⟩ := cright_iff.1 h
  have qx := grid_lt l0 l1 x0 x1
  have qy := grid_lt l0 l1 y0 y1
  have hs := sd_pos l
  rw [right_iff]; omega
end Go.Proofs.YthlijfligikciaaGreat

/- What is seen by rules of which no zoom goes up: plain law. No condition. -/
namespace Go.Proofs.YthlijfligikciaaGreat
open Go.RowKit Go.Maps
set_option linter.unusedSimpArgs false
set_option linter.unusedVariables false
set_option maxRecDepth 2000

/-- Cells of one number: the finer lies in the coarser. -/
theorem nest_one {x s m : Int} (hs : 0 < s) (hm : 0 < m) : x / (s * m) * (s * m) ≤ x / s * s ∧ x / s * s + s ≤ x / (s * m) * (s * m) + s * m := by
  rw [← Int.ediv_ediv_of_nonneg (Int.le_of_lt hs)]
  obtain ⟨k, hk⟩ : ∃ k, x / s = k := ⟨_, rfl⟩
  rw [hk]
  have h1 := Int.ediv_mul_le k (Int.ne_of_gt hm)
  have h2 := Int.lt_ediv_add_one_mul_self k hm
  obtain ⟨j, hj⟩ : ∃ j, k / m = j := ⟨_, rfl⟩
  rw [hj] at h1 h2 ⊢
  constructor
  · rw [show j * (s * m) = j * m * s by rw [Int.mul_comm s m, Int.mul_assoc]]
    exact Int.mul_le_mul_of_nonneg_right h1 (Int.le_of_lt hs)
  · rw [show k * s + s = (k + 1) * s by rw [Int.add_mul, Int.one_mul], show j * (s * m) + s * m = (j + 1) * m * s by rw [Int.add_mul, Int.one_mul, Int.add_mul, Int.mul_comm s m, Int.mul_assoc]]
    exact Int.mul_le_mul_of_nonneg_right (by omega) (Int.le_of_lt hs)
/-- The box of a cell that has a point may be. -/
theorem box_rng {l x : Int} (hl : 0 ≤ l ∧ l ≤ 16) (hx : 0 ≤ x ∧ x ≤ 65535) : 0 ≤ x / sd l * sd l ∧ x / sd l * sd l + sd l - 1 ≤ 65535 ∧ 1 ≤ sd l := by
  have hs := sd_pos l
  have hp := pw_sd hl.1 hl.2
  have h0 : 0 ≤ x / sd l := Int.ediv_nonneg hx.1 (Int.le_of_lt hs)
  have h1 : x / sd l < pw l := Int.ediv_lt_of_lt_mul hs (by omega)
  refine ⟨Int.mul_nonneg h0 (Int.le_of_lt hs), ?_, hs⟩
  have h2 := Int.mul_le_mul_of_nonneg_right (show x / sd l + 1 ≤ pw l by omega) (Int.le_of_lt hs)
  rw [Int.add_mul, Int.one_mul] at h2
  omega
theorem safer_law {L1 L2 : List Rl} {role tier x y label : Int} {g : Gr} (hno : numsB role tier label = true → riseNo L1 L2 role tier label) (h : seeB L2 role tier g x y label = true) :
    seeB L1 role tier g x y label = true ∧ seeL L2 role tier g x y label ≤ seeL L1 role tier g x y label ∧
    inB (x / sd (seeL L1 role tier g x y label) * sd (seeL L1 role tier g x y label)) (y / sd (seeL L1 role tier g x y label) * sd (seeL L1 role tier g x y label)) (x / sd (seeL L1 role tier g x y label) * sd (seeL L1 role tier g x y label) + sd (seeL L1 role tier g x y label) - 1) (y / sd (seeL L1 role tier g x y label) * sd (seeL L1 role tier g x y label) + sd (seeL L1 role tier g x y label) - 1) (x / sd (seeL L2 role tier g x y label) * sd (seeL L2 role tier g x y label)) (y / sd (seeL L2 role tier g x y label) * sd (seeL L2 role tier g x y label)) (x / sd (seeL L2 role tier g x y label) * sd (seeL L2 role tier g x y label) + sd (seeL L2 role tier g x y label) - 1) (y / sd (seeL L2 role tier g x y label) * sd (seeL L2 role tier g x y label) + sd (seeL L2 role tier g x y label) - 1) = true := by
  unfold seeB showB at h
  simp only [Bool.and_eq_true, decide_eq_true_eq] at h
  obtain ⟨⟨hw, hf⟩, ⟨hl0, hv⟩, hin⟩ := h
  obtain ⟨x0, x1, y0, y1⟩ := fits_iff.1 hf
  have hgz : 0 ≤ g.zoom ∧ g.zoom ≤ 16 := by
    unfold rightW at hw
    simp only [Bool.and_eq_true] at hw
    have := rightG_iff.1 hw.2
    omega
  have hle : zoomT L2 role tier label x y ≤ zoomT L1 role tier label x y := by
    unfold zoomT
    split
    · rename_i hn
      exact hno hn x y
    · exact Int.le_refl _
  have z1 := zoomT_rng (L := L1) (r := role) (t := tier) (l := label) (x := x) (y := y)
  have z2 := zoomT_rng (L := L2) (r := role) (t := tier) (l := label) (x := x) (y := y)
  have e1 : seeL L1 role tier g x y label = min (zoomT L1 role tier label x y) g.zoom := rfl
  have e2 : seeL L2 role tier g x y label = min (zoomT L2 role tier label x y) g.zoom := rfl
  obtain ⟨la, hla⟩ : ∃ l, seeL L1 role tier g x y label = l := ⟨_, rfl⟩
  obtain ⟨lb, hlb⟩ : ∃ l, seeL L2 role tier g x y label = l := ⟨_, rfl⟩
  have hB : seeB L1 role tier g x y label = (rightW role tier g && fitsB x y && showB la (x / sd la * sd la) (y / sd la * sd la) (x / sd la * sd la + sd la - 1) (y / sd la * sd la + sd la - 1) g) := by unfold seeB; rw [hla]
  rw [hB]
  rw [hla] at e1 ⊢
  rw [hlb] at e2 hl0 hin ⊢
  have hab : lb ≤ la := by omega
  have ra : 0 ≤ la ∧ la ≤ 16 := by omega
  have rb : 0 ≤ lb ∧ lb ≤ 16 := by omega
  have hsd : sd lb = sd la * pw (la - lb) := sd_mul rb.1 hab ra.2
  have nx := nest_one (x := x) (sd_pos la) (pw_pos (la - lb))
  have ny := nest_one (x := y) (sd_pos la) (pw_pos (la - lb))
  rw [← hsd] at nx ny
  have bxa := box_rng ra ⟨x0, x1⟩
  have bya := box_rng ra ⟨y0, y1⟩
  have bxb := box_rng rb ⟨x0, x1⟩
  have byb := box_rng rb ⟨y0, y1⟩
  have hin' := in_iff.1 hin
  clear hin hle z1 z2 e1 e2 hB hsd
  generalize x / sd la * sd la = a0 at nx bxa ⊢
  generalize y / sd la * sd la = b0 at ny bya ⊢
  generalize x / sd lb * sd lb = a1 at nx bxb hin' ⊢
  generalize y / sd lb * sd lb = b1 at ny byb hin' ⊢
  have ria : rightB a0 b0 (a0 + sd la - 1) (b0 + sd la - 1) = true := right_iff.2 (by omega)
  have rib : rightB a1 b1 (a1 + sd lb - 1) (b1 + sd lb - 1) = true := right_iff.2 (by omega)
  refine ⟨?_, hab, in_iff.2 ⟨ria, rib, by omega, by omega, by omega, by omega⟩⟩
  rw [hw, hf, Bool.true_and, Bool.true_and]
  unfold showB
  simp only [Bool.and_eq_true, decide_eq_true_eq]
  exact ⟨⟨by omega, hv⟩, in_iff.2 ⟨ria, hin'.2.1, by omega, by omega, by omega, by omega⟩⟩
end Go.Proofs.YthlijfligikciaaGreat
