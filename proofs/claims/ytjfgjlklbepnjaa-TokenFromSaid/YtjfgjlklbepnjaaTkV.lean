/- Whatever is done with a table: the statement walked. No condition beyond what the row of operations reads as. -/
import Derived.Test.YtjfgjlklbepnjaaTkU
namespace Go.Proofs.Ytjfgjlklbepnjaa
open Go.RowKit
set_option linter.unusedSimpArgs false
set_option linter.unusedVariables false
set_option maxRecDepth 4000

theorem row_new {w w' : World} {q c : Nat} {A C : Option Addr} {T L : List Tk} (h : GTab w q A c T) (hn : NewRow w w' C L) : Row w' q A C L := ⟨hn.1, fun hp a e => h.tab.far (hn.2 hp a e)⟩
theorem mint_to {q c draw : Nat} {A : Option Addr} {T M : List Tk} {E now : Int} {g : Gr} {w : World} (h : GTab w q A c T) (hd : draw < 18446744073709551616) (hE : makeE (leftT T now) draw g = E) (hM : makeT (leftT T now) 0 draw g = M) :
    Calls Try.prog 13 #[.pointer (some ⟨q, 0, none⟩), .int .u64 (draw : Nat), .agg #[.int .i64 g.ops, .int .i64 g.zoom, .int .i64 g.a, .int .i64 g.b, .int .i64 g.c, .int .i64 g.d, .bool g.void, .int .i64 g.til], .int .i64 now] w (MPost w q A (.int .i64 E) M) := by
  subst hE hM
  exact mint_any q c A T draw g now w h hd
theorem derive_to {q c draw fr : Nat} {A : Option Addr} {T M : List Tk} {E now : Int} {g : Gr} {w : World} (h : GTab w q A c T) (hf : fr < 18446744073709551616) (hd : draw < 18446744073709551616) (hE : derE (leftT T now) fr draw g = E) (hM : derT (leftT T now) fr draw g = M) :
    Calls Try.prog 15 #[.pointer (some ⟨q, 0, none⟩), .int .u64 (fr : Nat), .int .u64 (draw : Nat), .agg #[.int .i64 g.ops, .int .i64 g.zoom, .int .i64 g.a, .int .i64 g.b, .int .i64 g.c, .int .i64 g.d, .bool g.void, .int .i64 g.til], .int .i64 now] w (MPost w q A (.int .i64 E) M) := by
  subst hE hM
  exact derive_any q c A T fr draw g now w h hf hd
theorem revoke_to {q c s : Nat} {A : Option Addr} {T M : List Tk} {E now : Int} {w : World} (h : GTab w q A c T) (hs : s < 18446744073709551616) (hE : revE (leftT T now) s = E) (hM : revT (leftT T now) s = M) :
    Calls Try.prog 16 #[.pointer (some ⟨q, 0, none⟩), .int .u64 (s : Nat), .int .i64 now] w (MPost w q A (.int .i64 E) M) := by
  subst hE hM
  exact revoke_any q c A T s now w h hs
theorem live_to {q c s : Nat} {A : Option Addr} {T M : List Tk} {now : Int} {G : Gr} {d : Bool} {w : World} (h : GTab w q A c T) (hs : s < 18446744073709551616) (hG : liveG (leftT T now) s = G) (hd : (findT (leftT T now) s).isSome = d) (hM : leftT T now = M) :
    Calls Try.prog 18 #[.pointer (some ⟨q, 0, none⟩), .int .u64 (s : Nat), .int .i64 now] w (MPost w q A (.tuple #[.agg #[.int .i64 G.ops, .int .i64 G.zoom, .int .i64 G.a, .int .i64 G.b, .int .i64 G.c, .int .i64 G.d, .bool G.void, .int .i64 G.til], .bool d]) M) := by
  subst hG hd hM
  exact live_any q c A T s now w h hs
theorem tickets_to {q c m : Nat} {A : Option Addr} {T M : List Tk} {now : Int} {w : World} (h : GTab w q A c T) (hM : leftT T now = M) (hm : M.length = m) :
    Calls Try.prog 21 #[.pointer (some ⟨q, 0, none⟩), .int .i64 now] w fun e w' => ∃ C cc A' c', e = .returned (.slice C m cc) ∧ Row w' q A' C M ∧ GTab w' q A' c' M ∧ TabTo w q A w' A' := by
  subst hM hm
  refine (tickets_any q c A T now w h).mono ?_
  rintro e w' ⟨C, cc, A', c', h1, h2, _, h3, h4⟩
  exact ⟨C, cc, A', c', h1, h2, h3, h4⟩
theorem tlen_to {q c m : Nat} {A : Option Addr} {T : List Tk} {now : Int} {w : World} (h : GTab w q A c T) (hM : leftT T now = T) (hm : T.length = m) :
    Calls Try.prog 22 #[.pointer (some ⟨q, 0, none⟩), .int .i64 now] w (MPost w q A (.int .i64 m) T) := by
  have h9 := tlen_any q c A T now w h
  rw [hM, hm] at h9
  exact h9
theorem kleft_to {q c cc n m : Nat} {A C : Option Addr} {T L M : List Tk} {now : Int} {w : World} (h : GTab w q A c T) (hr : Row w q A C L) (hg : GoodT L) (hn : L.length = n) (hn8 : n ≤ 8) (hM : leftT L now = M) (hm : M.length = m) :
    Calls Try.prog 11 #[.slice C n cc, .int .i64 now] w fun e w' => (∃ C' c', e = .returned (.slice C' m c') ∧ Row w' q A C' M) ∧ Below w.heap.size w w' := by
  subst hM hm
  refine (kleft_any n cc C L now w hr.1 hn (by omega) hg).mono ?_
  rintro e w' ⟨⟨C', c', h1, h2⟩, hb⟩
  exact ⟨⟨C', c', h1, row_new h h2⟩, hb⟩
theorem kwithout_to {q c cc n m s : Nat} {A C : Option Addr} {T L M : List Tk} {w : World} (h : GTab w q A c T) (hr : Row w q A C L) (hn : L.length = n) (hn8 : n ≤ 8) (hM : withoutT L s = M) (hm : M.length = m) :
    Calls Try.prog 17 #[.slice C n cc, .int .u64 (s : Nat)] w fun e w' => (∃ C' c', e = .returned (.slice C' m c') ∧ Row w' q A C' M) ∧ Below w.heap.size w w' := by
  subst hM hm
  refine (kwithout_any n cc C L s w hr.1 hn (by omega)).mono ?_
  rintro e w' ⟨⟨C', c', h1, h2⟩, hb⟩
  exact ⟨⟨C', c', h1, row_new h h2⟩, hb⟩
theorem kmake_to {q c cc n m fr draw : Nat} {A C : Option Addr} {T L M : List Tk} {E : Int} {g : Gr} {w : World} (h : GTab w q A c T) (hr : Row w q A C L) (hn : L.length = n) (hn8 : n ≤ 8) (hE : makeE L draw g = E) (hM : makeT L fr draw g = M) (hm : M.length = m) :
    Calls Try.prog 14 #[.slice C n cc, .int .u64 (fr : Nat), .int .u64 (draw : Nat), .agg #[.int .i64 g.ops, .int .i64 g.zoom, .int .i64 g.a, .int .i64 g.b, .int .i64 g.c, .int .i64 g.d, .bool g.void, .int .i64 g.til]] w fun e w' => (∃ C' c', e = .returned (.tuple #[.slice C' m c', .int .i64 E]) ∧ Row w' q A C' M) ∧ Below w.heap.size w w' := by
  subst hE hM hm
  refine (kmake_any n cc C L fr draw g w hr.1 hn (by omega)).mono ?_
  rintro e w' ⟨⟨C', c', h1, h2⟩, hb⟩
  refine ⟨⟨C', c', h1, ?_⟩, hb⟩
  rcases h2 with ⟨rfl, h3⟩ | h2
  · rw [h3]
    exact hr.keep hb
  · exact row_new h h2
theorem kmake_to0 {q c cc n m draw : Nat} {A C : Option Addr} {T L M : List Tk} {E : Int} {g : Gr} {w : World} (h : GTab w q A c T) (hr : Row w q A C L) (hn : L.length = n) (hn8 : n ≤ 8) (hE : makeE L draw g = E) (hM : makeT L 0 draw g = M) (hm : M.length = m) :
    Calls Try.prog 14 #[.slice C n cc, .int .u64 0, .int .u64 (draw : Nat), .agg #[.int .i64 g.ops, .int .i64 g.zoom, .int .i64 g.a, .int .i64 g.b, .int .i64 g.c, .int .i64 g.d, .bool g.void, .int .i64 g.til]] w fun e w' => (∃ C' c', e = .returned (.tuple #[.slice C' m c', .int .i64 E]) ∧ Row w' q A C' M) ∧ Below w.heap.size w w' :=
  kmake_to (fr := 0) h hr hn hn8 hE hM hm
theorem live_to0 {q c s : Nat} {A : Option Addr} {T M : List Tk} {now : Int} {w : World} (h : GTab w q A c T) (hs : s < 18446744073709551616) (hG : liveG (leftT T now) s = zeroG) (hd : (findT (leftT T now) s).isSome = false) (hM : leftT T now = M) :
    Calls Try.prog 18 #[.pointer (some ⟨q, 0, none⟩), .int .u64 (s : Nat), .int .i64 now] w (MPost w q A (.tuple #[.agg #[.int .i64 0, .int .i64 0, .int .i64 0, .int .i64 0, .int .i64 0, .int .i64 0, .bool false, .int .i64 0], .bool false]) M) := live_to (G := zeroG) h hs hG hd hM
theorem same_to {n c1 c2 : Nat} {C1 C2 : Option Addr} {L : List Tk} {w : World} (h1 : Tks w w.heap.size C1 L) (h2 : Tks w w.heap.size C2 L) (hn : L.length = n) (hn8 : n ≤ 8) :
    Calls Try.prog 20 #[.slice C1 n c1, .slice C2 n c2] w fun e w' => e = .returned (.bool true) ∧ Below w.heap.size w w' := by
  have h9 := same_any n n c1 c2 C1 C2 L L w h1 h2 hn hn (by omega)
  rw [show decide (L = L) = true from decide_eq_true rfl] at h9
  exact h9
theorem neq_zero (w : World) : (binOp .neq 30 (.agg #[.int .i64 0, .int .i64 0, .int .i64 0, .int .i64 0, .int .i64 0, .int .i64 0, .bool false, .int .i64 0]) (.agg #[.int .i64 0, .int .i64 0, .int .i64 0, .int .i64 0, .int .i64 0, .int .i64 0, .bool false, .int .i64 0])).run Try.prog w = .ok (.bool false) w := by
  have := neq_grant zeroG zeroG w
  rw [eqG_self] at this
  exact this
theorem neq_same (g : Gr) (w : World) : (binOp .neq 30 (.agg #[.int .i64 g.ops, .int .i64 g.zoom, .int .i64 g.a, .int .i64 g.b, .int .i64 g.c, .int .i64 g.d, .bool g.void, .int .i64 g.til]) (.agg #[.int .i64 g.ops, .int .i64 g.zoom, .int .i64 g.a, .int .i64 g.b, .int .i64 g.c, .int .i64 g.d, .bool g.void, .int .i64 g.til])).run Try.prog w = .ok (.bool false) w := by
  have := neq_grant g g w
  rw [eqG_self] at this
  exact this
theorem opc_get {w : World} {b : Nat} {x : OpT} (h : CellsAt w b 12 (opC x)) : w.cell? ⟨b, 0, none⟩ = some (.int .i64 x.kind) ∧ w.cell? ⟨b, 1, none⟩ = some (.int .u64 (x.fr : Nat)) ∧ w.cell? ⟨b, 2, none⟩ = some (.int .u64 (x.draw : Nat)) ∧ w.cell? ⟨b, 3, none⟩ = some (.int .i64 x.g.ops) ∧ w.cell? ⟨b, 4, none⟩ = some (.int .i64 x.g.zoom) ∧ w.cell? ⟨b, 5, none⟩ = some (.int .i64 x.g.a) ∧ w.cell? ⟨b, 6, none⟩ = some (.int .i64 x.g.b) ∧ w.cell? ⟨b, 7, none⟩ = some (.int .i64 x.g.c) ∧ w.cell? ⟨b, 8, none⟩ = some (.int .i64 x.g.d) ∧ w.cell? ⟨b, 9, none⟩ = some (.bool x.g.void) ∧ w.cell? ⟨b, 10, none⟩ = some (.int .i64 x.g.til) ∧ w.cell? ⟨b, 11, none⟩ = some (.int .i64 x.now) :=
  ⟨(h.2 0 (by decide)).1, (h.2 1 (by decide)).1, (h.2 2 (by decide)).1, (h.2 3 (by decide)).1, (h.2 4 (by decide)).1, (h.2 5 (by decide)).1, (h.2 6 (by decide)).1, (h.2 7 (by decide)).1, (h.2 8 (by decide)).1, (h.2 9 (by decide)).1, (h.2 10 (by decide)).1, (h.2 11 (by decide)).1⟩
theorem opc_new {w : World} {x : OpT} {t : TypeId} : CellsAt (w.alloc (Obj.cells #[.int .i64 x.kind, .int .u64 (x.fr : Nat), .int .u64 (x.draw : Nat), .int .i64 x.g.ops, .int .i64 x.g.zoom, .int .i64 x.g.a, .int .i64 x.g.b, .int .i64 x.g.c, .int .i64 x.g.d, .bool x.g.void, .int .i64 x.g.til, .int .i64 x.now] t)) w.heap.size 12 (opC x) :=
  CellsAt.new fun j hj => by
    have h : j = 0 ∨ j = 1 ∨ j = 2 ∨ j = 3 ∨ j = 4 ∨ j = 5 ∨ j = 6 ∨ j = 7 ∨ j = 8 ∨ j = 9 ∨ j = 10 ∨ j = 11 := by omega
    rcases h with rfl | rfl | rfl | rfl | rfl | rfl | rfl | rfl | rfl | rfl | rfl | rfl <;> rfl
/-- What holds between two steps: the table, the row beside it, the operation's cells. -/
structure Mid (w0 w : World) (q : Nat) (A : Option Addr) (c : Nat) (T : List Tk) (C : Option Addr) (H : List Tk) (b : Nat) (x : OpT) : Prop where
  tab : GTab w q A c T
  row : Row w q A C H
  op : CellsAt w b 12 (opC x)
  far : Far q A b
  bel : Below w0.heap.size w0 w
  q0 : w0.heap.size ≤ q
theorem Mid.keep {w0 w w' : World} {q c b : Nat} {A C : Option Addr} {T H : List Tk} {x : OpT} (h : Mid w0 w q A c T C H b x) (hb : Below w.heap.size w w') : Mid w0 w' q A c T C H b x :=
  ⟨h.tab.keep hb, h.row.keep hb, h.op.keep hb, h.far, h.bel.trans (hb.mono h.bel.size), h.q0⟩
theorem Mid.to {w0 w w' : World} {q c c' b : Nat} {A A' C : Option Addr} {T T' H : List Tk} {x : OpT} (h : Mid w0 w q A c T C H b x) (hg : GTab w' q A' c' T') (ht : TabTo w q A w' A') : Mid w0 w' q A' c' T' C H b x :=
  ⟨hg, h.row.to ht, h.op.to ht h.far, h.far.to ht h.op.1, h.bel.trans ((ht.elder h.tab.tab).mono h.q0), h.q0⟩
theorem Mid.rows {w0 w : World} {q c b : Nat} {A C C' : Option Addr} {T H H' : List Tk} {x : OpT} (h : Mid w0 w q A c T C H b x) (hr : Row w q A C' H') : Mid w0 w q A c T C' H' b x := ⟨h.tab, hr, h.op, h.far, h.bel, h.q0⟩
set_option maxHeartbeats 64000000 in
theorem plays_law (A : Option Addr) (n c : Nat) (L : List OpT) (w : World) (h : L.length = n ∧ n ≤ 9223372036854775807 ∧ Ops w w.heap.size A L ∧ U64o L) :
    Calls Try.prog 3 #[.slice A n c] w fun e w' => e = .returned (.bool true) ∧ Below w.heap.size w w' := by
  have HA := Lib.hid h
  have hn1 := h.2.1
  have PK := Lib.hid tknown_any
  have hnz := neq_zero
  have hns := neq_same
  clear h
  go_enter Try.func3, Try.ntmps3
  go_wp2_with fail
  refine (tnew_any _).mono ?_
  rintro e w1 ⟨rfl, hT, hb⟩
  have HT1 := Lib.hid hT
  have hql := hT.tab.lt
  obtain ⟨X1, rfl⟩ : ∃ Z : Later w.heap.size w, w1 = Z.w := ⟨⟨w1, hb⟩, rfl⟩
  clear hT hb
  go_wp2_with fail
  go_loopw [4, 5] (fun hv i wr => ∃ (k t cC : Nat) (C : Option Addr), hv = .slice C t cC ∧ i = .int .i64 k ∧ k ≤ n ∧ k ≤ 60 ∧ t ≤ 8 ∧ w.heap.size < wr.heap.size ∧ Hid (∃ A' c' T, GTab wr w.heap.size A' c' T ∧ Row wr w.heap.size A' C T ∧ T.length = t) ∧ Below w.heap.size w wr) (fun _ i _ => n - (intOf i).toNat)
  case atStart => exact ⟨0, 0, 0, none, rfl, rfl, by omega, by omega, by omega, by omega, ⟨none, 0, [], HT1.out, Row.nil _ _ _ _, rfl⟩, by repeat' (first | (with_reducible exact Below.refl _ _) | (with_reducible assumption) | (with_reducible refine Later.step ?_ ?_ _) | (with_reducible refine Below.alloc ?_ ?_ _) | (with_reducible refine Below.drew ?_) | (with_reducible refine bel_drewN ?_ _) | (with_reducible refine bel_grown ?_ (by assumption) ?_ ?_) | (with_reducible refine Below.setCell ?_ ?_ _) | go_size)⟩
  case round =>
    obtain ⟨k, t, cC, C, rfl, rfl, hk, hk60, ht8, hqs, hG, hbel⟩ := hrel
    obtain ⟨X, rfl⟩ : ∃ X : Later w.heap.size w, wr = X.w := ⟨⟨wr, hbel⟩, rfl⟩
    clear hbel
    by_cases hlt : k < n ∧ k < 60
    · obtain ⟨hlt, hlt6⟩ := hlt
      obtain ⟨b, o, hAe, hB, c0, d1, c2, c3, c4, c5, c6, c7, c8, c9, c10, c11⟩ := ops_at HA.out.2.2.1 (i := k) (by rw [HA.out.1]; exact hlt)
      subst hAe
      have hu := HA.out.2.2.2 k (by rw [HA.out.1]; exact hlt)
      obtain ⟨x, hx⟩ : ∃ x, L.getD k op0 = x := ⟨_, rfl⟩
      rw [hx] at c0 d1 c2 c3 c4 c5 c6 c7 c8 c9 c10 c11 hu
      obtain ⟨A', c', T, hGT, hRT, hTt⟩ := hG.out
      have HM0 := Lib.hid (show Mid w (X.w.alloc (Obj.cells #[.int .i64 x.kind, .int .u64 (x.fr : Nat), .int .u64 (x.draw : Nat), .int .i64 x.g.ops, .int .i64 x.g.zoom, .int .i64 x.g.a, .int .i64 x.g.b, .int .i64 x.g.c, .int .i64 x.g.d, .bool x.g.void, .int .i64 x.g.til, .int .i64 x.now] 32)) w.heap.size A' c' T C T X.w.heap.size x from ⟨hGT.keep ((Below.refl _ _).alloc (Nat.le_refl _) _), hRT.keep ((Below.refl _ _).alloc (Nat.le_refl _) _), opc_new, hGT.tab.far (Nat.le_refl _), by repeat' (first | (with_reducible exact Below.refl _ _) | (with_reducible assumption) | (with_reducible refine Later.step ?_ ?_ _) | (with_reducible refine Below.alloc ?_ ?_ _) | (with_reducible refine Below.drew ?_) | (with_reducible refine bel_drewN ?_ _) | (with_reducible refine bel_grown ?_ (by assumption) ?_ ?_) | (with_reducible refine Below.setCell ?_ ?_ _) | go_size), Nat.le_refl _⟩)
      obtain ⟨T1, hT1⟩ : ∃ T1, leftT T x.now = T1 := ⟨_, rfl⟩
      obtain ⟨t1, ht1⟩ : ∃ t1, T1.length = t1 := ⟨_, rfl⟩
      have HF := Lib.hid (show leftT T x.now = T1 ∧ T1.length = t1 ∧ T.length = t ∧ GoodT T1 ∧ leftT T1 x.now = T1 ∧ GoodT T from ⟨hT1, ht1, hTt, by rw [← hT1]; exact left_good hGT.good _, by rw [← hT1]; exact left_left hGT.good _, hGT.good⟩)
      have ht18 : t1 ≤ 8 := by rw [← ht1, ← hT1]; exact Nat.le_trans (left_len _ _) hGT.len
      have HU := Lib.hid hu
      clear hu hx hGT hRT hTt hT1 ht1 hG
      obtain ⟨f, hf⟩ : ∃ f, fndT T1 x.fr = f := ⟨_, rfl⟩
      obtain ⟨d, hd⟩ : ∃ d, (findT T1 x.fr).isSome = d := ⟨_, rfl⟩
      have HD := Lib.hid (show fndT T1 x.fr = f ∧ (findT T1 x.fr).isSome = d from ⟨hf, hd⟩)
      clear hf hd
      go_wp2_with fail
      refine (kleft_to (c := c') (T := T) (M := T1) (m := t1) (HM0.out.tab.keep (by repeat' (first | (with_reducible exact Below.refl _ _) | (with_reducible assumption) | (with_reducible refine Later.step ?_ ?_ _) | (with_reducible refine Below.alloc ?_ ?_ _) | (with_reducible refine Below.drew ?_) | (with_reducible refine bel_drewN ?_ _) | (with_reducible refine bel_grown ?_ (by assumption) ?_ ?_) | (with_reducible refine Below.setCell ?_ ?_ _) | go_size))) (HM0.out.row.keep (by repeat' (first | (with_reducible exact Below.refl _ _) | (with_reducible assumption) | (with_reducible refine Later.step ?_ ?_ _) | (with_reducible refine Below.alloc ?_ ?_ _) | (with_reducible refine Below.drew ?_) | (with_reducible refine bel_drewN ?_ _) | (with_reducible refine bel_grown ?_ (by assumption) ?_ ?_) | (with_reducible refine Below.setCell ?_ ?_ _) | go_size))) HF.out.2.2.2.2.2 HF.out.2.2.1 ht8 HF.out.1 HF.out.2.1).mono ?_
      rintro e w2 ⟨⟨C2, cc2, rfl, hR2⟩, hb2⟩
      have HM2 := Lib.hid ((HM0.out.keep hb2).rows hR2)
      obtain ⟨o2_0, o2_1, o2_2, o2_3, o2_4, o2_5, o2_6, o2_7, o2_8, o2_9, o2_10, o2_11⟩ := opc_get HM2.out.op
      have ol2 := HM2.out.op.1
      have os2 := HM2.out.bel.size
      have hbw2 := HM2.out.bel
      obtain ⟨X2, rfl⟩ : ∃ Z : Later w.heap.size w, w2 = Z.w := ⟨⟨w2, hbw2⟩, rfl⟩
      clear hbw2
      go_wp2_with fail
      have p3 := kfind_any t1 cc2 C2 T1 x.fr X2.w HM2.out.row.1 HF.out.2.1 (by omega)
      rw [HD.out.1, HD.out.2] at p3
      refine p3.mono ?_
      rintro e w3 ⟨rfl, hb3⟩
      have HM3 := Lib.hid (HM2.out.keep hb3)
      obtain ⟨o3_0, o3_1, o3_2, o3_3, o3_4, o3_5, o3_6, o3_7, o3_8, o3_9, o3_10, o3_11⟩ := opc_get HM3.out.op
      have ol3 := HM3.out.op.1
      have os3 := HM3.out.bel.size
      have hbw3 := HM3.out.bel
      obtain ⟨X3, rfl⟩ : ∃ Z : Later w.heap.size w, w3 = Z.w := ⟨⟨w3, hbw3⟩, rfl⟩
      clear hbw3
      clear p3
      have hkd : x.kind = 0 ∨ x.kind = 1 ∨ x.kind = 2 ∨ (x.kind ≠ 0 ∧ x.kind ≠ 1 ∧ x.kind ≠ 2) := by omega
      rcases hkd with hkd | hkd | hkd | ⟨hk0, hk1, hk2⟩
      · have hk0 : (x.kind == 0) = true := by simp [hkd]
        clear hkd
        obtain ⟨E, hE⟩ : ∃ E, makeE T1 x.draw x.g = E := ⟨_, rfl⟩
        obtain ⟨M, hM⟩ : ∃ M, makeT T1 0 x.draw x.g = M := ⟨_, rfl⟩
        obtain ⟨m, hm⟩ : ∃ m, M.length = m := ⟨_, rfl⟩
        obtain ⟨N, hN⟩ : ∃ N, leftT M x.now = N := ⟨_, rfl⟩
        obtain ⟨r, hr⟩ : ∃ r, N.length = r := ⟨_, rfl⟩
        have hgl := make_good (fr := 0) (draw := x.draw) (g := x.g) HF.out.2.2.2.1 (by rw [HF.out.2.1]; exact ht18) (.inl rfl)
        rw [hM] at hgl
        have hgm := hgl.1
        have hml := hgl.2
        have HE := Lib.hid (show makeE T1 x.draw x.g = E ∧ makeT T1 0 x.draw x.g = M from ⟨hE, hM⟩)
        clear hE hM hgl
        have HN := Lib.hid (show M.length = m ∧ leftT M x.now = N ∧ N.length = r ∧ leftT N x.now = N from ⟨hm, hN, hr, by rw [← hN]; exact left_left hgm _⟩)
        have hm8 : m ≤ 8 := by rw [← hm]; exact hml
        have hr8 : r ≤ 8 := by rw [← hr, ← hN]; exact Nat.le_trans (left_len _ _) hml
        clear hm hN hr hgm hml
        go_wp2_with fail
        refine (mint_to (E := E) (M := M) (HM3.out.tab.keep (by repeat' (first | (with_reducible exact Below.refl _ _) | (with_reducible assumption) | (with_reducible refine Later.step ?_ ?_ _) | (with_reducible refine Below.alloc ?_ ?_ _) | (with_reducible refine Below.drew ?_) | (with_reducible refine bel_drewN ?_ _) | (with_reducible refine bel_grown ?_ (by assumption) ?_ ?_) | (with_reducible refine Below.setCell ?_ ?_ _) | go_size))) HU.out.2 (by rw [HF.out.1]; exact HE.out.1) (by rw [HF.out.1]; exact HE.out.2)).mono ?_
        rintro e w4 ⟨rfl, A4, c4', hG4, hto4⟩
        have HM4 := Lib.hid ((HM3.out.keep (by repeat' (first | (with_reducible exact Below.refl _ _) | (with_reducible assumption) | (with_reducible refine Later.step ?_ ?_ _) | (with_reducible refine Below.alloc ?_ ?_ _) | (with_reducible refine Below.drew ?_) | (with_reducible refine bel_drewN ?_ _) | (with_reducible refine bel_grown ?_ (by assumption) ?_ ?_) | (with_reducible refine Below.setCell ?_ ?_ _) | go_size))).to hG4 hto4)
        clear hG4 hto4
        obtain ⟨o4_0, o4_1, o4_2, o4_3, o4_4, o4_5, o4_6, o4_7, o4_8, o4_9, o4_10, o4_11⟩ := opc_get HM4.out.op
        have ol4 := HM4.out.op.1
        have os4 := HM4.out.bel.size
        have hbw4 := HM4.out.bel
        obtain ⟨X4, rfl⟩ : ∃ Z : Later w.heap.size w, w4 = Z.w := ⟨⟨w4, hbw4⟩, rfl⟩
        clear hbw4
        go_wp2_with fail
        refine (kmake_to0 (E := E) (M := M) (m := m) HM4.out.tab HM4.out.row HF.out.2.1 ht18 HE.out.1 HE.out.2 HN.out.1).mono ?_
        rintro e w5 ⟨⟨C5, cc5, rfl, hR5⟩, hb5⟩
        have HM5 := Lib.hid ((HM4.out.keep hb5).rows hR5)
        clear hR5 hb5
        obtain ⟨o5_0, o5_1, o5_2, o5_3, o5_4, o5_5, o5_6, o5_7, o5_8, o5_9, o5_10, o5_11⟩ := opc_get HM5.out.op
        have ol5 := HM5.out.op.1
        have os5 := HM5.out.bel.size
        have hbw5 := HM5.out.bel
        obtain ⟨X5, rfl⟩ : ∃ Z : Later w.heap.size w, w5 = Z.w := ⟨⟨w5, hbw5⟩, rfl⟩
        clear hbw5
        go_wp2_with fail
        refine (kleft_to (T := M) (M := N) (m := r) (HM5.out.tab.keep (by repeat' (first | (with_reducible exact Below.refl _ _) | (with_reducible assumption) | (with_reducible refine Later.step ?_ ?_ _) | (with_reducible refine Below.alloc ?_ ?_ _) | (with_reducible refine Below.drew ?_) | (with_reducible refine bel_drewN ?_ _) | (with_reducible refine bel_grown ?_ (by assumption) ?_ ?_) | (with_reducible refine Below.setCell ?_ ?_ _) | go_size))) (HM5.out.row.keep (by repeat' (first | (with_reducible exact Below.refl _ _) | (with_reducible assumption) | (with_reducible refine Later.step ?_ ?_ _) | (with_reducible refine Below.alloc ?_ ?_ _) | (with_reducible refine Below.drew ?_) | (with_reducible refine bel_drewN ?_ _) | (with_reducible refine bel_grown ?_ (by assumption) ?_ ?_) | (with_reducible refine Below.setCell ?_ ?_ _) | go_size))) HM5.out.tab.good HN.out.1 hm8 HN.out.2.1 HN.out.2.2.1).mono ?_
        rintro e w6 ⟨⟨C6, cc6, rfl, hR6⟩, hb6⟩
        have HM6 := Lib.hid (((HM5.out.keep (by repeat' (first | (with_reducible exact Below.refl _ _) | (with_reducible assumption) | (with_reducible refine Later.step ?_ ?_ _) | (with_reducible refine Below.alloc ?_ ?_ _) | (with_reducible refine Below.drew ?_) | (with_reducible refine bel_drewN ?_ _) | (with_reducible refine bel_grown ?_ (by assumption) ?_ ?_) | (with_reducible refine Below.setCell ?_ ?_ _) | go_size))).keep hb6).rows hR6)
        clear hR6 hb6
        obtain ⟨o6_0, o6_1, o6_2, o6_3, o6_4, o6_5, o6_6, o6_7, o6_8, o6_9, o6_10, o6_11⟩ := opc_get HM6.out.op
        have ol6 := HM6.out.op.1
        have os6 := HM6.out.bel.size
        have hbw6 := HM6.out.bel
        obtain ⟨X6, rfl⟩ : ∃ Z : Later w.heap.size w, w6 = Z.w := ⟨⟨w6, hbw6⟩, rfl⟩
        clear hbw6
        go_wp2_with fail
        refine (tickets_to (M := N) (m := r) (HM6.out.tab.keep (by repeat' (first | (with_reducible exact Below.refl _ _) | (with_reducible assumption) | (with_reducible refine Later.step ?_ ?_ _) | (with_reducible refine Below.alloc ?_ ?_ _) | (with_reducible refine Below.drew ?_) | (with_reducible refine bel_drewN ?_ _) | (with_reducible refine bel_grown ?_ (by assumption) ?_ ?_) | (with_reducible refine Below.setCell ?_ ?_ _) | go_size))) HN.out.2.1 HN.out.2.2.1).mono ?_
        rintro e w7 ⟨C7, cc7, A7, c7', rfl, hR7, hG7, hto7⟩
        have HM7 := Lib.hid ((HM6.out.keep (by repeat' (first | (with_reducible exact Below.refl _ _) | (with_reducible assumption) | (with_reducible refine Later.step ?_ ?_ _) | (with_reducible refine Below.alloc ?_ ?_ _) | (with_reducible refine Below.drew ?_) | (with_reducible refine bel_drewN ?_ _) | (with_reducible refine bel_grown ?_ (by assumption) ?_ ?_) | (with_reducible refine Below.setCell ?_ ?_ _) | go_size))).to hG7 hto7)
        have HR7 := Lib.hid hR7
        clear hR7 hG7 hto7
        obtain ⟨o7_0, o7_1, o7_2, o7_3, o7_4, o7_5, o7_6, o7_7, o7_8, o7_9, o7_10, o7_11⟩ := opc_get HM7.out.op
        have ol7 := HM7.out.op.1
        have os7 := HM7.out.bel.size
        have hbw7 := HM7.out.bel
        obtain ⟨X7, rfl⟩ : ∃ Z : Later w.heap.size w, w7 = Z.w := ⟨⟨w7, hbw7⟩, rfl⟩
        clear hbw7
        go_wp2_with fail
        refine (same_to (n := r) HR7.out.1 HM7.out.row.1 HN.out.2.2.1 hr8).mono ?_
        rintro e w8 ⟨rfl, hb8⟩
        have HM8 := Lib.hid (HM7.out.keep hb8)
        clear hb8
        obtain ⟨o8_0, o8_1, o8_2, o8_3, o8_4, o8_5, o8_6, o8_7, o8_8, o8_9, o8_10, o8_11⟩ := opc_get HM8.out.op
        have ol8 := HM8.out.op.1
        have os8 := HM8.out.bel.size
        have hbw8 := HM8.out.bel
        obtain ⟨X8, rfl⟩ : ∃ Z : Later w.heap.size w, w8 = Z.w := ⟨⟨w8, hbw8⟩, rfl⟩
        clear hbw8
        go_wp2_with fail
        refine (tlen_to (m := r) (HM8.out.tab.keep (by repeat' (first | (with_reducible exact Below.refl _ _) | (with_reducible assumption) | (with_reducible refine Later.step ?_ ?_ _) | (with_reducible refine Below.alloc ?_ ?_ _) | (with_reducible refine Below.drew ?_) | (with_reducible refine bel_drewN ?_ _) | (with_reducible refine bel_grown ?_ (by assumption) ?_ ?_) | (with_reducible refine Below.setCell ?_ ?_ _) | go_size))) HN.out.2.2.2 HN.out.2.2.1).mono ?_
        rintro e w9 ⟨rfl, A9, c9', hG9, hto9⟩
        have HM9 := Lib.hid ((HM8.out.keep (by repeat' (first | (with_reducible exact Below.refl _ _) | (with_reducible assumption) | (with_reducible refine Later.step ?_ ?_ _) | (with_reducible refine Below.alloc ?_ ?_ _) | (with_reducible refine Below.drew ?_) | (with_reducible refine bel_drewN ?_ _) | (with_reducible refine bel_grown ?_ (by assumption) ?_ ?_) | (with_reducible refine Below.setCell ?_ ?_ _) | go_size))).to hG9 hto9)
        clear hG9 hto9
        obtain ⟨o9_0, o9_1, o9_2, o9_3, o9_4, o9_5, o9_6, o9_7, o9_8, o9_9, o9_10, o9_11⟩ := opc_get HM9.out.op
        have ol9 := HM9.out.op.1
        have os9 := HM9.out.bel.size
        have hbw9 := HM9.out.bel
        obtain ⟨X9, rfl⟩ : ∃ Z : Later w.heap.size w, w9 = Z.w := ⟨⟨w9, hbw9⟩, rfl⟩
        clear hbw9
        go_wp2_with fail
        go_roundw
        case rel => exact ⟨k + 1, r, _, C6, rfl, by go_num, by omega, by omega, hr8, by have := HM9.out.op.1; have := HM9.out.tab.tab.lt; omega, ⟨A9, c9', N, HM9.out.tab, HM9.out.row, HN.out.2.2.1⟩, HM9.out.bel⟩
        case measure => simp [intOf]; omega
      · have hk0 : (x.kind == 0) = false := by simp [hkd]
        have hk1 : (x.kind == 1) = true := by simp [hkd]
        clear hkd
        cases d with
        | true =>
          have HSM := Lib.hid (show (findT T1 x.fr).isSome = true from HD.out.2)
          obtain ⟨E, hE⟩ : ∃ E, makeE T1 x.draw x.g = E := ⟨_, rfl⟩
          obtain ⟨M, hM⟩ : ∃ M, makeT T1 x.fr x.draw x.g = M := ⟨_, rfl⟩
          obtain ⟨m, hm⟩ : ∃ m, M.length = m := ⟨_, rfl⟩
          obtain ⟨N, hN⟩ : ∃ N, leftT M x.now = N := ⟨_, rfl⟩
          obtain ⟨r, hr⟩ : ∃ r, N.length = r := ⟨_, rfl⟩
          have hgl := make_good (fr := x.fr) (draw := x.draw) (g := x.g) HF.out.2.2.2.1 (by rw [HF.out.2.1]; exact ht18) (.inr (Option.isSome_iff_exists.1 HSM.out))
          rw [hM] at hgl
          have hgm := hgl.1
          have hml := hgl.2
          have HE := Lib.hid (show makeE T1 x.draw x.g = E ∧ makeT T1 x.fr x.draw x.g = M from ⟨hE, hM⟩)
          clear hE hM hgl
          have HN := Lib.hid (show M.length = m ∧ leftT M x.now = N ∧ N.length = r ∧ leftT N x.now = N from ⟨hm, hN, hr, by rw [← hN]; exact left_left hgm _⟩)
          have hm8 : m ≤ 8 := by rw [← hm]; exact hml
          have hr8 : r ≤ 8 := by rw [← hr, ← hN]; exact Nat.le_trans (left_len _ _) hml
          clear hm hN hr hgm hml
          go_wp2_with fail
          refine (derive_to (E := E) (M := M) (HM3.out.tab.keep (by repeat' (first | (with_reducible exact Below.refl _ _) | (with_reducible assumption) | (with_reducible refine Later.step ?_ ?_ _) | (with_reducible refine Below.alloc ?_ ?_ _) | (with_reducible refine Below.drew ?_) | (with_reducible refine bel_drewN ?_ _) | (with_reducible refine bel_grown ?_ (by assumption) ?_ ?_) | (with_reducible refine Below.setCell ?_ ?_ _) | go_size))) HU.out.1 HU.out.2 (by rw [HF.out.1]; unfold derE; rw [if_pos HSM.out]; exact HE.out.1) (by rw [HF.out.1]; unfold derT; rw [if_pos HSM.out]; exact HE.out.2)).mono ?_
          rintro e w4 ⟨rfl, A4, c4', hG4, hto4⟩
          have HM4 := Lib.hid ((HM3.out.keep (by repeat' (first | (with_reducible exact Below.refl _ _) | (with_reducible assumption) | (with_reducible refine Later.step ?_ ?_ _) | (with_reducible refine Below.alloc ?_ ?_ _) | (with_reducible refine Below.drew ?_) | (with_reducible refine bel_drewN ?_ _) | (with_reducible refine bel_grown ?_ (by assumption) ?_ ?_) | (with_reducible refine Below.setCell ?_ ?_ _) | go_size))).to hG4 hto4)
          clear hG4 hto4
          obtain ⟨o4_0, o4_1, o4_2, o4_3, o4_4, o4_5, o4_6, o4_7, o4_8, o4_9, o4_10, o4_11⟩ := opc_get HM4.out.op
          have ol4 := HM4.out.op.1
          have os4 := HM4.out.bel.size
          have hbw4 := HM4.out.bel
          obtain ⟨X4, rfl⟩ : ∃ Z : Later w.heap.size w, w4 = Z.w := ⟨⟨w4, hbw4⟩, rfl⟩
          clear hbw4
          go_wp2_with fail
          refine (kmake_to (fr := x.fr) (E := E) (M := M) (m := m) HM4.out.tab HM4.out.row HF.out.2.1 ht18 HE.out.1 HE.out.2 HN.out.1).mono ?_
          rintro e w5 ⟨⟨C5, cc5, rfl, hR5⟩, hb5⟩
          have HM5 := Lib.hid ((HM4.out.keep hb5).rows hR5)
          clear hR5 hb5
          obtain ⟨o5_0, o5_1, o5_2, o5_3, o5_4, o5_5, o5_6, o5_7, o5_8, o5_9, o5_10, o5_11⟩ := opc_get HM5.out.op
          have ol5 := HM5.out.op.1
          have os5 := HM5.out.bel.size
          have hbw5 := HM5.out.bel
          obtain ⟨X5, rfl⟩ : ∃ Z : Later w.heap.size w, w5 = Z.w := ⟨⟨w5, hbw5⟩, rfl⟩
          clear hbw5
          go_wp2_with fail
          refine (kleft_to (T := M) (M := N) (m := r) (HM5.out.tab.keep (by repeat' (first | (with_reducible exact Below.refl _ _) | (with_reducible assumption) | (with_reducible refine Later.step ?_ ?_ _) | (with_reducible refine Below.alloc ?_ ?_ _) | (with_reducible refine Below.drew ?_) | (with_reducible refine bel_drewN ?_ _) | (with_reducible refine bel_grown ?_ (by assumption) ?_ ?_) | (with_reducible refine Below.setCell ?_ ?_ _) | go_size))) (HM5.out.row.keep (by repeat' (first | (with_reducible exact Below.refl _ _) | (with_reducible assumption) | (with_reducible refine Later.step ?_ ?_ _) | (with_reducible refine Below.alloc ?_ ?_ _) | (with_reducible refine Below.drew ?_) | (with_reducible refine bel_drewN ?_ _) | (with_reducible refine bel_grown ?_ (by assumption) ?_ ?_) | (with_reducible refine Below.setCell ?_ ?_ _) | go_size))) HM5.out.tab.good HN.out.1 hm8 HN.out.2.1 HN.out.2.2.1).mono ?_
          rintro e w6 ⟨⟨C6, cc6, rfl, hR6⟩, hb6⟩
          have HM6 := Lib.hid (((HM5.out.keep (by repeat' (first | (with_reducible exact Below.refl _ _) | (with_reducible assumption) | (with_reducible refine Later.step ?_ ?_ _) | (with_reducible refine Below.alloc ?_ ?_ _) | (with_reducible refine Below.drew ?_) | (with_reducible refine bel_drewN ?_ _) | (with_reducible refine bel_grown ?_ (by assumption) ?_ ?_) | (with_reducible refine Below.setCell ?_ ?_ _) | go_size))).keep hb6).rows hR6)
          clear hR6 hb6
          obtain ⟨o6_0, o6_1, o6_2, o6_3, o6_4, o6_5, o6_6, o6_7, o6_8, o6_9, o6_10, o6_11⟩ := opc_get HM6.out.op
          have ol6 := HM6.out.op.1
          have os6 := HM6.out.bel.size
          have hbw6 := HM6.out.bel
          obtain ⟨X6, rfl⟩ : ∃ Z : Later w.heap.size w, w6 = Z.w := ⟨⟨w6, hbw6⟩, rfl⟩
          clear hbw6
          go_wp2_with fail
          refine (tickets_to (M := N) (m := r) (HM6.out.tab.keep (by repeat' (first | (with_reducible exact Below.refl _ _) | (with_reducible assumption) | (with_reducible refine Later.step ?_ ?_ _) | (with_reducible refine Below.alloc ?_ ?_ _) | (with_reducible refine Below.drew ?_) | (with_reducible refine bel_drewN ?_ _) | (with_reducible refine bel_grown ?_ (by assumption) ?_ ?_) | (with_reducible refine Below.setCell ?_ ?_ _) | go_size))) HN.out.2.1 HN.out.2.2.1).mono ?_
          rintro e w7 ⟨C7, cc7, A7, c7', rfl, hR7, hG7, hto7⟩
          have HM7 := Lib.hid ((HM6.out.keep (by repeat' (first | (with_reducible exact Below.refl _ _) | (with_reducible assumption) | (with_reducible refine Later.step ?_ ?_ _) | (with_reducible refine Below.alloc ?_ ?_ _) | (with_reducible refine Below.drew ?_) | (with_reducible refine bel_drewN ?_ _) | (with_reducible refine bel_grown ?_ (by assumption) ?_ ?_) | (with_reducible refine Below.setCell ?_ ?_ _) | go_size))).to hG7 hto7)
          have HR7 := Lib.hid hR7
          clear hR7 hG7 hto7
          obtain ⟨o7_0, o7_1, o7_2, o7_3, o7_4, o7_5, o7_6, o7_7, o7_8, o7_9, o7_10, o7_11⟩ := opc_get HM7.out.op
          have ol7 := HM7.out.op.1
          have os7 := HM7.out.bel.size
          have hbw7 := HM7.out.bel
          obtain ⟨X7, rfl⟩ : ∃ Z : Later w.heap.size w, w7 = Z.w := ⟨⟨w7, hbw7⟩, rfl⟩
          clear hbw7
          go_wp2_with fail
          refine (same_to (n := r) HR7.out.1 HM7.out.row.1 HN.out.2.2.1 hr8).mono ?_
          rintro e w8 ⟨rfl, hb8⟩
          have HM8 := Lib.hid (HM7.out.keep hb8)
          clear hb8
          obtain ⟨o8_0, o8_1, o8_2, o8_3, o8_4, o8_5, o8_6, o8_7, o8_8, o8_9, o8_10, o8_11⟩ := opc_get HM8.out.op
          have ol8 := HM8.out.op.1
          have os8 := HM8.out.bel.size
          have hbw8 := HM8.out.bel
          obtain ⟨X8, rfl⟩ : ∃ Z : Later w.heap.size w, w8 = Z.w := ⟨⟨w8, hbw8⟩, rfl⟩
          clear hbw8
          go_wp2_with fail
          refine (tlen_to (m := r) (HM8.out.tab.keep (by repeat' (first | (with_reducible exact Below.refl _ _) | (with_reducible assumption) | (with_reducible refine Later.step ?_ ?_ _) | (with_reducible refine Below.alloc ?_ ?_ _) | (with_reducible refine Below.drew ?_) | (with_reducible refine bel_drewN ?_ _) | (with_reducible refine bel_grown ?_ (by assumption) ?_ ?_) | (with_reducible refine Below.setCell ?_ ?_ _) | go_size))) HN.out.2.2.2 HN.out.2.2.1).mono ?_
          rintro e w9 ⟨rfl, A9, c9', hG9, hto9⟩
          have HM9 := Lib.hid ((HM8.out.keep (by repeat' (first | (with_reducible exact Below.refl _ _) | (with_reducible assumption) | (with_reducible refine Later.step ?_ ?_ _) | (with_reducible refine Below.alloc ?_ ?_ _) | (with_reducible refine Below.drew ?_) | (with_reducible refine bel_drewN ?_ _) | (with_reducible refine bel_grown ?_ (by assumption) ?_ ?_) | (with_reducible refine Below.setCell ?_ ?_ _) | go_size))).to hG9 hto9)
          clear hG9 hto9
          obtain ⟨o9_0, o9_1, o9_2, o9_3, o9_4, o9_5, o9_6, o9_7, o9_8, o9_9, o9_10, o9_11⟩ := opc_get HM9.out.op
          have ol9 := HM9.out.op.1
          have os9 := HM9.out.bel.size
          have hbw9 := HM9.out.bel
          obtain ⟨X9, rfl⟩ : ∃ Z : Later w.heap.size w, w9 = Z.w := ⟨⟨w9, hbw9⟩, rfl⟩
          clear hbw9
          go_wp2_with fail
          go_roundw
          case rel => exact ⟨k + 1, r, _, C6, rfl, by go_num, by omega, by omega, hr8, by have := HM9.out.op.1; have := HM9.out.tab.tab.lt; omega, ⟨A9, c9', N, HM9.out.tab, HM9.out.row, HN.out.2.2.1⟩, HM9.out.bel⟩
          case measure => simp [intOf]; omega
        | false =>
          have HSM := Lib.hid (show (findT T1 x.fr).isSome = false from HD.out.2)
          have HN := Lib.hid (show T1.length = t1 ∧ leftT T1 x.now = T1 ∧ T1.length = t1 ∧ leftT T1 x.now = T1 from ⟨HF.out.2.1, HF.out.2.2.2.2.1, HF.out.2.1, HF.out.2.2.2.2.1⟩)
          go_wp2_with fail
          refine (derive_to (E := 21) (M := T1) (HM3.out.tab.keep (by repeat' (first | (with_reducible exact Below.refl _ _) | (with_reducible assumption) | (with_reducible refine Later.step ?_ ?_ _) | (with_reducible refine Below.alloc ?_ ?_ _) | (with_reducible refine Below.drew ?_) | (with_reducible refine bel_drewN ?_ _) | (with_reducible refine bel_grown ?_ (by assumption) ?_ ?_) | (with_reducible refine Below.setCell ?_ ?_ _) | go_size))) HU.out.1 HU.out.2 (by rw [HF.out.1]; unfold derE; rw [if_neg (by rw [HSM.out]; simp)]) (by rw [HF.out.1]; unfold derT; rw [if_neg (by rw [HSM.out]; simp)])).mono ?_
          rintro e w5 ⟨rfl, A5, c5', hG5, hto5⟩
          have HM5 := Lib.hid ((HM3.out.keep (by repeat' (first | (with_reducible exact Below.refl _ _) | (with_reducible assumption) | (with_reducible refine Later.step ?_ ?_ _) | (with_reducible refine Below.alloc ?_ ?_ _) | (with_reducible refine Below.drew ?_) | (with_reducible refine bel_drewN ?_ _) | (with_reducible refine bel_grown ?_ (by assumption) ?_ ?_) | (with_reducible refine Below.setCell ?_ ?_ _) | go_size))).to hG5 hto5)
          clear hG5 hto5
          obtain ⟨o5_0, o5_1, o5_2, o5_3, o5_4, o5_5, o5_6, o5_7, o5_8, o5_9, o5_10, o5_11⟩ := opc_get HM5.out.op
          have ol5 := HM5.out.op.1
          have os5 := HM5.out.bel.size
          have hbw5 := HM5.out.bel
          obtain ⟨X5, rfl⟩ : ∃ Z : Later w.heap.size w, w5 = Z.w := ⟨⟨w5, hbw5⟩, rfl⟩
          clear hbw5
          go_wp2_with fail
          refine (kleft_to (T := T1) (M := T1) (m := t1) (HM5.out.tab.keep (by repeat' (first | (with_reducible exact Below.refl _ _) | (with_reducible assumption) | (with_reducible refine Later.step ?_ ?_ _) | (with_reducible refine Below.alloc ?_ ?_ _) | (with_reducible refine Below.drew ?_) | (with_reducible refine bel_drewN ?_ _) | (with_reducible refine bel_grown ?_ (by assumption) ?_ ?_) | (with_reducible refine Below.setCell ?_ ?_ _) | go_size))) (HM5.out.row.keep (by repeat' (first | (with_reducible exact Below.refl _ _) | (with_reducible assumption) | (with_reducible refine Later.step ?_ ?_ _) | (with_reducible refine Below.alloc ?_ ?_ _) | (with_reducible refine Below.drew ?_) | (with_reducible refine bel_drewN ?_ _) | (with_reducible refine bel_grown ?_ (by assumption) ?_ ?_) | (with_reducible refine Below.setCell ?_ ?_ _) | go_size))) HM5.out.tab.good HN.out.1 ht18 HN.out.2.1 HN.out.2.2.1).mono ?_
          rintro e w6 ⟨⟨C6, cc6, rfl, hR6⟩, hb6⟩
          have HM6 := Lib.hid (((HM5.out.keep (by repeat' (first | (with_reducible exact Below.refl _ _) | (with_reducible assumption) | (with_reducible refine Later.step ?_ ?_ _) | (with_reducible refine Below.alloc ?_ ?_ _) | (with_reducible refine Below.drew ?_) | (with_reducible refine bel_drewN ?_ _) | (with_reducible refine bel_grown ?_ (by assumption) ?_ ?_) | (with_reducible refine Below.setCell ?_ ?_ _) | go_size))).keep hb6).rows hR6)
          clear hR6 hb6
          obtain ⟨o6_0, o6_1, o6_2, o6_3, o6_4, o6_5, o6_6, o6_7, o6_8, o6_9, o6_10, o6_11⟩ := opc_get HM6.out.op
          have ol6 := HM6.out.op.1
          have os6 := HM6.out.bel.size
          have hbw6 := HM6.out.bel
          obtain ⟨X6, rfl⟩ : ∃ Z : Later w.heap.size w, w6 = Z.w := ⟨⟨w6, hbw6⟩, rfl⟩
          clear hbw6
          go_wp2_with fail
          refine (tickets_to (M := T1) (m := t1) (HM6.out.tab.keep (by repeat' (first | (with_reducible exact Below.refl _ _) | (with_reducible assumption) | (with_reducible refine Later.step ?_ ?_ _) | (with_reducible refine Below.alloc ?_ ?_ _) | (with_reducible refine Below.drew ?_) | (with_reducible refine bel_drewN ?_ _) | (with_reducible refine bel_grown ?_ (by assumption) ?_ ?_) | (with_reducible refine Below.setCell ?_ ?_ _) | go_size))) HN.out.2.1 HN.out.2.2.1).mono ?_
          rintro e w7 ⟨C7, cc7, A7, c7', rfl, hR7, hG7, hto7⟩
          have HM7 := Lib.hid ((HM6.out.keep (by repeat' (first | (with_reducible exact Below.refl _ _) | (with_reducible assumption) | (with_reducible refine Later.step ?_ ?_ _) | (with_reducible refine Below.alloc ?_ ?_ _) | (with_reducible refine Below.drew ?_) | (with_reducible refine bel_drewN ?_ _) | (with_reducible refine bel_grown ?_ (by assumption) ?_ ?_) | (with_reducible refine Below.setCell ?_ ?_ _) | go_size))).to hG7 hto7)
          have HR7 := Lib.hid hR7
          clear hR7 hG7 hto7
          obtain ⟨o7_0, o7_1, o7_2, o7_3, o7_4, o7_5, o7_6, o7_7, o7_8, o7_9, o7_10, o7_11⟩ := opc_get HM7.out.op
          have ol7 := HM7.out.op.1
          have os7 := HM7.out.bel.size
          have hbw7 := HM7.out.bel
          obtain ⟨X7, rfl⟩ : ∃ Z : Later w.heap.size w, w7 = Z.w := ⟨⟨w7, hbw7⟩, rfl⟩
          clear hbw7
          go_wp2_with fail
          refine (same_to (n := t1) HR7.out.1 HM7.out.row.1 HN.out.2.2.1 ht18).mono ?_
          rintro e w8 ⟨rfl, hb8⟩
          have HM8 := Lib.hid (HM7.out.keep hb8)
          clear hb8
          obtain ⟨o8_0, o8_1, o8_2, o8_3, o8_4, o8_5, o8_6, o8_7, o8_8, o8_9, o8_10, o8_11⟩ := opc_get HM8.out.op
          have ol8 := HM8.out.op.1
          have os8 := HM8.out.bel.size
          have hbw8 := HM8.out.bel
          obtain ⟨X8, rfl⟩ : ∃ Z : Later w.heap.size w, w8 = Z.w := ⟨⟨w8, hbw8⟩, rfl⟩
          clear hbw8
          go_wp2_with fail
          refine (tlen_to (m := t1) (HM8.out.tab.keep (by repeat' (first | (with_reducible exact Below.refl _ _) | (with_reducible assumption) | (with_reducible refine Later.step ?_ ?_ _) | (with_reducible refine Below.alloc ?_ ?_ _) | (with_reducible refine Below.drew ?_) | (with_reducible refine bel_drewN ?_ _) | (with_reducible refine bel_grown ?_ (by assumption) ?_ ?_) | (with_reducible refine Below.setCell ?_ ?_ _) | go_size))) HN.out.2.2.2 HN.out.2.2.1).mono ?_
          rintro e w9 ⟨rfl, A9, c9', hG9, hto9⟩
          have HM9 := Lib.hid ((HM8.out.keep (by repeat' (first | (with_reducible exact Below.refl _ _) | (with_reducible assumption) | (with_reducible refine Later.step ?_ ?_ _) | (with_reducible refine Below.alloc ?_ ?_ _) | (with_reducible refine Below.drew ?_) | (with_reducible refine bel_drewN ?_ _) | (with_reducible refine bel_grown ?_ (by assumption) ?_ ?_) | (with_reducible refine Below.setCell ?_ ?_ _) | go_size))).to hG9 hto9)
          clear hG9 hto9
          obtain ⟨o9_0, o9_1, o9_2, o9_3, o9_4, o9_5, o9_6, o9_7, o9_8, o9_9, o9_10, o9_11⟩ := opc_get HM9.out.op
          have ol9 := HM9.out.op.1
          have os9 := HM9.out.bel.size
          have hbw9 := HM9.out.bel
          obtain ⟨X9, rfl⟩ : ∃ Z : Later w.heap.size w, w9 = Z.w := ⟨⟨w9, hbw9⟩, rfl⟩
          clear hbw9
          go_wp2_with fail
          go_roundw
          case rel => exact ⟨k + 1, t1, _, C6, rfl, by go_num, by omega, by omega, ht18, by have := HM9.out.op.1; have := HM9.out.tab.tab.lt; omega, ⟨A9, c9', T1, HM9.out.tab, HM9.out.row, HN.out.2.2.1⟩, HM9.out.bel⟩
          case measure => simp [intOf]; omega
      · have hk0 : (x.kind == 0) = false := by simp [hkd]
        have hk1 : (x.kind == 1) = false := by simp [hkd]
        have hk2 : (x.kind == 2) = true := by simp [hkd]
        clear hkd
        cases d with
        | true =>
          have HSM := Lib.hid (show (findT T1 x.fr).isSome = true from HD.out.2)
          obtain ⟨M, hM⟩ : ∃ M, withoutT T1 x.fr = M := ⟨_, rfl⟩
          obtain ⟨m, hm⟩ : ∃ m, M.length = m := ⟨_, rfl⟩
          obtain ⟨N, hN⟩ : ∃ N, leftT M x.now = N := ⟨_, rfl⟩
          obtain ⟨r, hr⟩ : ∃ r, N.length = r := ⟨_, rfl⟩
          have hgm : GoodT M := by rw [← hM]; exact without_good HF.out.2.2.2.1 _
          have hml : M.length ≤ 8 := by rw [← hM]; exact Nat.le_trans (without_len _ _) (by rw [HF.out.2.1]; exact ht18)
          have HE := Lib.hid hM
          clear hM
          have HN := Lib.hid (show M.length = m ∧ leftT M x.now = N ∧ N.length = r ∧ leftT N x.now = N from ⟨hm, hN, hr, by rw [← hN]; exact left_left hgm _⟩)
          have hm8 : m ≤ 8 := by rw [← hm]; exact hml
          have hr8 : r ≤ 8 := by rw [← hr, ← hN]; exact Nat.le_trans (left_len _ _) hml
          clear hm hN hr hgm hml
          go_wp2_with fail
          refine (revoke_to (E := 0) (M := M) (HM3.out.tab.keep (by repeat' (first | (with_reducible exact Below.refl _ _) | (with_reducible assumption) | (with_reducible refine Later.step ?_ ?_ _) | (with_reducible refine Below.alloc ?_ ?_ _) | (with_reducible refine Below.drew ?_) | (with_reducible refine bel_drewN ?_ _) | (with_reducible refine bel_grown ?_ (by assumption) ?_ ?_) | (with_reducible refine Below.setCell ?_ ?_ _) | go_size))) HU.out.1 (by rw [HF.out.1]; unfold revE; rw [if_pos HSM.out]) (by rw [HF.out.1]; unfold revT; rw [if_pos HSM.out]; exact HE.out)).mono ?_
          rintro e w4 ⟨rfl, A4, c4', hG4, hto4⟩
          have HM4 := Lib.hid ((HM3.out.keep (by repeat' (first | (with_reducible exact Below.refl _ _) | (with_reducible assumption) | (with_reducible refine Later.step ?_ ?_ _) | (with_reducible refine Below.alloc ?_ ?_ _) | (with_reducible refine Below.drew ?_) | (with_reducible refine bel_drewN ?_ _) | (with_reducible refine bel_grown ?_ (by assumption) ?_ ?_) | (with_reducible refine Below.setCell ?_ ?_ _) | go_size))).to hG4 hto4)
          clear hG4 hto4
          obtain ⟨o4_0, o4_1, o4_2, o4_3, o4_4, o4_5, o4_6, o4_7, o4_8, o4_9, o4_10, o4_11⟩ := opc_get HM4.out.op
          have ol4 := HM4.out.op.1
          have os4 := HM4.out.bel.size
          have hbw4 := HM4.out.bel
          obtain ⟨X4, rfl⟩ : ∃ Z : Later w.heap.size w, w4 = Z.w := ⟨⟨w4, hbw4⟩, rfl⟩
          clear hbw4
          go_wp2_with fail
          refine (kwithout_to (M := M) (m := m) HM4.out.tab HM4.out.row HF.out.2.1 ht18 HE.out HN.out.1).mono ?_
          rintro e w5 ⟨⟨C5, cc5, rfl, hR5⟩, hb5⟩
          have HM5 := Lib.hid ((HM4.out.keep hb5).rows hR5)
          clear hR5 hb5
          obtain ⟨o5_0, o5_1, o5_2, o5_3, o5_4, o5_5, o5_6, o5_7, o5_8, o5_9, o5_10, o5_11⟩ := opc_get HM5.out.op
          have ol5 := HM5.out.op.1
          have os5 := HM5.out.bel.size
          have hbw5 := HM5.out.bel
          obtain ⟨X5, rfl⟩ : ∃ Z : Later w.heap.size w, w5 = Z.w := ⟨⟨w5, hbw5⟩, rfl⟩
          clear hbw5
          go_wp2_with fail
          refine (kleft_to (T := M) (M := N) (m := r) (HM5.out.tab.keep (by repeat' (first | (with_reducible exact Below.refl _ _) | (with_reducible assumption) | (with_reducible refine Later.step ?_ ?_ _) | (with_reducible refine Below.alloc ?_ ?_ _) | (with_reducible refine Below.drew ?_) | (with_reducible refine bel_drewN ?_ _) | (with_reducible refine bel_grown ?_ (by assumption) ?_ ?_) | (with_reducible refine Below.setCell ?_ ?_ _) | go_size))) (HM5.out.row.keep (by repeat' (first | (with_reducible exact Below.refl _ _) | (with_reducible assumption) | (with_reducible refine Later.step ?_ ?_ _) | (with_reducible refine Below.alloc ?_ ?_ _) | (with_reducible refine Below.drew ?_) | (with_reducible refine bel_drewN ?_ _) | (with_reducible refine bel_grown ?_ (by assumption) ?_ ?_) | (with_reducible refine Below.setCell ?_ ?_ _) | go_size))) HM5.out.tab.good HN.out.1 hm8 HN.out.2.1 HN.out.2.2.1).mono ?_
          rintro e w6 ⟨⟨C6, cc6, rfl, hR6⟩, hb6⟩
          have HM6 := Lib.hid (((HM5.out.keep (by repeat' (first | (with_reducible exact Below.refl _ _) | (with_reducible assumption) | (with_reducible refine Later.step ?_ ?_ _) | (with_reducible refine Below.alloc ?_ ?_ _) | (with_reducible refine Below.drew ?_) | (with_reducible refine bel_drewN ?_ _) | (with_reducible refine bel_grown ?_ (by assumption) ?_ ?_) | (with_reducible refine Below.setCell ?_ ?_ _) | go_size))).keep hb6).rows hR6)
          clear hR6 hb6
          obtain ⟨o6_0, o6_1, o6_2, o6_3, o6_4, o6_5, o6_6, o6_7, o6_8, o6_9, o6_10, o6_11⟩ := opc_get HM6.out.op
          have ol6 := HM6.out.op.1
          have os6 := HM6.out.bel.size
          have hbw6 := HM6.out.bel
          obtain ⟨X6, rfl⟩ : ∃ Z : Later w.heap.size w, w6 = Z.w := ⟨⟨w6, hbw6⟩, rfl⟩
          clear hbw6
          go_wp2_with fail
          refine (tickets_to (M := N) (m := r) (HM6.out.tab.keep (by repeat' (first | (with_reducible exact Below.refl _ _) | (with_reducible assumption) | (with_reducible refine Later.step ?_ ?_ _) | (with_reducible refine Below.alloc ?_ ?_ _) | (with_reducible refine Below.drew ?_) | (with_reducible refine bel_drewN ?_ _) | (with_reducible refine bel_grown ?_ (by assumption) ?_ ?_) | (with_reducible refine Below.setCell ?_ ?_ _) | go_size))) HN.out.2.1 HN.out.2.2.1).mono ?_
          rintro e w7 ⟨C7, cc7, A7, c7', rfl, hR7, hG7, hto7⟩
          have HM7 := Lib.hid ((HM6.out.keep (by repeat' (first | (with_reducible exact Below.refl _ _) | (with_reducible assumption) | (with_reducible refine Later.step ?_ ?_ _) | (with_reducible refine Below.alloc ?_ ?_ _) | (with_reducible refine Below.drew ?_) | (with_reducible refine bel_drewN ?_ _) | (with_reducible refine bel_grown ?_ (by assumption) ?_ ?_) | (with_reducible refine Below.setCell ?_ ?_ _) | go_size))).to hG7 hto7)
          have HR7 := Lib.hid hR7
          clear hR7 hG7 hto7
          obtain ⟨o7_0, o7_1, o7_2, o7_3, o7_4, o7_5, o7_6, o7_7, o7_8, o7_9, o7_10, o7_11⟩ := opc_get HM7.out.op
          have ol7 := HM7.out.op.1
          have os7 := HM7.out.bel.size
          have hbw7 := HM7.out.bel
          obtain ⟨X7, rfl⟩ : ∃ Z : Later w.heap.size w, w7 = Z.w := ⟨⟨w7, hbw7⟩, rfl⟩
          clear hbw7
          go_wp2_with fail
          refine (same_to (n := r) HR7.out.1 HM7.out.row.1 HN.out.2.2.1 hr8).mono ?_
          rintro e w8 ⟨rfl, hb8⟩
          have HM8 := Lib.hid (HM7.out.keep hb8)
          clear hb8
          obtain ⟨o8_0, o8_1, o8_2, o8_3, o8_4, o8_5, o8_6, o8_7, o8_8, o8_9, o8_10, o8_11⟩ := opc_get HM8.out.op
          have ol8 := HM8.out.op.1
          have os8 := HM8.out.bel.size
          have hbw8 := HM8.out.bel
          obtain ⟨X8, rfl⟩ : ∃ Z : Later w.heap.size w, w8 = Z.w := ⟨⟨w8, hbw8⟩, rfl⟩
          clear hbw8
          go_wp2_with fail
          refine (tlen_to (m := r) (HM8.out.tab.keep (by repeat' (first | (with_reducible exact Below.refl _ _) | (with_reducible assumption) | (with_reducible refine Later.step ?_ ?_ _) | (with_reducible refine Below.alloc ?_ ?_ _) | (with_reducible refine Below.drew ?_) | (with_reducible refine bel_drewN ?_ _) | (with_reducible refine bel_grown ?_ (by assumption) ?_ ?_) | (with_reducible refine Below.setCell ?_ ?_ _) | go_size))) HN.out.2.2.2 HN.out.2.2.1).mono ?_
          rintro e w9 ⟨rfl, A9, c9', hG9, hto9⟩
          have HM9 := Lib.hid ((HM8.out.keep (by repeat' (first | (with_reducible exact Below.refl _ _) | (with_reducible assumption) | (with_reducible refine Later.step ?_ ?_ _) | (with_reducible refine Below.alloc ?_ ?_ _) | (with_reducible refine Below.drew ?_) | (with_reducible refine bel_drewN ?_ _) | (with_reducible refine bel_grown ?_ (by assumption) ?_ ?_) | (with_reducible refine Below.setCell ?_ ?_ _) | go_size))).to hG9 hto9)
          clear hG9 hto9
          obtain ⟨o9_0, o9_1, o9_2, o9_3, o9_4, o9_5, o9_6, o9_7, o9_8, o9_9, o9_10, o9_11⟩ := opc_get HM9.out.op
          have ol9 := HM9.out.op.1
          have os9 := HM9.out.bel.size
          have hbw9 := HM9.out.bel
          obtain ⟨X9, rfl⟩ : ∃ Z : Later w.heap.size w, w9 = Z.w := ⟨⟨w9, hbw9⟩, rfl⟩
          clear hbw9
          go_wp2_with fail
          go_roundw
          case rel => exact ⟨k + 1, r, _, C6, rfl, by go_num, by omega, by omega, hr8, by have := HM9.out.op.1; have := HM9.out.tab.tab.lt; omega, ⟨A9, c9', N, HM9.out.tab, HM9.out.row, HN.out.2.2.1⟩, HM9.out.bel⟩
          case measure => simp [intOf]; omega
        | false =>
          have HSM := Lib.hid (show (findT T1 x.fr).isSome = false from HD.out.2)
          have HN := Lib.hid (show T1.length = t1 ∧ leftT T1 x.now = T1 ∧ T1.length = t1 ∧ leftT T1 x.now = T1 from ⟨HF.out.2.1, HF.out.2.2.2.2.1, HF.out.2.1, HF.out.2.2.2.2.1⟩)
          go_wp2_with fail
          refine (revoke_to (E := 21) (M := T1) (HM3.out.tab.keep (by repeat' (first | (with_reducible exact Below.refl _ _) | (with_reducible assumption) | (with_reducible refine Later.step ?_ ?_ _) | (with_reducible refine Below.alloc ?_ ?_ _) | (with_reducible refine Below.drew ?_) | (with_reducible refine bel_drewN ?_ _) | (with_reducible refine bel_grown ?_ (by assumption) ?_ ?_) | (with_reducible refine Below.setCell ?_ ?_ _) | go_size))) HU.out.1 (by rw [HF.out.1]; unfold revE; rw [if_neg (by rw [HSM.out]; simp)]) (by rw [HF.out.1]; unfold revT; rw [if_neg (by rw [HSM.out]; simp)])).mono ?_
          rintro e w5 ⟨rfl, A5, c5', hG5, hto5⟩
          have HM5 := Lib.hid ((HM3.out.keep (by repeat' (first | (with_reducible exact Below.refl _ _) | (with_reducible assumption) | (with_reducible refine Later.step ?_ ?_ _) | (with_reducible refine Below.alloc ?_ ?_ _) | (with_reducible refine Below.drew ?_) | (with_reducible refine bel_drewN ?_ _) | (with_reducible refine bel_grown ?_ (by assumption) ?_ ?_) | (with_reducible refine Below.setCell ?_ ?_ _) | go_size))).to hG5 hto5)
          clear hG5 hto5
          obtain ⟨o5_0, o5_1, o5_2, o5_3, o5_4, o5_5, o5_6, o5_7, o5_8, o5_9, o5_10, o5_11⟩ := opc_get HM5.out.op
          have ol5 := HM5.out.op.1
          have os5 := HM5.out.bel.size
          have hbw5 := HM5.out.bel
          obtain ⟨X5, rfl⟩ : ∃ Z : Later w.heap.size w, w5 = Z.w := ⟨⟨w5, hbw5⟩, rfl⟩
          clear hbw5
          go_wp2_with fail
          refine (kleft_to (T := T1) (M := T1) (m := t1) (HM5.out.tab.keep (by repeat' (first | (with_reducible exact Below.refl _ _) | (with_reducible assumption) | (with_reducible refine Later.step ?_ ?_ _) | (with_reducible refine Below.alloc ?_ ?_ _) | (with_reducible refine Below.drew ?_) | (with_reducible refine bel_drewN ?_ _) | (with_reducible refine bel_grown ?_ (by assumption) ?_ ?_) | (with_reducible refine Below.setCell ?_ ?_ _) | go_size))) (HM5.out.row.keep (by repeat' (first | (with_reducible exact Below.refl _ _) | (with_reducible assumption) | (with_reducible refine Later.step ?_ ?_ _) | (with_reducible refine Below.alloc ?_ ?_ _) | (with_reducible refine Below.drew ?_) | (with_reducible refine bel_drewN ?_ _) | (with_reducible refine bel_grown ?_ (by assumption) ?_ ?_) | (with_reducible refine Below.setCell ?_ ?_ _) | go_size))) HM5.out.tab.good HN.out.1 ht18 HN.out.2.1 HN.out.2.2.1).mono ?_
          rintro e w6 ⟨⟨C6, cc6, rfl, hR6⟩, hb6⟩
          have HM6 := Lib.hid (((HM5.out.keep (by repeat' (first | (with_reducible exact Below.refl _ _) | (with_reducible assumption) | (with_reducible refine Later.step ?_ ?_ _) | (with_reducible refine Below.alloc ?_ ?_ _) | (with_reducible refine Below.drew ?_) | (with_reducible refine bel_drewN ?_ _) | (with_reducible refine bel_grown ?_ (by assumption) ?_ ?_) | (with_reducible refine Below.setCell ?_ ?_ _) | go_size))).keep hb6).rows hR6)
          clear hR6 hb6
          obtain ⟨o6_0, o6_1, o6_2, o6_3, o6_4, o6_5, o6_6, o6_7, o6_8, o6_9, o6_10, o6_11⟩ := opc_get HM6.out.op
          have ol6 := HM6.out.op.1
          have os6 := HM6.out.bel.size
          have hbw6 := HM6.out.bel
          obtain ⟨X6, rfl⟩ : ∃ Z : Later w.heap.size w, w6 = Z.w := ⟨⟨w6, hbw6⟩, rfl⟩
          clear hbw6
          go_wp2_with fail
          refine (tickets_to (M := T1) (m := t1) (HM6.out.tab.keep (by repeat' (first | (with_reducible exact Below.refl _ _) | (with_reducible assumption) | (with_reducible refine Later.step ?_ ?_ _) | (with_reducible refine Below.alloc ?_ ?_ _) | (with_reducible refine Below.drew ?_) | (with_reducible refine bel_drewN ?_ _) | (with_reducible refine bel_grown ?_ (by assumption) ?_ ?_) | (with_reducible refine Below.setCell ?_ ?_ _) | go_size))) HN.out.2.1 HN.out.2.2.1).mono ?_
          rintro e w7 ⟨C7, cc7, A7, c7', rfl, hR7, hG7, hto7⟩
          have HM7 := Lib.hid ((HM6.out.keep (by repeat' (first | (with_reducible exact Below.refl _ _) | (with_reducible assumption) | (with_reducible refine Later.step ?_ ?_ _) | (with_reducible refine Below.alloc ?_ ?_ _) | (with_reducible refine Below.drew ?_) | (with_reducible refine bel_drewN ?_ _) | (with_reducible refine bel_grown ?_ (by assumption) ?_ ?_) | (with_reducible refine Below.setCell ?_ ?_ _) | go_size))).to hG7 hto7)
          have HR7 := Lib.hid hR7
          clear hR7 hG7 hto7
          obtain ⟨o7_0, o7_1, o7_2, o7_3, o7_4, o7_5, o7_6, o7_7, o7_8, o7_9, o7_10, o7_11⟩ := opc_get HM7.out.op
          have ol7 := HM7.out.op.1
          have os7 := HM7.out.bel.size
          have hbw7 := HM7.out.bel
          obtain ⟨X7, rfl⟩ : ∃ Z : Later w.heap.size w, w7 = Z.w := ⟨⟨w7, hbw7⟩, rfl⟩
          clear hbw7
          go_wp2_with fail
          refine (same_to (n := t1) HR7.out.1 HM7.out.row.1 HN.out.2.2.1 ht18).mono ?_
          rintro e w8 ⟨rfl, hb8⟩
          have HM8 := Lib.hid (HM7.out.keep hb8)
          clear hb8
          obtain ⟨o8_0, o8_1, o8_2, o8_3, o8_4, o8_5, o8_6, o8_7, o8_8, o8_9, o8_10, o8_11⟩ := opc_get HM8.out.op
          have ol8 := HM8.out.op.1
          have os8 := HM8.out.bel.size
          have hbw8 := HM8.out.bel
          obtain ⟨X8, rfl⟩ : ∃ Z : Later w.heap.size w, w8 = Z.w := ⟨⟨w8, hbw8⟩, rfl⟩
          clear hbw8
          go_wp2_with fail
          refine (tlen_to (m := t1) (HM8.out.tab.keep (by repeat' (first | (with_reducible exact Below.refl _ _) | (with_reducible assumption) | (with_reducible refine Later.step ?_ ?_ _) | (with_reducible refine Below.alloc ?_ ?_ _) | (with_reducible refine Below.drew ?_) | (with_reducible refine bel_drewN ?_ _) | (with_reducible refine bel_grown ?_ (by assumption) ?_ ?_) | (with_reducible refine Below.setCell ?_ ?_ _) | go_size))) HN.out.2.2.2 HN.out.2.2.1).mono ?_
          rintro e w9 ⟨rfl, A9, c9', hG9, hto9⟩
          have HM9 := Lib.hid ((HM8.out.keep (by repeat' (first | (with_reducible exact Below.refl _ _) | (with_reducible assumption) | (with_reducible refine Later.step ?_ ?_ _) | (with_reducible refine Below.alloc ?_ ?_ _) | (with_reducible refine Below.drew ?_) | (with_reducible refine bel_drewN ?_ _) | (with_reducible refine bel_grown ?_ (by assumption) ?_ ?_) | (with_reducible refine Below.setCell ?_ ?_ _) | go_size))).to hG9 hto9)
          clear hG9 hto9
          obtain ⟨o9_0, o9_1, o9_2, o9_3, o9_4, o9_5, o9_6, o9_7, o9_8, o9_9, o9_10, o9_11⟩ := opc_get HM9.out.op
          have ol9 := HM9.out.op.1
          have os9 := HM9.out.bel.size
          have hbw9 := HM9.out.bel
          obtain ⟨X9, rfl⟩ : ∃ Z : Later w.heap.size w, w9 = Z.w := ⟨⟨w9, hbw9⟩, rfl⟩
          clear hbw9
          go_wp2_with fail
          go_roundw
          case rel => exact ⟨k + 1, t1, _, C6, rfl, by go_num, by omega, by omega, ht18, by have := HM9.out.op.1; have := HM9.out.tab.tab.lt; omega, ⟨A9, c9', T1, HM9.out.tab, HM9.out.row, HN.out.2.2.1⟩, HM9.out.bel⟩
          case measure => simp [intOf]; omega
      · have hk0' : (x.kind == 0) = false := by rw [beq_eq_false_iff_ne]; exact hk0
        have hk1' : (x.kind == 1) = false := by rw [beq_eq_false_iff_ne]; exact hk1
        have hk2' : (x.kind == 2) = false := by rw [beq_eq_false_iff_ne]; exact hk2
        clear hk0 hk1 hk2
        cases d with
        | true =>
          have HSM := Lib.hid (show (findT T1 x.fr).isSome = true from HD.out.2)
          have hfs : findT T1 x.fr = some f := by
            obtain ⟨y, hy⟩ := Option.isSome_iff_exists.1 HSM.out
            have h9 := HD.out.1
            unfold fndT at h9
            rw [hy] at h9 ⊢
            exact congrArg some h9
          have hrf := (HF.out.2.2.2.1.mem f (find_mem hfs).1).2.2
          obtain ⟨G, hGf⟩ : ∃ G, grantsT T1 f = G := ⟨_, rfl⟩
          have HE := Lib.hid (show findT T1 x.fr = some f ∧ grantsT T1 f = G ∧ rightG f.g = true from ⟨hfs, hGf, hrf⟩)
          clear hfs hrf hGf
          have HN := Lib.hid (show T1.length = t1 ∧ leftT T1 x.now = T1 ∧ T1.length = t1 ∧ leftT T1 x.now = T1 from ⟨HF.out.2.1, HF.out.2.2.2.2.1, HF.out.2.1, HF.out.2.2.2.2.1⟩)
          have hkn : CellsAt (X3.w.alloc (Obj.cells #[.int .u64 (f.s : Nat), .int .u64 (f.p : Nat), .int .i64 f.g.ops, .int .i64 f.g.zoom, .int .i64 f.g.a, .int .i64 f.g.b, .int .i64 f.g.c, .int .i64 f.g.d, .bool f.g.void, .int .i64 f.g.til] 35)) X3.w.heap.size 10 (tkC f) := tkc_new rfl
          have hkf : Far w.heap.size A' X3.w.heap.size := HM3.out.tab.tab.far (Nat.le_refl _)
          go_wp2_with fail
          refine (live_to (G := G) (d := true) (M := T1) (HM3.out.tab.keep (by repeat' (first | (with_reducible exact Below.refl _ _) | (with_reducible assumption) | (with_reducible refine Later.step ?_ ?_ _) | (with_reducible refine Below.alloc ?_ ?_ _) | (with_reducible refine Below.drew ?_) | (with_reducible refine bel_drewN ?_ _) | (with_reducible refine bel_grown ?_ (by assumption) ?_ ?_) | (with_reducible refine Below.setCell ?_ ?_ _) | go_size))) HU.out.1 (by rw [HF.out.1]; unfold liveG; rw [HE.out.1]; exact HE.out.2.1) (by rw [HF.out.1]; exact HSM.out) HF.out.1).mono ?_
          rintro e w4 ⟨rfl, A4, c4', hG4, hto4⟩
          have HM4 := Lib.hid ((HM3.out.keep (by repeat' (first | (with_reducible exact Below.refl _ _) | (with_reducible assumption) | (with_reducible refine Later.step ?_ ?_ _) | (with_reducible refine Below.alloc ?_ ?_ _) | (with_reducible refine Below.drew ?_) | (with_reducible refine bel_drewN ?_ _) | (with_reducible refine bel_grown ?_ (by assumption) ?_ ?_) | (with_reducible refine Below.setCell ?_ ?_ _) | go_size))).to hG4 hto4)
          have hk4 := hkn.to hto4 hkf
          obtain ⟨k0, k1, k2, k3, k4, k5, k6, k7, k8, k9⟩ := tkc_get hk4
          have kl4 := hk4.1
          clear hG4 hto4 hkn hkf hk4
          obtain ⟨o4_0, o4_1, o4_2, o4_3, o4_4, o4_5, o4_6, o4_7, o4_8, o4_9, o4_10, o4_11⟩ := opc_get HM4.out.op
          have ol4 := HM4.out.op.1
          have os4 := HM4.out.bel.size
          have hbw4 := HM4.out.bel
          obtain ⟨X4, rfl⟩ : ∃ Z : Later w.heap.size w, w4 = Z.w := ⟨⟨w4, hbw4⟩, rfl⟩
          clear hbw4
          have P5 := Lib.hid (fun (Y : World) (hY : Below X4.w.heap.size X4.w Y) => kgrants_any t1 cc2 C2 T1 f Y (((HM4.out.keep hY).row.1)) HF.out.2.1 (by omega) HF.out.2.2.2.1 HE.out.2.2)
          have HG5 := HE.out.2.1
          rw [HG5] at P5
          clear HG5
          go_wp2_with fail
          refine (P5.out _ (by repeat' (first | (with_reducible exact Below.refl _ _) | (with_reducible assumption) | (with_reducible refine Later.step ?_ ?_ _) | (with_reducible refine Below.alloc ?_ ?_ _) | (with_reducible refine Below.drew ?_) | (with_reducible refine bel_drewN ?_ _) | (with_reducible refine bel_grown ?_ (by assumption) ?_ ?_) | (with_reducible refine Below.setCell ?_ ?_ _) | go_size))).mono ?_
          rintro e w5 ⟨rfl, hb5⟩
          obtain ⟨X5', rfl, hl5', hm5'⟩ := later _ hb5 (Nat.le_refl _)
          have HM5 := HM4
          go_wp2_with fail
          refine (kleft_to (T := T1) (M := T1) (m := t1) (HM5.out.tab.keep (by repeat' (first | (with_reducible exact Below.refl _ _) | (with_reducible assumption) | (with_reducible refine Later.step ?_ ?_ _) | (with_reducible refine Below.alloc ?_ ?_ _) | (with_reducible refine Below.drew ?_) | (with_reducible refine bel_drewN ?_ _) | (with_reducible refine bel_grown ?_ (by assumption) ?_ ?_) | (with_reducible refine Below.setCell ?_ ?_ _) | go_size))) (HM5.out.row.keep (by repeat' (first | (with_reducible exact Below.refl _ _) | (with_reducible assumption) | (with_reducible refine Later.step ?_ ?_ _) | (with_reducible refine Below.alloc ?_ ?_ _) | (with_reducible refine Below.drew ?_) | (with_reducible refine bel_drewN ?_ _) | (with_reducible refine bel_grown ?_ (by assumption) ?_ ?_) | (with_reducible refine Below.setCell ?_ ?_ _) | go_size))) HM5.out.tab.good HN.out.1 ht18 HN.out.2.1 HN.out.2.2.1).mono ?_
          rintro e w6 ⟨⟨C6, cc6, rfl, hR6⟩, hb6⟩
          have HM6 := Lib.hid (((HM5.out.keep (by repeat' (first | (with_reducible exact Below.refl _ _) | (with_reducible assumption) | (with_reducible refine Later.step ?_ ?_ _) | (with_reducible refine Below.alloc ?_ ?_ _) | (with_reducible refine Below.drew ?_) | (with_reducible refine bel_drewN ?_ _) | (with_reducible refine bel_grown ?_ (by assumption) ?_ ?_) | (with_reducible refine Below.setCell ?_ ?_ _) | go_size))).keep hb6).rows hR6)
          clear hR6 hb6
          obtain ⟨o6_0, o6_1, o6_2, o6_3, o6_4, o6_5, o6_6, o6_7, o6_8, o6_9, o6_10, o6_11⟩ := opc_get HM6.out.op
          have ol6 := HM6.out.op.1
          have os6 := HM6.out.bel.size
          have hbw6 := HM6.out.bel
          obtain ⟨X6, rfl⟩ : ∃ Z : Later w.heap.size w, w6 = Z.w := ⟨⟨w6, hbw6⟩, rfl⟩
          clear hbw6
          go_wp2_with fail
          refine (tickets_to (M := T1) (m := t1) (HM6.out.tab.keep (by repeat' (first | (with_reducible exact Below.refl _ _) | (with_reducible assumption) | (with_reducible refine Later.step ?_ ?_ _) | (with_reducible refine Below.alloc ?_ ?_ _) | (with_reducible refine Below.drew ?_) | (with_reducible refine bel_drewN ?_ _) | (with_reducible refine bel_grown ?_ (by assumption) ?_ ?_) | (with_reducible refine Below.setCell ?_ ?_ _) | go_size))) HN.out.2.1 HN.out.2.2.1).mono ?_
          rintro e w7 ⟨C7, cc7, A7, c7', rfl, hR7, hG7, hto7⟩
          have HM7 := Lib.hid ((HM6.out.keep (by repeat' (first | (with_reducible exact Below.refl _ _) | (with_reducible assumption) | (with_reducible refine Later.step ?_ ?_ _) | (with_reducible refine Below.alloc ?_ ?_ _) | (with_reducible refine Below.drew ?_) | (with_reducible refine bel_drewN ?_ _) | (with_reducible refine bel_grown ?_ (by assumption) ?_ ?_) | (with_reducible refine Below.setCell ?_ ?_ _) | go_size))).to hG7 hto7)
          have HR7 := Lib.hid hR7
          clear hR7 hG7 hto7
          obtain ⟨o7_0, o7_1, o7_2, o7_3, o7_4, o7_5, o7_6, o7_7, o7_8, o7_9, o7_10, o7_11⟩ := opc_get HM7.out.op
          have ol7 := HM7.out.op.1
          have os7 := HM7.out.bel.size
          have hbw7 := HM7.out.bel
          obtain ⟨X7, rfl⟩ : ∃ Z : Later w.heap.size w, w7 = Z.w := ⟨⟨w7, hbw7⟩, rfl⟩
          clear hbw7
          go_wp2_with fail
          refine (same_to (n := t1) HR7.out.1 HM7.out.row.1 HN.out.2.2.1 ht18).mono ?_
          rintro e w8 ⟨rfl, hb8⟩
          have HM8 := Lib.hid (HM7.out.keep hb8)
          clear hb8
          obtain ⟨o8_0, o8_1, o8_2, o8_3, o8_4, o8_5, o8_6, o8_7, o8_8, o8_9, o8_10, o8_11⟩ := opc_get HM8.out.op
          have ol8 := HM8.out.op.1
          have os8 := HM8.out.bel.size
          have hbw8 := HM8.out.bel
          obtain ⟨X8, rfl⟩ : ∃ Z : Later w.heap.size w, w8 = Z.w := ⟨⟨w8, hbw8⟩, rfl⟩
          clear hbw8
          go_wp2_with fail
          refine (tlen_to (m := t1) (HM8.out.tab.keep (by repeat' (first | (with_reducible exact Below.refl _ _) | (with_reducible assumption) | (with_reducible refine Later.step ?_ ?_ _) | (with_reducible refine Below.alloc ?_ ?_ _) | (with_reducible refine Below.drew ?_) | (with_reducible refine bel_drewN ?_ _) | (with_reducible refine bel_grown ?_ (by assumption) ?_ ?_) | (with_reducible refine Below.setCell ?_ ?_ _) | go_size))) HN.out.2.2.2 HN.out.2.2.1).mono ?_
          rintro e w9 ⟨rfl, A9, c9', hG9, hto9⟩
          have HM9 := Lib.hid ((HM8.out.keep (by repeat' (first | (with_reducible exact Below.refl _ _) | (with_reducible assumption) | (with_reducible refine Later.step ?_ ?_ _) | (with_reducible refine Below.alloc ?_ ?_ _) | (with_reducible refine Below.drew ?_) | (with_reducible refine bel_drewN ?_ _) | (with_reducible refine bel_grown ?_ (by assumption) ?_ ?_) | (with_reducible refine Below.setCell ?_ ?_ _) | go_size))).to hG9 hto9)
          clear hG9 hto9
          obtain ⟨o9_0, o9_1, o9_2, o9_3, o9_4, o9_5, o9_6, o9_7, o9_8, o9_9, o9_10, o9_11⟩ := opc_get HM9.out.op
          have ol9 := HM9.out.op.1
          have os9 := HM9.out.bel.size
          have hbw9 := HM9.out.bel
          obtain ⟨X9, rfl⟩ : ∃ Z : Later w.heap.size w, w9 = Z.w := ⟨⟨w9, hbw9⟩, rfl⟩
          clear hbw9
          go_wp2_with fail
          go_roundw
          case rel => exact ⟨k + 1, t1, _, C6, rfl, by go_num, by omega, by omega, ht18, by have := HM9.out.op.1; have := HM9.out.tab.tab.lt; omega, ⟨A9, c9', T1, HM9.out.tab, HM9.out.row, HN.out.2.2.1⟩, HM9.out.bel⟩
          case measure => simp [intOf]; omega
        | false =>
          have HSM := Lib.hid (show (findT T1 x.fr).isSome = false from HD.out.2)
          have HN := Lib.hid (show T1.length = t1 ∧ leftT T1 x.now = T1 ∧ T1.length = t1 ∧ leftT T1 x.now = T1 from ⟨HF.out.2.1, HF.out.2.2.2.2.1, HF.out.2.1, HF.out.2.2.2.2.1⟩)
          go_wp2_with fail
          refine (live_to0 (M := T1) (HM3.out.tab.keep (by repeat' (first | (with_reducible exact Below.refl _ _) | (with_reducible assumption) | (with_reducible refine Later.step ?_ ?_ _) | (with_reducible refine Below.alloc ?_ ?_ _) | (with_reducible refine Below.drew ?_) | (with_reducible refine bel_drewN ?_ _) | (with_reducible refine bel_grown ?_ (by assumption) ?_ ?_) | (with_reducible refine Below.setCell ?_ ?_ _) | go_size))) HU.out.1 (by rw [HF.out.1]; unfold liveG; rw [Option.not_isSome_iff_eq_none.1 (show ¬ (findT T1 x.fr).isSome = true by rw [HSM.out]; simp)]) (by rw [HF.out.1]; exact HSM.out) HF.out.1).mono ?_
          rintro e w5 ⟨rfl, A5, c5', hG5, hto5⟩
          have HM5 := Lib.hid ((HM3.out.keep (by repeat' (first | (with_reducible exact Below.refl _ _) | (with_reducible assumption) | (with_reducible refine Later.step ?_ ?_ _) | (with_reducible refine Below.alloc ?_ ?_ _) | (with_reducible refine Below.drew ?_) | (with_reducible refine bel_drewN ?_ _) | (with_reducible refine bel_grown ?_ (by assumption) ?_ ?_) | (with_reducible refine Below.setCell ?_ ?_ _) | go_size))).to hG5 hto5)
          clear hG5 hto5
          obtain ⟨o5_0, o5_1, o5_2, o5_3, o5_4, o5_5, o5_6, o5_7, o5_8, o5_9, o5_10, o5_11⟩ := opc_get HM5.out.op
          have ol5 := HM5.out.op.1
          have os5 := HM5.out.bel.size
          have hbw5 := HM5.out.bel
          obtain ⟨X5, rfl⟩ : ∃ Z : Later w.heap.size w, w5 = Z.w := ⟨⟨w5, hbw5⟩, rfl⟩
          clear hbw5
          go_wp2_with fail
          refine (kleft_to (T := T1) (M := T1) (m := t1) (HM5.out.tab.keep (by repeat' (first | (with_reducible exact Below.refl _ _) | (with_reducible assumption) | (with_reducible refine Later.step ?_ ?_ _) | (with_reducible refine Below.alloc ?_ ?_ _) | (with_reducible refine Below.drew ?_) | (with_reducible refine bel_drewN ?_ _) | (with_reducible refine bel_grown ?_ (by assumption) ?_ ?_) | (with_reducible refine Below.setCell ?_ ?_ _) | go_size))) (HM5.out.row.keep (by repeat' (first | (with_reducible exact Below.refl _ _) | (with_reducible assumption) | (with_reducible refine Later.step ?_ ?_ _) | (with_reducible refine Below.alloc ?_ ?_ _) | (with_reducible refine Below.drew ?_) | (with_reducible refine bel_drewN ?_ _) | (with_reducible refine bel_grown ?_ (by assumption) ?_ ?_) | (with_reducible refine Below.setCell ?_ ?_ _) | go_size))) HM5.out.tab.good HN.out.1 ht18 HN.out.2.1 HN.out.2.2.1).mono ?_
          rintro e w6 ⟨⟨C6, cc6, rfl, hR6⟩, hb6⟩
          have HM6 := Lib.hid (((HM5.out.keep (by repeat' (first | (with_reducible exact Below.refl _ _) | (with_reducible assumption) | (with_reducible refine Later.step ?_ ?_ _) | (with_reducible refine Below.alloc ?_ ?_ _) | (with_reducible refine Below.drew ?_) | (with_reducible refine bel_drewN ?_ _) | (with_reducible refine bel_grown ?_ (by assumption) ?_ ?_) | (with_reducible refine Below.setCell ?_ ?_ _) | go_size))).keep hb6).rows hR6)
          clear hR6 hb6
          obtain ⟨o6_0, o6_1, o6_2, o6_3, o6_4, o6_5, o6_6, o6_7, o6_8, o6_9, o6_10, o6_11⟩ := opc_get HM6.out.op
          have ol6 := HM6.out.op.1
          have os6 := HM6.out.bel.size
          have hbw6 := HM6.out.bel
          obtain ⟨X6, rfl⟩ : ∃ Z : Later w.heap.size w, w6 = Z.w := ⟨⟨w6, hbw6⟩, rfl⟩
          clear hbw6
          go_wp2_with fail
          refine (tickets_to (M := T1) (m := t1) (HM6.out.tab.keep (by repeat' (first | (with_reducible exact Below.refl _ _) | (with_reducible assumption) | (with_reducible refine Later.step ?_ ?_ _) | (with_reducible refine Below.alloc ?_ ?_ _) | (with_reducible refine Below.drew ?_) | (with_reducible refine bel_drewN ?_ _) | (with_reducible refine bel_grown ?_ (by assumption) ?_ ?_) | (with_reducible refine Below.setCell ?_ ?_ _) | go_size))) HN.out.2.1 HN.out.2.2.1).mono ?_
          rintro e w7 ⟨C7, cc7, A7, c7', rfl, hR7, hG7, hto7⟩
          have HM7 := Lib.hid ((HM6.out.keep (by repeat' (first | (with_reducible exact Below.refl _ _) | (with_reducible assumption) | (with_reducible refine Later.step ?_ ?_ _) | (with_reducible refine Below.alloc ?_ ?_ _) | (with_reducible refine Below.drew ?_) | (with_reducible refine bel_drewN ?_ _) | (with_reducible refine bel_grown ?_ (by assumption) ?_ ?_) | (with_reducible refine Below.setCell ?_ ?_ _) | go_size))).to hG7 hto7)
          have HR7 := Lib.hid hR7
          clear hR7 hG7 hto7
          obtain ⟨o7_0, o7_1, o7_2, o7_3, o7_4, o7_5, o7_6, o7_7, o7_8, o7_9, o7_10, o7_11⟩ := opc_get HM7.out.op
          have ol7 := HM7.out.op.1
          have os7 := HM7.out.bel.size
          have hbw7 := HM7.out.bel
          obtain ⟨X7, rfl⟩ : ∃ Z : Later w.heap.size w, w7 = Z.w := ⟨⟨w7, hbw7⟩, rfl⟩
          clear hbw7
          go_wp2_with fail
          refine (same_to (n := t1) HR7.out.1 HM7.out.row.1 HN.out.2.2.1 ht18).mono ?_
          rintro e w8 ⟨rfl, hb8⟩
          have HM8 := Lib.hid (HM7.out.keep hb8)
          clear hb8
          obtain ⟨o8_0, o8_1, o8_2, o8_3, o8_4, o8_5, o8_6, o8_7, o8_8, o8_9, o8_10, o8_11⟩ := opc_get HM8.out.op
          have ol8 := HM8.out.op.1
          have os8 := HM8.out.bel.size
          have hbw8 := HM8.out.bel
          obtain ⟨X8, rfl⟩ : ∃ Z : Later w.heap.size w, w8 = Z.w := ⟨⟨w8, hbw8⟩, rfl⟩
          clear hbw8
          go_wp2_with fail
          refine (tlen_to (m := t1) (HM8.out.tab.keep (by repeat' (first | (with_reducible exact Below.refl _ _) | (with_reducible assumption) | (with_reducible refine Later.step ?_ ?_ _) | (with_reducible refine Below.alloc ?_ ?_ _) | (with_reducible refine Below.drew ?_) | (with_reducible refine bel_drewN ?_ _) | (with_reducible refine bel_grown ?_ (by assumption) ?_ ?_) | (with_reducible refine Below.setCell ?_ ?_ _) | go_size))) HN.out.2.2.2 HN.out.2.2.1).mono ?_
          rintro e w9 ⟨rfl, A9, c9', hG9, hto9⟩
          have HM9 := Lib.hid ((HM8.out.keep (by repeat' (first | (with_reducible exact Below.refl _ _) | (with_reducible assumption) | (with_reducible refine Later.step ?_ ?_ _) | (with_reducible refine Below.alloc ?_ ?_ _) | (with_reducible refine Below.drew ?_) | (with_reducible refine bel_drewN ?_ _) | (with_reducible refine bel_grown ?_ (by assumption) ?_ ?_) | (with_reducible refine Below.setCell ?_ ?_ _) | go_size))).to hG9 hto9)
          clear hG9 hto9
          obtain ⟨o9_0, o9_1, o9_2, o9_3, o9_4, o9_5, o9_6, o9_7, o9_8, o9_9, o9_10, o9_11⟩ := opc_get HM9.out.op
          have ol9 := HM9.out.op.1
          have os9 := HM9.out.bel.size
          have hbw9 := HM9.out.bel
          obtain ⟨X9, rfl⟩ : ∃ Z : Later w.heap.size w, w9 = Z.w := ⟨⟨w9, hbw9⟩, rfl⟩
          clear hbw9
          go_wp2_with fail
          go_roundw
          case rel => exact ⟨k + 1, t1, _, C6, rfl, by go_num, by omega, by omega, ht18, by have := HM9.out.op.1; have := HM9.out.tab.tab.lt; omega, ⟨A9, c9', T1, HM9.out.tab, HM9.out.row, HN.out.2.2.1⟩, HM9.out.bel⟩
          case measure => simp [intOf]; omega
    · have hcase : k = n ∨ (k < n ∧ k = 60) := by omega
      rcases hcase with hcase | hcase
      · obtain rfl : k = n := hcase
        clear hlt
        go_wp2_with (first | (go_at_call 23; refine (PK.out _).mono ?_; rintro e w' ⟨rfl, hb⟩; obtain ⟨X9, rfl, hl9, hm9⟩ := later _ hb (Nat.le_refl _); clear hb; (try simp only [World.size_alloc, World.size_setCell, World.size_drew] at hm9 hl9)))
        go_ret
        exact ⟨rfl, by repeat' (first | (with_reducible exact Below.refl _ _) | (with_reducible assumption) | (with_reducible refine Later.step ?_ ?_ _) | (with_reducible refine Below.alloc ?_ ?_ _) | (with_reducible refine Below.drew ?_) | (with_reducible refine bel_drewN ?_ _) | (with_reducible refine bel_grown ?_ (by assumption) ?_ ?_) | (with_reducible refine Below.setCell ?_ ?_ _) | go_size)⟩
      · obtain ⟨hkn, rfl⟩ := hcase
        clear hlt
        go_wp2_with (first | (go_at_call 23; refine (PK.out _).mono ?_; rintro e w' ⟨rfl, hb⟩; obtain ⟨X9, rfl, hl9, hm9⟩ := later _ hb (Nat.le_refl _); clear hb; (try simp only [World.size_alloc, World.size_setCell, World.size_drew] at hm9 hl9)))
        go_ret
        exact ⟨rfl, by repeat' (first | (with_reducible exact Below.refl _ _) | (with_reducible assumption) | (with_reducible refine Later.step ?_ ?_ _) | (with_reducible refine Below.alloc ?_ ?_ _) | (with_reducible refine Below.drew ?_) | (with_reducible refine bel_drewN ?_ _) | (with_reducible refine bel_grown ?_ (by assumption) ?_ ?_) | (with_reducible refine Below.setCell ?_ ?_ _) | go_size)⟩
end Go.Proofs.Ytjfgjlklbepnjaa
