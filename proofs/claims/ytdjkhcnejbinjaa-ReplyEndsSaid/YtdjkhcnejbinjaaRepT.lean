/- An answer's items are read from bytes, walked. No condition beyond what the memory holds. -/
import Derived.Test.YtdjkhcnejbinjaaRepS
import Derived.Test.YtdjkhcnejbinjaaEarly
namespace Go.Proofs.Ytdjkhcnejbinjaa
open Go.RowKit
set_option linter.unusedSimpArgs false
set_option linter.unusedVariables false
set_option maxRecDepth 2000

theorem own_grown {w w' : World} {base q n size : Nat} {e : TypeId} {v : Value} {xs : List Value} (h : w.ownsRow base e size v n xs) (hg : w.grownBy w' (some q)) (hq : q < base) : w'.ownsRow base e size v n xs := by
  refine ⟨h.1, ?_⟩
  rcases h.2 with hn | ⟨g, cap, cur, rfl, hbase, hh, rest⟩
  · exact .inl hn
  · have hlt : g < w.heap.size := by
      rcases Nat.lt_or_ge g w.heap.size with hlt | hge
      · exact hlt
      · rw [Array.getElem?_eq_none hge] at hh; cases hh
    exact .inr ⟨g, cap, cur, rfl, hbase, (hg.block g hlt (fun e => by injection e with e; omega)).trans hh, rest⟩
theorem own_block {w : World} {base n size : Nat} {e : TypeId} {v : Value} {xs : List Value} (h : w.ownsRow base e size v n xs) : ∀ b, b < base → v.ownBlock ≠ some b := fun b hb e => by
  rcases h.2 with ⟨rfl, _⟩ | ⟨g, cap, cur, rfl, hbase, _⟩
  · simp [Value.ownBlock] at e
  · simp [Value.ownBlock] at e
    omega
theorem Rd.keepB {w w' : World} {q off B : Nat} {L : List Nat} (h : Rd w q L off) (hb : Below B w w') (hq : q < B) (hs : w.heap.size ≤ w'.heap.size) : Rd w' q L off := by
  obtain ⟨lt, le, ⟨A, c, c1, h1, h2, hr⟩, z⟩ := h
  exact ⟨Nat.lt_of_lt_of_le lt hs, le, ⟨A, c, (hb.cell (p := ⟨q, 0, none⟩) hq).trans c1, h1, h2, hr.keep (hb.mono (by omega))⟩, (hb.frozen (p := ⟨q, 0, none⟩) hq).trans z⟩
theorem CellsAt.keepB {w w' : World} {b n B : Nat} {F : Nat → Value} (h : CellsAt w b n F) (hb : Below B w w') (hq : b < B) (hs : w.heap.size ≤ w'.heap.size) : CellsAt w' b n F :=
  ⟨Nat.lt_of_lt_of_le h.1 hs, fun j hj => ⟨(hb.cell (p := ⟨b, j, none⟩) hq).trans (h.2 j hj).1, (hb.frozen (p := ⟨b, j, none⟩) hq).trans (h.2 j hj).2⟩⟩
theorem Two.later {w w1 w2 : World} {q p : Nat} (h : Two w w1 q p) (hb : Below w.heap.size w1 w2) : Two w w2 q p :=
  ⟨hb.os.trans h.os, hb.tape.trans h.tape, hb.output.trans h.output, Nat.le_trans h.size hb.size, fun k hk h1 h2 => (hb.block k hk).trans (h.block k hk h1 h2)⟩
/-- The cells of items. -/
def rowsV (f : Nat → Nat → Int) (size n : Nat) : List Value := (List.range n).flatMap fun i => (List.range size).map fun j => .int .i64 (f i j)
theorem rowsV_succ (f : Nat → Nat → Int) (size n : Nat) : rowsV f size (n + 1) = rowsV f size n ++ (List.range size).map fun j => Value.int .i64 (f n j) := by simp [rowsV, List.range_succ]
theorem rowsV_len (f : Nat → Nat → Int) (size : Nat) : ∀ n, (rowsV f size n).length = n * size
  | 0 => by simp [rowsV]
  | n + 1 => by rw [rowsV_succ, List.length_append, rowsV_len f size n, List.length_map, List.length_range, Nat.add_mul]; omega
theorem rowsV_get {f : Nat → Nat → Int} {size : Nat} : ∀ {n i j : Nat}, i < n → j < size → (rowsV f size n)[i * size + j]? = some (.int .i64 (f i j))
  | 0, i, j, hi, _ => absurd hi (by omega)
  | n + 1, i, j, hi, hj => by
    rw [rowsV_succ]
    rcases (show i < n ∨ i = n by omega) with h | rfl
    · have : i * size + j < n * size := by
        have h1 : (i + 1) * size ≤ n * size := Nat.mul_le_mul_right _ h
        rw [Nat.add_mul] at h1
        omega
      rw [List.getElem?_append_left (by rw [rowsV_len]; exact this)]
      exact rowsV_get h hj
    · rw [List.getElem?_append_right (by rw [rowsV_len]; omega), rowsV_len]
      simp [hj]
theorem items_own {w : World} {base size n c : Nat} {t : TypeId} {A : Option Addr} {f : Nat → Nat → Int} (h : w.ownsRow base t size (.slice A n c) n (rowsV f size n)) : IsItems w w.heap.size A n size f := fun hn => by
  obtain ⟨g, cap, hv, _, hlt⟩ := h.form hn
  have hA : A = some ⟨g, 0, none⟩ := by injection hv
  subst hA
  refine ⟨g, 0, rfl, hlt, fun i hi j hj => ?_⟩
  have := h.cells (g := g) rfl (i * size + j) _ (rowsV_get hi hj)
  rwa [Addr.add_lit, ← Nat.add_assoc] at this
def fourC (a b c d : Int) (j : Nat) : Value := ([.int .i64 a, .int .i64 b, .int .i64 c, .int .i64 d] : List Value).getD j undef
theorem four_new {w : World} {a b c d : Int} {t : TypeId} : CellsAt (w.alloc (Obj.cells #[.int .i64 a, .int .i64 b, .int .i64 c, .int .i64 d] t)) w.heap.size 4 (fourC a b c d) := CellsAt.new fun j hj => by
  rcases (show j = 0 ∨ j = 1 ∨ j = 2 ∨ j = 3 by omega) with rfl | rfl | rfl | rfl <;> rfl
theorem CellsAt.four {w : World} {g : Nat} {a b c d : Int} (h : CellsAt w g 4 (fourC a b c d)) : w.cell? ⟨g, 0, none⟩ = some (.int .i64 a) ∧ w.cell? ⟨g, 1, none⟩ = some (.int .i64 b) ∧ w.cell? ⟨g, 2, none⟩ = some (.int .i64 c) ∧ w.cell? ⟨g, 3, none⟩ = some (.int .i64 d) ∧
    w.frozen? ⟨g, 0, none⟩ = false ∧ w.frozen? ⟨g, 1, none⟩ = false ∧ w.frozen? ⟨g, 2, none⟩ = false ∧ w.frozen? ⟨g, 3, none⟩ = false :=
  ⟨(h.2 0 (by decide)).1, (h.2 1 (by decide)).1, (h.2 2 (by decide)).1, (h.2 3 (by decide)).1, (h.2 0 (by decide)).2, (h.2 1 (by decide)).2, (h.2 2 (by decide)).2, (h.2 3 (by decide)).2⟩
theorem CellsAt.put4 {w : World} {g j : Nat} {a b c d a' b' c' d' v : Int} (h : CellsAt w g 4 (fourC a b c d)) (hj : j < 4) (e : ∀ i, i < 4 → (if i = j then Value.int .i64 v else fourC a b c d i) = fourC a' b' c' d' i) : CellsAt (w.setCell ⟨g, j, none⟩ (.int .i64 v)) g 4 (fourC a' b' c' d') := (h.set hj _).congr e
theorem at4 {i : Nat} (h : i < 4) : i = 0 ∨ i = 1 ∨ i = 2 ∨ i = 3 := by omega
def sixC (a b c d e f : Int) (j : Nat) : Value := ([.int .i64 a, .int .i64 b, .int .i64 c, .int .i64 d, .int .i64 e, .int .i64 f] : List Value).getD j undef
theorem at6 {i : Nat} (h : i < 6) : i = 0 ∨ i = 1 ∨ i = 2 ∨ i = 3 ∨ i = 4 ∨ i = 5 := by omega
theorem six_new {w : World} {a b c d e f : Int} {t : TypeId} : CellsAt (w.alloc (Obj.cells #[.int .i64 a, .int .i64 b, .int .i64 c, .int .i64 d, .int .i64 e, .int .i64 f] t)) w.heap.size 6 (sixC a b c d e f) := CellsAt.new fun j hj => by
  rcases at6 hj with rfl | rfl | rfl | rfl | rfl | rfl <;> rfl
theorem CellsAt.six {w : World} {g : Nat} {a b c d e f : Int} (h : CellsAt w g 6 (sixC a b c d e f)) : (w.cell? ⟨g, 0, none⟩ = some (.int .i64 a) ∧ w.cell? ⟨g, 1, none⟩ = some (.int .i64 b) ∧ w.cell? ⟨g, 2, none⟩ = some (.int .i64 c) ∧ w.cell? ⟨g, 3, none⟩ = some (.int .i64 d) ∧ w.cell? ⟨g, 4, none⟩ = some (.int .i64 e) ∧ w.cell? ⟨g, 5, none⟩ = some (.int .i64 f)) ∧
    w.frozen? ⟨g, 0, none⟩ = false ∧ w.frozen? ⟨g, 1, none⟩ = false ∧ w.frozen? ⟨g, 2, none⟩ = false ∧ w.frozen? ⟨g, 3, none⟩ = false ∧ w.frozen? ⟨g, 4, none⟩ = false ∧ w.frozen? ⟨g, 5, none⟩ = false :=
  ⟨⟨(h.2 0 (by decide)).1, (h.2 1 (by decide)).1, (h.2 2 (by decide)).1, (h.2 3 (by decide)).1, (h.2 4 (by decide)).1, (h.2 5 (by decide)).1⟩, (h.2 0 (by decide)).2, (h.2 1 (by decide)).2, (h.2 2 (by decide)).2, (h.2 3 (by decide)).2, (h.2 4 (by decide)).2, (h.2 5 (by decide)).2⟩
theorem CellsAt.put6 {w : World} {g j : Nat} {a b c d e f a' b' c' d' e' f' v : Int} (h : CellsAt w g 6 (sixC a b c d e f)) (hj : j < 6) (e : ∀ i, i < 6 → (if i = j then Value.int .i64 v else sixC a b c d e f i) = sixC a' b' c' d' e' f' i) : CellsAt (w.setCell ⟨g, j, none⟩ (.int .i64 v)) g 6 (sixC a' b' c' d' e' f') := (h.set hj _).congr e
set_option maxHeartbeats 8000000 in
theorem xitems_ev (q p off n : Nat) (op k x y lab b0 b1 b2 b3 : Int) (L : List Nat) (w : World) (h : Rd w q L off) (hs : Small L) (hqp : q < p) (hc : CellsAt w p 12 (ansC 0 k x y lab b0 b1 b2 b3 (.slice none 0 0) (.slice none 0 0))) (hn : off + n * 8 ≤ L.length) (hop : op = 17 ∨ op = 18) (hn6 : n ≤ 64) :
    Calls Try.prog 40 #[.pointer (some ⟨q, 0, none⟩), .int .i64 op, .int .i64 n, .pointer (some ⟨p, 0, none⟩)] w fun e w' => e = .returned (.tuple #[]) ∧ ∃ A c, CellsAt w' p 12 (ansC 0 k x y lab b0 b1 b2 b3 (.slice none 0 0) (.slice A n c)) ∧ w'.ownsRow w.heap.size 64 4 (.slice A n c) n (rowsV (rdG L off) 4 n) ∧ Two w w' q p := by
  obtain ⟨i0, hi, hz0, hz1, hz2⟩ := info_parts (show (Try.prog.info? 64).map (fun i => (i.zero, i.size, i.bytes)) = some (some (.agg #[.int .i64 0, .int .i64 0, .int .i64 0, .int .i64 0]), 4, 32) by kernel_rfl)
  have hq := h.lt
  have hp := hc.1
  have H := Lib.hid h
  have HC := Lib.hid hc
  have HS := Lib.hid hs
  clear h hc hs
  rcases hop with rfl | rfl
  all_goals
    go_enter Try.func40, Try.ntmps40
    go_wp2
    go_loopw [11] (fun i wr => ∃ m : Nat, m ≤ n ∧ i = .int .i64 m ∧ Hid (Rd wr q L (off + m * 8)) ∧ Hid (∃ A c, CellsAt wr p 12 (ansC 0 k x y lab b0 b1 b2 b3 (.slice none 0 0) (.slice A m c)) ∧ wr.ownsRow w.heap.size 64 4 (.slice A m c) m (rowsV (rdG L off) 4 m)) ∧ Hid (Two w wr q p) ∧ w.heap.size ≤ wr.heap.size) (fun i _ => n - (intOf i).toNat)
    case atStart => exact ⟨0, by omega, rfl, by simpa [Hid] using H.out, ⟨none, 0, HC.out, World.ownsRow_nil _ _ _ _⟩, two_refl _ _ _, Nat.le_refl _⟩
    case round =>
      obtain ⟨m, hm, rfl, hrd, hca, htw, hsz⟩ := hrel
      obtain ⟨X, rfl⟩ : ∃ Z : Later q w, wr = Z.w := ⟨⟨wr, htw.out.below hqp (by omega)⟩, rfl⟩
      by_cases hlt : m < n
      · obtain ⟨A, c, hc, ho⟩ := hca.out
        have HCC := Lib.hid hc
        have HO := Lib.hid ho
        clear hc ho hca
        have P1 := Lib.hid (rnumber_any q (off + m * 8) 2 L X.w hrd.out HS.out (by decide) (by decide) (by omega))
        have P2 := Lib.hid (fun (Y : World) (hY : Rd Y q L (off + m * 8 + 2)) => rnumber_any q (off + m * 8 + 2) 1 L Y hY HS.out (by decide) (by decide) (by omega))
        have P3 := Lib.hid (fun (Y : World) (hY : Rd Y q L (off + m * 8 + 3)) => rnumber_any q (off + m * 8 + 3) 1 L Y hY HS.out (by decide) (by decide) (by omega))
        have P4 := Lib.hid (fun (Y : World) (hY : Rd Y q L (off + m * 8 + 4)) => rnumber_any q (off + m * 8 + 4) 4 L Y hY HS.out (by decide) (by decide) (by omega))
        obtain ⟨v0, hv0⟩ : ∃ v, numR L (off + m * 8) 2 = v := ⟨_, rfl⟩
        obtain ⟨v1, hv1⟩ : ∃ v, numR L (off + m * 8 + 2) 1 = v := ⟨_, rfl⟩
        obtain ⟨v2, hv2⟩ : ∃ v, numR L (off + m * 8 + 3) 1 = v := ⟨_, rfl⟩
        obtain ⟨v3, hv3⟩ : ∃ v, numR L (off + m * 8 + 4) 4 = v := ⟨_, rfl⟩
        rw [hv0] at P1
        rw [hv1] at P2
        rw [hv2] at P3
        rw [hv3] at P4
        have HV := Lib.hid (show rdG L off m 0 = v0 ∧ rdG L off m 1 = v1 ∧ rdG L off m 2 = v2 ∧ rdG L off m 3 = v3 from ⟨hv0, hv1, hv2, hv3⟩)
        clear hv0 hv1 hv2 hv3
        go_wp2_with fail
        refine P1.out.mono ?_
        rintro e w1 ⟨rfl, hpo⟩
        have hs1 := hpo.2.size
        have HR1 := Lib.hid hpo.1
        have HG1 := Lib.hid hpo.2
        obtain ⟨X1, rfl⟩ : ∃ Z : Later q X.w, w1 = Z.w := ⟨⟨w1, hpo.below (by omega)⟩, rfl⟩
        clear hpo
        go_wp2_with fail
        refine (P2.out _ (HR1.out.keep (by repeat' (first | (with_reducible exact Below.refl _ _) | (with_reducible assumption) | (with_reducible refine Later.step ?_ ?_ _) | (with_reducible refine Below.alloc ?_ ?_ _) | (with_reducible refine Below.drew ?_) | (with_reducible refine bel_drewN ?_ _) | (with_reducible refine bel_grown ?_ (by assumption) ?_ ?_) | (with_reducible refine Below.setCell ?_ ?_ _) | go_size)))).mono ?_
        rintro e w2 ⟨rfl, hpo⟩
        have hs2 := hpo.2.size
        rw [World.size_alloc] at hs2
        have HR2 := Lib.hid hpo.1
        have HE2 := Lib.hid (four_new.grown hpo.2 (by go_size))
        have HG2 := Lib.hid (grown_trans (grown_trans HG1.out (grown_of_below ((Below.refl _ _).alloc (Nat.le_refl _) _) (some q))) hpo.2)
        obtain ⟨X2, rfl⟩ : ∃ Z : Later q X.w, w2 = Z.w := ⟨⟨w2, below_of_grown HG2.out (by omega)⟩, rfl⟩
        clear hpo
        go_wp2_with fail
        refine (P3.out _ HR2.out).mono ?_
        rintro e w3 ⟨rfl, hpo⟩
        have hs3 := hpo.2.size
        have HR3 := Lib.hid hpo.1
        have HE3 := Lib.hid (HE2.out.grown hpo.2 (by omega))
        have HG3 := Lib.hid (grown_trans HG2.out hpo.2)
        obtain ⟨a0, a1, a2, a3, z0, z1, z2, z3⟩ := HE3.out.four
        obtain ⟨X3, rfl⟩ : ∃ Z : Later q X.w, w3 = Z.w := ⟨⟨w3, below_of_grown HG3.out (by omega)⟩, rfl⟩
        clear hpo
        go_wp2_with fail
        refine (P4.out _ ((HR3.out.other (by go_size) _).other (by go_size) _)).mono ?_
        rintro e w4 ⟨rfl, hpo⟩
        have hs4 := hpo.2.size
        rw [World.size_setCell, World.size_setCell] at hs4
        have HR4 := Lib.hid hpo.1
        have HE4 := Lib.hid ((((HE3.out.put4 (j := 1) (v := v1) (a' := v0) (b' := v1) (c' := 0) (d' := 0) (by decide) (fun i hi => by rcases at4 hi with rfl | rfl | rfl | rfl <;> rfl))).put4 (j := 2) (v := v2) (a' := v0) (b' := v1) (c' := v2) (d' := 0) (by decide) (fun i hi => by rcases at4 hi with rfl | rfl | rfl | rfl <;> rfl)).grown hpo.2 (by omega))
        have HG4 := Lib.hid (grown_trans (grown_put (p := ⟨X1.w.heap.size, 2, none⟩) (grown_put (p := ⟨X1.w.heap.size, 1, none⟩) HG3.out (by simp; omega) _) (by simp; omega) _) hpo.2)
        have HC4 := Lib.hid (HCC.out.grown HG4.out (by omega))
        have HO4 := Lib.hid (own_grown HO.out HG4.out (by omega))
        clear a0 a1 a2 a3 z0 z1 z2 z3
        obtain ⟨a0, a1, a2, a3, z0, z1, z2, z3⟩ := HE4.out.four
        have d11 : w4.cell? ⟨p, 11, none⟩ = some (.slice A m c) := (HC4.out.2 11 (by decide)).1
        have y11 := (HC4.out.2 11 (by decide)).2
        have hX4 := HG4.out.size
        obtain ⟨X4, rfl⟩ : ∃ Z : Later q X.w, w4 = Z.w := ⟨⟨w4, below_of_grown HG4.out (by omega)⟩, rfl⟩
        clear hpo
        go_wp2_with fail
        have HE5 := HE4.out.put4 (j := 3) (v := v3) (a' := v0) (b' := v1) (c' := v2) (d' := v3) (by decide) (fun i hi => by rcases at4 hi with rfl | rfl | rfl | rfl <;> rfl)
        have HR5 := HR4.out.other (p := ⟨X1.w.heap.size, 3, none⟩) (by go_size) (.int .i64 v3)
        have HC5 := HC4.out.other (p := ⟨X1.w.heap.size, 3, none⟩) (by simp; omega) (.int .i64 v3)
        have HG5 := grown_put (p := ⟨X1.w.heap.size, 3, none⟩) HG4.out (by simp; omega) (.int .i64 v3)
        have HO5 := own_grown HO.out HG5 (by omega)
        obtain ⟨X5, hX5⟩ : ∃ Z : Later q X.w, X4.w.setCell ⟨X1.w.heap.size, 3, none⟩ (.int .i64 v3) = Z.w := ⟨⟨_, below_of_grown HG5 (by omega)⟩, rfl⟩
        have hs5 : X4.w.heap.size ≤ X5.w.heap.size := by rw [← hX5, World.size_setCell]; exact Nat.le_refl _
        rw [hX5] at HE5 HR5 HC5 HG5 HO5 ⊢
        clear a0 a1 a2 a3 z0 z1 z2 z3 d11 y11 hX5
        obtain ⟨a0, a1, a2, a3, z0, z1, z2, z3⟩ := HE5.four
        have d11 : X5.w.cell? ⟨p, 11, none⟩ = some (.slice A m c) := (HC5.2 11 (by decide)).1
        have y11 := (HC5.2 11 (by decide)).2
        have hfz : ∀ o, (X5.w.alloc o).frozen? ⟨p, 11, none⟩ = false := fun o => (((Below.refl X5.w.heap.size X5.w).alloc (Nat.le_refl _) o).frozen (p := ⟨p, 11, none⟩) (by simp; omega)).trans y11
        have hnp := own_block HO5 p (by omega)
        have hne : (Value.slice A m c).ownBlock ≠ some X1.w.heap.size := fun e => by
          have := (HO.out.lt _ e).2
          omega
        have KR := Lib.hid HR5
        have KC := Lib.hid HC5
        have KG := Lib.hid HG5
        have KO := Lib.hid HO5
        clear HE5 HR5 HC5 HG5 HO5
        refine wp_region_early (fun w' => w'.cell? ⟨p, 11, none⟩ = some (.slice A m c) ∧ w'.cell? ⟨X1.w.heap.size, 0, none⟩ = some (.int .i64 v0) ∧ w'.cell? ⟨X1.w.heap.size, 1, none⟩ = some (.int .i64 v1) ∧ w'.cell? ⟨X1.w.heap.size, 2, none⟩ = some (.int .i64 v2) ∧ w'.cell? ⟨X1.w.heap.size, 3, none⟩ = some (.int .i64 v3)) (fun j => decide (j < 8)) (by kernel_rfl) (by go_keep) (fun HS => ?_)
        (refine wpAnyE_take (i := 0) (v := ?_) rfl (by kernel_rfl) (by kernel_rfl) (by kernel_rfl) (by kernel_rfl) (fun _ _ _ h => h) (Or.inl ⟨by rfl, ?_⟩) HS ?_; rotate_left 1; (focus (intro w9 hSw; (try dsimp only at hSw); go_simp; all_goals (with_reducible rfl))); (try simp only [Act.put, List.setIfInBounds_toArray, List.set_cons_zero, List.set_cons_succ]))
        (refine wpAnyE_take (i := 1) (v := ?_) rfl (by kernel_rfl) (by kernel_rfl) (by kernel_rfl) (by kernel_rfl) (fun _ _ _ h => h) (Or.inl ⟨by rfl, ?_⟩) HS ?_; rotate_left 1; (focus (intro w9 hSw; (try dsimp only at hSw); go_simp; all_goals (with_reducible rfl))); (try simp only [Act.put, List.setIfInBounds_toArray, List.set_cons_zero, List.set_cons_succ]))
        (refine wpAnyE_take (i := 2) (v := ?_) rfl (by kernel_rfl) (by kernel_rfl) (by kernel_rfl) (by kernel_rfl) (fun _ _ _ h => h) (Or.inl ⟨by rfl, ?_⟩) HS ?_; rotate_left 1; (focus (intro w9 hSw; (try dsimp only at hSw); go_simp; all_goals (with_reducible rfl))); (try simp only [Act.put, List.setIfInBounds_toArray, List.set_cons_zero, List.set_cons_succ]))
        (refine wpAnyE_take (i := 3) (v := ?_) rfl (by kernel_rfl) (by kernel_rfl) (by kernel_rfl) (by kernel_rfl) (fun _ _ _ h => h) (Or.inl ⟨by rfl, ?_⟩) HS ?_; rotate_left 1; (focus (intro w9 hSw; (try dsimp only at hSw); go_simp; all_goals (with_reducible rfl))); (try simp only [Act.put, List.setIfInBounds_toArray, List.set_cons_zero, List.set_cons_succ]))
        (refine wpAnyE_take (i := 4) (v := ?_) rfl (by kernel_rfl) (by kernel_rfl) (by kernel_rfl) (by kernel_rfl) (fun _ _ _ h => h) (Or.inl ⟨by rfl, ?_⟩) HS ?_; rotate_left 1; (focus (intro w9 hSw; (try dsimp only at hSw); go_simp; all_goals (with_reducible rfl))); (try simp only [Act.put, List.setIfInBounds_toArray, List.set_cons_zero, List.set_cons_succ]))
        (refine wpAnyE_take (i := 5) (v := ?_) rfl (by kernel_rfl) (by kernel_rfl) (by kernel_rfl) (by kernel_rfl) (fun _ _ _ h => h) (Or.inl ⟨by rfl, ?_⟩) HS ?_; rotate_left 1; (focus (intro w9 hSw; (try dsimp only at hSw); go_simp; all_goals (with_reducible rfl))); (try simp only [Act.put, List.setIfInBounds_toArray, List.set_cons_zero, List.set_cons_succ]))
        refine wpAnyE_one (i := 6) rfl (by kernel_rfl) ?_
        go_wp2
        refine ⟨fun _ => by go_keep, ?_⟩
        refine wpAnyE_one (i := 7) rfl (by kernel_rfl) ?_
        refine wpList_append_lies _ rfl _ _ _ rfl w.heap.size 64 i0 _ 4 32 Try.underlying36 hi hz0 hz1 hz2 rfl (by omega) (.slice A m c) m _ (by rfl) ((KO.out.alloc _).drew) ⟨X5.w.heap.size, 0, none⟩ 1 1 [.int .i64 v0, .int .i64 v1, .int .i64 v2, .int .i64 v3] (by rfl) (by rfl) (World.news_of_block (cs := #[.int .i64 v0, .int .i64 v1, .int .i64 v2, .int .i64 v3]) (t := 64) (fr := (0, 0)) (heap_alloc_new X5.w _)) (by simp [Value.oneCell']) (by omega) (by unfold maxLen; omega) (by omega) (by simp; omega) (X5.w.heap.size + 1) (by simp) ?_
        intro gg cap w5 hown5 hgrow5 hat5 hlt5
        have y5 : w5.frozen? ⟨p, 11, none⟩ = false := (hgrow5.frozen_far _ (by simp; omega) (Ne.symm hnp)).trans (hfz _)
        have d5 : w5.cell? ⟨p, 11, none⟩ = some (.slice A m c) := (hgrow5.cell_far _ (by simp; omega) (Ne.symm hnp)).trans (by go_keep)
        refine ⟨fun _ => ⟨d5, (hgrow5.cell_far _ (by simp; omega) (Ne.symm hne)).trans (by go_keep), (hgrow5.cell_far _ (by simp; omega) (Ne.symm hne)).trans (by go_keep), (hgrow5.cell_far _ (by simp; omega) (Ne.symm hne)).trans (by go_keep), (hgrow5.cell_far _ (by simp; omega) (Ne.symm hne)).trans (by go_keep)⟩, ?_⟩
        have hb5 : Below w.heap.size X5.w w5 := Below.grown (Below.drew (Below.alloc (Below.refl _ _) (by omega) _)) hgrow5 (by simp; omega) (fun b hb => (KO.out.lt b hb).1)
        have hs6 := hb5.size
        have HT := Lib.hid (((htw.out.trans (two_grown KG.out p)).later hb5).set (j := 11) (.slice (some ⟨gg, 0, none⟩) (m + 1) cap))
        have HR6 := Lib.hid ((KR.out.keepB hb5 hq hs6).setp (j := 11) hqp (.slice (some ⟨gg, 0, none⟩) (m + 1) cap))
        have HC6 := Lib.hid (((KC.out.keepB hb5 hp hs6).set (j := 11) (by decide) (.slice (some ⟨gg, 0, none⟩) (m + 1) cap)).congr (G := ansC 0 k x y lab b0 b1 b2 b3 (.slice none 0 0) (.slice (some ⟨gg, 0, none⟩) (m + 1) cap)) (fun j hj => by rcases ans_at hj with rfl | rfl | rfl | rfl | rfl | rfl | rfl | rfl | rfl | rfl | rfl | rfl <;> rfl))
        have HO6 := Lib.hid (own_set (p := ⟨p, 11, none⟩) hown5 hp (.slice (some ⟨gg, 0, none⟩) (m + 1) cap))
        have hs7 : w.heap.size ≤ (w5.setCell ⟨p, 11, none⟩ (.slice (some ⟨gg, 0, none⟩) (m + 1) cap)).heap.size := by rw [World.size_setCell]; omega
        have HS7 := Lib.hid hs7
        clear hgrow5 hown5 hb5 hat5 hs7
        refine wpAnyE_rest (k := 8) rfl (by kernel_rfl) (fun j hj => by simp; omega) ?_
        simp only [List.drop_succ_cons, List.drop_zero]
        go_wp2
        go_roundw
        case rel =>
          refine ⟨m + 1, by omega, by go_num, ?_, ⟨_, _, HC6.out, ?_⟩, HT.out, HS7.out⟩
          · have h9 := HR6.out
            rw [show off + m * 8 + 4 + 4 = off + (m + 1) * 8 by omega] at h9
            exact h9
          · have h9 := HO6.out
            rw [rowsV_succ]
            obtain ⟨g0, g1, g2, g3⟩ := HV.out
            rw [← g0, ← g1, ← g2, ← g3] at h9
            exact h9
        case measure => simp [intOf]; omega
      · obtain rfl : m = n := by omega
        obtain ⟨A, c, hc, ho⟩ := hca.out
        have HCC := Lib.hid hc
        have HO := Lib.hid ho
        clear hc ho hca
        go_wp2
        go_end0
        exact ⟨rfl, A, c, HCC.out, HO.out, htw.out⟩
set_option maxHeartbeats 8000000 in
theorem xitems_se (q p off n : Nat) (op k x y lab b0 b1 b2 b3 : Int) (L : List Nat) (w : World) (h : Rd w q L off) (hs : Small L) (hqp : q < p) (hc : CellsAt w p 12 (ansC 0 k x y lab b0 b1 b2 b3 (.slice none 0 0) (.slice none 0 0))) (hn : off + n * 11 ≤ L.length) (hop : ¬ (op = 17 ∨ op = 18)) (hn6 : n ≤ 64) :
    Calls Try.prog 40 #[.pointer (some ⟨q, 0, none⟩), .int .i64 op, .int .i64 n, .pointer (some ⟨p, 0, none⟩)] w fun e w' => e = .returned (.tuple #[]) ∧ ∃ A c, CellsAt w' p 12 (ansC 0 k x y lab b0 b1 b2 b3 (.slice A n c) (.slice none 0 0)) ∧ w'.ownsRow w.heap.size 61 6 (.slice A n c) n (rowsV (rdF L off) 6 n) ∧ Two w w' q p := by
  obtain ⟨i0, hi, hz0, hz1, hz2⟩ := info_parts (show (Try.prog.info? 61).map (fun i => (i.zero, i.size, i.bytes)) = some (some (.agg #[.int .i64 0, .int .i64 0, .int .i64 0, .int .i64 0, .int .i64 0, .int .i64 0]), 6, 48) by kernel_rfl)
  have hq := h.lt
  have hp := hc.1
  have H := Lib.hid h
  have HC := Lib.hid hc
  have HS := Lib.hid hs
  clear h hc hs
  have e17 : (op == 17) = false := by rw [beq_eq_false_iff_ne]; omega
  have e18 : (op == 18) = false := by rw [beq_eq_false_iff_ne]; omega
  clear hop
  · skip
    go_enter Try.func40, Try.ntmps40
    go_wp2
    go_loopw [11] (fun i wr => ∃ m : Nat, m ≤ n ∧ i = .int .i64 m ∧ Hid (Rd wr q L (off + m * 11)) ∧ Hid (∃ A c, CellsAt wr p 12 (ansC 0 k x y lab b0 b1 b2 b3 (.slice A m c) (.slice none 0 0)) ∧ wr.ownsRow w.heap.size 61 6 (.slice A m c) m (rowsV (rdF L off) 6 m)) ∧ Hid (Two w wr q p) ∧ w.heap.size ≤ wr.heap.size) (fun i _ => n - (intOf i).toNat)
    case atStart => exact ⟨0, by omega, rfl, by simpa [Hid] using H.out, ⟨none, 0, HC.out, World.ownsRow_nil _ _ _ _⟩, two_refl _ _ _, Nat.le_refl _⟩
    case round =>
      obtain ⟨m, hm, rfl, hrd, hca, htw, hsz⟩ := hrel
      obtain ⟨X, rfl⟩ : ∃ Z : Later q w, wr = Z.w := ⟨⟨wr, htw.out.below hqp (by omega)⟩, rfl⟩
      by_cases hlt : m < n
      · obtain ⟨A, c, hc, ho⟩ := hca.out
        have HCC := Lib.hid hc
        have HO := Lib.hid ho
        clear hc ho hca
        have P1 := Lib.hid (rnumber_any q (off + m * 11) 2 L X.w hrd.out HS.out (by decide) (by decide) (by omega))
        have P2 := Lib.hid (fun (Y : World) (hY : Rd Y q L (off + m * 11 + 2)) => rnumber_any q (off + m * 11 + 2) 1 L Y hY HS.out (by decide) (by decide) (by omega))
        have P3 := Lib.hid (fun (Y : World) (hY : Rd Y q L (off + m * 11 + 3)) => rrect_any q (off + m * 11 + 3) L Y hY HS.out (by omega))
        obtain ⟨v0, hv0⟩ : ∃ v, numR L (off + m * 11) 2 = v := ⟨_, rfl⟩
        obtain ⟨v1, hv1⟩ : ∃ v, numR L (off + m * 11 + 2) 1 = v := ⟨_, rfl⟩
        obtain ⟨v2, hv2⟩ : ∃ v, numR L (off + m * 11 + 3) 2 = v := ⟨_, rfl⟩
        obtain ⟨v3, hv3⟩ : ∃ v, numR L (off + m * 11 + 3 + 2) 2 = v := ⟨_, rfl⟩
        obtain ⟨v4, hv4⟩ : ∃ v, numR L (off + m * 11 + 3 + 4) 2 = v := ⟨_, rfl⟩
        obtain ⟨v5, hv5⟩ : ∃ v, numR L (off + m * 11 + 3 + 6) 2 = v := ⟨_, rfl⟩
        rw [hv0] at P1
        rw [hv1] at P2
        simp only [hv2, hv3, hv4, hv5] at P3
        have HV := Lib.hid (show rdF L off m 0 = v0 ∧ rdF L off m 1 = v1 ∧ rdF L off m 2 = v2 ∧ rdF L off m 3 = v3 ∧ rdF L off m 4 = v4 ∧ rdF L off m 5 = v5 from ⟨hv0, hv1, hv2, hv3, hv4, hv5⟩)
        clear hv0 hv1 hv2 hv3 hv4 hv5
        go_wp2_with fail
        refine P1.out.mono ?_
        rintro e w1 ⟨rfl, hpo⟩
        have hs1 := hpo.2.size
        have HR1 := Lib.hid hpo.1
        have HG1 := Lib.hid hpo.2
        obtain ⟨X1, rfl⟩ : ∃ Z : Later q X.w, w1 = Z.w := ⟨⟨w1, hpo.below (by omega)⟩, rfl⟩
        clear hpo
        go_wp2_with fail
        refine (P2.out _ (HR1.out.keep (by repeat' (first | (with_reducible exact Below.refl _ _) | (with_reducible assumption) | (with_reducible refine Later.step ?_ ?_ _) | (with_reducible refine Below.alloc ?_ ?_ _) | (with_reducible refine Below.drew ?_) | (with_reducible refine bel_drewN ?_ _) | (with_reducible refine bel_grown ?_ (by assumption) ?_ ?_) | (with_reducible refine Below.setCell ?_ ?_ _) | go_size)))).mono ?_
        rintro e w2 ⟨rfl, hpo⟩
        have hs2 := hpo.2.size
        rw [World.size_alloc] at hs2
        have HR2 := Lib.hid hpo.1
        have HE3 := Lib.hid (six_new.grown hpo.2 (by go_size))
        have HG2 := Lib.hid (grown_trans (grown_trans HG1.out (grown_of_below ((Below.refl _ _).alloc (Nat.le_refl _) _) (some q))) hpo.2)
        obtain ⟨⟨a0, a1, a2, a3, a4, a5⟩, z0, z1, z2, z3, z4, z5⟩ := HE3.out.six
        obtain ⟨X2, rfl⟩ : ∃ Z : Later q X.w, w2 = Z.w := ⟨⟨w2, below_of_grown HG2.out (by omega)⟩, rfl⟩
        clear hpo
        go_wp2_with fail
        refine (P3.out _ (HR2.out.other (by go_size) _)).mono ?_
        rintro e w4 ⟨rfl, hpo⟩
        have hs4 := hpo.2.size
        rw [World.size_setCell] at hs4
        have HR4 := Lib.hid hpo.1
        have HE4 := Lib.hid ((HE3.out.put6 (j := 1) (v := v1) (a' := v0) (b' := v1) (c' := 0) (d' := 0) (e' := 0) (f' := 0) (by decide) (fun i hi => by rcases at6 hi with rfl | rfl | rfl | rfl | rfl | rfl <;> rfl)).grown hpo.2 (by omega))
        have HG4 := Lib.hid (grown_trans (grown_put (p := ⟨X1.w.heap.size, 1, none⟩) HG2.out (by simp; omega) _) hpo.2)
        clear a0 a1 a2 a3 a4 a5 z0 z1 z2 z3 z4 z5
        obtain ⟨⟨a0, a1, a2, a3, a4, a5⟩, z0, z1, z2, z3, z4, z5⟩ := HE4.out.six
        have hX4 := HG4.out.size
        obtain ⟨X4, rfl⟩ : ∃ Z : Later q X.w, w4 = Z.w := ⟨⟨w4, below_of_grown HG4.out (by omega)⟩, rfl⟩
        clear hpo
        go_wp2_with fail
        have HE5 := (((HE4.out.put6 (j := 2) (v := v2) (a' := v0) (b' := v1) (c' := v2) (d' := 0) (e' := 0) (f' := 0) (by decide) (fun i hi => by rcases at6 hi with rfl | rfl | rfl | rfl | rfl | rfl <;> rfl)).put6 (j := 3) (v := v3) (a' := v0) (b' := v1) (c' := v2) (d' := v3) (e' := 0) (f' := 0) (by decide) (fun i hi => by rcases at6 hi with rfl | rfl | rfl | rfl | rfl | rfl <;> rfl)).put6 (j := 4) (v := v4) (a' := v0) (b' := v1) (c' := v2) (d' := v3) (e' := v4) (f' := 0) (by decide) (fun i hi => by rcases at6 hi with rfl | rfl | rfl | rfl | rfl | rfl <;> rfl)).put6 (j := 5) (v := v5) (a' := v0) (b' := v1) (c' := v2) (d' := v3) (e' := v4) (f' := v5) (by decide) (fun i hi => by rcases at6 hi with rfl | rfl | rfl | rfl | rfl | rfl <;> rfl)
        have HR5 := (((HR4.out.other (p := ⟨X1.w.heap.size, 2, none⟩) (by go_size) (.int .i64 v2)).other (p := ⟨X1.w.heap.size, 3, none⟩) (by go_size) (.int .i64 v3)).other (p := ⟨X1.w.heap.size, 4, none⟩) (by go_size) (.int .i64 v4)).other (p := ⟨X1.w.heap.size, 5, none⟩) (by go_size) (.int .i64 v5)
        have HG5 := grown_put (p := ⟨X1.w.heap.size, 5, none⟩) (grown_put (p := ⟨X1.w.heap.size, 4, none⟩) (grown_put (p := ⟨X1.w.heap.size, 3, none⟩) (grown_put (p := ⟨X1.w.heap.size, 2, none⟩) HG4.out (by simp; omega) (.int .i64 v2)) (by simp; omega) (.int .i64 v3)) (by simp; omega) (.int .i64 v4)) (by simp; omega) (.int .i64 v5)
        have HC5 := HCC.out.grown HG5 (by omega)
        have HO5 := own_grown HO.out HG5 (by omega)
        obtain ⟨X5, hX5⟩ : ∃ Z : Later q X.w, (((X4.w.setCell ⟨X1.w.heap.size, 2, none⟩ (.int .i64 v2)).setCell ⟨X1.w.heap.size, 3, none⟩ (.int .i64 v3)).setCell ⟨X1.w.heap.size, 4, none⟩ (.int .i64 v4)).setCell ⟨X1.w.heap.size, 5, none⟩ (.int .i64 v5) = Z.w := ⟨⟨_, below_of_grown HG5 (by omega)⟩, rfl⟩
        have hs5 : X4.w.heap.size ≤ X5.w.heap.size := by rw [← hX5]; simp only [World.size_setCell]; exact Nat.le_refl _
        rw [hX5] at HE5 HR5 HC5 HG5 HO5 ⊢
        clear a0 a1 a2 a3 a4 a5 z0 z1 z2 z3 z4 z5 hX5
        obtain ⟨⟨a0, a1, a2, a3, a4, a5⟩, z0, z1, z2, z3, z4, z5⟩ := HE5.six
        have d11 : X5.w.cell? ⟨p, 10, none⟩ = some (.slice A m c) := (HC5.2 10 (by decide)).1
        have y11 := (HC5.2 10 (by decide)).2
        have hfz : ∀ o, (X5.w.alloc o).frozen? ⟨p, 10, none⟩ = false := fun o => (((Below.refl X5.w.heap.size X5.w).alloc (Nat.le_refl _) o).frozen (p := ⟨p, 10, none⟩) (by simp; omega)).trans y11
        have hnp := own_block HO5 p (by omega)
        have hne : (Value.slice A m c).ownBlock ≠ some X1.w.heap.size := fun e => by
          have := (HO.out.lt _ e).2
          omega
        have KR := Lib.hid HR5
        have KC := Lib.hid HC5
        have KG := Lib.hid HG5
        have KO := Lib.hid HO5
        clear HE5 HR5 HC5 HG5 HO5
        refine wp_region_early (fun w' => w'.cell? ⟨p, 10, none⟩ = some (.slice A m c) ∧ w'.cell? ⟨X1.w.heap.size, 0, none⟩ = some (.int .i64 v0) ∧ w'.cell? ⟨X1.w.heap.size, 1, none⟩ = some (.int .i64 v1) ∧ w'.cell? ⟨X1.w.heap.size, 2, none⟩ = some (.int .i64 v2) ∧ w'.cell? ⟨X1.w.heap.size, 3, none⟩ = some (.int .i64 v3) ∧ w'.cell? ⟨X1.w.heap.size, 4, none⟩ = some (.int .i64 v4) ∧ w'.cell? ⟨X1.w.heap.size, 5, none⟩ = some (.int .i64 v5)) (fun j => decide (j < 8)) (by kernel_rfl) (by go_keep) (fun HS => ?_)
        (refine wpAnyE_take (i := 0) (v := ?_) rfl (by kernel_rfl) (by kernel_rfl) (by kernel_rfl) (by kernel_rfl) (fun _ _ _ h => h) (Or.inl ⟨by rfl, ?_⟩) HS ?_; rotate_left 1; (focus (intro w9 hSw; (try dsimp only at hSw); go_simp; all_goals (with_reducible rfl))); (try simp only [Act.put, List.setIfInBounds_toArray, List.set_cons_zero, List.set_cons_succ]))
        (refine wpAnyE_take (i := 1) (v := ?_) rfl (by kernel_rfl) (by kernel_rfl) (by kernel_rfl) (by kernel_rfl) (fun _ _ _ h => h) (Or.inl ⟨by rfl, ?_⟩) HS ?_; rotate_left 1; (focus (intro w9 hSw; (try dsimp only at hSw); go_simp; all_goals (with_reducible rfl))); (try simp only [Act.put, List.setIfInBounds_toArray, List.set_cons_zero, List.set_cons_succ]))
        (refine wpAnyE_take (i := 2) (v := ?_) rfl (by kernel_rfl) (by kernel_rfl) (by kernel_rfl) (by kernel_rfl) (fun _ _ _ h => h) (Or.inl ⟨by rfl, ?_⟩) HS ?_; rotate_left 1; (focus (intro w9 hSw; (try dsimp only at hSw); go_simp; all_goals (with_reducible rfl))); (try simp only [Act.put, List.setIfInBounds_toArray, List.set_cons_zero, List.set_cons_succ]))
        (refine wpAnyE_take (i := 3) (v := ?_) rfl (by kernel_rfl) (by kernel_rfl) (by kernel_rfl) (by kernel_rfl) (fun _ _ _ h => h) (Or.inl ⟨by rfl, ?_⟩) HS ?_; rotate_left 1; (focus (intro w9 hSw; (try dsimp only at hSw); go_simp; all_goals (with_reducible rfl))); (try simp only [Act.put, List.setIfInBounds_toArray, List.set_cons_zero, List.set_cons_succ]))
        (refine wpAnyE_take (i := 4) (v := ?_) rfl (by kernel_rfl) (by kernel_rfl) (by kernel_rfl) (by kernel_rfl) (fun _ _ _ h => h) (Or.inl ⟨by rfl, ?_⟩) HS ?_; rotate_left 1; (focus (intro w9 hSw; (try dsimp only at hSw); go_simp; all_goals (with_reducible rfl))); (try simp only [Act.put, List.setIfInBounds_toArray, List.set_cons_zero, List.set_cons_succ]))
        (refine wpAnyE_take (i := 5) (v := ?_) rfl (by kernel_rfl) (by kernel_rfl) (by kernel_rfl) (by kernel_rfl) (fun _ _ _ h => h) (Or.inl ⟨by rfl, ?_⟩) HS ?_; rotate_left 1; (focus (intro w9 hSw; (try dsimp only at hSw); go_simp; all_goals (with_reducible rfl))); (try simp only [Act.put, List.setIfInBounds_toArray, List.set_cons_zero, List.set_cons_succ]))
        refine wpAnyE_one (i := 6) rfl (by kernel_rfl) ?_
        go_wp2
        refine ⟨fun _ => by go_keep, ?_⟩
        refine wpAnyE_one (i := 7) rfl (by kernel_rfl) ?_
        refine wpList_append_lies _ rfl _ _ _ rfl w.heap.size 61 i0 _ 6 48 Try.underlying35 hi hz0 hz1 hz2 rfl (by omega) (.slice A m c) m _ (by rfl) ((KO.out.alloc _).drew) ⟨X5.w.heap.size, 0, none⟩ 1 1 [.int .i64 v0, .int .i64 v1, .int .i64 v2, .int .i64 v3, .int .i64 v4, .int .i64 v5] (by rfl) (by rfl) (World.news_of_block (cs := #[.int .i64 v0, .int .i64 v1, .int .i64 v2, .int .i64 v3, .int .i64 v4, .int .i64 v5]) (t := 61) (fr := (0, 0)) (heap_alloc_new X5.w _)) (by simp [Value.oneCell']) (by omega) (by unfold maxLen; omega) (by omega) (by simp; omega) (X5.w.heap.size + 1) (by simp) ?_
        intro gg cap w5 hown5 hgrow5 hat5 hlt5
        have y5 : w5.frozen? ⟨p, 10, none⟩ = false := (hgrow5.frozen_far _ (by simp; omega) (Ne.symm hnp)).trans (hfz _)
        have d5 : w5.cell? ⟨p, 10, none⟩ = some (.slice A m c) := (hgrow5.cell_far _ (by simp; omega) (Ne.symm hnp)).trans (by go_keep)
        refine ⟨fun _ => ⟨d5, (hgrow5.cell_far _ (by simp; omega) (Ne.symm hne)).trans (by go_keep), (hgrow5.cell_far _ (by simp; omega) (Ne.symm hne)).trans (by go_keep), (hgrow5.cell_far _ (by simp; omega) (Ne.symm hne)).trans (by go_keep), (hgrow5.cell_far _ (by simp; omega) (Ne.symm hne)).trans (by go_keep), (hgrow5.cell_far _ (by simp; omega) (Ne.symm hne)).trans (by go_keep), (hgrow5.cell_far _ (by simp; omega) (Ne.symm hne)).trans (by go_keep)⟩, ?_⟩
        have hb5 : Below w.heap.size X5.w w5 := Below.grown (Below.drew (Below.alloc (Below.refl _ _) (by omega) _)) hgrow5 (by simp; omega) (fun b hb => (KO.out.lt b hb).1)
        have hs6 := hb5.size
        have HT := Lib.hid (((htw.out.trans (two_grown KG.out p)).later hb5).set (j := 10) (.slice (some ⟨gg, 0, none⟩) (m + 1) cap))
        have HR6 := Lib.hid ((KR.out.keepB hb5 hq hs6).setp (j := 10) hqp (.slice (some ⟨gg, 0, none⟩) (m + 1) cap))
        have HC6 := Lib.hid (((KC.out.keepB hb5 hp hs6).set (j := 10) (by decide) (.slice (some ⟨gg, 0, none⟩) (m + 1) cap)).congr (G := ansC 0 k x y lab b0 b1 b2 b3 (.slice (some ⟨gg, 0, none⟩) (m + 1) cap) (.slice none 0 0)) (fun j hj => by rcases ans_at hj with rfl | rfl | rfl | rfl | rfl | rfl | rfl | rfl | rfl | rfl | rfl | rfl <;> rfl))
        have HO6 := Lib.hid (own_set (p := ⟨p, 10, none⟩) hown5 hp (.slice (some ⟨gg, 0, none⟩) (m + 1) cap))
        have hs7 : w.heap.size ≤ (w5.setCell ⟨p, 10, none⟩ (.slice (some ⟨gg, 0, none⟩) (m + 1) cap)).heap.size := by rw [World.size_setCell]; omega
        have HS7 := Lib.hid hs7
        clear hgrow5 hown5 hb5 hat5 hs7
        refine wpAnyE_rest (k := 8) rfl (by kernel_rfl) (fun j hj => by simp; omega) ?_
        simp only [List.drop_succ_cons, List.drop_zero]
        go_wp2
        go_roundw
        case rel =>
          refine ⟨m + 1, by omega, by go_num, ?_, ⟨_, _, HC6.out, ?_⟩, HT.out, HS7.out⟩
          · have h9 := HR6.out
            rw [show off + m * 11 + 3 + 8 = off + (m + 1) * 11 by omega] at h9
            exact h9
          · have h9 := HO6.out
            rw [rowsV_succ]
            obtain ⟨g0, g1, g2, g3, g4, g5⟩ := HV.out
            rw [← g0, ← g1, ← g2, ← g3, ← g4, ← g5] at h9
            exact h9
        case measure => simp [intOf]; omega
      · obtain rfl : m = n := by omega
        obtain ⟨A, c, hc, ho⟩ := hca.out
        have HCC := Lib.hid hc
        have HO := Lib.hid ho
        clear hc ho hca
        go_wp2
        go_end0
        exact ⟨rfl, A, c, HCC.out, HO.out, htw.out⟩
end Go.Proofs.Ytdjkhcnejbinjaa
