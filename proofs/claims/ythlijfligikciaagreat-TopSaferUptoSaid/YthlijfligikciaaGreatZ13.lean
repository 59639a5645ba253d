/- Several texts of one proof, joined: slices.Grow of nil, slices.Concat of two rows of rules: walked. No condition beyond what the rows read as and how long they are. | review.edges: walked. No condition beyond what the rows read as and how many boxes there are. | Two rows of runs of four numbers compared; the last of a row; two operations of a drawn region. No condition beyond what the rows read as. -/
import Derived.Test.YthlijfligikciaaGreatZ12
import Derived.Lib.AppendZeros
import Derived.Laws.StructEq
/- slices.Grow of nil, slices.Concat of two rows of rules: walked. No condition beyond what the rows read as and how long they are. -/
namespace Go.Proofs.YthlijfligikciaaGreat
open Go.RowKit Go.Maps
set_option linter.unusedSimpArgs false
set_option linter.unusedVariables false
set_option maxRecDepth 2000

/-- A slice that reads as cells. -/
structure RdV (w : World) (A : Option Addr) (n : Nat) (vs : List Value) : Prop where
  nil : A = none → n = 0
  cells : ∀ ad, A = some ad → ad.block < w.heap.size ∧ ∀ j u, vs[j]? = some u → w.cell? (ad.add j) = some u
theorem RdV.keep {w w' : World} {A : Option Addr} {n : Nat} {vs : List Value} (h : RdV w A n vs) (hb : Below w.heap.size w w') : RdV w' A n vs :=
  ⟨h.nil, fun ad ha => ⟨Nat.lt_of_lt_of_le (h.cells ad ha).1 hb.size, fun j u hj => (hb.cell (p := ad.add j) (by rw [show (ad.add j).block = ad.block by unfold Addr.add; (repeat' split) <;> rfl]; exact (h.cells ad ha).1)).trans ((h.cells ad ha).2 j u hj)⟩⟩
theorem rdv_own {w : World} {base n c s : Nat} {e : TypeId} {A : Option Addr} {vs : List Value} (h : w.ownsRow base e s (.slice A n c) n vs) : RdV w A n vs := by
  refine ⟨fun hA => ?_, fun ad ha => ?_⟩
  · rcases h.2 with ⟨hv, hn⟩ | ⟨g, cap, cur, hv, _⟩
    · exact hn
    · rw [hA] at hv
      injection hv with hv
      cases hv
  · have hlt := (h.lt ad.block (by rw [ha]; rfl)).2
    rcases h.2 with ⟨hv, hn⟩ | ⟨g, cap, cur, hv, _⟩
    · rw [ha] at hv
      injection hv with hv
      cases hv
    · have e9 : ad = ⟨g, 0, none⟩ := by
        rw [ha] at hv
        injection hv with hv
        injection hv
      subst e9
      subst ha
      exact ⟨hlt, fun j u hj => h.cells (g := g) rfl j u hj⟩
theorem wpList_appS {P : Program} (w : World) {ops : Array Oper} {rest : List Oper} {o : Oper} {a : Act} {Q : Exit → Act → World → Prop} (hgd : o.guard = none) (s x : Operand) (t : TypeId)
    (ho : o.op = .call { callee := .builtin .append, args := #[s, x], argTypes := #[t, t] })
    (base : Nat) (e : TypeId) (i : TypeInfo) (z : Value) (size bytes : Nat) (ht : P.underlying t = some (.slice e)) (hi : P.info? e = some i) (hz : i.zero = some z)
    (hsize : i.size = size) (hby : i.bytes = bytes) (hzs : z.cells.size = size) (hsz : 0 < size)
    (v : Value) (n : Nat) (xs : List Value) (hs : a.eval s = v) (hown : w.ownsRow base e size v n xs)
    (A : Option Addr) (m c : Nat) (news : List Value) (hx : a.eval x = .slice A m c) (hr : RdV w A m news) (hl : news.length = m * size) (h1 : ∀ u ∈ news, u.oneCell' = true)
    (h63 : n + m ≤ maxLen) (hbytes : (n + m) * bytes ≤ 140737488355328) (hbase : base ≤ w.heap.size)
    (h : ∀ v' w', w'.ownsRow base e size v' (n + m) (xs ++ news) → w.grownBy w' v.ownBlock → wpList P ops Q rest (a.put o.dst v') w') : wpList P ops Q (o :: rest) a w := by
  have hrun : ∃ v' w', (Builtin.append_ #[t, t] o.type #[v, .slice A m c]).run P w = .ok v' w' ∧ w'.ownsRow base e size v' (n + m) (xs ++ news) ∧ w.grownBy w' v.ownBlock := by
    rcases A with _ | ad
    · have hm : m = 0 := hr.nil rfl
      subst hm
      have hn0 : news = [] := List.eq_nil_of_length_eq_zero (by rw [hl, Nat.zero_mul])
      subst hn0
      exact ⟨v, w, run_app_nil w base t o.type e i size ht hi v n xs hown c, by simpa using hown, World.grownBy.refl w _⟩
    · obtain ⟨v', w', hrun, h2, h3, _, _⟩ := run_append_own_at (P := P) w base t o.type e i z size bytes ht hi hz hsize hby hzs hsz v n xs hown ad m c news hl (hr.cells ad rfl).2 h1 h63 hbytes hbase
      exact ⟨v', w', hrun, h2, h3⟩
  refine wpList_plain hgd fun _ hK => ?_
  obtain ⟨v', w', hrun, h2, h3⟩ := hrun
  unfold Oper.wp execOp
  simp only [ho, resolve, invoke, builtin, Sem.run_bind, Sem.run_pure, Result.andThen_ok, List.map_toArray, List.map_cons, List.map_nil, hs, hx, hrun]
  exact hK _ _ (h v' w' h2 h3)
theorem mV_one (M : List RP) : ∀ u ∈ mV M, u.oneCell' = true := fun u hu => by
  obtain ⟨x, _, hu⟩ := List.mem_flatMap.1 hu
  unfold rpV at hu
  simp at hu
  rcases hu with rfl | rfl | rfl | rfl | rfl | rfl | rfl <;> rfl
theorem mV_app (M M' : List RP) : mV (M ++ M') = mV M ++ mV M' := by simp [mV]
set_option maxHeartbeats 8000000 in
theorem growR_any (n : Nat) (w : World) (hn : n ≤ 1000000) :
    Calls Tryz.prog 153 #[.slice none 0 0, .int .i64 n] w fun e w' => (∃ C cc, e = .returned (.slice C 0 cc) ∧ w'.ownsRow w.heap.size 65 7 (.slice C 0 cc) 0 []) ∧ Below w.heap.size w w' := by
  obtain ⟨i0, hi, hz0, hz1, hz2⟩ := info_parts (show (Tryz.prog.info? 65).map (fun i => (i.zero, i.size, i.bytes)) = some (some (.agg #[.int .i64 0, .int .i64 0, .int .i64 0, .int .i64 0, .int .i64 0, .slice none 0 0, .int .i64 0]), 7, 72) by kernel_rfl)
  rcases Nat.eq_zero_or_pos n with rfl | hpos
  · go_enter Tryz.func153, Tryz.ntmps153
    go_wp2
    go_ret
    exact ⟨⟨none, 0, rfl, World.ownsRow_nil _ _ _ _⟩, by repeat' (first | (with_reducible exact Below.refl _ _) | (with_reducible assumption) | (with_reducible refine Later.step ?_ ?_ _) | (with_reducible refine Below.alloc ?_ ?_ _) | (with_reducible refine Below.drew ?_) | (with_reducible refine Below.setCell ?_ ?_ _) | go_size)⟩
  · have hrz := fun ty => Lib.run_append_nil_zeros (P := Tryz.prog) w 22 3 ty 65 i0 _ .i64 .i64 Tryz.underlying22 Tryz.underlying3 hi hz0 n hpos (by omega) (by omega) (by rw [hz2]; omega)
    have hG1 : n ≤ grownCap w n 0 65 := grownCap_ge w _ _ _
    have hG2 := grownCap_le_maxLen w n 0 65 (by unfold maxLen; omega)
    obtain ⟨G, hG⟩ : ∃ G, grownCap w n 0 65 = G := ⟨_, rfl⟩
    rw [hG] at hrz hG1 hG2
    have hown := World.ownsRow_made (base := w.heap.size) (e := 65) (size := 7) w.drew (Builtin.zeroCells (Value.agg #[.int .i64 0, .int .i64 0, .int .i64 0, .int .i64 0, .int .i64 0, .slice none 0 0, .int .i64 0]).cells n ++ Builtin.zeroCells (Value.agg #[.int .i64 0, .int .i64 0, .int .i64 0, .int .i64 0, .int .i64 0, .slice none 0 0, .int .i64 0]).cells (G - n)) G (Nat.le_refl _) hG2 (by simp [size_zeroCells, Value.cells]; omega)
    obtain ⟨Z, hZ⟩ : ∃ Z, Builtin.zeroCells (Value.agg #[.int .i64 0, .int .i64 0, .int .i64 0, .int .i64 0, .int .i64 0, .slice none 0 0, .int .i64 0]).cells n ++ Builtin.zeroCells (Value.agg #[.int .i64 0, .int .i64 0, .int .i64 0, .int .i64 0, .int .i64 0, .slice none 0 0, .int .i64 0]).cells (G - n) = Z := ⟨_, rfl⟩
    rw [hZ] at hrz hown
    have HO := Lib.hid hown
    have HR := Lib.hid hrz
    have hG3 : G ≤ 9223372036854775807 := hG2
    clear hZ hG hown hrz hG2
    go_enter Tryz.func153, Tryz.ntmps153
    go_wp2_with (at_builtin; refine Lib.wpList_append_run _ rfl _ _ _ _ rfl _ _ rfl rfl _ _ (HR.out _) ?_)
    go_ret
    exact ⟨⟨_, G, rfl, HO.out⟩, (by repeat' (first | (with_reducible exact Below.refl _ _) | (with_reducible assumption) | (with_reducible refine Later.step ?_ ?_ _) | (with_reducible refine Below.alloc ?_ ?_ _) | (with_reducible refine Below.drew ?_) | (with_reducible refine bel_drewN ?_ _) | (with_reducible refine bel_grown ?_ (by assumption) ?_ ?_) | (with_reducible refine Below.setCell ?_ ?_ _) | go_size))⟩
/-- How many of two rows. -/
def sumK (a b : Nat) : Nat → Nat
  | 0 => 0
  | 1 => a
  | _ => a + b
def appK {α : Type} (x y : List α) : Nat → List α
  | 0 => []
  | 1 => x
  | _ => x ++ y
set_option maxHeartbeats 16000000 in
theorem concat_any (g n1 n2 c1 c2 : Nat) (A1 A2 : Option Addr) (M1 M2 : List RP) (w : World) (hg : g < w.heap.size) (g0 : w.cell? ⟨g, 0, none⟩ = some (.slice A1 n1 c1)) (g1 : w.cell? ⟨g, 1, none⟩ = some (.slice A2 n2 c2)) (h1 : RdV w A1 n1 (mV M1)) (h2 : RdV w A2 n2 (mV M2)) (hn1 : M1.length = n1) (hn2 : M2.length = n2) (hm1 : n1 ≤ 1000) (hm2 : n2 ≤ 1000) :
    Calls Tryz.prog 137 #[.slice (some ⟨g, 0, none⟩) 2 2] w fun e w' => (∃ C cc, e = .returned (.slice C (n1 + n2) cc) ∧ w'.ownsRow w.heap.size 65 7 (.slice C (n1 + n2) cc) (n1 + n2) (mV (M1 ++ M2))) ∧ Below w.heap.size w w' := by
  obtain ⟨i0, hi, hz0, hz1, hz2⟩ := info_parts (show (Tryz.prog.info? 65).map (fun i => (i.zero, i.size, i.bytes)) = some (some (.agg #[.int .i64 0, .int .i64 0, .int .i64 0, .int .i64 0, .int .i64 0, .slice none 0 0, .int .i64 0]), 7, 72) by kernel_rfl)
  have H1 := Lib.hid h1
  have H2 := Lib.hid h2
  have L1 := Lib.hid (show (mV M1).length = n1 * 7 by rw [mV_len, hn1])
  have L2 := Lib.hid (show (mV M2).length = n2 * 7 by rw [mV_len, hn2])
  obtain ⟨N, hN⟩ : ∃ N, n1 + n2 = N := ⟨_, rfl⟩
  rw [hN]
  have hN1 : N ≤ 2000 := by omega
  have HNN := Lib.hid hN
  have PG := Lib.hid (fun (Y : World) => growR_any N Y (by omega))
  have HF := Lib.hid (show ∀ C cc w', w'.ownsRow w.heap.size 65 7 (.slice C N cc) N (mV M1 ++ mV M2) → Below w.heap.size w w' → (∃ C' cc', Ending.returned (.slice C N cc) = .returned (.slice C' N cc') ∧ w'.ownsRow w.heap.size 65 7 (.slice C' N cc') N (mV (M1 ++ M2))) ∧ Below w.heap.size w w' from fun C cc w' ho hb => ⟨⟨C, cc, rfl, by rw [mV_app]; exact ho⟩, hb⟩)
  clear h1 h2 hn1 hn2 hN
  go_enter Tryz.func137, Tryz.ntmps137
  go_wp2_with fail
  go_loopw [3, 11] (fun v i wr => ∃ (j s : Nat), ((j ≤ 2 ∧ s ≤ 2000) ∧ Hid (s = sumK n1 n2 j)) ∧ v = .int .i64 s ∧ i = .int .i64 j ∧ Below w.heap.size w wr) (fun _ i _ => 2 - (intOf i).toNat)
  case atStart => exact ⟨0, 0, ⟨by omega, rfl⟩, rfl, rfl, Below.refl _ _⟩
  case round =>
    obtain ⟨j, s, ⟨⟨hj, hs⟩, hsum⟩, rfl, rfl, hbel⟩ := hrel
    obtain ⟨X, rfl⟩ : ∃ X : Later w.heap.size w, wr = X.w := ⟨⟨wr, hbel⟩, rfl⟩
    have hXs := hbel.size
    clear hbel
    have hcase : j = 0 ∨ j = 1 ∨ j = 2 := by omega
    rcases hcase with rfl | rfl | rfl
    · obtain rfl : s = 0 := hsum.out
      go_wp2_with fail
      go_roundw
      case rel => exact ⟨1, n1, ⟨by omega, rfl⟩, by go_num, by go_num, by repeat' (first | (with_reducible exact Below.refl _ _) | (with_reducible assumption) | (with_reducible refine Later.step ?_ ?_ _) | (with_reducible refine Below.alloc ?_ ?_ _) | (with_reducible refine Below.drew ?_) | (with_reducible refine bel_drewN ?_ _) | (with_reducible refine bel_grown ?_ (by assumption) ?_ ?_) | (with_reducible refine Below.setCell ?_ ?_ _) | go_size)⟩
      case measure => simp [intOf]
    · obtain rfl : s = n1 := hsum.out
      go_wp2_with fail
      go_roundw
      case rel => exact ⟨2, s + n2, ⟨by have := HNN.out; omega, rfl⟩, by go_num, by go_num, by repeat' (first | (with_reducible exact Below.refl _ _) | (with_reducible assumption) | (with_reducible refine Later.step ?_ ?_ _) | (with_reducible refine Below.alloc ?_ ?_ _) | (with_reducible refine Below.drew ?_) | (with_reducible refine bel_drewN ?_ _) | (with_reducible refine bel_grown ?_ (by assumption) ?_ ?_) | (with_reducible refine Below.setCell ?_ ?_ _) | go_size)⟩
      case measure => simp [intOf]
    · obtain rfl : s = N := by rw [hsum.out, ← HNN.out]; rfl
      go_wp2_with fail
      go_at_call 153
      refine (PG.out _).mono ?_
      rintro e w1 ⟨⟨C, cc, rfl, hown⟩, hb⟩
      obtain ⟨X1, rfl, hl1, hm1⟩ := later _ hb (Nat.le_refl _)
      clear hb
      have HO := Lib.hid hown
      clear hown
      go_wp2_with fail
      go_loopw [6, 27] (fun v i w2 => ∃ (j : Nat) (C : Option Addr) (cc m : Nat), ((j ≤ 2 ∧ m ≤ 2000) ∧ Hid (m = sumK n1 n2 j ∧ w2.ownsRow w.heap.size 65 7 (.slice C m cc) m (appK (mV M1) (mV M2) j))) ∧ v = .slice C m cc ∧ i = .int .i64 j ∧ Below w.heap.size w w2) (fun _ i _ => 2 - (intOf i).toNat)
      case atStart => exact ⟨0, C, cc, 0, ⟨⟨by omega, by omega⟩, rfl, own_base HO.out hXs⟩, rfl, rfl, by repeat' (first | (with_reducible exact Below.refl _ _) | (with_reducible assumption) | (with_reducible refine Later.step ?_ ?_ _) | (with_reducible refine Below.alloc ?_ ?_ _) | (with_reducible refine Below.drew ?_) | (with_reducible refine bel_drewN ?_ _) | (with_reducible refine bel_grown ?_ (by assumption) ?_ ?_) | (with_reducible refine Below.setCell ?_ ?_ _) | go_size)⟩
      case round =>
        obtain ⟨j, C, cc, m, ⟨⟨hj, hm⟩, hown⟩, rfl, rfl, hbel⟩ := hrel
        obtain ⟨Y, rfl⟩ : ∃ Y : Later w.heap.size w, wr = Y.w := ⟨⟨wr, hbel⟩, rfl⟩
        have hYs := hbel.size
        have hcase : j = 0 ∨ j = 1 ∨ j = 2 := by omega
        rcases hcase with rfl | rfl | rfl
        · obtain rfl : m = 0 := hown.out.1
          have R1 := Lib.hid (H1.out.keep hbel)
          have HY := Lib.hid hbel
          clear hbel
          go_wp2_with (at_builtin; refine wpList_appS _ rfl _ _ 22 rfl w.heap.size 65 i0 (.agg #[.int .i64 0, .int .i64 0, .int .i64 0, .int .i64 0, .int .i64 0, .slice none 0 0, .int .i64 0]) 7 72 Tryz.underlying22 hi hz0 hz1 hz2 rfl (by decide) (.slice C 0 cc) 0 _ (by rfl) hown.out.2 A1 n1 c1 (mV M1) (by rfl) R1.out L1.out (mV_one M1) (by unfold maxLen; omega) (by omega) hYs ?_; intro v3 w3 hown3 hgrow3; obtain ⟨A3, k3, rfl⟩ := own_formN hown3; have HO3 := Lib.hid hown3; have hb3 : Below w.heap.size w w3 := HY.out.grown hgrow3 hYs (fun kk hkk => (hown.out.2.lt kk hkk).1); clear hown3 hgrow3)
          go_roundw
          case rel => exact ⟨1, A3, k3, n1, ⟨⟨by omega, by omega⟩, rfl, by simpa [appK] using HO3.out⟩, by simp, by go_num, hb3⟩
          case measure => simp [intOf]
        · obtain rfl : m = n1 := hown.out.1
          have R2 := Lib.hid (H2.out.keep hbel)
          have HY := Lib.hid hbel
          clear hbel
          go_wp2_with (at_builtin; refine wpList_appS _ rfl _ _ 22 rfl w.heap.size 65 i0 (.agg #[.int .i64 0, .int .i64 0, .int .i64 0, .int .i64 0, .int .i64 0, .slice none 0 0, .int .i64 0]) 7 72 Tryz.underlying22 hi hz0 hz1 hz2 rfl (by decide) (.slice C m cc) m _ (by rfl) hown.out.2 A2 n2 c2 (mV M2) (by rfl) R2.out L2.out (mV_one M2) (by unfold maxLen; omega) (by omega) hYs ?_; intro v3 w3 hown3 hgrow3; obtain ⟨A3, k3, rfl⟩ := own_formN hown3; have HO3 := Lib.hid hown3; have hb3 : Below w.heap.size w w3 := HY.out.grown hgrow3 hYs (fun kk hkk => (hown.out.2.lt kk hkk).1); clear hown3 hgrow3)
          go_roundw
          case rel => exact ⟨2, A3, k3, m + n2, ⟨⟨by omega, by omega⟩, rfl, HO3.out⟩, rfl, by go_num, hb3⟩
          case measure => simp [intOf]
        · obtain rfl : m = s := by rw [hown.out.1, ← HNN.out]; rfl
          have HE := Lib.hid (HF.out C cc Y.w hown.out.2 hbel)
          clear hbel
          go_wp2_with fail
          go_ret
          exact HE.out
end Go.Proofs.YthlijfligikciaaGreat

/- review.edges: walked. No condition beyond what the rows read as and how many boxes there are. -/
namespace Go.Proofs.YthlijfligikciaaGreat
open Go.RowKit Go.Maps
set_option linter.unusedSimpArgs false
set_option linter.unusedVariables false
set_option maxRecDepth 2000

theorem own_lit2 {w : World} {base b : Nat} {t : TypeId} {x y : Value} (h : w.heap[b]? = some (.cells #[x, y] t (0, 0))) (hb : base ≤ b) : w.ownsRow base t 1 (.slice (some ⟨b, 0, none⟩) 2 2) 2 [x, y] :=
  ⟨by simp, .inr ⟨b, 2, #[x, y], rfl, hb, h, Nat.le_refl _, by unfold maxLen; omega, by simp, by simp⟩⟩
/-- The two rows of edges, while they grow. -/
structure Two (w : World) (base : Nat) (C1 C2 : Option Addr) (c1 c2 m : Nat) (X Y : List Int) : Prop where
  ox : w.ownsRow base 3 1 (.slice C1 m c1) m (nC X)
  oy : w.ownsRow base 3 1 (.slice C2 m c2) m (nC Y)
  ne : gOf C1 ≠ gOf C2
  some : (gOf C1).isSome = true ∧ (gOf C2).isSome = true
theorem Two.keep {w w' : World} {base : Nat} {C1 C2 : Option Addr} {c1 c2 m : Nat} {X Y : List Int} (h : Two w base C1 C2 c1 c2 m X Y) (hb : Below w.heap.size w w') : Two w' base C1 C2 c1 c2 m X Y := ⟨own_keep h.ox hb, own_keep h.oy hb, h.ne, h.some⟩
/-- The corners' numbers, of columns and rows, with the grid's. -/
def exL (L : List Rl) : List Int := [0, 65536] ++ ptsL (fun b => b.a) (fun b => b.c) L
def eyL (L : List Rl) : List Int := [0, 65536] ++ ptsL (fun b => b.b) (fun b => b.d) L
def RedgePost (L : List Rl) (w : World) (e : Ending) (w' : World) : Prop :=
  ∃ C1 C2 c1 c2 m1 m2, e = .returned (.tuple #[.slice C1 m1 c1, .slice C2 m2 c2]) ∧ ((edgesL (exL L)).length = m1 ∧ Ints w' w'.heap.size C1 (edgesL (exL L))) ∧ ((edgesL (eyL L)).length = m2 ∧ Ints w' w'.heap.size C2 (edgesL (eyL L))) ∧ ((∀ a, C1 = some a → w.heap.size ≤ a.block) ∧ ∀ a, C2 = some a → w.heap.size ≤ a.block) ∧ Below w.heap.size w w'
theorem nC_app (a b : List Int) : nC (a ++ b) = nC a ++ nC b := by simp [nC]
set_option maxHeartbeats 16000000 in
theorem redges_any (n c : Nat) (A : Option Addr) (L : List Rl) (P : Nat → Option Addr × Nat) (w : World) (h : Rls w w.heap.size A L P) (hn : L.length = n) (hcnt : cntB L ≤ 2097152) (hn1 : n ≤ 1000000) (hr : ∀ r ∈ L, ∀ b ∈ r.boxes, rightX b = true) :
    Calls Tryz.prog 136 #[.slice A n c] w (RedgePost L w) := by
  obtain ⟨i0, hi, hz0, hz1, hz2⟩ := info_parts (show (Tryz.prog.info? 3).map (fun i => (i.zero, i.size, i.bytes)) = some (some (.int .i64 0), 1, 8) by kernel_rfl)
  have H := Lib.hid h
  have HN := Lib.hid hn
  have HR := Lib.hid hr
  have HC := Lib.hid hcnt
  have HF := Lib.hid (show ∀ C1 C2 c1 c2 m1 m2 w', (edgesL (exL L)).length = m1 → (edgesL (eyL L)).length = m2 → Ints w' w'.heap.size C1 (edgesL (exL L)) → Ints w' w'.heap.size C2 (edgesL (eyL L)) → ((∀ a, C1 = some a → w.heap.size ≤ a.block) ∧ ∀ a, C2 = some a → w.heap.size ≤ a.block) → Below w.heap.size w w' → RedgePost L w (.returned (.tuple #[.slice C1 m1 c1, .slice C2 m2 c2])) w' from fun C1 C2 c1 c2 m1 m2 w' e1 e2 i1 i2 hl hb => ⟨C1, C2, c1, c2, m1, m2, rfl, ⟨e1, i1⟩, ⟨e2, i2⟩, hl, hb⟩)
  generalize RedgePost L w = Post at HF ⊢
  clear h hn hr hcnt
  go_enter Tryz.func136, Tryz.ntmps136
  go_wp2_with fail
  obtain ⟨W, hW⟩ : ∃ W : World, W = ((w.alloc (.cells #[.int .i64 0, .int .i64 65536] 3)).alloc (.cells #[.int .i64 0, .int .i64 65536] 3)) := ⟨_, rfl⟩
  have hbW : Below w.heap.size w W := by rw [hW]; exact ((Below.refl _ _).alloc (Nat.le_refl _) _).alloc (by simp) _
  have hsW : w.heap.size + 2 = W.heap.size := by rw [hW]; simp
  have h2W : Two W w.heap.size (some ⟨w.heap.size, 0, none⟩) (some ⟨w.heap.size + 1, 0, none⟩) 2 2 2 [0, 65536] [0, 65536] := by
    rw [hW]
    refine ⟨own_lit2 ?_ (Nat.le_refl _), own_lit2 ?_ (Nat.le_succ _), by simp [gOf], by simp [gOf]⟩
    · have h9 : Below (w.alloc (.cells #[.int .i64 0, .int .i64 65536] 3)).heap.size (w.alloc (.cells #[.int .i64 0, .int .i64 65536] 3)) ((w.alloc (.cells #[.int .i64 0, .int .i64 65536] 3)).alloc (.cells #[.int .i64 0, .int .i64 65536] 3)) := (Below.refl _ _).alloc (Nat.le_refl _) _
      rw [h9.block _ (by simp)]
      exact heap_alloc_new w _
    · have h9 := heap_alloc_new (w.alloc (.cells #[.int .i64 0, .int .i64 65536] 3)) (.cells #[.int .i64 0, .int .i64 65536] 3)
      simpa using h9
  have H2 := Lib.hid h2W
  have HSW := Lib.hid hsW
  have hsW2 : w.heap.size + 2 ≤ W.heap.size := by omega
  rw [← hW]
  clear hW hsW h2W
  go_loopw [2, 3, 12] (fun x y i wr => ∃ (k : Nat) (C1 C2 : Option Addr) (c1 c2 m : Nat), ((k ≤ n ∧ m ≤ 4194306) ∧ Hid (Two wr w.heap.size C1 C2 c1 c2 m (exL (L.take k)) (eyL (L.take k)) ∧ m = 2 + 2 * cntB (L.take k))) ∧ x = .slice C1 m c1 ∧ y = .slice C2 m c2 ∧ i = .int .i64 k ∧ Below w.heap.size w wr) (fun _ _ i _ => n - (intOf i).toNat)
  case atStart => exact ⟨0, _, _, 2, 2, 2, ⟨⟨Nat.zero_le _, by omega⟩, H2.out, rfl⟩, rfl, rfl, rfl, hbW⟩
  case round =>
    obtain ⟨k, C1, C2, c1, c2, m, ⟨⟨hk, hm⟩, htwo⟩, rfl, rfl, rfl, hbel⟩ := hrel
    obtain ⟨X, rfl⟩ : ∃ X : Later w.heap.size w, wr = X.w := ⟨⟨wr, hbel⟩, rfl⟩
    have hXs := hbel.size
    by_cases hlt : k < n
    · have hkL : k < L.length := by rw [HN.out]; exact hlt
      have hRX := H.out.keep hbel
      obtain ⟨bb, o, hA, hB, d0, d1, d2, d3, d4, d5, d6⟩ := rls_at hRX hkL
      subst hA
      have hbs := H.out.bx k hkL
      have hct := cnt_take hkL
      have hps := pts_snoc (fun b => b.a) (fun b => b.c) hkL
      have hpy := pts_snoc (fun b => b.b) (fun b => b.d) hkL
      have hrx := HR.out (L.getD k rl0) (by rw [getR_lt hkL]; exact List.getElem_mem _)
      have hcs : cntB (L.take (k + 1)) = cntB (L.take k) + (L.getD k rl0).boxes.length := by
        rw [takeR_snoc hkL, cnt_app]
        simp [cntB]
      obtain ⟨A1, cc1, hP⟩ : ∃ A1 cc1, P k = (A1, cc1) := ⟨_, _, rfl⟩
      rw [hP] at d5 hbs
      obtain ⟨q, hq⟩ : ∃ q, L.getD k rl0 = q := ⟨_, rfl⟩
      rw [hq] at d0 d1 d2 d3 d4 d5 d6 hbs hct hps hpy hrx hcs
      obtain ⟨nb, hnb⟩ : ∃ m, q.boxes.length = m := ⟨_, rfl⟩
      rw [hnb] at d5 hct hcs
      have hmb : m + 2 * nb ≤ 4194306 := by have := HC.out; have := htwo.out.2; omega
      obtain ⟨Z1, hZ1⟩ : ∃ Z, exL (L.take k) = Z := ⟨_, rfl⟩
      obtain ⟨Z2, hZ2⟩ : ∃ Z, eyL (L.take k) = Z := ⟨_, rfl⟩
      have hn1' : exL (L.take (k + 1)) = Z1 ++ ptsB (fun b => b.a) (fun b => b.c) q.boxes := by rw [← hZ1]; unfold exL; rw [hps, List.append_assoc]
      have hn2' : eyL (L.take (k + 1)) = Z2 ++ ptsB (fun b => b.b) (fun b => b.d) q.boxes := by rw [← hZ2]; unfold eyL; rw [hpy, List.append_assoc]
      rw [hZ1, hZ2] at htwo
      have HQ := Lib.hid (show q.boxes.length = nb ∧ (∀ b ∈ q.boxes, rightX b = true) ∧ Bxs w w.heap.size A1 q.boxes ∧ (exL (L.take (k + 1)) = Z1 ++ ptsB (fun b => b.a) (fun b => b.c) q.boxes ∧ eyL (L.take (k + 1)) = Z2 ++ ptsB (fun b => b.b) (fun b => b.d) q.boxes) ∧ m + 2 * nb = 2 + 2 * cntB (L.take (k + 1)) from ⟨hnb, hrx, hbs, ⟨hn1', hn2'⟩, by have := htwo.out.2; omega⟩)
      clear hbs hct hps hpy hrx hcs hP hq hnb hZ1 hZ2 hn1' hn2' hRX hbel
      have HTW := Lib.hid htwo.out.1
      clear htwo
      go_wp2_with fail
      go_loopw [2, 3, 19] (fun x y i wr => ∃ (j : Nat) (C1' C2' : Option Addr) (c1' c2' : Nat), (j ≤ nb ∧ Hid (Two wr w.heap.size C1' C2' c1' c2' (m + 2 * j) (Z1 ++ ptsB (fun b => b.a) (fun b => b.c) (q.boxes.take j)) (Z2 ++ ptsB (fun b => b.b) (fun b => b.d) (q.boxes.take j)))) ∧ x = .slice C1' (m + 2 * j) c1' ∧ y = .slice C2' (m + 2 * j) c2' ∧ i = .int .i64 j ∧ Below w.heap.size w wr) (fun _ _ i _ => nb - (intOf i).toNat)
      case atStart => exact ⟨0, C1, C2, c1, c2, ⟨Nat.zero_le _, by rw [show ptsB (fun b => b.a) (fun b => b.c) (q.boxes.take 0) = [] from rfl, show ptsB (fun b => b.b) (fun b => b.d) (q.boxes.take 0) = [] from rfl, List.append_nil, List.append_nil]; exact HTW.out.keep (show Below X.w.heap.size X.w _ by repeat' (first | (with_reducible exact Below.refl _ _) | (with_reducible assumption) | (with_reducible refine Later.step ?_ ?_ _) | (with_reducible refine Below.alloc ?_ ?_ _) | (with_reducible refine Below.drew ?_) | (with_reducible refine bel_drewN ?_ _) | (with_reducible refine bel_grown ?_ (by assumption) ?_ ?_) | (with_reducible refine Below.setCell ?_ ?_ _) | go_size))⟩, rfl, rfl, rfl, by repeat' (first | (with_reducible exact Below.refl _ _) | (with_reducible assumption) | (with_reducible refine Later.step ?_ ?_ _) | (with_reducible refine Below.alloc ?_ ?_ _) | (with_reducible refine Below.drew ?_) | (with_reducible refine bel_drewN ?_ _) | (with_reducible refine bel_grown ?_ (by assumption) ?_ ?_) | (with_reducible refine Below.setCell ?_ ?_ _) | go_size)⟩
      case round =>
        obtain ⟨j, C1', C2', c1', c2', ⟨hj, htw⟩, rfl, rfl, rfl, hbel9⟩ := hrel
        obtain ⟨X9, rfl⟩ : ∃ X : Later w.heap.size w, wr = X.w := ⟨⟨wr, hbel9⟩, rfl⟩
        have hs9 := hbel9.size
        have hbx9 := Lib.hid (HQ.out.2.2.1.keep hbel9)
        clear hbel9
        by_cases hjl : j < nb
        · have hjL : j < q.boxes.length := by rw [HQ.out.1]; exact hjl
          obtain ⟨b', o', hA', hB', e0, e1, e2, e3⟩ := bxs_at hbx9.out hjL
          subst hA'
          have hf2 := HQ.out.2.1 (q.boxes.getD j bx0) (by rw [getX_lt hjL]; exact List.getElem_mem _)
          have hp1 := ptsB_snoc (fun b => b.a) (fun b => b.c) hjL
          have hp2 := ptsB_snoc (fun b => b.b) (fun b => b.d) hjL
          obtain ⟨z, hz⟩ : ∃ z, q.boxes.getD j bx0 = z := ⟨_, rfl⟩
          rw [hz] at e0 e1 e2 e3 hf2 hp1 hp2
          have hrng := rightX_rng hf2
          have HPS := Lib.hid (And.intro hp1 hp2)
          clear hz hp1 hp2 hf2
          go_wp2_with (first
            | (at_builtin; refine wpList_append_own_at _ rfl _ _ 112 rfl w.heap.size 3 i0 (.int .i64 0) 1 8 Tryz.underlying112 hi hz0 hz1 hz2 rfl (by decide) (.slice C1' (m + 2 * j) c1') _ _ rfl ((htw.out.ox.alloc _).alloc _) ⟨X9.w.heap.size + 1, 0, none⟩ 2 2 [.int .i64 z.a, .int .i64 (z.c + 1)] rfl rfl (by first | exact cells_two_new _ _ _ _ | (intro j u hj; match j, hj with | 0, hj | 1, hj => (simp at hj; subst hj; simp [Addr.add]))) (by intro u hu; simp at hu; rcases hu with rfl | rfl <;> rfl) (by unfold maxLen; omega) (by omega) (by simp; omega) ?_; intro v3 w3 hown3 hgrow3 _ hat3; obtain ⟨A3, k3, rfl⟩ := own_formN hown3; rw [gOf_own] at hgrow3; rw [gOf_own, gOf_own] at hat3; have HG3 := Lib.hid hgrow3; have hs3 := hgrow3.size; simp only [World.size_alloc] at hs3; have hne3 : gOf A3 ≠ gOf C2' := (fun e => by rcases hat3 with h | h; exact htw.out.ne (h.symm.trans e); rw [h] at e; have := (htw.out.oy.lt _ (gOf_own.trans e.symm)).2; simp only [World.size_alloc] at this; omega); have hy3 := Lib.hid ((((htw.out.oy.alloc (Obj.cells #[.int .i64 z.a, .int .i64 z.b, .int .i64 z.c, .int .i64 z.d] 24)).alloc (Obj.cells #[.int .i64 z.a, .int .i64 (z.c + 1)] 3)).kept hgrow3 (.inr (by rw [gOf_own]; exact htw.out.ne.symm)))); have hx3 := Lib.hid (And.intro hown3 (show gOf A3 ≠ none from fun e => by rcases hat3 with h | h; (have h9 := htw.out.some.1; rw [← h, e] at h9; cases h9); (rw [e] at h; cases h))); have hq3 : gOf C1' ≠ some X9.w.heap.size := (fun e => by have := (htw.out.ox.lt _ (gOf_own.trans e)).2; omega); have y1 : w3.cell? ⟨X9.w.heap.size, 1, none⟩ = some (.int .i64 z.b) := (hgrow3.cell_far ⟨X9.w.heap.size, 1, none⟩ (by simp; omega) (Ne.symm hq3)).trans (by go_simp); have y3 : w3.cell? ⟨X9.w.heap.size, 3, none⟩ = some (.int .i64 z.d) := (hgrow3.cell_far ⟨X9.w.heap.size, 3, none⟩ (by simp; omega) (Ne.symm hq3)).trans (by go_simp); have hb3 : Below w.heap.size w w3 := Below.grown (Below.alloc (Below.alloc X9.is (by go_size) _) (by go_size) _) hgrow3 (by go_size) (fun k hk => (htw.out.ox.lt k (gOf_own.trans hk)).1); have HN3 := Lib.hid hne3; clear hown3 hgrow3 hat3 hne3 hq3)
            | (at_builtin; refine wpList_append_own_at _ rfl _ _ 112 rfl w.heap.size 3 i0 (.int .i64 0) 1 8 Tryz.underlying112 hi hz0 hz1 hz2 rfl (by decide) (.slice C2' (m + 2 * j) c2') _ _ rfl (hy3.out.alloc _) ⟨w3.heap.size, 0, none⟩ 2 2 [.int .i64 z.b, .int .i64 (z.d + 1)] rfl rfl (by first | exact cells_two_new _ _ _ _ | (intro j u hj; match j, hj with | 0, hj | 1, hj => (simp at hj; subst hj; simp [Addr.add]))) (by intro u hu; simp at hu; rcases hu with rfl | rfl <;> rfl) (by unfold maxLen; omega) (by omega) (by simp; omega) ?_; intro v4 w4 hown4 hgrow4 _ hat4; obtain ⟨A4, k4, rfl⟩ := own_formN hown4; rw [gOf_own] at hgrow4; rw [gOf_own, gOf_own] at hat4; have HE4 := Lib.hid (show Two w4 w.heap.size A3 A4 k3 k4 (m + 2 * j + 2) (Z1 ++ ptsB (fun b => b.a) (fun b => b.c) (q.boxes.take j) ++ [z.a, z.c + 1]) (Z2 ++ ptsB (fun b => b.b) (fun b => b.d) (q.boxes.take j) ++ [z.b, z.d + 1]) from ⟨by rw [nC_app]; exact (hx3.out.1.alloc _).kept hgrow4 (.inr (by rw [gOf_own]; exact HN3.out)), by rw [nC_app]; exact hown4, fun e => by rcases hat4 with h | h; (exact HN3.out (e.trans h)); (rw [h] at e; have := (hx3.out.1.lt _ (gOf_own.trans e)).2; simp only [World.size_alloc] at this; omega), by rcases hat4 with h | h; (exact ⟨by have := hx3.out.2; revert this; cases gOf A3 <;> simp, by rw [h]; exact htw.out.some.2⟩); (exact ⟨by have := hx3.out.2; revert this; cases gOf A3 <;> simp, by rw [h]; rfl⟩)⟩); have hb4 : Below w.heap.size w w4 := Below.grown (Below.alloc hb3 (by omega) _) hgrow4 (by simp; omega) (fun k hk => (htw.out.oy.lt k (gOf_own.trans hk)).1); clear hown4 hgrow4 hat4))
          go_roundw
          case rel =>
            refine ⟨j + 1, A3, A4, k3, k4, ⟨by omega, ?_⟩, rfl, rfl, by go_num, hb4⟩
            have h9 := HE4.out
            rw [HPS.out.1, HPS.out.2, ← List.append_assoc, ← List.append_assoc]
            exact h9
          case measure => simp [intOf]; omega
        · obtain rfl : j = nb := by omega
          have h9 := htw.out
          rw [show q.boxes.take j = q.boxes by rw [← HQ.out.1, List.take_length], ← HQ.out.2.2.2.1.1, ← HQ.out.2.2.2.1.2] at h9
          have HO := Lib.hid h9
          have hm9 : m + 2 * j ≤ 4194306 := by omega
          clear h9 htw
          go_wp2_with fail
          go_roundw
          case rel => exact ⟨k + 1, C1', C2', c1', c2', m + 2 * j, ⟨⟨by omega, hm9⟩, HO.out, HQ.out.2.2.2.2⟩, rfl, rfl, by go_num, by repeat' (first | (with_reducible exact Below.refl _ _) | (with_reducible assumption) | (with_reducible refine Later.step ?_ ?_ _) | (with_reducible refine Below.alloc ?_ ?_ _) | (with_reducible refine Below.drew ?_) | (with_reducible refine bel_drewN ?_ _) | (with_reducible refine bel_grown ?_ (by assumption) ?_ ?_) | (with_reducible refine Below.setCell ?_ ?_ _) | go_size)⟩
          case measure => simp [intOf]; omega
    · obtain rfl : k = n := by omega
      have htk : L.take k = L := by rw [← HN.out, List.take_length]
      have hT := htwo.out.1
      rw [htk] at hT
      have HT := Lib.hid hT
      clear hT htwo htk
      go_wp2_with fail
      refine (sort_own HT.out.ox (by omega)).mono ?_
      rintro e w1 ⟨rfl, hx1, hg1⟩
      rw [gOf_own] at hg1
      have hb1 : Below w.heap.size w w1 := Below.grown X.is hg1 hXs (fun k hk => (HT.out.ox.lt k (gOf_own.trans hk)).1)
      have hy1 := HT.out.oy.kept hg1 (.inr (by rw [gOf_own]; exact HT.out.ne.symm))
      have H1 := Lib.hid (And.intro hx1 (And.intro hy1 (And.intro hb1 hg1.size)))
      clear hx1 hy1 hb1 hg1
      go_wp2_with fail
      refine (sort_own H1.out.2.1 (by omega)).mono ?_
      rintro e w2 ⟨rfl, hy2, hg2⟩
      rw [gOf_own] at hg2
      have hs1 := H1.out.2.2.2
      have hb2 : Below w.heap.size w w2 := Below.grown H1.out.2.2.1 hg2 (by omega) (fun k hk => (H1.out.2.1.lt k (gOf_own.trans hk)).1)
      have hx2 := H1.out.1.kept hg2 (.inr (by rw [gOf_own]; exact HT.out.ne))
      have H2' := Lib.hid (And.intro hx2 (And.intro hy2 (And.intro hb2 hg2.size)))
      clear hx2 hy2 hb2 hg2
      go_wp2_with fail
      refine (compact_own H2'.out.1 (by omega)).mono ?_
      rintro e w3 ⟨rfl, hx3, hg3⟩
      rw [gOf_own] at hg3
      have hs2 := H2'.out.2.2.2
      have hb3 : Below w.heap.size w w3 := Below.grown H2'.out.2.2.1 hg3 (by omega) (fun k hk => (H2'.out.1.lt k (gOf_own.trans hk)).1)
      have hy3 := H2'.out.2.1.kept hg3 (.inr (by rw [gOf_own]; exact HT.out.ne.symm))
      have H3 := Lib.hid (And.intro hx3 (And.intro hy3 (And.intro hb3 hg3.size)))
      clear hx3 hy3 hb3 hg3
      go_wp2_with fail
      refine (compact_own H3.out.2.1 (by omega)).mono ?_
      rintro e w4 ⟨rfl, hy4, hg4⟩
      rw [gOf_own] at hg4
      have hs3 := H3.out.2.2.2
      have hb4 : Below w.heap.size w w4 := Below.grown H3.out.2.2.1 hg4 (by omega) (fun k hk => (H3.out.2.1.lt k (gOf_own.trans hk)).1)
      have hx4 := H3.out.1.kept hg4 (.inr (by rw [gOf_own]; exact HT.out.ne))
      have HE := Lib.hid (HF.out C1 C2 c1 c2 _ _ w4 rfl rfl (ints_own hx4) (ints_own hy4) ⟨fun a ha => (hx4.lt a.block (by rw [ha]; rfl)).1, fun a ha => (hy4.lt a.block (by rw [ha]; rfl)).1⟩ hb4)
      clear hx4 hy4 hb4 hg4
      go_wp2_with fail
      exact HE.out
end Go.Proofs.YthlijfligikciaaGreat

/- Two rows of runs of four numbers compared; the last of a row; two operations of a drawn region. No condition beyond what the rows read as. -/
namespace Go.Proofs.YthlijfligikciaaGreat
open Go.RowKit Go.Maps
set_option linter.unusedSimpArgs false
set_option linter.unusedVariables false
set_option maxRecDepth 4000

theorem wpOp_list {P : Program} {ops : Array Oper} {Q : Exit → Act → World → Prop} {i : Nat} {oi : Oper} {K : Act → World → Prop} {a : Act} {w : World} (hi : ops[i]? = some oi) (h : wpList P ops (Exit.then K Q) [oi] a w) : wpOp P ops Q i K a w := by
  unfold wpOp
  simp only [hi]
  unfold wpList at h
  split
  · rename_i hw
    rw [if_pos hw] at h
    rcases h with h | h
    · left
      unfold Oper.wp at h ⊢
      generalize (execOp a.eval oi).run P w = r at h ⊢
      cases r with
      | ok n w' =>
        cases n <;> simp only [Oper.upon] at h ⊢ <;>
          first
            | exact h
            | exact Calls.mono h (fun e w'' he => by cases e <;> exact he)
            | exact Rows.mono h (fun _ _ he => he)
      | halt x w' => cases x <;> simp only [Oper.upon] at h ⊢ <;> exact h
    · refine .inr ⟨h.1, ?_⟩
      exact h.2
  · rename_i hw
    rw [if_neg hw] at h
    exact h
/-- One of two that may come up. -/
theorem wpAnyE_two {P : Program} {ops : Array Oper} {Q : Exit → Act → World → Prop} {md : Region.Mode} {S : World → Prop} {E : Nat → Bool} {i j : Nat} {oi oj : Oper} {fuel : Nat} {listed : Array Bool} {a : Act} {w : World} (hi : ops[i]? = some oi) (hj : ops[j]? = some oj) (hr : Region.ready md ops listed = [i, j])
    (h1 : wpList P ops (Exit.then (fun a' w' => (E i = true → S w') ∧ wpAnyE P md ops Q S E fuel (listed.setIfInBounds i true) a' w') Q) [oi] a w)
    (h2 : wpList P ops (Exit.then (fun a' w' => (E j = true → S w') ∧ wpAnyE P md ops Q S E fuel (listed.setIfInBounds j true) a' w') Q) [oj] a w) : wpAnyE P md ops Q S E (fuel + 1) listed a w := by
  refine ⟨fun h0 => (by rw [hr] at h0; cases h0), fun x hx => ?_⟩
  rw [hr] at hx
  rcases List.mem_cons.1 hx with rfl | hx
  · exact wpOp_list hi h1
  · obtain rfl := List.mem_singleton.1 hx
    exact wpOp_list hj h2
/-- The only one that may come up, guarded, and the guard lets it. -/
theorem wpAnyE_oneG {P : Program} {ops : Array Oper} {Q : Exit → Act → World → Prop} {md : Region.Mode} {S : World → Prop} {E : Nat → Bool} {i : Nat} {oi : Oper} {fuel : Nat} {listed : Array Bool} {a : Act} {w : World} (hi : ops[i]? = some oi) (hr : Region.ready md ops listed = [i]) (hw : Region.wanted oi (yielded ops a.tmps) = true)
    (h : wpList P ops (Exit.then (fun a' w' => (E i = true → S w') ∧ wpAnyE P md ops Q S E fuel (listed.setIfInBounds i true) a' w') Q) [{ oi with guard := none }] a w) : wpAnyE P md ops Q S E (fuel + 1) listed a w :=
  wpAnyE_one hi hr (by
    unfold wpList
    rw [if_pos hw]
    unfold wpList at h
    rw [if_pos (by simp [Region.wanted])] at h
    exact h)
theorem bxV_snoc (L : List Bx) (s : Bx) : bxV (L ++ [s]) = bxV L ++ [.int .i64 s.a, .int .i64 s.b, .int .i64 s.c, .int .i64 s.d] := by simp [bxV]
theorem cells_four_new (w : World) (a b c d : Value) (t : TypeId) : ∀ j u, ([a, b, c, d] : List Value)[j]? = some u → (w.alloc (.cells #[a, b, c, d] t)).cell? ((⟨w.heap.size, 0, none⟩ : Addr).add j) = some u := by
  intro j u hj
  match j, hj with
  | 0, hj | 1, hj | 2, hj | 3, hj => simp at hj; subst hj; simp [Addr.add]
/-- The last run's cells. -/
theorem last4_cells {w : World} {base g n c : Nat} {e : TypeId} {L : List Bx} {s : Bx} (h : w.ownsRow base e 4 (.slice (some ⟨g, 0, none⟩) (n + 1) c) (n + 1) (bxV (L ++ [s]))) (hn : L.length = n) :
    w.cell? ⟨g, n * 4, none⟩ = some (.int .i64 s.a) ∧ w.cell? ⟨g, n * 4 + 1, none⟩ = some (.int .i64 s.b) ∧ w.cell? ⟨g, n * 4 + 2, none⟩ = some (.int .i64 s.c) ∧ w.cell? ⟨g, n * 4 + 3, none⟩ = some (.int .i64 s.d) := by
  subst hn
  have hl := bxV_len L
  refine ⟨?_, ?_, ?_, ?_⟩
  · rw [h.cellAt _ (by omega), bxV_snoc, List.getElem?_append_right (by omega), hl]; simp
  · rw [h.cellAt _ (by omega), bxV_snoc, List.getElem?_append_right (by omega), hl]; simp
  · rw [h.cellAt _ (by omega), bxV_snoc, List.getElem?_append_right (by omega), hl]; simp
  · rw [h.cellAt _ (by omega), bxV_snoc, List.getElem?_append_right (by omega), hl]; simp
theorem last4_set {w : World} {base g n c : Nat} {e : TypeId} {L : List Bx} {s : Bx} (h : w.ownsRow base e 4 (.slice (some ⟨g, 0, none⟩) (n + 1) c) (n + 1) (bxV (L ++ [s]))) (hn : L.length = n) (v : Int) :
    (w.setCell ⟨g, n * 4 + 1, none⟩ (.int .i64 v)).ownsRow base e 4 (.slice (some ⟨g, 0, none⟩) (n + 1) c) (n + 1) (bxV (L ++ [⟨s.a, v, s.c, s.d⟩])) := by
  subst hn
  have h1 := (h.stored (L.length * 4 + 1) (.int .i64 v)).1
  have hl := bxV_len L
  rw [bxV_snoc, List.set_append_right _ _ (by omega), hl] at h1
  rw [bxV_snoc]
  simpa using h1
def eqX (x y : Bx) : Bool := decide (x.a = y.a ∧ x.b = y.b ∧ x.c = y.c ∧ x.d = y.d)
theorem eqX_iff {x y : Bx} : eqX x y = true ↔ x = y := by
  unfold eqX
  rw [decide_eq_true_eq]
  constructor
  · rintro ⟨a, b, c, d⟩; cases x; cases y; simp_all
  · rintro rfl; simp
instance : DecidableEq Bx := fun a b => decidable_of_iff (eqX a b = true) eqX_iff
theorem eqIn_rspan (x y : Bx) (w : World) : (Op.equalIn 10000 238 (.agg #[.int .i64 x.a, .int .i64 x.b, .int .i64 x.c, .int .i64 x.d]) (.agg #[.int .i64 y.a, .int .i64 y.b, .int .i64 y.c, .int .i64 y.d])).run Tryz.prog w = .ok (eqX x y) w := by
  have hS : Tryz.prog.underlying 238 = some (.struct (Tryz.prog.fieldsOf 238)) := by kernel_rfl
  have hp : Tryz.prog.stoodInHeld 238 = false := by kernel_rfl
  obtain ⟨a, b, c, d⟩ := x
  obtain ⟨a', b', c', d'⟩ := y
  rw [show (10000 : Nat) = 9999 + 1 from rfl, run_equalIn_agg w 9999 238 _ _ hS hp]
  unfold eqX
  simp only [Program.fieldsOf, Tryz.underlying238]
  clear hS hp
  go_simp
  repeat' split
  all_goals simp_all
theorem neq_rspan (x y : Bx) (w : World) : (binOp .neq 238 (.agg #[.int .i64 x.a, .int .i64 x.b, .int .i64 x.c, .int .i64 x.d]) (.agg #[.int .i64 y.a, .int .i64 y.b, .int .i64 y.c, .int .i64 y.d])).run Tryz.prog w = .ok (.bool (!eqX x y)) w := by
  rw [run_neq_struct, eqIn_rspan]
  rfl
set_option maxHeartbeats 8000000 in
theorem requal_any (n1 n2 c1 c2 : Nat) (C1 C2 : Option Addr) (L M : List Bx) (w : World) (h1 : Bxs w w.heap.size C1 L) (h2 : Bxs w w.heap.size C2 M) (hn1 : L.length = n1) (hn2 : M.length = n2) (hb : n1 ≤ 1000000000) :
    Calls Tryz.prog 139 #[.slice C1 n1 c1, .slice C2 n2 c2] w fun e w' => e = .returned (.bool (decide (L = M))) ∧ Below w.heap.size w w' := by
  by_cases hne : n1 = n2
  · subst hne
    have HA := Lib.hid h1
    have HB := Lib.hid h2
    have HN := Lib.hid (show L.length = n1 ∧ M.length = n1 from ⟨hn1, hn2⟩)
    clear h1 h2 hn1 hn2
    obtain ⟨R, hR⟩ : ∃ R, decide (L = M) = R := ⟨_, rfl⟩
    have HR := Lib.hid hR
    rw [hR]
    clear hR
    go_enter Tryz.func139, Tryz.ntmps139
    go_wp2
    go_loopw [13] (fun i wr => ∃ k : Nat, (k ≤ n1 ∧ Hid (∀ j, j < k → L.getD j bx0 = M.getD j bx0)) ∧ i = .int .i64 k ∧ Below w.heap.size w wr) (fun i _ => n1 - (intOf i).toNat)
    case atStart => exact ⟨0, ⟨Nat.zero_le _, fun j hj => absurd hj (by omega)⟩, rfl, by repeat' (first | (with_reducible exact Below.refl _ _) | (with_reducible assumption) | (with_reducible refine Later.step ?_ ?_ _) | (with_reducible refine Below.alloc ?_ ?_ _) | (with_reducible refine Below.drew ?_) | (with_reducible refine Below.setCell ?_ ?_ _) | go_size)⟩
    case round =>
      obtain ⟨k, ⟨hk, hall⟩, rfl, hb⟩ := hrel
      obtain ⟨X, rfl⟩ : ∃ X : Later w.heap.size w, wr = X.w := ⟨⟨wr, hb⟩, rfl⟩
      by_cases hlt : k < n1
      · obtain ⟨b, o, hA, hB, c0, c1', c2', c3⟩ := bxs_at (HA.out.keep hb) (show k < L.length by rw [HN.out.1]; exact hlt)
        obtain ⟨b', o', hA', hB', d0, d1, d2, d3⟩ := bxs_at (HB.out.keep hb) (show k < M.length by rw [HN.out.2]; exact hlt)
        subst hA hA'
        clear hb
        obtain ⟨x, hx⟩ : ∃ x, L.getD k bx0 = x := ⟨_, rfl⟩
        obtain ⟨y, hy⟩ : ∃ y, M.getD k bx0 = y := ⟨_, rfl⟩
        have hno : x ≠ y → R = false := fun he => by
          rw [← HR.out, decide_eq_false_iff_not]
          rintro rfl
          exact he (by rw [← hx, ← hy])
        have hnx : x = y → ∀ j, j < k + 1 → L.getD j bx0 = M.getD j bx0 := fun he j hj => by
          rcases Nat.lt_or_eq_of_le (Nat.le_of_lt_succ hj) with h | rfl
          · exact hall.out j h
          · rw [hx, hy, he]
        rw [hx] at c0 c1' c2' c3
        rw [hy] at d0 d1 d2 d3
        have heq := eqX_iff (x := x) (y := y)
        have HQ := neq_rspan x y
        obtain ⟨d, hd⟩ : ∃ d, eqX x y = d := ⟨_, rfl⟩
        rw [hd] at heq HQ
        cases d with
        | true =>
          have HNX := Lib.hid (hnx (heq.1 rfl))
          clear hno hnx hx hy heq hd
          go_wp2
          go_quiet (fail)
          go_wp2
          go_roundw
          case rel => exact ⟨k + 1, ⟨by omega, HNX.out⟩, by go_num, by repeat' (first | (with_reducible exact Below.refl _ _) | (with_reducible assumption) | (with_reducible refine Later.step ?_ ?_ _) | (with_reducible refine Below.alloc ?_ ?_ _) | (with_reducible refine Below.drew ?_) | (with_reducible refine bel_drewN ?_ _) | (with_reducible refine bel_grown ?_ (by assumption) ?_ ?_) | (with_reducible refine Below.setCell ?_ ?_ _) | go_size)⟩
          case measure => simp [intOf]; omega
        | false =>
          obtain rfl : R = false := hno (fun he => by have := heq.2 he; cases this)
          clear hno hnx hx hy heq hd
          go_wp2
          go_quiet (fail)
          go_wp2
          go_ret
          exact ⟨rfl, by repeat' (first | (with_reducible exact Below.refl _ _) | (with_reducible assumption) | (with_reducible refine Later.step ?_ ?_ _) | (with_reducible refine Below.alloc ?_ ?_ _) | (with_reducible refine Below.drew ?_) | (with_reducible refine bel_drewN ?_ _) | (with_reducible refine bel_grown ?_ (by assumption) ?_ ?_) | (with_reducible refine Below.setCell ?_ ?_ _) | go_size)⟩
      · obtain rfl : k = n1 := by omega
        obtain rfl : R = true := by
          rw [← HR.out, decide_eq_true_eq]
          refine List.ext_getElem (by rw [HN.out.1, HN.out.2]) fun i hi1 hi2 => ?_
          have := hall.out i (by rw [← HN.out.1]; exact hi1)
          rwa [getX_lt hi1, getX_lt hi2] at this
        clear hb
        go_wp2
        go_ret
        exact ⟨rfl, by repeat' (first | (with_reducible exact Below.refl _ _) | (with_reducible assumption) | (with_reducible refine Later.step ?_ ?_ _) | (with_reducible refine Below.alloc ?_ ?_ _) | (with_reducible refine Below.drew ?_) | (with_reducible refine bel_drewN ?_ _) | (with_reducible refine bel_grown ?_ (by assumption) ?_ ?_) | (with_reducible refine Below.setCell ?_ ?_ _) | go_size)⟩
  · have hR : decide (L = M) = false := by
      rw [decide_eq_false_iff_not]
      rintro rfl
      exact hne (hn1.symm.trans hn2)
    rw [hR]
    have hne' : ((n1 : Int) == (n2 : Int)) = false := by rw [beq_eq_false_iff_ne]; omega
    clear h1 h2 hn1 hn2 hR hne
    go_enter Tryz.func139, Tryz.ntmps139
    go_wp2
    go_ret
    exact ⟨rfl, by repeat' (first | (with_reducible exact Below.refl _ _) | (with_reducible assumption) | (with_reducible refine Later.step ?_ ?_ _) | (with_reducible refine Below.alloc ?_ ?_ _) | (with_reducible refine Below.drew ?_) | (with_reducible refine Below.setCell ?_ ?_ _) | go_size)⟩
end Go.Proofs.YthlijfligikciaaGreat
