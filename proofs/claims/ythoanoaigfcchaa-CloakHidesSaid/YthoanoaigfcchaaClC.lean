/- A cell's cloak, walked. No condition beyond what the memory holds. -/
import Derived.Test.YthoanoaigfcchaaClB
import Derived.Test.YthoanoaigfcchaaCellC
import Derived.Test.YthoanoaigfcchaaEarly
import Derived.IntWalk
import Derived.Deep.RegionHeld3
import Derived.Deep.CutRange
namespace Go.Proofs.Ythoanoaigfcchaa
open Go.RowKit Go.Maps
set_option linter.unusedSimpArgs false
set_option linter.unusedVariables false
set_option maxRecDepth 2000

def rightK (K : Int) : Bool := decide (1 ≤ K ∧ K ≤ 65535)
def doesB (K A n a : Int) : Bool := decide (1 ≤ K ∧ K ≤ 65535 ∧ K ≤ n ∧ A ≤ a)
set_option maxHeartbeats 4000000 in
theorem cloakright_any (K A : Int) (w : World) : Calls Try.prog 24 #[.agg #[.int .i64 K, .int .u64 A]] w fun e w' => e = .returned (.bool (rightK K)) ∧ Below w.heap.size w w' := by
  go_enter Try.func24, Try.ntmps24
  go_wp2
  all_goals
    go_ret
    exact ⟨ret_b (iff_b (by simp only [rightK, decide_eq_true_eq]; first | omega | (simp; done) | (simp; omega))), by repeat' (first | (with_reducible exact Below.refl _ _) | (with_reducible assumption) | (with_reducible refine Later.step ?_ ?_ _) | (with_reducible refine Below.alloc ?_ ?_ _) | (with_reducible refine Below.drew ?_) | (with_reducible refine Below.setCell ?_ ?_ _) | go_size)⟩
set_option maxHeartbeats 4000000 in
theorem cloakdoes_any (K A n a : Int) (w : World) : Calls Try.prog 22 #[.agg #[.int .i64 K, .int .u64 A], .int .i64 n, .int .u64 a] w fun e w' => e = .returned (.bool (doesB K A n a)) ∧ Below w.heap.size w w' := by
  obtain ⟨r, hr⟩ : ∃ r, rightK K = r := ⟨_, rfl⟩
  have p1 := cloakright_any K A
  rw [hr] at p1
  have P1 := Lib.hid p1
  have hr2 : r = true ↔ 1 ≤ K ∧ K ≤ 65535 := by rw [← hr]; simp [rightK]
  have HR := Lib.hid hr2
  clear p1 hr hr2
  cases r with
  | false =>
    go_enter Try.func22, Try.ntmps22
    go_wp2_with (first
      | (go_at_call 24; refine (P1.out _).mono ?_; rintro e w' ⟨rfl, hb⟩; obtain ⟨X1, rfl, hl1, hm1⟩ := later (w.heap.size + 1) hb (by first | exact Nat.le_refl _ | go_size); clear hb; (try simp only [World.size_alloc, World.size_setCell, World.size_drew] at hm1)))
    all_goals
      go_ret
      exact ⟨ret_b (by
        have h9 := HR.out
        symm
        unfold doesB
        rw [decide_eq_false_iff_not]
        intro h
        exact absurd (h9.2 ⟨h.1, h.2.1⟩) (by simp)), by repeat' (first | (with_reducible exact Below.refl _ _) | (with_reducible assumption) | (with_reducible refine Later.step ?_ ?_ _) | (with_reducible refine Below.alloc ?_ ?_ _) | (with_reducible refine Below.drew ?_) | (with_reducible refine Below.setCell ?_ ?_ _) | go_size)⟩
  | true =>
    have hK := HR.out.1 rfl
    go_enter Try.func22, Try.ntmps22
    go_wp2_with (first
      | (go_at_call 24; refine (P1.out _).mono ?_; rintro e w' ⟨rfl, hb⟩; obtain ⟨X1, rfl, hl1, hm1⟩ := later (w.heap.size + 1) hb (by first | exact Nat.le_refl _ | go_size); clear hb; (try simp only [World.size_alloc, World.size_setCell, World.size_drew] at hm1)))
    all_goals
      go_ret
      exact ⟨ret_b (iff_b (by simp only [doesB, decide_eq_true_eq]; first | omega | (simp; done) | (simp; omega))), by repeat' (first | (with_reducible exact Below.refl _ _) | (with_reducible assumption) | (with_reducible refine Later.step ?_ ?_ _) | (with_reducible refine Below.alloc ?_ ?_ _) | (with_reducible refine Below.drew ?_) | (with_reducible refine Below.setCell ?_ ?_ _) | go_size)⟩
set_option maxHeartbeats 4000000 in
theorem ckdoes_any (a b c d l x y k n K A : Int) (w : World) : Calls Try.prog 47 #[.agg #[.int .i64 a, .int .i64 b, .int .i64 c, .int .i64 d, .int .i64 l, .int .i64 x, .int .i64 y, .int .i64 k, .int .i64 n], .agg #[.int .i64 K, .int .u64 A]] w fun e w' => e = .returned (.bool (doesB K A n (areaI a b c d))) ∧ Below w.heap.size w w' := by
  have P1 := Lib.hid (area_any a b c d)
  have P2 := Lib.hid (cloakdoes_any K A n (areaI a b c d))
  go_enter Try.func47, Try.ntmps47
  go_wp2_with fail
  (refine wp_region_later (w.heap.size + 2) (by kernel_rfl) (by kernel_rfl) (by go_size) ?_; (repeat (go_big_quiet_step ((first | (go_at_call 61; exact Later.call _ (Nat.le_trans (by go_size) (Later.is _).size) (P1.out _)) | (go_at_call 22; exact Later.call _ (Nat.le_trans (by go_size) (Later.is _).size) (P2.out _)))))); refine wpQuiet_nil ?_; intro Xq hlq hmq)
  go_wp2
  go_ret
  exact ⟨rfl, by repeat' (first | (with_reducible exact Below.refl _ _) | (with_reducible assumption) | (with_reducible refine Later.step ?_ ?_ _) | (with_reducible refine Below.alloc ?_ ?_ _) | (with_reducible refine Below.drew ?_) | (with_reducible refine Below.setCell ?_ ?_ _) | go_size)⟩
theorem box_right {l x y : Int} (h : crightB l x y = true) : rightB (x * sd l) (y * sd l) (x * sd l + sd l - 1) (y * sd l + sd l - 1) = true := by
  obtain ⟨l0, l1, x0, y0, x1, y1⟩ := cright_iff.1 h
  have h1 := grid_lt l0 l1 x0 x1
  have h2 := grid_lt l0 l1 y0 y1
  have h3 := sd_pos l
  rw [right_iff]
  omega
set_option maxHeartbeats 4000000 in
theorem own_any (l x y : Int) (q n : Nat) (F : Nat → Nat → Int) (w : World) (h : Pyr w q n F) (hc : crightB l x y = true) :
    Calls Try.prog 46 #[.agg #[.int .i64 l, .int .i64 x, .int .i64 y], .func (.func 31) #[.pointer (some ⟨q, 0, none⟩)] #[]] w fun e w' => e = .returned (.agg #[.int .i64 (x * sd l), .int .i64 (y * sd l), .int .i64 (x * sd l + sd l - 1), .int .i64 (y * sd l + sd l - 1), .int .i64 l, .int .i64 x, .int .i64 y, .int .i64 0, .int .i64 (cntF F l x y)]) ∧ Below w.heap.size w w' := by
  have p1 := box_any l x y
  rw [hc] at p1
  simp only [sel, if_true] at p1
  have P1 := Lib.hid p1
  have HP := Lib.hid h
  have P2 := Lib.hid (fun (Y : World) (hY : Below w.heap.size w Y) => count_any l x y q n F Y (HP.out.keep hY))
  have hq := h.lt
  clear p1 h hc
  generalize cntF F l x y = v at *
  go_enter Try.func46, Try.ntmps46
  go_wp2_with (first
    | (go_at_call 60; refine (P1.out _).mono ?_; rintro e w' ⟨rfl, hb⟩; obtain ⟨X1, rfl, hl1, hm1⟩ := later (w.heap.size + 2) hb (by first | exact Nat.le_refl _ | go_size); clear hb; (try simp only [World.size_alloc, World.size_setCell, World.size_drew] at hm1)))
  (refine wp_region_later_tail 6 (X1.w.heap.size + 1) (by kernel_rfl) (by kernel_rfl) (by go_size) ?_; simp only [List.take_succ_cons, List.take_zero, List.drop_succ_cons, List.drop_zero]; (repeat (go_big_quiet_step ((first | (go_at_call 31; exact Later.call _ (Nat.le_trans (by go_size) (Later.is _).size) (P2.out _ (by repeat' (first | (with_reducible exact Below.refl _ _) | (with_reducible assumption) | (with_reducible refine Later.step ?_ ?_ _) | (with_reducible refine Below.alloc ?_ ?_ _) | (with_reducible refine Below.drew ?_) | (with_reducible refine bel_drewN ?_ _) | (with_reducible refine bel_grown ?_ (by assumption) ?_ ?_) | (with_reducible refine Below.setCell ?_ ?_ _) | go_size)))))))); refine wpQuiet_nil ?_; intro Xq hlq hmq)
  go_wp2
  refine bodyPost_ret (v := .agg #[.int .i64 (x * sd l), .int .i64 (y * sd l), .int .i64 (x * sd l + sd l - 1), .int .i64 (y * sd l + sd l - 1), .int .i64 l, .int .i64 x, .int .i64 y, .int .i64 0, .int .i64 v]) (by simp only [results, Try.results46]; go_simp; all_goals (first | rfl | simp [sel])) rfl ⟨rfl, ?_⟩
  repeat' (first | (with_reducible exact Below.refl _ _) | (with_reducible assumption) | (with_reducible refine Later.step ?_ ?_ _) | (with_reducible refine Below.alloc ?_ ?_ _) | (with_reducible refine Below.drew ?_) | (with_reducible refine bel_drewN ?_ _) | (with_reducible refine bel_grown ?_ (by assumption) ?_ ?_) | (with_reducible refine Below.setCell ?_ ?_ _) | go_size)
def ckC (l x y n : Int) (j : Nat) : Value := ([.int .i64 (x * sd l), .int .i64 (y * sd l), .int .i64 (x * sd l + sd l - 1), .int .i64 (y * sd l + sd l - 1), .int .i64 l, .int .i64 x, .int .i64 y, .int .i64 0, .int .i64 n] : List Value).getD j undef
theorem ck_at {j : Nat} (hj : j < 9) : j = 0 ∨ j = 1 ∨ j = 2 ∨ j = 3 ∨ j = 4 ∨ j = 5 ∨ j = 6 ∨ j = 7 ∨ j = 8 := by omega
def Has9 (w : World) (g : Nat) : Prop := ∃ F, CellsAt w g 9 F
section
variable {w W : World} {g : Nat} {l x y n : Int} {t : TypeId} {F : Nat → Value}
theorem has9_new {C : Array Value} (hC : C.size = 9) (hg : g = w.heap.size) : Has9 (w.alloc (Obj.cells C t)) g := by
  subst hg
  exact ⟨fun j => C.getD j undef, CellsAt.new fun j hj => by
    simp [Array.getD, hC, hj]⟩
theorem Has9.alloc (h : Has9 w g) (o : Obj) : Has9 (w.alloc o) g := by
  obtain ⟨F, h⟩ := h
  exact ⟨F, h.keep ((Below.refl _ _).alloc (Nat.le_refl _) o)⟩
theorem Has9.other {p : Addr} (h : Has9 w g) (hp : p.block ≠ g) (v : Value) : Has9 (w.setCell p v) g := by
  obtain ⟨F, h⟩ := h
  exact ⟨F, h.other hp v⟩
theorem Has9.later (X : Later W.heap.size W) (h : Has9 W g) : Has9 X.w g := by
  obtain ⟨F, h⟩ := h
  exact ⟨F, h.keep X.is⟩
theorem CellsAt.later {m : Nat} (X : Later W.heap.size W) (h : CellsAt W g m F) : CellsAt X.w g m F := h.keep X.is
theorem CellsAt.alloc {m : Nat} (h : CellsAt w g m F) (o : Obj) : CellsAt (w.alloc o) g m F := h.keep ((Below.refl _ _).alloc (Nat.le_refl _) o)
theorem Has9.drew (h : Has9 w g) : Has9 w.drew g := h
theorem CellsAt.drew {m : Nat} (h : CellsAt w g m F) : CellsAt w.drew g m F := h
theorem ck_new (hg : g = w.heap.size) : CellsAt (w.alloc (Obj.cells #[.int .i64 (x * sd l), .int .i64 (y * sd l), .int .i64 (x * sd l + sd l - 1), .int .i64 (y * sd l + sd l - 1), .int .i64 l, .int .i64 x, .int .i64 y, .int .i64 0, .int .i64 n] t)) g 9 (ckC l x y n) := by
  subst hg
  exact CellsAt.new fun j hj => by rcases ck_at hj with rfl | rfl | rfl | rfl | rfl | rfl | rfl | rfl | rfl <;> rfl
theorem CellsAt.ck (h : CellsAt w g 9 (ckC l x y n)) : w.cell? ⟨g, 0, none⟩ = some (.int .i64 (x * sd l)) ∧ w.cell? ⟨g, 1, none⟩ = some (.int .i64 (y * sd l)) ∧ w.cell? ⟨g, 2, none⟩ = some (.int .i64 (x * sd l + sd l - 1)) ∧ w.cell? ⟨g, 3, none⟩ = some (.int .i64 (y * sd l + sd l - 1)) ∧ w.cell? ⟨g, 4, none⟩ = some (.int .i64 (l)) ∧ w.cell? ⟨g, 5, none⟩ = some (.int .i64 (x)) ∧ w.cell? ⟨g, 6, none⟩ = some (.int .i64 (y)) ∧ w.cell? ⟨g, 7, none⟩ = some (.int .i64 (0)) ∧ w.cell? ⟨g, 8, none⟩ = some (.int .i64 (n)) :=
  ⟨(h.2 0 (by decide)).1, (h.2 1 (by decide)).1, (h.2 2 (by decide)).1, (h.2 3 (by decide)).1, (h.2 4 (by decide)).1, (h.2 5 (by decide)).1, (h.2 6 (by decide)).1, (h.2 7 (by decide)).1, (h.2 8 (by decide)).1⟩
theorem ck_nine (h : Has9 w g) : CellsAt (((((((((w.setCell ⟨g, 0, none⟩ (.int .i64 (x * sd l))).setCell ⟨g, 1, none⟩ (.int .i64 (y * sd l))).setCell ⟨g, 2, none⟩ (.int .i64 (x * sd l + sd l - 1))).setCell ⟨g, 3, none⟩ (.int .i64 (y * sd l + sd l - 1))).setCell ⟨g, 4, none⟩ (.int .i64 l)).setCell ⟨g, 5, none⟩ (.int .i64 x)).setCell ⟨g, 6, none⟩ (.int .i64 y)).setCell ⟨g, 7, none⟩ (.int .i64 0)).setCell ⟨g, 8, none⟩ (.int .i64 n)) g 9 (ckC l x y n) := by
  obtain ⟨F, h⟩ := h
  refine (((((((((h.set (j := 0) (by decide) _).set (j := 1) (by decide) _).set (j := 2) (by decide) _).set (j := 3) (by decide) _).set (j := 4) (by decide) _).set (j := 5) (by decide) _).set (j := 6) (by decide) _).set (j := 7) (by decide) _).set (j := 8) (by decide) _).congr ?_
  intro j hj
  rcases ck_at hj with rfl | rfl | rfl | rfl | rfl | rfl | rfl | rfl | rfl <;> rfl
end
/-- Both cells' cloaks are kept in blocks of their own. -/
def PairMid (B : Nat) (w : World) (l x y l' x' y' n n' : Int) (s s' : Value) (wx : World) : Prop :=
  ∃ g g', s = .pointer (some ⟨g, 0, none⟩) ∧ s' = .pointer (some ⟨g', 0, none⟩) ∧ B ≤ g ∧ B ≤ g' ∧ CellsAt wx g 9 (ckC l x y n) ∧ CellsAt wx g' 9 (ckC l' x' y' n') ∧ Below B w wx
set_option maxHeartbeats 4000000 in
theorem pair_any (l x y l' x' y' kd : Int) (q n : Nat) (F : Nat → Nat → Int) (w : World) (h : Pyr w q n F) (hc : crightB l x y = true) (hc' : crightB l' x' y' = true) (hF : ∀ l x y, 0 ≤ cntF F l x y ∧ cntF F l x y ≤ 1000000) :
    Calls Try.prog 51 #[.agg #[.int .i64 l, .int .i64 x, .int .i64 y], .agg #[.int .i64 l', .int .i64 x', .int .i64 y'], .int .i64 kd, .func (.func 31) #[.pointer (some ⟨q, 0, none⟩)] #[]] w fun e w' => e = .returned (.agg #[.int .i64 (min (x * sd l) (x' * sd l')), .int .i64 (min (y * sd l) (y' * sd l')), .int .i64 (max (x * sd l + sd l - 1) (x' * sd l' + sd l' - 1)), .int .i64 (max (y * sd l + sd l - 1) (y' * sd l' + sd l' - 1)), .int .i64 l, .int .i64 x, .int .i64 y, .int .i64 kd, .int .i64 (cntF F l x y + cntF F l' x' y')]) ∧ Below w.heap.size w w' := by
  have HP := Lib.hid h
  have P1 := Lib.hid (fun (Y : World) (hY : Below w.heap.size w Y) => own_any l x y q n F Y (HP.out.keep hY) hc)
  have P2 := Lib.hid (fun (Y : World) (hY : Below w.heap.size w Y) => own_any l' x' y' q n F Y (HP.out.keep hY) hc')
  have hq := h.lt
  have hv1 := hF l x y
  have hv2 := hF l' x' y'
  have PHU := Lib.hid (show ∀ Y : World, Calls Try.prog 63 #[.agg #[.int .i64 (x * sd l), .int .i64 (y * sd l), .int .i64 (x * sd l + sd l - 1), .int .i64 (y * sd l + sd l - 1)], .agg #[.int .i64 (x' * sd l'), .int .i64 (y' * sd l'), .int .i64 (x' * sd l' + sd l' - 1), .int .i64 (y' * sd l' + sd l' - 1)]] Y fun e w' => e = .returned (.agg #[.int .i64 (min (x * sd l) (x' * sd l')), .int .i64 (min (y * sd l) (y' * sd l')), .int .i64 (max (x * sd l + sd l - 1) (x' * sd l' + sd l' - 1)), .int .i64 (max (y * sd l + sd l - 1) (y' * sd l' + sd l' - 1))]) ∧ Below Y.heap.size Y w' from fun Y => by
    have h9 := hull_any (x * sd l) (y * sd l) (x * sd l + sd l - 1) (y * sd l + sd l - 1) (x' * sd l') (y' * sd l') (x' * sd l' + sd l' - 1) (y' * sd l' + sd l' - 1) Y
    rw [show bothB (x * sd l) (y * sd l) (x * sd l + sd l - 1) (y * sd l + sd l - 1) (x' * sd l') (y' * sd l') (x' * sd l' + sd l' - 1) (y' * sd l' + sd l' - 1) = true from by
      unfold bothB
      rw [box_right hc, box_right hc']
      rfl] at h9
    simpa only [sel, if_true] using h9)
  clear h hF
  go_enter Try.func51, Try.ntmps51
  go_upto_region 1 with fail
  have d0 : (((w.alloc (Obj.cells #[.int .i64 l, .int .i64 x, .int .i64 y] 35)).alloc (Obj.cells #[.int .i64 l', .int .i64 x', .int .i64 y'] 35)).alloc (Obj.cells #[.int .i64 0, .int .i64 0, .int .i64 0, .int .i64 0, .int .i64 0, .int .i64 0, .int .i64 0, .int .i64 0, .int .i64 0] 37)).cell? ⟨w.heap.size, 0, none⟩ = some (.int .i64 l) := by go_simp
  have d1 : (((w.alloc (Obj.cells #[.int .i64 l, .int .i64 x, .int .i64 y] 35)).alloc (Obj.cells #[.int .i64 l', .int .i64 x', .int .i64 y'] 35)).alloc (Obj.cells #[.int .i64 0, .int .i64 0, .int .i64 0, .int .i64 0, .int .i64 0, .int .i64 0, .int .i64 0, .int .i64 0, .int .i64 0] 37)).cell? ⟨w.heap.size, 1, none⟩ = some (.int .i64 x) := by go_simp
  have d2 : (((w.alloc (Obj.cells #[.int .i64 l, .int .i64 x, .int .i64 y] 35)).alloc (Obj.cells #[.int .i64 l', .int .i64 x', .int .i64 y'] 35)).alloc (Obj.cells #[.int .i64 0, .int .i64 0, .int .i64 0, .int .i64 0, .int .i64 0, .int .i64 0, .int .i64 0, .int .i64 0, .int .i64 0] 37)).cell? ⟨w.heap.size, 2, none⟩ = some (.int .i64 y) := by go_simp
  have e0 : (((w.alloc (Obj.cells #[.int .i64 l, .int .i64 x, .int .i64 y] 35)).alloc (Obj.cells #[.int .i64 l', .int .i64 x', .int .i64 y'] 35)).alloc (Obj.cells #[.int .i64 0, .int .i64 0, .int .i64 0, .int .i64 0, .int .i64 0, .int .i64 0, .int .i64 0, .int .i64 0, .int .i64 0] 37)).cell? ⟨w.heap.size + 1, 0, none⟩ = some (.int .i64 l') := by go_simp
  have e1 : (((w.alloc (Obj.cells #[.int .i64 l, .int .i64 x, .int .i64 y] 35)).alloc (Obj.cells #[.int .i64 l', .int .i64 x', .int .i64 y'] 35)).alloc (Obj.cells #[.int .i64 0, .int .i64 0, .int .i64 0, .int .i64 0, .int .i64 0, .int .i64 0, .int .i64 0, .int .i64 0, .int .i64 0] 37)).cell? ⟨w.heap.size + 1, 1, none⟩ = some (.int .i64 x') := by go_simp
  have e2 : (((w.alloc (Obj.cells #[.int .i64 l, .int .i64 x, .int .i64 y] 35)).alloc (Obj.cells #[.int .i64 l', .int .i64 x', .int .i64 y'] 35)).alloc (Obj.cells #[.int .i64 0, .int .i64 0, .int .i64 0, .int .i64 0, .int .i64 0, .int .i64 0, .int .i64 0, .int .i64 0, .int .i64 0] 37)).cell? ⟨w.heap.size + 1, 2, none⟩ = some (.int .i64 y') := by go_simp
  have r0 : (((w.alloc (Obj.cells #[.int .i64 l, .int .i64 x, .int .i64 y] 35)).alloc (Obj.cells #[.int .i64 l', .int .i64 x', .int .i64 y'] 35)).alloc (Obj.cells #[.int .i64 0, .int .i64 0, .int .i64 0, .int .i64 0, .int .i64 0, .int .i64 0, .int .i64 0, .int .i64 0, .int .i64 0] 37)).cell? ⟨w.heap.size + 1 + 1, 0, none⟩ = some (.int .i64 0) := by go_simp
  have z0 : (((w.alloc (Obj.cells #[.int .i64 l, .int .i64 x, .int .i64 y] 35)).alloc (Obj.cells #[.int .i64 l', .int .i64 x', .int .i64 y'] 35)).alloc (Obj.cells #[.int .i64 0, .int .i64 0, .int .i64 0, .int .i64 0, .int .i64 0, .int .i64 0, .int .i64 0, .int .i64 0, .int .i64 0] 37)).frozen? ⟨w.heap.size + 1 + 1, 0, none⟩ = false := by go_simp
  have r1 : (((w.alloc (Obj.cells #[.int .i64 l, .int .i64 x, .int .i64 y] 35)).alloc (Obj.cells #[.int .i64 l', .int .i64 x', .int .i64 y'] 35)).alloc (Obj.cells #[.int .i64 0, .int .i64 0, .int .i64 0, .int .i64 0, .int .i64 0, .int .i64 0, .int .i64 0, .int .i64 0, .int .i64 0] 37)).cell? ⟨w.heap.size + 1 + 1, 1, none⟩ = some (.int .i64 0) := by go_simp
  have z1 : (((w.alloc (Obj.cells #[.int .i64 l, .int .i64 x, .int .i64 y] 35)).alloc (Obj.cells #[.int .i64 l', .int .i64 x', .int .i64 y'] 35)).alloc (Obj.cells #[.int .i64 0, .int .i64 0, .int .i64 0, .int .i64 0, .int .i64 0, .int .i64 0, .int .i64 0, .int .i64 0, .int .i64 0] 37)).frozen? ⟨w.heap.size + 1 + 1, 1, none⟩ = false := by go_simp
  have r2 : (((w.alloc (Obj.cells #[.int .i64 l, .int .i64 x, .int .i64 y] 35)).alloc (Obj.cells #[.int .i64 l', .int .i64 x', .int .i64 y'] 35)).alloc (Obj.cells #[.int .i64 0, .int .i64 0, .int .i64 0, .int .i64 0, .int .i64 0, .int .i64 0, .int .i64 0, .int .i64 0, .int .i64 0] 37)).cell? ⟨w.heap.size + 1 + 1, 2, none⟩ = some (.int .i64 0) := by go_simp
  have z2 : (((w.alloc (Obj.cells #[.int .i64 l, .int .i64 x, .int .i64 y] 35)).alloc (Obj.cells #[.int .i64 l', .int .i64 x', .int .i64 y'] 35)).alloc (Obj.cells #[.int .i64 0, .int .i64 0, .int .i64 0, .int .i64 0, .int .i64 0, .int .i64 0, .int .i64 0, .int .i64 0, .int .i64 0] 37)).frozen? ⟨w.heap.size + 1 + 1, 2, none⟩ = false := by go_simp
  have r3 : (((w.alloc (Obj.cells #[.int .i64 l, .int .i64 x, .int .i64 y] 35)).alloc (Obj.cells #[.int .i64 l', .int .i64 x', .int .i64 y'] 35)).alloc (Obj.cells #[.int .i64 0, .int .i64 0, .int .i64 0, .int .i64 0, .int .i64 0, .int .i64 0, .int .i64 0, .int .i64 0, .int .i64 0] 37)).cell? ⟨w.heap.size + 1 + 1, 3, none⟩ = some (.int .i64 0) := by go_simp
  have z3 : (((w.alloc (Obj.cells #[.int .i64 l, .int .i64 x, .int .i64 y] 35)).alloc (Obj.cells #[.int .i64 l', .int .i64 x', .int .i64 y'] 35)).alloc (Obj.cells #[.int .i64 0, .int .i64 0, .int .i64 0, .int .i64 0, .int .i64 0, .int .i64 0, .int .i64 0, .int .i64 0, .int .i64 0] 37)).frozen? ⟨w.heap.size + 1 + 1, 3, none⟩ = false := by go_simp
  have r4 : (((w.alloc (Obj.cells #[.int .i64 l, .int .i64 x, .int .i64 y] 35)).alloc (Obj.cells #[.int .i64 l', .int .i64 x', .int .i64 y'] 35)).alloc (Obj.cells #[.int .i64 0, .int .i64 0, .int .i64 0, .int .i64 0, .int .i64 0, .int .i64 0, .int .i64 0, .int .i64 0, .int .i64 0] 37)).cell? ⟨w.heap.size + 1 + 1, 4, none⟩ = some (.int .i64 0) := by go_simp
  have z4 : (((w.alloc (Obj.cells #[.int .i64 l, .int .i64 x, .int .i64 y] 35)).alloc (Obj.cells #[.int .i64 l', .int .i64 x', .int .i64 y'] 35)).alloc (Obj.cells #[.int .i64 0, .int .i64 0, .int .i64 0, .int .i64 0, .int .i64 0, .int .i64 0, .int .i64 0, .int .i64 0, .int .i64 0] 37)).frozen? ⟨w.heap.size + 1 + 1, 4, none⟩ = false := by go_simp
  have r5 : (((w.alloc (Obj.cells #[.int .i64 l, .int .i64 x, .int .i64 y] 35)).alloc (Obj.cells #[.int .i64 l', .int .i64 x', .int .i64 y'] 35)).alloc (Obj.cells #[.int .i64 0, .int .i64 0, .int .i64 0, .int .i64 0, .int .i64 0, .int .i64 0, .int .i64 0, .int .i64 0, .int .i64 0] 37)).cell? ⟨w.heap.size + 1 + 1, 5, none⟩ = some (.int .i64 0) := by go_simp
  have z5 : (((w.alloc (Obj.cells #[.int .i64 l, .int .i64 x, .int .i64 y] 35)).alloc (Obj.cells #[.int .i64 l', .int .i64 x', .int .i64 y'] 35)).alloc (Obj.cells #[.int .i64 0, .int .i64 0, .int .i64 0, .int .i64 0, .int .i64 0, .int .i64 0, .int .i64 0, .int .i64 0, .int .i64 0] 37)).frozen? ⟨w.heap.size + 1 + 1, 5, none⟩ = false := by go_simp
  have r6 : (((w.alloc (Obj.cells #[.int .i64 l, .int .i64 x, .int .i64 y] 35)).alloc (Obj.cells #[.int .i64 l', .int .i64 x', .int .i64 y'] 35)).alloc (Obj.cells #[.int .i64 0, .int .i64 0, .int .i64 0, .int .i64 0, .int .i64 0, .int .i64 0, .int .i64 0, .int .i64 0, .int .i64 0] 37)).cell? ⟨w.heap.size + 1 + 1, 6, none⟩ = some (.int .i64 0) := by go_simp
  have z6 : (((w.alloc (Obj.cells #[.int .i64 l, .int .i64 x, .int .i64 y] 35)).alloc (Obj.cells #[.int .i64 l', .int .i64 x', .int .i64 y'] 35)).alloc (Obj.cells #[.int .i64 0, .int .i64 0, .int .i64 0, .int .i64 0, .int .i64 0, .int .i64 0, .int .i64 0, .int .i64 0, .int .i64 0] 37)).frozen? ⟨w.heap.size + 1 + 1, 6, none⟩ = false := by go_simp
  have r7 : (((w.alloc (Obj.cells #[.int .i64 l, .int .i64 x, .int .i64 y] 35)).alloc (Obj.cells #[.int .i64 l', .int .i64 x', .int .i64 y'] 35)).alloc (Obj.cells #[.int .i64 0, .int .i64 0, .int .i64 0, .int .i64 0, .int .i64 0, .int .i64 0, .int .i64 0, .int .i64 0, .int .i64 0] 37)).cell? ⟨w.heap.size + 1 + 1, 7, none⟩ = some (.int .i64 0) := by go_simp
  have z7 : (((w.alloc (Obj.cells #[.int .i64 l, .int .i64 x, .int .i64 y] 35)).alloc (Obj.cells #[.int .i64 l', .int .i64 x', .int .i64 y'] 35)).alloc (Obj.cells #[.int .i64 0, .int .i64 0, .int .i64 0, .int .i64 0, .int .i64 0, .int .i64 0, .int .i64 0, .int .i64 0, .int .i64 0] 37)).frozen? ⟨w.heap.size + 1 + 1, 7, none⟩ = false := by go_simp
  have r8 : (((w.alloc (Obj.cells #[.int .i64 l, .int .i64 x, .int .i64 y] 35)).alloc (Obj.cells #[.int .i64 l', .int .i64 x', .int .i64 y'] 35)).alloc (Obj.cells #[.int .i64 0, .int .i64 0, .int .i64 0, .int .i64 0, .int .i64 0, .int .i64 0, .int .i64 0, .int .i64 0, .int .i64 0] 37)).cell? ⟨w.heap.size + 1 + 1, 8, none⟩ = some (.int .i64 0) := by go_simp
  have z8 : (((w.alloc (Obj.cells #[.int .i64 l, .int .i64 x, .int .i64 y] 35)).alloc (Obj.cells #[.int .i64 l', .int .i64 x', .int .i64 y'] 35)).alloc (Obj.cells #[.int .i64 0, .int .i64 0, .int .i64 0, .int .i64 0, .int .i64 0, .int .i64 0, .int .i64 0, .int .i64 0, .int .i64 0] 37)).frozen? ⟨w.heap.size + 1 + 1, 8, none⟩ = false := by go_simp
  have hsz0 : (((w.alloc (Obj.cells #[.int .i64 l, .int .i64 x, .int .i64 y] 35)).alloc (Obj.cells #[.int .i64 l', .int .i64 x', .int .i64 y'] 35)).alloc (Obj.cells #[.int .i64 0, .int .i64 0, .int .i64 0, .int .i64 0, .int .i64 0, .int .i64 0, .int .i64 0, .int .i64 0, .int .i64 0] 37)).heap.size = w.heap.size + 3 := by simp
  obtain ⟨X0, hX0⟩ : ∃ Z : Later w.heap.size w, (((w.alloc (Obj.cells #[.int .i64 l, .int .i64 x, .int .i64 y] 35)).alloc (Obj.cells #[.int .i64 l', .int .i64 x', .int .i64 y'] 35)).alloc (Obj.cells #[.int .i64 0, .int .i64 0, .int .i64 0, .int .i64 0, .int .i64 0, .int .i64 0, .int .i64 0, .int .i64 0, .int .i64 0] 37)) = Z.w := ⟨⟨(((w.alloc (Obj.cells #[.int .i64 l, .int .i64 x, .int .i64 y] 35)).alloc (Obj.cells #[.int .i64 l', .int .i64 x', .int .i64 y'] 35)).alloc (Obj.cells #[.int .i64 0, .int .i64 0, .int .i64 0, .int .i64 0, .int .i64 0, .int .i64 0, .int .i64 0, .int .i64 0, .int .i64 0] 37)), by repeat' (first | (with_reducible exact Below.refl _ _) | (with_reducible assumption) | (with_reducible refine Later.step ?_ ?_ _) | (with_reducible refine Below.alloc ?_ ?_ _) | (with_reducible refine Below.drew ?_) | (with_reducible refine Below.setCell ?_ ?_ _) | go_size)⟩, rfl⟩
  rw [hX0] at d0 d1 d2 e0 e1 e2 r0 z0 r1 z1 r2 z2 r3 z3 r4 z4 r5 z5 r6 z6 r7 z7 r8 z8 hsz0 ⊢
  have hlo : w.heap.size + 3 ≤ X0.w.heap.size := by omega
  have HSZ0 := Lib.hid hsz0
  clear hX0 hsz0
  go_cut [9, 10] from 9 to 16 (fun s9 s10 wx => PairMid X0.w.heap.size X0.w l x y l' x' y' (cntF F l x y) (cntF F l' x' y') s9 s10 wx)
  case first =>
    go_region_held3 (fun w' => w'.cell? ⟨w.heap.size, 0, none⟩ = some (.int .i64 l) ∧ w'.cell? ⟨w.heap.size, 1, none⟩ = some (.int .i64 x) ∧ w'.cell? ⟨w.heap.size, 2, none⟩ = some (.int .i64 y) ∧ w'.cell? ⟨w.heap.size + 1, 0, none⟩ = some (.int .i64 l') ∧ w'.cell? ⟨w.heap.size + 1, 1, none⟩ = some (.int .i64 x') ∧ w'.cell? ⟨w.heap.size + 1, 2, none⟩ = some (.int .i64 y')) ((repeat' apply And.intro) <;> (repeat (first | (with_reducible assumption) | (with_reducible refine (World.cell?_alloc_lt _ _ _ ?_).trans ?_; focus (simp only [World.size_alloc, World.size_setCell, World.size_drew]; omega)) | (with_reducible refine (World.cell?_setCell_far _ _ _ _ ?_).trans ?_; focus (dsimp only; omega)) | (with_reducible refine (X2.is.cell (p := ⟨_, _, none⟩) ?_).trans ?_; focus (simp only [World.size_alloc, World.size_setCell, World.size_drew]; omega)) | (with_reducible refine (X1.is.cell (p := ⟨_, _, none⟩) ?_).trans ?_; focus (simp only [World.size_alloc, World.size_setCell, World.size_drew]; omega)) | (simp only [World.cell?_drew]))))
      (first
        | (go_at_call 46; with_reducible refine (P1.out _ (by repeat' (first | (with_reducible exact Below.refl _ _) | (with_reducible assumption) | (with_reducible refine Later.step ?_ ?_ _) | (with_reducible refine Below.alloc ?_ ?_ _) | (with_reducible refine Below.drew ?_) | (with_reducible refine bel_drewN ?_ _) | (with_reducible refine bel_grown ?_ (by assumption) ?_ ?_) | (with_reducible refine Below.setCell ?_ ?_ _) | go_size))).mono ?_; rintro e w' ⟨rfl, hb⟩; obtain ⟨X1, rfl, hl1, hm1⟩ := later _ hb (Nat.le_refl _); clear hb; (try simp only [World.size_alloc, World.size_setCell, World.size_drew] at hm1 hl1))
        | (go_at_call 46; with_reducible refine (P2.out _ (by repeat' (first | (with_reducible exact Below.refl _ _) | (with_reducible assumption) | (with_reducible refine Later.step ?_ ?_ _) | (with_reducible refine Below.alloc ?_ ?_ _) | (with_reducible refine Below.drew ?_) | (with_reducible refine bel_drewN ?_ _) | (with_reducible refine bel_grown ?_ (by assumption) ?_ ?_) | (with_reducible refine Below.setCell ?_ ?_ _) | go_size))).mono ?_; rintro e w' ⟨rfl, hb⟩; obtain ⟨X2, rfl, hl2, hm2⟩ := later _ hb (Nat.le_refl _); clear hb; (try simp only [World.size_alloc, World.size_setCell, World.size_drew] at hm2 hl2)))
    all_goals
      go_wp2_with fail
      go_meet
      refine ⟨_, _, rfl, rfl, ?_, ?_, ?_, ?_, ?_⟩
      · first | omega | (simp; omega) | (simp only [World.size_alloc, World.size_setCell, World.size_drew]; omega)
      · first | omega | (simp; omega) | (simp only [World.size_alloc, World.size_setCell, World.size_drew]; omega)
      · repeat' (first | (with_reducible refine ck_nine ?_) | (with_reducible refine ck_new ?_; focus (simp; done)) | (with_reducible refine CellsAt.alloc ?_ _) | (with_reducible refine CellsAt.other ?_ ?_ _) | (with_reducible refine CellsAt.later _ ?_) | (with_reducible refine CellsAt.drew ?_) | (with_reducible refine Has9.drew ?_) | (with_reducible refine has9_new rfl ?_; focus (simp; done)) | (with_reducible refine Has9.alloc ?_ _) | (with_reducible refine Has9.other ?_ ?_ _) | (with_reducible refine Has9.later _ ?_) | (focus (dsimp only; omega)))
      · repeat' (first | (with_reducible refine ck_nine ?_) | (with_reducible refine ck_new ?_; focus (simp; done)) | (with_reducible refine CellsAt.alloc ?_ _) | (with_reducible refine CellsAt.other ?_ ?_ _) | (with_reducible refine CellsAt.later _ ?_) | (with_reducible refine CellsAt.drew ?_) | (with_reducible refine Has9.drew ?_) | (with_reducible refine has9_new rfl ?_; focus (simp; done)) | (with_reducible refine Has9.alloc ?_ _) | (with_reducible refine Has9.other ?_ ?_ _) | (with_reducible refine Has9.later _ ?_) | (focus (dsimp only; omega)))
      · repeat' (first | (with_reducible exact Below.refl _ _) | (with_reducible assumption) | (with_reducible refine Later.step ?_ ?_ _) | (with_reducible refine Below.alloc ?_ ?_ _) | (with_reducible refine Below.drew ?_) | (with_reducible refine bel_drewN ?_ _) | (with_reducible refine bel_grown ?_ (by assumption) ?_ ?_) | (with_reducible refine Below.setCell ?_ ?_ _) | go_size)
  case rest =>
    unfold PairMid at hcut
    obtain ⟨g, g', rfl, rfl, hg, hg', hC, hC', hb⟩ := hcut
    have hgl := hC.1
    have hgl' := hC'.1
    have hszc := hb.size
    obtain ⟨c0, c1, c2, c3, c4, c5, c6, c7, c8⟩ := hC.ck
    obtain ⟨k0, k1, k2, k3, k4, k5, k6, k7, k8⟩ := hC'.ck
    obtain ⟨X, rfl⟩ : ∃ Z : Later X0.w.heap.size X0.w, wc = Z.w := ⟨⟨wc, hb⟩, rfl⟩
    clear hC hC' hb
    obtain ⟨v1, hv1'⟩ : ∃ v, cntF F l x y = v := ⟨_, rfl⟩
    obtain ⟨v2, hv2'⟩ : ∃ v, cntF F l' x' y' = v := ⟨_, rfl⟩
    rw [hv1'] at c8 hv1
    rw [hv2'] at k8 hv2
    have HV := Lib.hid (show cntF F l x y = v1 ∧ cntF F l' x' y' = v2 from ⟨hv1', hv2'⟩)
    have hw : IntKind.i64.wrap (v1 + v2) = v1 + v2 := IntWalk.i64_in _ (by omega)
    clear hv1' hv2'
    go_wp2_with fail
    (refine wp_region_later_tail 13 (X.w.heap.size) (by kernel_rfl) (by kernel_rfl) (by go_size) ?_; simp only [List.take_succ_cons, List.take_zero, List.drop_succ_cons, List.drop_zero]; (repeat (go_big_quiet_step ((first | (go_at_call 63; exact Later.call _ (Nat.le_trans (by go_size) (Later.is _).size) (PHU.out _)))))); refine wpQuiet_nil ?_; intro Xq hlq hmq)
    go_wp2
    refine bodyPost_ret (v := .agg #[.int .i64 (min (x * sd l) (x' * sd l')), .int .i64 (min (y * sd l) (y' * sd l')), .int .i64 (max (x * sd l + sd l - 1) (x' * sd l' + sd l' - 1)), .int .i64 (max (y * sd l + sd l - 1) (y' * sd l' + sd l' - 1)), .int .i64 l, .int .i64 x, .int .i64 y, .int .i64 kd, .int .i64 (v1 + v2)]) (by simp only [results, Try.results51]; go_simp; all_goals (first | rfl | simp [sel])) rfl ⟨by rw [HV.out.1, HV.out.2], ?_⟩
    repeat' (first | (with_reducible exact Below.refl _ _) | (with_reducible assumption) | (with_reducible refine Later.step ?_ ?_ _) | (with_reducible refine Below.alloc ?_ ?_ _) | (with_reducible refine Below.drew ?_) | (with_reducible refine bel_drewN ?_ _) | (with_reducible refine bel_grown ?_ (by assumption) ?_ ?_) | (with_reducible refine Below.setCell ?_ ?_ _) | go_size)
end Go.Proofs.Ythoanoaigfcchaa
