/- Grants: the document's functions walked. No condition but that grants may be. -/
import Derived.Test.YtjfgjlklbepnjaaGeomR
import Derived.Test.YtjfgjlklbepnjaaTkP
import Derived.Test.YtjfgjlklbepnjaaTkC
import Derived.Deep.RegionHeld3
import Derived.Deep.CutRange
import Derived.IntWalk
namespace Go.Proofs.Ytjfgjlklbepnjaa
open Go.RowKit
set_option linter.unusedSimpArgs false
set_option linter.unusedVariables false
set_option maxRecDepth 2000

set_option maxHeartbeats 8000000 in
theorem kright_any (g : Gr) (w : World) : Calls Try.prog 28 #[.agg #[.int .i64 g.ops, .int .i64 g.zoom, .int .i64 g.a, .int .i64 g.b, .int .i64 g.c, .int .i64 g.d, .bool g.void, .int .i64 g.til]] w fun e w' => e = .returned (.bool (rightG g)) ∧ Below w.heap.size w w' := by
  obtain ⟨o, z, a, b, c, d, v, t⟩ := g
  obtain ⟨r, hr⟩ : ∃ r, rightB a b c d = r := ⟨_, rfl⟩
  have p1 := rright_any a b c d
  rw [hr] at p1
  have P1 := Lib.hid p1
  have hE : rightG ⟨o, z, a, b, c, d, v, t⟩ = decide (0 ≤ o ∧ o ≤ 31 ∧ 0 ≤ z ∧ z ≤ 16 ∧ 0 ≤ t ∧ t ≤ 4294967295 ∧ ((v = true ∧ a = 0 ∧ b = 0 ∧ c = 0 ∧ d = 0) ∨ (v = false ∧ r = true))) := by unfold rightG; rw [hr]
  rw [hE]
  clear p1 hr hE
  go_enter Try.func28, Try.ntmps28
  cases v
  · go_wp2_with (first
      | (go_at_call 43; refine (P1.out _).mono ?_; rintro e w' ⟨rfl, hb⟩; obtain ⟨X1, rfl, hl1, hm1⟩ := later (w.heap.size + 1) hb (by first | exact Nat.le_refl _ | go_size); clear hb; (try simp only [World.size_alloc, World.size_setCell, World.size_drew] at hm1)))
    all_goals
      go_ret
      exact ⟨ret_b (by cases r <;> simp <;> omega), by repeat' (first | (with_reducible exact Below.refl _ _) | (with_reducible assumption) | (with_reducible refine Later.step ?_ ?_ _) | (with_reducible refine Below.alloc ?_ ?_ _) | (with_reducible refine Below.drew ?_) | (with_reducible refine Below.setCell ?_ ?_ _) | go_size)⟩
  · go_wp2_with (first
      | (go_at_call 43; refine (P1.out _).mono ?_; rintro e w' ⟨rfl, hb⟩; obtain ⟨X1, rfl, hl1, hm1⟩ := later (w.heap.size + 1) hb (by first | exact Nat.le_refl _ | go_size); clear hb; (try simp only [World.size_alloc, World.size_setCell, World.size_drew] at hm1)))
    all_goals
      go_ret
      exact ⟨ret_b (by cases r <;> simp <;> omega), by repeat' (first | (with_reducible exact Below.refl _ _) | (with_reducible assumption) | (with_reducible refine Later.step ?_ ?_ _) | (with_reducible refine Below.alloc ?_ ?_ _) | (with_reducible refine Below.drew ?_) | (with_reducible refine Below.setCell ?_ ?_ _) | go_size)⟩
theorem kless_any (a b : Int) (w : World) : Calls Try.prog 45 #[.int .i64 a, .int .i64 b] w fun e w' => e = .returned (.int .i64 (min a b)) ∧ Below w.heap.size w w' := by
  by_cases h : a < b
  · rw [Int.min_eq_left (by omega)]
    go_enter Try.func45, Try.ntmps45
    go_wp2
    go_ret
    exact ⟨rfl, Below.refl _ _⟩
  · rw [Int.min_eq_right (by omega)]
    go_enter Try.func45, Try.ntmps45
    go_wp2
    go_ret
    exact ⟨rfl, Below.refl _ _⟩
def rN (a b k : Nat) : Nat := (a % 2 ^ k) &&& (b % 2 ^ k)
theorem rN_step : ∀ k < 5, ∀ a < 32, ∀ b < 32, rN a b (k + 1) = rN a b k + if a / 2 ^ k % 2 = 1 ∧ b / 2 ^ k % 2 = 1 then 2 ^ k else 0 := by decide +kernel
theorem rN_all {a b : Nat} (ha : a < 32) (hb : b < 32) : rN a b 5 = a &&& b := by
  unfold rN
  rw [Nat.mod_eq_of_lt (by omega), Nat.mod_eq_of_lt (by omega)]
theorem rN_bd {a b k : Nat} (ha : a < 32) : rN a b k ≤ 31 := by
  have h1 : rN a b k ≤ a % 2 ^ k := Nat.and_le_left
  have h2 := Nat.mod_le a (2 ^ k)
  omega
theorem tmod_wrap (a q : Nat) (h : a < 100) : (wrap64 ((a : Int) / (q : Int))).tmod 2 = ((a / q % 2 : Nat) : Int) := by
  have h1 : ((a : Int) / (q : Int)) = ((a / q : Nat) : Int) := by push_cast; rfl
  have h2 := Nat.div_le_self a q
  rw [h1]
  generalize a / q = d at *
  rw [IntWalk.wrap64_in _ (by omega), Int.tmod_eq_emod_of_nonneg (by omega)]
  push_cast
  rfl
set_option maxHeartbeats 4000000 in
theorem rights_any (a b : Nat) (ha : a < 32) (hb : b < 32) (w : World) : Calls Try.prog 44 #[.int .i64 (a : Int), .int .i64 (b : Int)] w fun e w' => e = .returned (.int .i64 ((a &&& b : Nat) : Int)) ∧ Below w.heap.size w w' := by
  go_enter Try.func44, Try.ntmps44
  go_wp2
  go_loop [5, 6, 7] (fun n bit i => ∃ k : Nat, k ≤ 5 ∧ i = .int .i64 k ∧ bit = .int .i64 ((2 ^ k : Nat) : Int) ∧ n = .int .i64 ((rN a b k : Nat) : Int)) (fun _ _ i => 5 - (intOf i).toNat)
  case atStart => exact ⟨0, by omega, rfl, rfl, by unfold rN; simp [Nat.mod_one]⟩
  case round =>
    obtain ⟨k, hk, rfl, rfl, rfl⟩ := hrel
    by_cases hlt : k < 5
    · have hst := rN_step k hlt a ha b hb
      have hbd := rN_bd (b := b) (k := k) ha
      have HB := Lib.hid (rN_bd (b := b) (k := k + 1) ha)
      have hp : 2 ^ k ≤ 16 := by
        have : k = 0 ∨ k = 1 ∨ k = 2 ∨ k = 3 ∨ k = 4 := by omega
        rcases this with rfl | rfl | rfl | rfl | rfl <;> decide
      have hp0 : 0 < 2 ^ k := Nat.pow_pos (by omega)
      have hps : 2 ^ (k + 1) = 2 * 2 ^ k := by rw [Nat.pow_succ]; omega
      have HPS := Lib.hid hps
      have HST := Lib.hid hst
      obtain ⟨q, hq⟩ : ∃ q, 2 ^ k = q := ⟨_, rfl⟩
      obtain ⟨n, hn⟩ : ∃ q, rN a b k = q := ⟨_, rfl⟩
      rw [hq] at hp hp0 HPS HST ⊢
      rw [hn] at hbd HST ⊢
      have hq0 : ((q : Int) == 0) = false := by simp; omega
      have hA := tmod_wrap a q (by omega)
      have hB := tmod_wrap b q (by omega)
      clear hst hps hq hn
      by_cases h1 : a / q % 2 = 1
      · by_cases h2 : b / q % 2 = 1
        · have := HB.out
          have h32 : n + q ≤ 31 := by rw [HST.out, if_pos ⟨h1, h2⟩] at this; exact this
          have e1 : ((wrap64 ((a : Int) / (q : Int))).tmod 2 == 1) = true := by rw [hA]; simp; omega
          have e2 : ((wrap64 ((b : Int) / (q : Int))).tmod 2 == 1) = true := by rw [hB]; simp; omega
          have HN := Lib.hid (show rN a b (k + 1) = n + q by rw [HST.out, if_pos ⟨h1, h2⟩])
          clear h1 h2 hA hB HST
          go_wp2
          go_round
          case rel => exact ⟨k + 1, by omega, by go_num, by rw [HPS.out]; push_cast; first | rfl | (congr 1; omega), by rw [HN.out]; push_cast; first | rfl | (congr 1; omega)⟩
          case measure => simp [intOf]; omega
        · skip
          have e1 : ((wrap64 ((a : Int) / (q : Int))).tmod 2 == 1) = true := by rw [hA]; simp; omega
          have e2 : ((wrap64 ((b : Int) / (q : Int))).tmod 2 == 1) = false := by rw [hB]; simp; omega
          have HN := Lib.hid (show rN a b (k + 1) = n + 0 by rw [HST.out, if_neg (fun h => h2 h.2)])
          clear h1 h2 hA hB HST
          go_wp2
          go_round
          case rel => exact ⟨k + 1, by omega, by go_num, by rw [HPS.out]; push_cast; first | rfl | (congr 1; omega), by rw [HN.out]; push_cast; first | rfl | (congr 1; omega)⟩
          case measure => simp [intOf]; omega
      · by_cases h2 : b / q % 2 = 1
        · skip
          have e1 : ((wrap64 ((a : Int) / (q : Int))).tmod 2 == 1) = false := by rw [hA]; simp; omega
          have e2 : ((wrap64 ((b : Int) / (q : Int))).tmod 2 == 1) = true := by rw [hB]; simp; omega
          have HN := Lib.hid (show rN a b (k + 1) = n + 0 by rw [HST.out, if_neg (fun h => h1 h.1)])
          clear h1 h2 hA hB HST
          go_wp2
          go_round
          case rel => exact ⟨k + 1, by omega, by go_num, by rw [HPS.out]; push_cast; first | rfl | (congr 1; omega), by rw [HN.out]; push_cast; first | rfl | (congr 1; omega)⟩
          case measure => simp [intOf]; omega
        · skip
          have e1 : ((wrap64 ((a : Int) / (q : Int))).tmod 2 == 1) = false := by rw [hA]; simp; omega
          have e2 : ((wrap64 ((b : Int) / (q : Int))).tmod 2 == 1) = false := by rw [hB]; simp; omega
          have HN := Lib.hid (show rN a b (k + 1) = n + 0 by rw [HST.out, if_neg (fun h => h1 h.1)])
          clear h1 h2 hA hB HST
          go_wp2
          go_round
          case rel => exact ⟨k + 1, by omega, by go_num, by rw [HPS.out]; push_cast; first | rfl | (congr 1; omega), by rw [HN.out]; push_cast; first | rfl | (congr 1; omega)⟩
          case measure => simp [intOf]; omega
    · have hk' : k = 5 := by omega
      subst hk'
      rw [rN_all ha hb]
      go_wp2
      go_ret
      exact ⟨rfl, Below.refl _ _⟩
theorem wp_world {P : Program} {c : Code} {Q : Exit → Act → World → Prop} {a : Act} {W : World} (S : World → Prop) (hS : S W) (h : ∀ Y, S Y → c.wp P Q a Y) : c.wp P Q a W := h W hS
def gC (lo mz mt : Int) (j : Nat) : Value := ([.int .i64 lo, .int .i64 mz, .int .i64 0, .int .i64 0, .int .i64 0, .int .i64 0, .bool true, .int .i64 mt] : List Value).getD j undef
theorem gc_at {j : Nat} (hj : j < 8) : j = 0 ∨ j = 1 ∨ j = 2 ∨ j = 3 ∨ j = 4 ∨ j = 5 ∨ j = 6 ∨ j = 7 := by omega
section
variable {w W : World} {g : Nat} {lo mz mt : Int} {t : TypeId}
theorem gc_new (hg : g = w.heap.size) : CellsAt (w.alloc (Obj.cells #[.int .i64 lo, .int .i64 mz, .int .i64 0, .int .i64 0, .int .i64 0, .int .i64 0, .bool true, .int .i64 mt] t)) g 8 (gC lo mz mt) := by
  subst hg
  exact CellsAt.new fun j hj => by rcases gc_at hj with rfl | rfl | rfl | rfl | rfl | rfl | rfl | rfl <;> rfl
theorem gc_eight (h : HasC w g 8) : CellsAt ((((((((w.setCell ⟨g, 0, none⟩ (.int .i64 lo)).setCell ⟨g, 1, none⟩ (.int .i64 mz)).setCell ⟨g, 2, none⟩ (.int .i64 0)).setCell ⟨g, 3, none⟩ (.int .i64 0)).setCell ⟨g, 4, none⟩ (.int .i64 0)).setCell ⟨g, 5, none⟩ (.int .i64 0)).setCell ⟨g, 6, none⟩ (.bool true)).setCell ⟨g, 7, none⟩ (.int .i64 mt)) g 8 (gC lo mz mt) := by
  obtain ⟨F, h⟩ := h
  refine ((((((((h.set (j := 0) (by decide) _).set (j := 1) (by decide) _).set (j := 2) (by decide) _).set (j := 3) (by decide) _).set (j := 4) (by decide) _).set (j := 5) (by decide) _).set (j := 6) (by decide) _).set (j := 7) (by decide) _).congr ?_
  intro j hj
  rcases gc_at hj with rfl | rfl | rfl | rfl | rfl | rfl | rfl | rfl <;> rfl
end
/-- The first half of a meeting: all but the box. -/
def MeetMid (B : Nat) (w : World) (lo mz mt : Int) (s : Value) (wx : World) : Prop :=
  ∃ g, s = .pointer (some ⟨g, 0, none⟩) ∧ B ≤ g ∧ CellsAt wx g 8 (gC lo mz mt) ∧ Below B w wx
set_option maxHeartbeats 8000000 in
theorem kmeet_any (g h : Gr) (w : World) (hg : rightG g = true) (hh : rightG h = true) : Calls Try.prog 29 #[.agg #[.int .i64 g.ops, .int .i64 g.zoom, .int .i64 g.a, .int .i64 g.b, .int .i64 g.c, .int .i64 g.d, .bool g.void, .int .i64 g.til], .agg #[.int .i64 h.ops, .int .i64 h.zoom, .int .i64 h.a, .int .i64 h.b, .int .i64 h.c, .int .i64 h.d, .bool h.void, .int .i64 h.til]] w fun e w' => e = .returned (.agg #[.int .i64 (meetG g h).ops, .int .i64 (meetG g h).zoom, .int .i64 (meetG g h).a, .int .i64 (meetG g h).b, .int .i64 (meetG g h).c, .int .i64 (meetG g h).d, .bool (meetG g h).void, .int .i64 (meetG g h).til]) ∧ Below w.heap.size w w' := by
  have pl : ∀ Y : World, Calls Try.prog 44 #[.int .i64 g.ops, .int .i64 h.ops] Y fun e w' => e = .returned (.int .i64 (landI g.ops h.ops)) ∧ Below Y.heap.size Y w' := fun Y => by
    have := rights_any g.ops.toNat h.ops.toNat (by have := rightG_iff.1 hg; omega) (by have := rightG_iff.1 hh; omega) Y
    rw [Int.toNat_of_nonneg (rightG_iff.1 hg).1, Int.toNat_of_nonneg (rightG_iff.1 hh).1] at this
    exact this
  clear hg hh
  have hm : mB g h = (!g.void && !h.void && meetsB g.a g.b g.c g.d h.a h.b h.c h.d) := rfl
  have p1 := rmeet_any g.a g.b g.c g.d h.a h.b h.c h.d
  have pz := kless_any g.zoom h.zoom
  have pt := kless_any g.til h.til
  unfold meetG
  rw [hm]
  obtain ⟨o, z, a, b, c, d, v, t⟩ := g
  obtain ⟨o', z', a', b', c', d', v', t'⟩ := h
  simp only at *
  obtain ⟨m, hm'⟩ : ∃ m, meetsB a b c d a' b' c' d' = m := ⟨_, rfl⟩
  obtain ⟨lo, hlo⟩ : ∃ m, landI o o' = m := ⟨_, rfl⟩
  obtain ⟨x0, h0⟩ : ∃ m, max a a' = m := ⟨_, rfl⟩
  obtain ⟨x1, h1⟩ : ∃ m, max b b' = m := ⟨_, rfl⟩
  obtain ⟨x2, h2⟩ : ∃ m, min c c' = m := ⟨_, rfl⟩
  obtain ⟨x3, h3⟩ : ∃ m, min d d' = m := ⟨_, rfl⟩
  obtain ⟨mz, h4⟩ : ∃ m, min z z' = m := ⟨_, rfl⟩
  obtain ⟨mt, h5⟩ : ∃ m, min t t' = m := ⟨_, rfl⟩
  rw [hm', h0, h1, h2, h3] at p1
  rw [hm', hlo, h0, h1, h2, h3, h4, h5]
  rw [hlo] at pl
  rw [h4] at pz
  rw [h5] at pt
  have PL := Lib.hid pl
  have PZ := Lib.hid pz
  have PT' := Lib.hid pt
  clear hm hm' hlo h0 h1 h2 h3 h4 h5 pl pz pt
  obtain ⟨ok, hok⟩ : ∃ ok, (!v && !v' && m) = ok := ⟨_, rfl⟩
  obtain ⟨y0, hy0⟩ : ∃ y, sel ok x0 = y := ⟨_, rfl⟩
  obtain ⟨y1, hy1⟩ : ∃ y, sel ok x1 = y := ⟨_, rfl⟩
  obtain ⟨y2, hy2⟩ : ∃ y, sel ok x2 = y := ⟨_, rfl⟩
  obtain ⟨y3, hy3⟩ : ∃ y, sel ok x3 = y := ⟨_, rfl⟩
  obtain ⟨vv, hvv⟩ : ∃ y, (!ok) = y := ⟨_, rfl⟩
  rw [hok, hy0, hy1, hy2, hy3, hvv]
  have HOK := Lib.hid (show (!v && !v' && m) = ok ∧ sel ok x0 = y0 ∧ sel ok x1 = y1 ∧ sel ok x2 = y2 ∧ sel ok x3 = y3 ∧ (!ok) = vv from ⟨hok, hy0, hy1, hy2, hy3, hvv⟩)
  clear hok hy0 hy1 hy2 hy3 hvv
  go_enter Try.func29, Try.ntmps29
  go_upto_region 1 with fail
  have d0 : (((w.alloc (Obj.cells #[.int .i64 o, .int .i64 z, .int .i64 a, .int .i64 b, .int .i64 c, .int .i64 d, .bool v, .int .i64 t] 30)).alloc (Obj.cells #[.int .i64 o', .int .i64 z', .int .i64 a', .int .i64 b', .int .i64 c', .int .i64 d', .bool v', .int .i64 t'] 30)).alloc (Obj.cells #[.int .i64 0, .int .i64 0, .int .i64 0, .int .i64 0, .int .i64 0, .int .i64 0, .bool false, .int .i64 0] 30)).cell? ⟨w.heap.size, 0, none⟩ = some (.int .i64 o) := by go_simp
  have d1 : (((w.alloc (Obj.cells #[.int .i64 o, .int .i64 z, .int .i64 a, .int .i64 b, .int .i64 c, .int .i64 d, .bool v, .int .i64 t] 30)).alloc (Obj.cells #[.int .i64 o', .int .i64 z', .int .i64 a', .int .i64 b', .int .i64 c', .int .i64 d', .bool v', .int .i64 t'] 30)).alloc (Obj.cells #[.int .i64 0, .int .i64 0, .int .i64 0, .int .i64 0, .int .i64 0, .int .i64 0, .bool false, .int .i64 0] 30)).cell? ⟨w.heap.size, 1, none⟩ = some (.int .i64 z) := by go_simp
  have d2 : (((w.alloc (Obj.cells #[.int .i64 o, .int .i64 z, .int .i64 a, .int .i64 b, .int .i64 c, .int .i64 d, .bool v, .int .i64 t] 30)).alloc (Obj.cells #[.int .i64 o', .int .i64 z', .int .i64 a', .int .i64 b', .int .i64 c', .int .i64 d', .bool v', .int .i64 t'] 30)).alloc (Obj.cells #[.int .i64 0, .int .i64 0, .int .i64 0, .int .i64 0, .int .i64 0, .int .i64 0, .bool false, .int .i64 0] 30)).cell? ⟨w.heap.size, 2, none⟩ = some (.int .i64 a) := by go_simp
  have d3 : (((w.alloc (Obj.cells #[.int .i64 o, .int .i64 z, .int .i64 a, .int .i64 b, .int .i64 c, .int .i64 d, .bool v, .int .i64 t] 30)).alloc (Obj.cells #[.int .i64 o', .int .i64 z', .int .i64 a', .int .i64 b', .int .i64 c', .int .i64 d', .bool v', .int .i64 t'] 30)).alloc (Obj.cells #[.int .i64 0, .int .i64 0, .int .i64 0, .int .i64 0, .int .i64 0, .int .i64 0, .bool false, .int .i64 0] 30)).cell? ⟨w.heap.size, 3, none⟩ = some (.int .i64 b) := by go_simp
  have d4 : (((w.alloc (Obj.cells #[.int .i64 o, .int .i64 z, .int .i64 a, .int .i64 b, .int .i64 c, .int .i64 d, .bool v, .int .i64 t] 30)).alloc (Obj.cells #[.int .i64 o', .int .i64 z', .int .i64 a', .int .i64 b', .int .i64 c', .int .i64 d', .bool v', .int .i64 t'] 30)).alloc (Obj.cells #[.int .i64 0, .int .i64 0, .int .i64 0, .int .i64 0, .int .i64 0, .int .i64 0, .bool false, .int .i64 0] 30)).cell? ⟨w.heap.size, 4, none⟩ = some (.int .i64 c) := by go_simp
  have d5 : (((w.alloc (Obj.cells #[.int .i64 o, .int .i64 z, .int .i64 a, .int .i64 b, .int .i64 c, .int .i64 d, .bool v, .int .i64 t] 30)).alloc (Obj.cells #[.int .i64 o', .int .i64 z', .int .i64 a', .int .i64 b', .int .i64 c', .int .i64 d', .bool v', .int .i64 t'] 30)).alloc (Obj.cells #[.int .i64 0, .int .i64 0, .int .i64 0, .int .i64 0, .int .i64 0, .int .i64 0, .bool false, .int .i64 0] 30)).cell? ⟨w.heap.size, 5, none⟩ = some (.int .i64 d) := by go_simp
  have d6 : (((w.alloc (Obj.cells #[.int .i64 o, .int .i64 z, .int .i64 a, .int .i64 b, .int .i64 c, .int .i64 d, .bool v, .int .i64 t] 30)).alloc (Obj.cells #[.int .i64 o', .int .i64 z', .int .i64 a', .int .i64 b', .int .i64 c', .int .i64 d', .bool v', .int .i64 t'] 30)).alloc (Obj.cells #[.int .i64 0, .int .i64 0, .int .i64 0, .int .i64 0, .int .i64 0, .int .i64 0, .bool false, .int .i64 0] 30)).cell? ⟨w.heap.size, 6, none⟩ = some (.bool v) := by go_simp
  have d7 : (((w.alloc (Obj.cells #[.int .i64 o, .int .i64 z, .int .i64 a, .int .i64 b, .int .i64 c, .int .i64 d, .bool v, .int .i64 t] 30)).alloc (Obj.cells #[.int .i64 o', .int .i64 z', .int .i64 a', .int .i64 b', .int .i64 c', .int .i64 d', .bool v', .int .i64 t'] 30)).alloc (Obj.cells #[.int .i64 0, .int .i64 0, .int .i64 0, .int .i64 0, .int .i64 0, .int .i64 0, .bool false, .int .i64 0] 30)).cell? ⟨w.heap.size, 7, none⟩ = some (.int .i64 t) := by go_simp
  have e0 : (((w.alloc (Obj.cells #[.int .i64 o, .int .i64 z, .int .i64 a, .int .i64 b, .int .i64 c, .int .i64 d, .bool v, .int .i64 t] 30)).alloc (Obj.cells #[.int .i64 o', .int .i64 z', .int .i64 a', .int .i64 b', .int .i64 c', .int .i64 d', .bool v', .int .i64 t'] 30)).alloc (Obj.cells #[.int .i64 0, .int .i64 0, .int .i64 0, .int .i64 0, .int .i64 0, .int .i64 0, .bool false, .int .i64 0] 30)).cell? ⟨w.heap.size + 1, 0, none⟩ = some (.int .i64 o') := by go_simp
  have e1 : (((w.alloc (Obj.cells #[.int .i64 o, .int .i64 z, .int .i64 a, .int .i64 b, .int .i64 c, .int .i64 d, .bool v, .int .i64 t] 30)).alloc (Obj.cells #[.int .i64 o', .int .i64 z', .int .i64 a', .int .i64 b', .int .i64 c', .int .i64 d', .bool v', .int .i64 t'] 30)).alloc (Obj.cells #[.int .i64 0, .int .i64 0, .int .i64 0, .int .i64 0, .int .i64 0, .int .i64 0, .bool false, .int .i64 0] 30)).cell? ⟨w.heap.size + 1, 1, none⟩ = some (.int .i64 z') := by go_simp
  have e2 : (((w.alloc (Obj.cells #[.int .i64 o, .int .i64 z, .int .i64 a, .int .i64 b, .int .i64 c, .int .i64 d, .bool v, .int .i64 t] 30)).alloc (Obj.cells #[.int .i64 o', .int .i64 z', .int .i64 a', .int .i64 b', .int .i64 c', .int .i64 d', .bool v', .int .i64 t'] 30)).alloc (Obj.cells #[.int .i64 0, .int .i64 0, .int .i64 0, .int .i64 0, .int .i64 0, .int .i64 0, .bool false, .int .i64 0] 30)).cell? ⟨w.heap.size + 1, 2, none⟩ = some (.int .i64 a') := by go_simp
  have e3 : (((w.alloc (Obj.cells #[.int .i64 o, .int .i64 z, .int .i64 a, .int .i64 b, .int .i64 c, .int .i64 d, .bool v, .int .i64 t] 30)).alloc (Obj.cells #[.int .i64 o', .int .i64 z', .int .i64 a', .int .i64 b', .int .i64 c', .int .i64 d', .bool v', .int .i64 t'] 30)).alloc (Obj.cells #[.int .i64 0, .int .i64 0, .int .i64 0, .int .i64 0, .int .i64 0, .int .i64 0, .bool false, .int .i64 0] 30)).cell? ⟨w.heap.size + 1, 3, none⟩ = some (.int .i64 b') := by go_simp
  have e4 : (((w.alloc (Obj.cells #[.int .i64 o, .int .i64 z, .int .i64 a, .int .i64 b, .int .i64 c, .int .i64 d, .bool v, .int .i64 t] 30)).alloc (Obj.cells #[.int .i64 o', .int .i64 z', .int .i64 a', .int .i64 b', .int .i64 c', .int .i64 d', .bool v', .int .i64 t'] 30)).alloc (Obj.cells #[.int .i64 0, .int .i64 0, .int .i64 0, .int .i64 0, .int .i64 0, .int .i64 0, .bool false, .int .i64 0] 30)).cell? ⟨w.heap.size + 1, 4, none⟩ = some (.int .i64 c') := by go_simp
  have e5 : (((w.alloc (Obj.cells #[.int .i64 o, .int .i64 z, .int .i64 a, .int .i64 b, .int .i64 c, .int .i64 d, .bool v, .int .i64 t] 30)).alloc (Obj.cells #[.int .i64 o', .int .i64 z', .int .i64 a', .int .i64 b', .int .i64 c', .int .i64 d', .bool v', .int .i64 t'] 30)).alloc (Obj.cells #[.int .i64 0, .int .i64 0, .int .i64 0, .int .i64 0, .int .i64 0, .int .i64 0, .bool false, .int .i64 0] 30)).cell? ⟨w.heap.size + 1, 5, none⟩ = some (.int .i64 d') := by go_simp
  have e6 : (((w.alloc (Obj.cells #[.int .i64 o, .int .i64 z, .int .i64 a, .int .i64 b, .int .i64 c, .int .i64 d, .bool v, .int .i64 t] 30)).alloc (Obj.cells #[.int .i64 o', .int .i64 z', .int .i64 a', .int .i64 b', .int .i64 c', .int .i64 d', .bool v', .int .i64 t'] 30)).alloc (Obj.cells #[.int .i64 0, .int .i64 0, .int .i64 0, .int .i64 0, .int .i64 0, .int .i64 0, .bool false, .int .i64 0] 30)).cell? ⟨w.heap.size + 1, 6, none⟩ = some (.bool v') := by go_simp
  have e7 : (((w.alloc (Obj.cells #[.int .i64 o, .int .i64 z, .int .i64 a, .int .i64 b, .int .i64 c, .int .i64 d, .bool v, .int .i64 t] 30)).alloc (Obj.cells #[.int .i64 o', .int .i64 z', .int .i64 a', .int .i64 b', .int .i64 c', .int .i64 d', .bool v', .int .i64 t'] 30)).alloc (Obj.cells #[.int .i64 0, .int .i64 0, .int .i64 0, .int .i64 0, .int .i64 0, .int .i64 0, .bool false, .int .i64 0] 30)).cell? ⟨w.heap.size + 1, 7, none⟩ = some (.int .i64 t') := by go_simp
  have r0 : (((w.alloc (Obj.cells #[.int .i64 o, .int .i64 z, .int .i64 a, .int .i64 b, .int .i64 c, .int .i64 d, .bool v, .int .i64 t] 30)).alloc (Obj.cells #[.int .i64 o', .int .i64 z', .int .i64 a', .int .i64 b', .int .i64 c', .int .i64 d', .bool v', .int .i64 t'] 30)).alloc (Obj.cells #[.int .i64 0, .int .i64 0, .int .i64 0, .int .i64 0, .int .i64 0, .int .i64 0, .bool false, .int .i64 0] 30)).cell? ⟨w.heap.size + 1 + 1, 0, none⟩ = some (.int .i64 0) := by go_simp
  have z0 : (((w.alloc (Obj.cells #[.int .i64 o, .int .i64 z, .int .i64 a, .int .i64 b, .int .i64 c, .int .i64 d, .bool v, .int .i64 t] 30)).alloc (Obj.cells #[.int .i64 o', .int .i64 z', .int .i64 a', .int .i64 b', .int .i64 c', .int .i64 d', .bool v', .int .i64 t'] 30)).alloc (Obj.cells #[.int .i64 0, .int .i64 0, .int .i64 0, .int .i64 0, .int .i64 0, .int .i64 0, .bool false, .int .i64 0] 30)).frozen? ⟨w.heap.size + 1 + 1, 0, none⟩ = false := by go_simp
  have r1 : (((w.alloc (Obj.cells #[.int .i64 o, .int .i64 z, .int .i64 a, .int .i64 b, .int .i64 c, .int .i64 d, .bool v, .int .i64 t] 30)).alloc (Obj.cells #[.int .i64 o', .int .i64 z', .int .i64 a', .int .i64 b', .int .i64 c', .int .i64 d', .bool v', .int .i64 t'] 30)).alloc (Obj.cells #[.int .i64 0, .int .i64 0, .int .i64 0, .int .i64 0, .int .i64 0, .int .i64 0, .bool false, .int .i64 0] 30)).cell? ⟨w.heap.size + 1 + 1, 1, none⟩ = some (.int .i64 0) := by go_simp
  have z1 : (((w.alloc (Obj.cells #[.int .i64 o, .int .i64 z, .int .i64 a, .int .i64 b, .int .i64 c, .int .i64 d, .bool v, .int .i64 t] 30)).alloc (Obj.cells #[.int .i64 o', .int .i64 z', .int .i64 a', .int .i64 b', .int .i64 c', .int .i64 d', .bool v', .int .i64 t'] 30)).alloc (Obj.cells #[.int .i64 0, .int .i64 0, .int .i64 0, .int .i64 0, .int .i64 0, .int .i64 0, .bool false, .int .i64 0] 30)).frozen? ⟨w.heap.size + 1 + 1, 1, none⟩ = false := by go_simp
  have r2 : (((w.alloc (Obj.cells #[.int .i64 o, .int .i64 z, .int .i64 a, .int .i64 b, .int .i64 c, .int .i64 d, .bool v, .int .i64 t] 30)).alloc (Obj.cells #[.int .i64 o', .int .i64 z', .int .i64 a', .int .i64 b', .int .i64 c', .int .i64 d', .bool v', .int .i64 t'] 30)).alloc (Obj.cells #[.int .i64 0, .int .i64 0, .int .i64 0, .int .i64 0, .int .i64 0, .int .i64 0, .bool false, .int .i64 0] 30)).cell? ⟨w.heap.size + 1 + 1, 2, none⟩ = some (.int .i64 0) := by go_simp
  have z2 : (((w.alloc (Obj.cells #[.int .i64 o, .int .i64 z, .int .i64 a, .int .i64 b, .int .i64 c, .int .i64 d, .bool v, .int .i64 t] 30)).alloc (Obj.cells #[.int .i64 o', .int .i64 z', .int .i64 a', .int .i64 b', .int .i64 c', .int .i64 d', .bool v', .int .i64 t'] 30)).alloc (Obj.cells #[.int .i64 0, .int .i64 0, .int .i64 0, .int .i64 0, .int .i64 0, .int .i64 0, .bool false, .int .i64 0] 30)).frozen? ⟨w.heap.size + 1 + 1, 2, none⟩ = false := by go_simp
  have r3 : (((w.alloc (Obj.cells #[.int .i64 o, .int .i64 z, .int .i64 a, .int .i64 b, .int .i64 c, .int .i64 d, .bool v, .int .i64 t] 30)).alloc (Obj.cells #[.int .i64 o', .int .i64 z', .int .i64 a', .int .i64 b', .int .i64 c', .int .i64 d', .bool v', .int .i64 t'] 30)).alloc (Obj.cells #[.int .i64 0, .int .i64 0, .int .i64 0, .int .i64 0, .int .i64 0, .int .i64 0, .bool false, .int .i64 0] 30)).cell? ⟨w.heap.size + 1 + 1, 3, none⟩ = some (.int .i64 0) := by go_simp
  have z3 : (((w.alloc (Obj.cells #[.int .i64 o, .int .i64 z, .int .i64 a, .int .i64 b, .int .i64 c, .int .i64 d, .bool v, .int .i64 t] 30)).alloc (Obj.cells #[.int .i64 o', .int .i64 z', .int .i64 a', .int .i64 b', .int .i64 c', .int .i64 d', .bool v', .int .i64 t'] 30)).alloc (Obj.cells #[.int .i64 0, .int .i64 0, .int .i64 0, .int .i64 0, .int .i64 0, .int .i64 0, .bool false, .int .i64 0] 30)).frozen? ⟨w.heap.size + 1 + 1, 3, none⟩ = false := by go_simp
  have r4 : (((w.alloc (Obj.cells #[.int .i64 o, .int .i64 z, .int .i64 a, .int .i64 b, .int .i64 c, .int .i64 d, .bool v, .int .i64 t] 30)).alloc (Obj.cells #[.int .i64 o', .int .i64 z', .int .i64 a', .int .i64 b', .int .i64 c', .int .i64 d', .bool v', .int .i64 t'] 30)).alloc (Obj.cells #[.int .i64 0, .int .i64 0, .int .i64 0, .int .i64 0, .int .i64 0, .int .i64 0, .bool false, .int .i64 0] 30)).cell? ⟨w.heap.size + 1 + 1, 4, none⟩ = some (.int .i64 0) := by go_simp
  have z4 : (((w.alloc (Obj.cells #[.int .i64 o, .int .i64 z, .int .i64 a, .int .i64 b, .int .i64 c, .int .i64 d, .bool v, .int .i64 t] 30)).alloc (Obj.cells #[.int .i64 o', .int .i64 z', .int .i64 a', .int .i64 b', .int .i64 c', .int .i64 d', .bool v', .int .i64 t'] 30)).alloc (Obj.cells #[.int .i64 0, .int .i64 0, .int .i64 0, .int .i64 0, .int .i64 0, .int .i64 0, .bool false, .int .i64 0] 30)).frozen? ⟨w.heap.size + 1 + 1, 4, none⟩ = false := by go_simp
  have r5 : (((w.alloc (Obj.cells #[.int .i64 o, .int .i64 z, .int .i64 a, .int .i64 b, .int .i64 c, .int .i64 d, .bool v, .int .i64 t] 30)).alloc (Obj.cells #[.int .i64 o', .int .i64 z', .int .i64 a', .int .i64 b', .int .i64 c', .int .i64 d', .bool v', .int .i64 t'] 30)).alloc (Obj.cells #[.int .i64 0, .int .i64 0, .int .i64 0, .int .i64 0, .int .i64 0, .int .i64 0, .bool false, .int .i64 0] 30)).cell? ⟨w.heap.size + 1 + 1, 5, none⟩ = some (.int .i64 0) := by go_simp
  have z5 : (((w.alloc (Obj.cells #[.int .i64 o, .int .i64 z, .int .i64 a, .int .i64 b, .int .i64 c, .int .i64 d, .bool v, .int .i64 t] 30)).alloc (Obj.cells #[.int .i64 o', .int .i64 z', .int .i64 a', .int .i64 b', .int .i64 c', .int .i64 d', .bool v', .int .i64 t'] 30)).alloc (Obj.cells #[.int .i64 0, .int .i64 0, .int .i64 0, .int .i64 0, .int .i64 0, .int .i64 0, .bool false, .int .i64 0] 30)).frozen? ⟨w.heap.size + 1 + 1, 5, none⟩ = false := by go_simp
  have r6 : (((w.alloc (Obj.cells #[.int .i64 o, .int .i64 z, .int .i64 a, .int .i64 b, .int .i64 c, .int .i64 d, .bool v, .int .i64 t] 30)).alloc (Obj.cells #[.int .i64 o', .int .i64 z', .int .i64 a', .int .i64 b', .int .i64 c', .int .i64 d', .bool v', .int .i64 t'] 30)).alloc (Obj.cells #[.int .i64 0, .int .i64 0, .int .i64 0, .int .i64 0, .int .i64 0, .int .i64 0, .bool false, .int .i64 0] 30)).cell? ⟨w.heap.size + 1 + 1, 6, none⟩ = some (.bool false) := by go_simp
  have z6 : (((w.alloc (Obj.cells #[.int .i64 o, .int .i64 z, .int .i64 a, .int .i64 b, .int .i64 c, .int .i64 d, .bool v, .int .i64 t] 30)).alloc (Obj.cells #[.int .i64 o', .int .i64 z', .int .i64 a', .int .i64 b', .int .i64 c', .int .i64 d', .bool v', .int .i64 t'] 30)).alloc (Obj.cells #[.int .i64 0, .int .i64 0, .int .i64 0, .int .i64 0, .int .i64 0, .int .i64 0, .bool false, .int .i64 0] 30)).frozen? ⟨w.heap.size + 1 + 1, 6, none⟩ = false := by go_simp
  have r7 : (((w.alloc (Obj.cells #[.int .i64 o, .int .i64 z, .int .i64 a, .int .i64 b, .int .i64 c, .int .i64 d, .bool v, .int .i64 t] 30)).alloc (Obj.cells #[.int .i64 o', .int .i64 z', .int .i64 a', .int .i64 b', .int .i64 c', .int .i64 d', .bool v', .int .i64 t'] 30)).alloc (Obj.cells #[.int .i64 0, .int .i64 0, .int .i64 0, .int .i64 0, .int .i64 0, .int .i64 0, .bool false, .int .i64 0] 30)).cell? ⟨w.heap.size + 1 + 1, 7, none⟩ = some (.int .i64 0) := by go_simp
  have z7 : (((w.alloc (Obj.cells #[.int .i64 o, .int .i64 z, .int .i64 a, .int .i64 b, .int .i64 c, .int .i64 d, .bool v, .int .i64 t] 30)).alloc (Obj.cells #[.int .i64 o', .int .i64 z', .int .i64 a', .int .i64 b', .int .i64 c', .int .i64 d', .bool v', .int .i64 t'] 30)).alloc (Obj.cells #[.int .i64 0, .int .i64 0, .int .i64 0, .int .i64 0, .int .i64 0, .int .i64 0, .bool false, .int .i64 0] 30)).frozen? ⟨w.heap.size + 1 + 1, 7, none⟩ = false := by go_simp
  have hsz0 : (((w.alloc (Obj.cells #[.int .i64 o, .int .i64 z, .int .i64 a, .int .i64 b, .int .i64 c, .int .i64 d, .bool v, .int .i64 t] 30)).alloc (Obj.cells #[.int .i64 o', .int .i64 z', .int .i64 a', .int .i64 b', .int .i64 c', .int .i64 d', .bool v', .int .i64 t'] 30)).alloc (Obj.cells #[.int .i64 0, .int .i64 0, .int .i64 0, .int .i64 0, .int .i64 0, .int .i64 0, .bool false, .int .i64 0] 30)).heap.size = w.heap.size + 3 := by simp
  have hRC : HasC (((w.alloc (Obj.cells #[.int .i64 o, .int .i64 z, .int .i64 a, .int .i64 b, .int .i64 c, .int .i64 d, .bool v, .int .i64 t] 30)).alloc (Obj.cells #[.int .i64 o', .int .i64 z', .int .i64 a', .int .i64 b', .int .i64 c', .int .i64 d', .bool v', .int .i64 t'] 30)).alloc (Obj.cells #[.int .i64 0, .int .i64 0, .int .i64 0, .int .i64 0, .int .i64 0, .int .i64 0, .bool false, .int .i64 0] 30)) (w.heap.size + 1 + 1) 8 := hasC_new rfl (by simp)
  obtain ⟨X0, hX0⟩ : ∃ Z : Later w.heap.size w, (((w.alloc (Obj.cells #[.int .i64 o, .int .i64 z, .int .i64 a, .int .i64 b, .int .i64 c, .int .i64 d, .bool v, .int .i64 t] 30)).alloc (Obj.cells #[.int .i64 o', .int .i64 z', .int .i64 a', .int .i64 b', .int .i64 c', .int .i64 d', .bool v', .int .i64 t'] 30)).alloc (Obj.cells #[.int .i64 0, .int .i64 0, .int .i64 0, .int .i64 0, .int .i64 0, .int .i64 0, .bool false, .int .i64 0] 30)) = Z.w := ⟨⟨(((w.alloc (Obj.cells #[.int .i64 o, .int .i64 z, .int .i64 a, .int .i64 b, .int .i64 c, .int .i64 d, .bool v, .int .i64 t] 30)).alloc (Obj.cells #[.int .i64 o', .int .i64 z', .int .i64 a', .int .i64 b', .int .i64 c', .int .i64 d', .bool v', .int .i64 t'] 30)).alloc (Obj.cells #[.int .i64 0, .int .i64 0, .int .i64 0, .int .i64 0, .int .i64 0, .int .i64 0, .bool false, .int .i64 0] 30)), by repeat' (first | (with_reducible exact Below.refl _ _) | (with_reducible assumption) | (with_reducible refine Later.step ?_ ?_ _) | (with_reducible refine Below.alloc ?_ ?_ _) | (with_reducible refine Below.drew ?_) | (with_reducible refine Below.setCell ?_ ?_ _) | go_size)⟩, rfl⟩
  rw [hX0] at d0 d1 d2 d3 d4 d5 d6 d7 e0 e1 e2 e3 e4 e5 e6 e7 r0 z0 r1 z1 r2 z2 r3 z3 r4 z4 r5 z5 r6 z6 r7 z7 hRC hsz0 ⊢
  have hlo : w.heap.size + 3 ≤ X0.w.heap.size := by omega
  have HSZ0 := Lib.hid hsz0
  have HRC := Lib.hid hRC
  clear hX0 hsz0 hRC
  go_cut [5] from 8 to 23 (fun s wx => MeetMid X0.w.heap.size X0.w lo mz mt s wx)
  case first =>
    go_region_held3 (fun w' => w'.cell? ⟨w.heap.size, 0, none⟩ = some (.int .i64 o) ∧ w'.cell? ⟨w.heap.size, 1, none⟩ = some (.int .i64 z) ∧ w'.cell? ⟨w.heap.size, 7, none⟩ = some (.int .i64 t) ∧ w'.cell? ⟨w.heap.size + 1, 0, none⟩ = some (.int .i64 o') ∧ w'.cell? ⟨w.heap.size + 1, 1, none⟩ = some (.int .i64 z') ∧ w'.cell? ⟨w.heap.size + 1, 7, none⟩ = some (.int .i64 t')) ((repeat' apply And.intro) <;> (repeat (first | (with_reducible assumption) | (with_reducible refine (World.cell?_alloc_lt _ _ _ ?_).trans ?_; focus (simp only [World.size_alloc, World.size_setCell, World.size_drew]; omega)) | (with_reducible refine (World.cell?_setCell_far _ _ _ _ ?_).trans ?_; focus (dsimp only; omega)) | (with_reducible refine (X3.is.cell (p := ⟨_, _, none⟩) ?_).trans ?_; focus (simp only [World.size_alloc, World.size_setCell, World.size_drew]; omega)) | (with_reducible refine (X2.is.cell (p := ⟨_, _, none⟩) ?_).trans ?_; focus (simp only [World.size_alloc, World.size_setCell, World.size_drew]; omega)) | (with_reducible refine (X1.is.cell (p := ⟨_, _, none⟩) ?_).trans ?_; focus (simp only [World.size_alloc, World.size_setCell, World.size_drew]; omega)) | (simp only [World.cell?_drew]))))
      (first
        | (go_at_call 44; with_reducible refine (PL.out _).mono ?_; rintro e w' ⟨rfl, hb⟩; obtain ⟨X1, rfl, hl1, hm1⟩ := later _ hb (Nat.le_refl _); clear hb; (try simp only [World.size_alloc, World.size_setCell, World.size_drew] at hm1 hl1))
        | (go_at_call 45; with_reducible refine (PZ.out _).mono ?_; rintro e w' ⟨rfl, hb⟩; obtain ⟨X2, rfl, hl2, hm2⟩ := later _ hb (Nat.le_refl _); clear hb; (try simp only [World.size_alloc, World.size_setCell, World.size_drew] at hm2 hl2))
        | (go_at_call 45; with_reducible refine (PT'.out _).mono ?_; rintro e w' ⟨rfl, hb⟩; obtain ⟨X3, rfl, hl3, hm3⟩ := later _ hb (Nat.le_refl _); clear hb; (try simp only [World.size_alloc, World.size_setCell, World.size_drew] at hm3 hl3)))
    all_goals
      go_wp2_with fail
      go_meet
      refine ⟨_, rfl, ?_, ?_, ?_⟩
      · first | omega | (simp; omega) | (simp only [World.size_alloc, World.size_setCell, World.size_drew]; omega)
      · repeat' (first | (with_reducible refine gc_eight ?_) | (with_reducible refine gc_new ?_; focus (simp; done)) | (with_reducible refine CellsAt.alloc ?_ _) | (with_reducible refine CellsAt.other ?_ ?_ _) | (with_reducible refine CellsAt.later _ ?_) | (with_reducible refine CellsAt.drew ?_) | (with_reducible refine HasC.drew ?_) | (with_reducible refine hasC_new rfl ?_; focus (simp; done)) | (with_reducible refine HasC.alloc ?_ _) | (with_reducible refine HasC.other ?_ ?_ _) | (with_reducible refine HasC.later _ ?_) | (focus (dsimp only; omega)))
      · repeat' (first | (with_reducible exact Below.refl _ _) | (with_reducible assumption) | (with_reducible refine Later.step ?_ ?_ _) | (with_reducible refine Below.alloc ?_ ?_ _) | (with_reducible refine Below.drew ?_) | (with_reducible refine bel_drewN ?_ _) | (with_reducible refine bel_grown ?_ (by assumption) ?_ ?_) | (with_reducible refine Below.setCell ?_ ?_ _) | go_size)
  case rest =>
    obtain ⟨gg, rfl, hgg, hC, hb⟩ := hcut
    have hgl := hC.1
    have hszc := hb.size
    have c0 := (hC.2 0 (by decide)).1
    have f0 := (hC.2 0 (by decide)).2
    have c1 := (hC.2 1 (by decide)).1
    have f1 := (hC.2 1 (by decide)).2
    have c2 := (hC.2 2 (by decide)).1
    have f2 := (hC.2 2 (by decide)).2
    have c3 := (hC.2 3 (by decide)).1
    have f3 := (hC.2 3 (by decide)).2
    have c4 := (hC.2 4 (by decide)).1
    have f4 := (hC.2 4 (by decide)).2
    have c5 := (hC.2 5 (by decide)).1
    have f5 := (hC.2 5 (by decide)).2
    have c6 := (hC.2 6 (by decide)).1
    have f6 := (hC.2 6 (by decide)).2
    have c7 := (hC.2 7 (by decide)).1
    have f7 := (hC.2 7 (by decide)).2
    simp only [gC, List.getD_cons_zero, List.getD_cons_succ] at c0 c1 c2 c3 c4 c5 c6 c7
    have HCC := Lib.hid hC
    obtain ⟨X, rfl⟩ : ∃ Z : Later X0.w.heap.size X0.w, wc = Z.w := ⟨⟨wc, hb⟩, rfl⟩
    clear hC hb
    cases m
    · obtain ⟨q1, q2, q3, q4, q5, q6⟩ := HOK.out
      obtain rfl : ok = false := by rw [← q1]; simp
      simp only [sel, Bool.false_eq_true, if_false, Bool.not_false] at q2 q3 q4 q5 q6
      subst q2 q3 q4 q5 q6
      simp only [sel, Bool.false_eq_true, if_false, if_true] at p1
      have P1 := Lib.hid p1
      clear p1 PL PZ PT' HOK q1
      go_wp2_with (first
        | (go_at_call 46; refine (P1.out _).mono ?_; rintro e w' ⟨rfl, hb⟩; obtain ⟨X9, rfl, hl9, hm9⟩ := later _ hb (Nat.le_refl _); clear hb; (try simp only [World.size_alloc, World.size_setCell, World.size_drew] at hm9 hl9)))
      refine bodyPost_ret (by simp only [results, Try.results29]; go_simp; all_goals (first | rfl | simp [sel])) rfl ⟨rfl, ?_⟩
      repeat' (first | (with_reducible exact Below.refl _ _) | (with_reducible assumption) | (with_reducible refine Later.step ?_ ?_ _) | (with_reducible refine Below.alloc ?_ ?_ _) | (with_reducible refine Below.drew ?_) | (with_reducible refine bel_drewN ?_ _) | (with_reducible refine bel_grown ?_ (by assumption) ?_ ?_) | (with_reducible refine Below.setCell ?_ ?_ _) | go_size)
    · cases v
      · cases v'
        · obtain ⟨q1, q2, q3, q4, q5, q6⟩ := HOK.out
          obtain rfl : ok = true := by rw [← q1]; rfl
          simp only [sel, if_true, Bool.not_true] at q2 q3 q4 q5 q6
          subst q2 q3 q4 q5 q6
          simp only [sel, if_true] at p1
          have P1 := Lib.hid p1
          clear p1 PL PZ PT' HOK q1
          go_wp2_with fail
          refine (P1.out _).mono ?_
          rintro e w' ⟨rfl, hb⟩; obtain ⟨X9, rfl, hl9, hm9⟩ := later _ hb (Nat.le_refl _); clear hb; (try simp only [World.size_alloc, World.size_setCell, World.size_drew] at hm9 hl9)
          go_upto_region 6 with fail
          refine wp_world (fun Y => CellsAt Y gg 8 (grC ⟨lo, mz, x0, x1, x2, x3, false, mt⟩) ∧ HasC Y (w.heap.size + 1 + 1) 8 ∧ Below w.heap.size w Y) ⟨?_, ?_, ?_⟩ ?_
          · refine (((((((HCC.out.later X9).alloc _).set (j := 2) (by decide) _).set (j := 3) (by decide) _).set (j := 4) (by decide) _).set (j := 5) (by decide) _).set (j := 6) (by decide) _).congr ?_
            intro j hj
            rcases gc_at hj with rfl | rfl | rfl | rfl | rfl | rfl | rfl | rfl <;> rfl
          · have h1 := HRC.out
            have h2 : HasC X.w (w.heap.size + 1 + 1) 8 := h1.later X
            have h3 := (h2.later X9).alloc (Obj.cells #[.int .i64 x0, .int .i64 x1, .int .i64 x2, .int .i64 x3] 28)
            refine ((((h3.other ?_ _).other ?_ _).other ?_ _).other ?_ _).other ?_ _ <;> (show gg ≠ _; omega)
          · repeat' (first | (with_reducible exact Below.refl _ _) | (with_reducible assumption) | (with_reducible refine Later.step ?_ ?_ _) | (with_reducible refine Below.alloc ?_ ?_ _) | (with_reducible refine Below.drew ?_) | (with_reducible refine bel_drewN ?_ _) | (with_reducible refine bel_grown ?_ (by assumption) ?_ ?_) | (with_reducible refine Below.setCell ?_ ?_ _) | go_size)
          · rintro Y ⟨hG, ⟨F, hF⟩, hb⟩
            obtain ⟨k0, k1, k2, k3, k4, k5, k6, k7⟩ := grc_get hG
            have hfr := fun j (hj : j < 8) => (hF.2 j hj).2
            have hfv := fun j (hj : j < 8) => (hF.2 j hj).1
            have fr0 := hfr 0 (by decide)
            have fv0 := hfv 0 (by decide)
            have fr1 := hfr 1 (by decide)
            have fv1 := hfv 1 (by decide)
            have fr2 := hfr 2 (by decide)
            have fv2 := hfv 2 (by decide)
            have fr3 := hfr 3 (by decide)
            have fv3 := hfv 3 (by decide)
            have fr4 := hfr 4 (by decide)
            have fv4 := hfv 4 (by decide)
            have fr5 := hfr 5 (by decide)
            have fv5 := hfv 5 (by decide)
            have fr6 := hfr 6 (by decide)
            have fv6 := hfv 6 (by decide)
            have fr7 := hfr 7 (by decide)
            have fv7 := hfv 7 (by decide)
            clear c0 c1 c2 c3 c4 c5 c6 c7 f0 f1 f2 f3 f4 f5 f6 f7 d0 d1 d2 d3 d4 d5 d6 d7 e0 e1 e2 e3 e4 e5 e6 e7 r0 r1 r2 r3 r4 r5 r6 r7 z0 z1 z2 z3 z4 z5 z6 z7 hG hF hfr hfv
            simp only at k0 k1 k2 k3 k4 k5 k6 k7
            obtain ⟨X7, rfl⟩ : ∃ Z : Later w.heap.size w, Y = Z.w := ⟨⟨Y, hb⟩, rfl⟩
            go_wp2
            refine bodyPost_ret (by simp only [results, Try.results29]; go_simp; all_goals (first | rfl | simp [sel])) rfl ⟨rfl, ?_⟩
            repeat' (first | (with_reducible exact Below.refl _ _) | (with_reducible assumption) | (with_reducible refine Later.step ?_ ?_ _) | (with_reducible refine Below.alloc ?_ ?_ _) | (with_reducible refine Below.drew ?_) | (with_reducible refine bel_drewN ?_ _) | (with_reducible refine bel_grown ?_ (by assumption) ?_ ?_) | (with_reducible refine Below.setCell ?_ ?_ _) | go_size)
        · obtain ⟨q1, q2, q3, q4, q5, q6⟩ := HOK.out
          obtain rfl : ok = false := by rw [← q1]; rfl
          simp only [sel, Bool.false_eq_true, if_false, Bool.not_false] at q2 q3 q4 q5 q6
          subst q2 q3 q4 q5 q6
          simp only [sel, Bool.false_eq_true, if_false, if_true] at p1
          have P1 := Lib.hid p1
          clear p1 PL PZ PT' HOK q1
          go_wp2_with (first
            | (go_at_call 46; refine (P1.out _).mono ?_; rintro e w' ⟨rfl, hb⟩; obtain ⟨X9, rfl, hl9, hm9⟩ := later _ hb (Nat.le_refl _); clear hb; (try simp only [World.size_alloc, World.size_setCell, World.size_drew] at hm9 hl9)))
          refine bodyPost_ret (by simp only [results, Try.results29]; go_simp; all_goals (first | rfl | simp [sel])) rfl ⟨rfl, ?_⟩
          repeat' (first | (with_reducible exact Below.refl _ _) | (with_reducible assumption) | (with_reducible refine Later.step ?_ ?_ _) | (with_reducible refine Below.alloc ?_ ?_ _) | (with_reducible refine Below.drew ?_) | (with_reducible refine bel_drewN ?_ _) | (with_reducible refine bel_grown ?_ (by assumption) ?_ ?_) | (with_reducible refine Below.setCell ?_ ?_ _) | go_size)
      · obtain ⟨q1, q2, q3, q4, q5, q6⟩ := HOK.out
        obtain rfl : ok = false := by rw [← q1]; rfl
        simp only [sel, Bool.false_eq_true, if_false, Bool.not_false] at q2 q3 q4 q5 q6
        subst q2 q3 q4 q5 q6
        simp only [sel, Bool.false_eq_true, if_false, if_true] at p1
        have P1 := Lib.hid p1
        clear p1 PL PZ PT' HOK q1
        go_wp2_with (first
          | (go_at_call 46; refine (P1.out _).mono ?_; rintro e w' ⟨rfl, hb⟩; obtain ⟨X9, rfl, hl9, hm9⟩ := later _ hb (Nat.le_refl _); clear hb; (try simp only [World.size_alloc, World.size_setCell, World.size_drew] at hm9 hl9)))
        refine bodyPost_ret (by simp only [results, Try.results29]; go_simp; all_goals (first | rfl | simp [sel])) rfl ⟨rfl, ?_⟩
        repeat' (first | (with_reducible exact Below.refl _ _) | (with_reducible assumption) | (with_reducible refine Later.step ?_ ?_ _) | (with_reducible refine Below.alloc ?_ ?_ _) | (with_reducible refine Below.drew ?_) | (with_reducible refine bel_drewN ?_ _) | (with_reducible refine bel_grown ?_ (by assumption) ?_ ?_) | (with_reducible refine Below.setCell ?_ ?_ _) | go_size)
end Go.Proofs.Ytjfgjlklbepnjaa
