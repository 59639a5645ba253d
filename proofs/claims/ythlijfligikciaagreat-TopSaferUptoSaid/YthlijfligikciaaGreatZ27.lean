/- TopSafer: walked, given that the fixed calls answer yes. No condition beyond what the arguments read as and how many boxes there are. -/
import Derived.Test.YthlijfligikciaaGreatZ26
namespace Go.Proofs.YthlijfligikciaaGreat
open Go.RowKit Go.Maps
set_option linter.unusedSimpArgs false
set_option linter.unusedVariables false
set_option maxRecDepth 2000

theorem eqIn_who (x y : Sp) (w : World) : (Op.equalIn 10000 46 (.agg #[.int .i64 x.fr, .int .i64 x.to, .int .i64 x.zoom]) (.agg #[.int .i64 y.fr, .int .i64 y.to, .int .i64 y.zoom])).run Tryz.prog w = .ok (eqS x y) w := by
  have hS : Tryz.prog.underlying 46 = some (.struct (Tryz.prog.fieldsOf 46)) := by kernel_rfl
  have hp : Tryz.prog.stoodInHeld 46 = false := by kernel_rfl
  obtain ⟨a, b, c⟩ := x
  obtain ⟨a', b', c'⟩ := y
  rw [show (10000 : Nat) = 9999 + 1 from rfl, run_equalIn_agg w 9999 46 _ _ hS hp]
  unfold eqS
  simp only [Program.fieldsOf, Tryz.underlying46]
  clear hS hp
  go_simp
  repeat' split
  all_goals simp_all
theorem eql_who (x y : Sp) (w : World) : (binOp .eql 46 (.agg #[.int .i64 x.fr, .int .i64 x.to, .int .i64 x.zoom]) (.agg #[.int .i64 y.fr, .int .i64 y.to, .int .i64 y.zoom])).run Tryz.prog w = .ok (.bool (eqS x y)) w := by
  rw [run_eql_struct, eqIn_who]
  rfl
/-- The fixed calls answer yes. -/
def SeenOk : Prop := ∀ Y : World, Calls Tryz.prog 5 #[] Y fun e w' => e = .returned (.bool true) ∧ Below Y.heap.size Y w'
set_option maxHeartbeats 16000000 in
theorem safer_any (hseen : SeenOk) (role tier id x y label : Int) (g : Gr) (n1 n2 c1 c2 : Nat) (A1 A2 : Option Addr) (L1 L2 : List Rl) (P1 P2 : Nat → Option Addr × Nat) (w : World) (h1 : Rls w w.heap.size A1 L1 P1) (h2 : Rls w w.heap.size A2 L2 P2) (hn1 : L1.length = n1) (hn2 : L2.length = n2) (hm1 : n1 ≤ 9223372036854775806) (hm2 : n2 ≤ 9223372036854775806) (hc1 : cntB L1 ≤ 1048576) (hc2 : cntB L2 ≤ 1048576) (hP1 : ∀ i, i < n1 → (P1 i).1 = none → (L1.getD i rl0).boxes.length = 0) (hP2 : ∀ i, i < n2 → (P2 i).1 = none → (L2.getD i rl0).boxes.length = 0) :
    Calls Tryz.prog 3 #[.slice A1 n1 c1, .slice A2 n2 c2, .agg #[.int .i64 role, .int .i64 tier, .int .i64 g.ops, .int .i64 g.zoom, .int .i64 g.a, .int .i64 g.b, .int .i64 g.c, .int .i64 g.d, .bool g.void, .int .i64 g.til], .agg #[.int .i64 id, .int .i64 x, .int .i64 y, .int .i64 label]] w fun e w' => e = .returned (.bool true) ∧ Below w.heap.size w w' := by
  have PS := Lib.hid (fun (Y : World) => hseen Y)
  clear hseen
  by_cases hA : n1 ≤ 4
  · by_cases hB : n2 ≤ 4
    · have PW1 := Lib.hid (fun (Y : World) (hY : Below w.heap.size w Y) => world_any n1 c1 A1 L1 P1 Y ((h1.keep hY).more hY.size) hn1 (by omega) hc1 hP1)
      have PW2 := Lib.hid (fun (Y : World) (hY : Below w.heap.size w Y) => world_any n2 c2 A2 L2 P2 Y ((h2.keep hY).more hY.size) hn2 (by omega) hc2 hP2)
      have PR := Lib.hid (fun (Y : World) (hY : Below w.heap.size w Y) => rises_any n1 n2 c1 c2 A1 A2 L1 L2 P1 P2 Y ((h1.keep hY).more hY.size) ((h2.keep hY).more hY.size) hn1 hn2 (by omega) (by omega) hc1 hc2)
      have HN := Lib.hid (And.intro (show L1.length ≤ 32 by omega) (And.intro (show L2.length ≤ 32 by omega) (And.intro hc1 hc2)))
      have hdA : decide ((4 : Int) < (n1 : Int)) = false := decide_eq_false (by omega)
      have hdB : decide ((4 : Int) < (n2 : Int)) = false := decide_eq_false (by omega)
      clear h1 h2 hn1 hn2 hc1 hc2 hP1 hP2 hm1 hm2
      go_enter Tryz.func3, Tryz.ntmps3
      go_wp2_with fail
      go_at_call 6
      refine (PW1.out _ (by repeat' (first | (with_reducible exact Below.refl _ _) | (with_reducible assumption) | (with_reducible refine Later.step ?_ ?_ _) | (with_reducible refine Below.alloc ?_ ?_ _) | (with_reducible refine Below.drew ?_) | (with_reducible refine bel_drewN ?_ _) | (with_reducible refine bel_grown ?_ (by assumption) ?_ ?_) | (with_reducible refine Below.setCell ?_ ?_ _) | go_size))).mono ?_
      rintro e w' ⟨hb, hor⟩
      obtain ⟨X1, rfl, hl1, hm1⟩ := later _ hb (Nat.le_refl _)
      clear hb
      have hz1 : w.heap.size + 2 ≤ X1.w.heap.size := Nat.le_trans (by simp) hl1
      rcases hor with ⟨h32, hall1, Pp, Pc, lo1, q1, b1, rfl, hlo1, hT1⟩ | ⟨hnot, rfl⟩
      · have HT1 := Lib.hid (And.intro hall1 (And.intro hlo1 hT1))
        clear h32 hall1 hlo1 hT1
        go_wp2_with fail
        go_at_call 6
        refine (PW2.out _ (by repeat' (first | (with_reducible exact Below.refl _ _) | (with_reducible assumption) | (with_reducible refine Later.step ?_ ?_ _) | (with_reducible refine Below.alloc ?_ ?_ _) | (with_reducible refine Below.drew ?_) | (with_reducible refine bel_drewN ?_ _) | (with_reducible refine bel_grown ?_ (by assumption) ?_ ?_) | (with_reducible refine Below.setCell ?_ ?_ _) | go_size))).mono ?_
        rintro e w' ⟨hb, hor⟩
        have hT1b := HT1.out.2.2.keep ((Below.refl X1.w.heap.size X1.w).alloc (Nat.le_refl _) (.cells #[.pointer Pp, .pointer Pc, .pointer (some ⟨q1, 0, none⟩)] 38))
        have hT1c := hT1b.keep hb
        have hbl1 : b1 < X1.w.heap.size := by obtain ⟨_, _, _, _, _, A, c, P, S, B, c0, c1, _, hm, _⟩ := HT1.out.2.2; exact hm.lt
        obtain ⟨X2, rfl, hl2, hm2⟩ := later _ hb (Nat.le_refl _)
        have hz2 : X1.w.heap.size + 1 ≤ X2.w.heap.size := Nat.le_trans (by simp) hl2
        have HT1c := Lib.hid hT1c
        clear hb hT1b hT1c
        rcases hor with ⟨h32, hall2, Pp2, Pc2, lo2, q2, b2, rfl, hlo2, hT2⟩ | ⟨hnot, rfl⟩
        · have HT2 := Lib.hid (And.intro hall2 (And.intro hlo2 hT2))
          clear h32 hall2 hlo2 hT2
          go_wp2_with fail
          go_at_call 7
          refine (PR.out _ (by repeat' (first | (with_reducible exact Below.refl _ _) | (with_reducible assumption) | (with_reducible refine Later.step ?_ ?_ _) | (with_reducible refine Below.alloc ?_ ?_ _) | (with_reducible refine Below.drew ?_) | (with_reducible refine bel_drewN ?_ _) | (with_reducible refine bel_grown ?_ (by assumption) ?_ ?_) | (with_reducible refine Below.setCell ?_ ?_ _) | go_size))).mono ?_
          rintro e w' ⟨C, m, cc, O, rfl, hO, hm, hSp, hV, hb⟩
          obtain ⟨X3, rfl, hl3, hm3⟩ := later _ hb (Nat.le_refl _)
          have hz3 : X2.w.heap.size + 1 ≤ X3.w.heap.size := Nat.le_trans (by simp) hl3
          rw [show askE (L1.all rightR) (L2.all rightR) 2 = 0 by unfold askE; rw [HT1.out.1, HT2.out.1]; rfl]
          have HO := Lib.hid (And.intro hO (And.intro hSp (hV ⟨HT1.out.1, HT2.out.1⟩)))
          have HT2c := Lib.hid ((HT2.out.2.2.keep ((Below.refl X2.w.heap.size X2.w).alloc (Nat.le_refl _) (.cells #[.pointer Pp2, .pointer Pc2, .pointer (some ⟨q2, 0, none⟩)] 38))).keep hb)
          have HT1d := Lib.hid ((HT1c.out.keep ((Below.refl X2.w.heap.size X2.w).alloc (Nat.le_refl _) (.cells #[.pointer Pp2, .pointer Pc2, .pointer (some ⟨q2, 0, none⟩)] 38))).keep hb)
          clear hO hSp hV hb
          go_wp2_with fail
          have hb1lo : w.heap.size + 2 ≤ b1 := by have h9 := HT1.out.2.1; have h8 := HT1.out.2.2.lb; simp only [World.size_alloc] at h9; omega
          have hlo2 : X1.w.heap.size + 1 ≤ lo2 := by have h9 := HT2.out.2.1; simp only [World.size_alloc] at h9; exact h9
          have hb2lo : lo2 ≤ b2 := HT2.out.2.2.lb
          have hbl2 : b2 < X2.w.heap.size := by obtain ⟨_, _, _, _, _, A, c, P, S, B, c0, c1, _, hm, _⟩ := HT2.out.2.2; exact hm.lt
          have hv0 : X3.w.cell? ⟨w.heap.size, 0, none⟩ = some (.int .i64 role) := by go_simp
          have hv1 : X3.w.cell? ⟨w.heap.size, 1, none⟩ = some (.int .i64 tier) := by go_simp
          have hrl : X3.w.cell? ⟨w.heap.size + 1, 3, none⟩ = some (.int .i64 label) := by go_simp
          go_loopw [15] (fun i wr => ∃ k : Nat, (k ≤ m ∧ Hid (∀ j, j < k → O.getD j sp0 ≠ ⟨role, tier, label⟩)) ∧ i = .int .i64 k ∧ Below X3.w.heap.size X3.w wr) (fun i _ => m - (intOf i).toNat)
          case atStart => exact ⟨0, ⟨Nat.zero_le _, fun j hj => absurd hj (Nat.not_lt_zero j)⟩, rfl, Below.refl _ _⟩
          case round =>
            obtain ⟨k, ⟨hk, hall⟩, rfl, hbel⟩ := hrel
            obtain ⟨X4, rfl⟩ : ∃ X4 : Later X3.w.heap.size X3.w, wr = X4.w := ⟨⟨wr, hbel⟩, rfl⟩
            have hs4 := hbel.size
            by_cases hlt : k < m
            · obtain ⟨bb, o, hC, hBb, hcc⟩ := (HO.out.2.1.keep hbel) (by rw [HO.out.1]; omega)
              subst hC
              obtain ⟨c0, c1', c2'⟩ := hcc k (by rw [HO.out.1]; exact hlt)
              obtain ⟨z, hz⟩ : ∃ z, O.getD k sp0 = z := ⟨_, rfl⟩
              rw [hz] at c0 c1' c2'
              have HQ := eql_who z ⟨role, tier, label⟩
              simp only at HQ
              have heq := eqS_iff (x := z) (y := (⟨role, tier, label⟩ : Sp))
              obtain ⟨d, hd⟩ : ∃ d, eqS z ⟨role, tier, label⟩ = d := ⟨_, rfl⟩
              rw [hd] at heq HQ
              have HZ := Lib.hid (And.intro hz heq)
              clear hcc hz heq hd hbel
              cases d with
              | true =>
                go_wp2_with fail
                (refine wp_region_later (X4.w.heap.size) (by kernel_rfl) (by kernel_rfl) (by go_size) ?_; (repeat (go_big_quiet_step (fail))); refine wpQuiet_nil ?_; intro Xq hlXq hmXq)
                go_wp2_with (first
                  | (go_at_call 5; refine (PS.out _).mono ?_; rintro e w' ⟨rfl, hb⟩; obtain ⟨X9, rfl, hl9, hm9⟩ := later _ hb (Nat.le_refl _); clear hb; (try simp only [World.size_alloc, World.size_setCell, World.size_drew] at hm9 hl9)))
                go_ret
                exact ⟨rfl, by repeat' (first | (with_reducible exact Below.refl _ _) | (with_reducible assumption) | (with_reducible refine Later.step ?_ ?_ _) | (with_reducible refine Below.alloc ?_ ?_ _) | (with_reducible refine Below.drew ?_) | (with_reducible refine bel_drewN ?_ _) | (with_reducible refine bel_grown ?_ (by assumption) ?_ ?_) | (with_reducible refine Below.setCell ?_ ?_ _) | go_size)⟩
              | false =>
                have HNX := Lib.hid (show ∀ j, j < k + 1 → O.getD j sp0 ≠ ⟨role, tier, label⟩ from fun j hj => by
                  rcases Nat.lt_or_eq_of_le (Nat.le_of_lt_succ hj) with h9 | h9
                  · exact hall.out j h9
                  · rw [h9, HZ.out.1]
                    intro he
                    have := HZ.out.2.2 he
                    cases this)
                go_wp2_with fail
                (refine wp_region_later (X4.w.heap.size) (by kernel_rfl) (by kernel_rfl) (by go_size) ?_; (repeat (go_big_quiet_step (fail))); refine wpQuiet_nil ?_; intro Xq hlXq hmXq)
                go_wp2_with fail
                go_roundw
                case rel => exact ⟨k + 1, ⟨by omega, HNX.out⟩, by go_num, by repeat' (first | (with_reducible exact Below.refl _ _) | (with_reducible assumption) | (with_reducible refine Later.step ?_ ?_ _) | (with_reducible refine Below.alloc ?_ ?_ _) | (with_reducible refine Below.drew ?_) | (with_reducible refine bel_drewN ?_ _) | (with_reducible refine bel_grown ?_ (by assumption) ?_ ?_) | (with_reducible refine Below.setCell ?_ ?_ _) | go_size)⟩
                case measure => simp [intOf]; omega
            · obtain rfl : k = m := by omega
              have hnot : (⟨role, tier, label⟩ : Sp) ∉ O := fun hmem => by
                obtain ⟨j, hj, he⟩ := List.mem_iff_getElem.1 hmem
                exact hall.out j (by rw [← HO.out.1]; exact hj) (by rw [getS_lt hj]; exact he)
              have hno : numsB role tier label = true → riseNo L1 L2 role tier label := fun hnb => by
                obtain ⟨r0, r1, r2⟩ := nums_rng hnb
                have h9 := HO.out.2.2 role.toNat tier.toNat label.toNat (by omega) (by omega) (by omega) (by omega)
                rw [Int.toNat_of_nonneg r0.1, Int.toNat_of_nonneg r1.1, Int.toNat_of_nonneg r2.1] at h9
                exact h9.resolve_left hnot
              have HLaw := Lib.hid (fun (h9 : seeB L2 role tier g x y label = true) => safer_law hno h9)
              clear hnot hno hbel
              have HT2d := Lib.hid (HT2c.out.keep (show Below X3.w.heap.size X3.w X4.w by repeat' (first | (with_reducible exact Below.refl _ _) | (with_reducible assumption) | (with_reducible refine Later.step ?_ ?_ _) | (with_reducible refine Below.alloc ?_ ?_ _) | (with_reducible refine Below.drew ?_) | (with_reducible refine bel_drewN ?_ _) | (with_reducible refine bel_grown ?_ (by assumption) ?_ ?_) | (with_reducible refine Below.setCell ?_ ?_ _) | go_size)))
              have PA := see_any (fun _ => False) lo1 q1 b1 0 L1 Pp Pc role tier id x y label g X4.w (HT1d.out.keep (show Below X3.w.heap.size X3.w X4.w by repeat' (first | (with_reducible exact Below.refl _ _) | (with_reducible assumption) | (with_reducible refine Later.step ?_ ?_ _) | (with_reducible refine Below.alloc ?_ ?_ _) | (with_reducible refine Below.drew ?_) | (with_reducible refine bel_drewN ?_ _) | (with_reducible refine bel_grown ?_ (by assumption) ?_ ?_) | (with_reducible refine Below.setCell ?_ ?_ _) | go_size))) (fun _ h => h.elim) (by decide) HN.out.2.2.1 (by have := HN.out.1; omega)
              have PB := fun (W1 : World) (hT : Tb W1 lo2 q2 b2 0 L2) (Y : World) (hY : Below W1.heap.size W1 Y) => see_any (fun _ => False) lo2 q2 b2 0 L2 Pp2 Pc2 role tier id x y label g Y (hT.keep hY) (fun _ h => h.elim) (by decide) HN.out.2.2.2 (by have := HN.out.2.1; omega)
              unfold TabPost seenV at PA PB
              cases hsb : seeB L2 role tier g x y label with
              | false =>
                rw [hsb] at PB
                simp only [sel, Bool.false_eq_true, if_false] at PB
                obtain ⟨sa, hsa⟩ : ∃ s, seeB L1 role tier g x y label = s := ⟨_, rfl⟩
                rw [hsa] at PA
                obtain ⟨a0, h40⟩ : ∃ c, sel sa id = c := ⟨_, rfl⟩
                rw [h40] at PA
                obtain ⟨a1, h41⟩ : ∃ c, sel sa (seeL L1 role tier g x y label) = c := ⟨_, rfl⟩
                rw [h41] at PA
                obtain ⟨a2, h42⟩ : ∃ c, sel sa (x / sd (seeL L1 role tier g x y label) * sd (seeL L1 role tier g x y label)) = c := ⟨_, rfl⟩
                rw [h42] at PA
                obtain ⟨a3, h43⟩ : ∃ c, sel sa (y / sd (seeL L1 role tier g x y label) * sd (seeL L1 role tier g x y label)) = c := ⟨_, rfl⟩
                rw [h43] at PA
                obtain ⟨a4, h44⟩ : ∃ c, sel sa (x / sd (seeL L1 role tier g x y label) * sd (seeL L1 role tier g x y label) + sd (seeL L1 role tier g x y label) - 1) = c := ⟨_, rfl⟩
                rw [h44] at PA
                obtain ⟨a5, h45⟩ : ∃ c, sel sa (y / sd (seeL L1 role tier g x y label) * sd (seeL L1 role tier g x y label) + sd (seeL L1 role tier g x y label) - 1) = c := ⟨_, rfl⟩
                rw [h45] at PA
                clear hsa h40 h41 h42 h43 h44 h45
                have HPA := Lib.hid PA
                have HPB := Lib.hid PB
                clear PA PB hsb HLaw
                go_wp2_with fail
                go_at_call 8
                refine (HPA.out).mono ?_
                rintro e W1 ⟨rfl, hTa, hga⟩
                have hk1 : ∀ bl i, bl < X4.w.heap.size → bl ≠ b1 → W1.cell? ⟨bl, i, none⟩ = X4.w.cell? ⟨bl, i, none⟩ := fun bl i h0 h1 => hga.cell_far ⟨bl, i, none⟩ h0 (fun e => by injection e with e; exact h1 e)
                have hs1 := hga.size
                have d0 : W1.cell? ⟨w.heap.size, 0, none⟩ = some (.int .i64 role) := (hk1 _ _ (by omega) (by omega)).trans (by go_simp)
                have d1 : W1.cell? ⟨w.heap.size, 1, none⟩ = some (.int .i64 tier) := (hk1 _ _ (by omega) (by omega)).trans (by go_simp)
                have d2 : W1.cell? ⟨w.heap.size, 2, none⟩ = some (.int .i64 g.ops) := (hk1 _ _ (by omega) (by omega)).trans (by go_simp)
                have d3 : W1.cell? ⟨w.heap.size, 3, none⟩ = some (.int .i64 g.zoom) := (hk1 _ _ (by omega) (by omega)).trans (by go_simp)
                have d4 : W1.cell? ⟨w.heap.size, 4, none⟩ = some (.int .i64 g.a) := (hk1 _ _ (by omega) (by omega)).trans (by go_simp)
                have d5 : W1.cell? ⟨w.heap.size, 5, none⟩ = some (.int .i64 g.b) := (hk1 _ _ (by omega) (by omega)).trans (by go_simp)
                have d6 : W1.cell? ⟨w.heap.size, 6, none⟩ = some (.int .i64 g.c) := (hk1 _ _ (by omega) (by omega)).trans (by go_simp)
                have d7 : W1.cell? ⟨w.heap.size, 7, none⟩ = some (.int .i64 g.d) := (hk1 _ _ (by omega) (by omega)).trans (by go_simp)
                have d8 : W1.cell? ⟨w.heap.size, 8, none⟩ = some (.bool g.void) := (hk1 _ _ (by omega) (by omega)).trans (by go_simp)
                have d9 : W1.cell? ⟨w.heap.size, 9, none⟩ = some (.int .i64 g.til) := (hk1 _ _ (by omega) (by omega)).trans (by go_simp)
                have e0 : W1.cell? ⟨w.heap.size + 1, 0, none⟩ = some (.int .i64 id) := (hk1 _ _ (by omega) (by omega)).trans (by go_simp)
                have e1 : W1.cell? ⟨w.heap.size + 1, 1, none⟩ = some (.int .i64 x) := (hk1 _ _ (by omega) (by omega)).trans (by go_simp)
                have e2 : W1.cell? ⟨w.heap.size + 1, 2, none⟩ = some (.int .i64 y) := (hk1 _ _ (by omega) (by omega)).trans (by go_simp)
                have e3 : W1.cell? ⟨w.heap.size + 1, 3, none⟩ = some (.int .i64 label) := (hk1 _ _ (by omega) (by omega)).trans (by go_simp)
                have f0 : W1.cell? ⟨X2.w.heap.size, 0, none⟩ = some (.pointer Pp2) := (hk1 _ _ (by omega) (by omega)).trans (by go_simp)
                have f1 : W1.cell? ⟨X2.w.heap.size, 1, none⟩ = some (.pointer Pc2) := (hk1 _ _ (by omega) (by omega)).trans (by go_simp)
                have f2 : W1.cell? ⟨X2.w.heap.size, 2, none⟩ = some (.pointer (some ⟨q2, 0, none⟩)) := (hk1 _ _ (by omega) (by omega)).trans (by go_simp)
                have hb41 : Below w.heap.size w W1 := (show Below w.heap.size w X4.w by repeat' (first | (with_reducible exact Below.refl _ _) | (with_reducible assumption) | (with_reducible refine Later.step ?_ ?_ _) | (with_reducible refine Below.alloc ?_ ?_ _) | (with_reducible refine Below.drew ?_) | (with_reducible refine bel_drewN ?_ _) | (with_reducible refine bel_grown ?_ (by assumption) ?_ ?_) | (with_reducible refine Below.setCell ?_ ?_ _) | go_size)).trans ⟨hga.os, hga.tape, hga.output, hga.size, fun j hj => hga.block j (by omega) (fun e => by injection e with e; omega)⟩
                have hbA : Below W1.heap.size W1 (W1.alloc (.cells #[.int .i64 a0, .int .i64 a1, .int .i64 a2, .int .i64 a3, .int .i64 a4, .int .i64 a5] 48)) := (Below.refl _ _).alloc (Nat.le_refl _) _
                have HB2 := Lib.hid (HPB.out W1 (HT2d.out.other hga (by omega)) _ hbA)
                clear hTa hga hk1 HPA HPB hbA
                go_wp2_with fail
                go_at_call 8
                refine HB2.out.mono ?_
                rintro e W2 ⟨rfl, hTb, hgb⟩
                have hk2 : ∀ i, W2.cell? ⟨W1.heap.size, i, none⟩ = (W1.alloc (.cells #[.int .i64 a0, .int .i64 a1, .int .i64 a2, .int .i64 a3, .int .i64 a4, .int .i64 a5] 48)).cell? ⟨W1.heap.size, i, none⟩ := fun i => hgb.cell_far ⟨W1.heap.size, i, none⟩ (by simp) (fun e => by injection e with e; have e' : W1.heap.size = b2 := e; omega)
                have hs2 := hgb.size
                simp only [World.size_alloc] at hs2
                have j0 : W2.cell? ⟨W1.heap.size, 0, none⟩ = some (.int .i64 a0) := (hk2 0).trans (by go_simp)
                have j1 : W2.cell? ⟨W1.heap.size, 1, none⟩ = some (.int .i64 a1) := (hk2 1).trans (by go_simp)
                have j2 : W2.cell? ⟨W1.heap.size, 2, none⟩ = some (.int .i64 a2) := (hk2 2).trans (by go_simp)
                have j3 : W2.cell? ⟨W1.heap.size, 3, none⟩ = some (.int .i64 a3) := (hk2 3).trans (by go_simp)
                have j4 : W2.cell? ⟨W1.heap.size, 4, none⟩ = some (.int .i64 a4) := (hk2 4).trans (by go_simp)
                have j5 : W2.cell? ⟨W1.heap.size, 5, none⟩ = some (.int .i64 a5) := (hk2 5).trans (by go_simp)
                have hb42 : Below w.heap.size w W2 := (hb41.alloc (by omega) _).trans ⟨hgb.os, hgb.tape, hgb.output, hgb.size, fun j hj => hgb.block j (by simp only [World.size_alloc]; omega) (fun e => by injection e with e; omega)⟩
                have hsw2 : w.heap.size ≤ W2.heap.size := hb42.size
                clear hTb hgb hk2 HB2 hb41
                go_wp2_with (first
                  | (go_at_call 5; refine (PS.out _).mono ?_; rintro e w' ⟨rfl, hb⟩; obtain ⟨X9, rfl, hl9, hm9⟩ := later _ hb (Nat.le_refl _); clear hb; (try simp only [World.size_alloc, World.size_setCell, World.size_drew] at hm9 hl9)))
                go_ret
                exact ⟨rfl, by repeat' (first | (with_reducible exact Below.refl _ _) | (with_reducible assumption) | (with_reducible refine Later.step ?_ ?_ _) | (with_reducible refine Below.alloc ?_ ?_ _) | (with_reducible refine Below.drew ?_) | (with_reducible refine bel_drewN ?_ _) | (with_reducible refine bel_grown ?_ (by assumption) ?_ ?_) | (with_reducible refine Below.setCell ?_ ?_ _) | go_size)⟩
              | true =>
                obtain ⟨hsa, hle, hin⟩ := HLaw.out hsb
                rw [hsb] at PB
                rw [hsa] at PA
                simp only [sel, if_true] at PA PB
                obtain ⟨la, hla⟩ : ∃ l, seeL L1 role tier g x y label = l := ⟨_, rfl⟩
                obtain ⟨lb, hlb⟩ : ∃ l, seeL L2 role tier g x y label = l := ⟨_, rfl⟩
                rw [hla] at PA hle hin
                rw [hlb] at PB hle hin
                obtain ⟨a2, h40⟩ : ∃ c, x / sd la * sd la = c := ⟨_, rfl⟩
                rw [h40] at PA hin
                obtain ⟨a3, h41⟩ : ∃ c, y / sd la * sd la = c := ⟨_, rfl⟩
                rw [h41] at PA hin
                obtain ⟨b2', h42⟩ : ∃ c, x / sd lb * sd lb = c := ⟨_, rfl⟩
                rw [h42] at PB hin
                obtain ⟨b3', h43⟩ : ∃ c, y / sd lb * sd lb = c := ⟨_, rfl⟩
                rw [h43] at PB hin
                obtain ⟨a4, h50⟩ : ∃ c, a2 + sd la - 1 = c := ⟨_, rfl⟩
                rw [h50] at PA hin
                obtain ⟨a5, h51⟩ : ∃ c, a3 + sd la - 1 = c := ⟨_, rfl⟩
                rw [h51] at PA hin
                obtain ⟨b4', h52⟩ : ∃ c, b2' + sd lb - 1 = c := ⟨_, rfl⟩
                rw [h52] at PB hin
                obtain ⟨b5', h53⟩ : ∃ c, b3' + sd lb - 1 = c := ⟨_, rfl⟩
                rw [h53] at PB hin
                have hleD : decide (lb ≤ la) = true := decide_eq_true hle
                have pin := fun (Y : World) => in_any a2 a3 a4 a5 b2' b3' b4' b5' Y
                rw [hin] at pin
                have PIN := Lib.hid pin
                clear pin hin hsa hla hlb h40 h41 h42 h43 h50 h51 h52 h53
                have HPA := Lib.hid PA
                have HPB := Lib.hid PB
                clear PA PB hsb HLaw
                go_wp2_with fail
                go_at_call 8
                refine (HPA.out).mono ?_
                rintro e W1 ⟨rfl, hTa, hga⟩
                have hk1 : ∀ bl i, bl < X4.w.heap.size → bl ≠ b1 → W1.cell? ⟨bl, i, none⟩ = X4.w.cell? ⟨bl, i, none⟩ := fun bl i h0 h1 => hga.cell_far ⟨bl, i, none⟩ h0 (fun e => by injection e with e; exact h1 e)
                have hs1 := hga.size
                have d0 : W1.cell? ⟨w.heap.size, 0, none⟩ = some (.int .i64 role) := (hk1 _ _ (by omega) (by omega)).trans (by go_simp)
                have d1 : W1.cell? ⟨w.heap.size, 1, none⟩ = some (.int .i64 tier) := (hk1 _ _ (by omega) (by omega)).trans (by go_simp)
                have d2 : W1.cell? ⟨w.heap.size, 2, none⟩ = some (.int .i64 g.ops) := (hk1 _ _ (by omega) (by omega)).trans (by go_simp)
                have d3 : W1.cell? ⟨w.heap.size, 3, none⟩ = some (.int .i64 g.zoom) := (hk1 _ _ (by omega) (by omega)).trans (by go_simp)
                have d4 : W1.cell? ⟨w.heap.size, 4, none⟩ = some (.int .i64 g.a) := (hk1 _ _ (by omega) (by omega)).trans (by go_simp)
                have d5 : W1.cell? ⟨w.heap.size, 5, none⟩ = some (.int .i64 g.b) := (hk1 _ _ (by omega) (by omega)).trans (by go_simp)
                have d6 : W1.cell? ⟨w.heap.size, 6, none⟩ = some (.int .i64 g.c) := (hk1 _ _ (by omega) (by omega)).trans (by go_simp)
                have d7 : W1.cell? ⟨w.heap.size, 7, none⟩ = some (.int .i64 g.d) := (hk1 _ _ (by omega) (by omega)).trans (by go_simp)
                have d8 : W1.cell? ⟨w.heap.size, 8, none⟩ = some (.bool g.void) := (hk1 _ _ (by omega) (by omega)).trans (by go_simp)
                have d9 : W1.cell? ⟨w.heap.size, 9, none⟩ = some (.int .i64 g.til) := (hk1 _ _ (by omega) (by omega)).trans (by go_simp)
                have e0 : W1.cell? ⟨w.heap.size + 1, 0, none⟩ = some (.int .i64 id) := (hk1 _ _ (by omega) (by omega)).trans (by go_simp)
                have e1 : W1.cell? ⟨w.heap.size + 1, 1, none⟩ = some (.int .i64 x) := (hk1 _ _ (by omega) (by omega)).trans (by go_simp)
                have e2 : W1.cell? ⟨w.heap.size + 1, 2, none⟩ = some (.int .i64 y) := (hk1 _ _ (by omega) (by omega)).trans (by go_simp)
                have e3 : W1.cell? ⟨w.heap.size + 1, 3, none⟩ = some (.int .i64 label) := (hk1 _ _ (by omega) (by omega)).trans (by go_simp)
                have f0 : W1.cell? ⟨X2.w.heap.size, 0, none⟩ = some (.pointer Pp2) := (hk1 _ _ (by omega) (by omega)).trans (by go_simp)
                have f1 : W1.cell? ⟨X2.w.heap.size, 1, none⟩ = some (.pointer Pc2) := (hk1 _ _ (by omega) (by omega)).trans (by go_simp)
                have f2 : W1.cell? ⟨X2.w.heap.size, 2, none⟩ = some (.pointer (some ⟨q2, 0, none⟩)) := (hk1 _ _ (by omega) (by omega)).trans (by go_simp)
                have hb41 : Below w.heap.size w W1 := (show Below w.heap.size w X4.w by repeat' (first | (with_reducible exact Below.refl _ _) | (with_reducible assumption) | (with_reducible refine Later.step ?_ ?_ _) | (with_reducible refine Below.alloc ?_ ?_ _) | (with_reducible refine Below.drew ?_) | (with_reducible refine bel_drewN ?_ _) | (with_reducible refine bel_grown ?_ (by assumption) ?_ ?_) | (with_reducible refine Below.setCell ?_ ?_ _) | go_size)).trans ⟨hga.os, hga.tape, hga.output, hga.size, fun j hj => hga.block j (by omega) (fun e => by injection e with e; omega)⟩
                have hbA : Below W1.heap.size W1 (W1.alloc (.cells #[.int .i64 id, .int .i64 la, .int .i64 a2, .int .i64 a3, .int .i64 a4, .int .i64 a5] 48)) := (Below.refl _ _).alloc (Nat.le_refl _) _
                have HB2 := Lib.hid (HPB.out W1 (HT2d.out.other hga (by omega)) _ hbA)
                clear hTa hga hk1 HPA HPB hbA
                go_wp2_with fail
                go_at_call 8
                refine HB2.out.mono ?_
                rintro e W2 ⟨rfl, hTb, hgb⟩
                have hk2 : ∀ i, W2.cell? ⟨W1.heap.size, i, none⟩ = (W1.alloc (.cells #[.int .i64 id, .int .i64 la, .int .i64 a2, .int .i64 a3, .int .i64 a4, .int .i64 a5] 48)).cell? ⟨W1.heap.size, i, none⟩ := fun i => hgb.cell_far ⟨W1.heap.size, i, none⟩ (by simp) (fun e => by injection e with e; have e' : W1.heap.size = b2 := e; omega)
                have hs2 := hgb.size
                simp only [World.size_alloc] at hs2
                have j0 : W2.cell? ⟨W1.heap.size, 0, none⟩ = some (.int .i64 id) := (hk2 0).trans (by go_simp)
                have j1 : W2.cell? ⟨W1.heap.size, 1, none⟩ = some (.int .i64 la) := (hk2 1).trans (by go_simp)
                have j2 : W2.cell? ⟨W1.heap.size, 2, none⟩ = some (.int .i64 a2) := (hk2 2).trans (by go_simp)
                have j3 : W2.cell? ⟨W1.heap.size, 3, none⟩ = some (.int .i64 a3) := (hk2 3).trans (by go_simp)
                have j4 : W2.cell? ⟨W1.heap.size, 4, none⟩ = some (.int .i64 a4) := (hk2 4).trans (by go_simp)
                have j5 : W2.cell? ⟨W1.heap.size, 5, none⟩ = some (.int .i64 a5) := (hk2 5).trans (by go_simp)
                have hb42 : Below w.heap.size w W2 := (hb41.alloc (by omega) _).trans ⟨hgb.os, hgb.tape, hgb.output, hgb.size, fun j hj => hgb.block j (by simp only [World.size_alloc]; omega) (fun e => by injection e with e; omega)⟩
                have hsw2 : w.heap.size ≤ W2.heap.size := hb42.size
                clear hTb hgb hk2 HB2 hb41
                go_wp2_with (first
                  | (go_at_call 5; refine (PS.out _).mono ?_; rintro e w' ⟨rfl, hb⟩; obtain ⟨X9, rfl, hl9, hm9⟩ := later _ hb (Nat.le_refl _); clear hb; (try simp only [World.size_alloc, World.size_setCell, World.size_drew] at hm9 hl9))
                  | (go_at_call 9; refine (PIN.out _).mono ?_; rintro e w' ⟨rfl, hb⟩; obtain ⟨X8, rfl, hl8, hm8⟩ := later _ hb (Nat.le_refl _); clear hb; (try simp only [World.size_alloc, World.size_setCell, World.size_drew] at hm8 hl8)))
                go_ret
                exact ⟨rfl, by repeat' (first | (with_reducible exact Below.refl _ _) | (with_reducible assumption) | (with_reducible refine Later.step ?_ ?_ _) | (with_reducible refine Below.alloc ?_ ?_ _) | (with_reducible refine Below.drew ?_) | (with_reducible refine bel_drewN ?_ _) | (with_reducible refine bel_grown ?_ (by assumption) ?_ ?_) | (with_reducible refine Below.setCell ?_ ?_ _) | go_size)⟩
        · go_wp2_with fail
          go_at_call 7
          refine (PR.out _ (by repeat' (first | (with_reducible exact Below.refl _ _) | (with_reducible assumption) | (with_reducible refine Later.step ?_ ?_ _) | (with_reducible refine Below.alloc ?_ ?_ _) | (with_reducible refine Below.drew ?_) | (with_reducible refine bel_drewN ?_ _) | (with_reducible refine bel_grown ?_ (by assumption) ?_ ?_) | (with_reducible refine Below.setCell ?_ ?_ _) | go_size))).mono ?_
          rintro e w' ⟨C, m, cc, O, rfl, hO, hm, hSp, hV, hb⟩
          obtain ⟨X3, rfl, hl3, hm3⟩ := later _ hb (Nat.le_refl _)
          have hz3 : X2.w.heap.size + 1 ≤ X3.w.heap.size := Nat.le_trans (by simp) hl3
          clear hO hSp hV hb hnot
          go_wp2_with (first
            | (go_at_call 5; refine (PS.out _).mono ?_; rintro e w' ⟨rfl, hb⟩; obtain ⟨X9, rfl, hl9, hm9⟩ := later _ hb (Nat.le_refl _); clear hb; (try simp only [World.size_alloc, World.size_setCell, World.size_drew] at hm9 hl9)))
          go_ret
          exact ⟨rfl, by repeat' (first | (with_reducible exact Below.refl _ _) | (with_reducible assumption) | (with_reducible refine Later.step ?_ ?_ _) | (with_reducible refine Below.alloc ?_ ?_ _) | (with_reducible refine Below.drew ?_) | (with_reducible refine bel_drewN ?_ _) | (with_reducible refine bel_grown ?_ (by assumption) ?_ ?_) | (with_reducible refine Below.setCell ?_ ?_ _) | go_size)⟩
      · go_wp2_with fail
        go_at_call 6
        refine (PW2.out _ (by repeat' (first | (with_reducible exact Below.refl _ _) | (with_reducible assumption) | (with_reducible refine Later.step ?_ ?_ _) | (with_reducible refine Below.alloc ?_ ?_ _) | (with_reducible refine Below.drew ?_) | (with_reducible refine bel_drewN ?_ _) | (with_reducible refine bel_grown ?_ (by assumption) ?_ ?_) | (with_reducible refine Below.setCell ?_ ?_ _) | go_size))).mono ?_
        rintro e w' ⟨hb, hor⟩
        obtain ⟨X2, rfl, hl2, hm2⟩ := later _ hb (Nat.le_refl _)
        clear hb hnot
        rcases hor with ⟨_, _, Pp2, Pc2, lo2, q2, b2, rfl, _⟩ | ⟨_, rfl⟩
        · have hz2 : X1.w.heap.size + 1 ≤ X2.w.heap.size := Nat.le_trans (by simp) hl2
          go_wp2_with fail
          go_at_call 7
          refine (PR.out _ (by repeat' (first | (with_reducible exact Below.refl _ _) | (with_reducible assumption) | (with_reducible refine Later.step ?_ ?_ _) | (with_reducible refine Below.alloc ?_ ?_ _) | (with_reducible refine Below.drew ?_) | (with_reducible refine bel_drewN ?_ _) | (with_reducible refine bel_grown ?_ (by assumption) ?_ ?_) | (with_reducible refine Below.setCell ?_ ?_ _) | go_size))).mono ?_
          rintro e w' ⟨C, m, cc, O, rfl, hO, hm, hSp, hV, hb⟩
          obtain ⟨X3, rfl, hl3, hm3⟩ := later _ hb (Nat.le_refl _)
          have hz3 : X2.w.heap.size + 1 ≤ X3.w.heap.size := Nat.le_trans (by simp) hl3
          clear hO hSp hV hb
          go_wp2_with (first
            | (go_at_call 5; refine (PS.out _).mono ?_; rintro e w' ⟨rfl, hb⟩; obtain ⟨X9, rfl, hl9, hm9⟩ := later _ hb (Nat.le_refl _); clear hb; (try simp only [World.size_alloc, World.size_setCell, World.size_drew] at hm9 hl9)))
          go_ret
          exact ⟨rfl, by repeat' (first | (with_reducible exact Below.refl _ _) | (with_reducible assumption) | (with_reducible refine Later.step ?_ ?_ _) | (with_reducible refine Below.alloc ?_ ?_ _) | (with_reducible refine Below.drew ?_) | (with_reducible refine bel_drewN ?_ _) | (with_reducible refine bel_grown ?_ (by assumption) ?_ ?_) | (with_reducible refine Below.setCell ?_ ?_ _) | go_size)⟩
        · have hz2 : X1.w.heap.size + 1 ≤ X2.w.heap.size := Nat.le_trans (by simp) hl2
          go_wp2_with fail
          go_at_call 7
          refine (PR.out _ (by repeat' (first | (with_reducible exact Below.refl _ _) | (with_reducible assumption) | (with_reducible refine Later.step ?_ ?_ _) | (with_reducible refine Below.alloc ?_ ?_ _) | (with_reducible refine Below.drew ?_) | (with_reducible refine bel_drewN ?_ _) | (with_reducible refine bel_grown ?_ (by assumption) ?_ ?_) | (with_reducible refine Below.setCell ?_ ?_ _) | go_size))).mono ?_
          rintro e w' ⟨C, m, cc, O, rfl, hO, hm, hSp, hV, hb⟩
          obtain ⟨X3, rfl, hl3, hm3⟩ := later _ hb (Nat.le_refl _)
          have hz3 : X2.w.heap.size + 1 ≤ X3.w.heap.size := Nat.le_trans (by simp) hl3
          clear hO hSp hV hb
          go_wp2_with (first
            | (go_at_call 5; refine (PS.out _).mono ?_; rintro e w' ⟨rfl, hb⟩; obtain ⟨X9, rfl, hl9, hm9⟩ := later _ hb (Nat.le_refl _); clear hb; (try simp only [World.size_alloc, World.size_setCell, World.size_drew] at hm9 hl9)))
          go_ret
          exact ⟨rfl, by repeat' (first | (with_reducible exact Below.refl _ _) | (with_reducible assumption) | (with_reducible refine Later.step ?_ ?_ _) | (with_reducible refine Below.alloc ?_ ?_ _) | (with_reducible refine Below.drew ?_) | (with_reducible refine bel_drewN ?_ _) | (with_reducible refine bel_grown ?_ (by assumption) ?_ ?_) | (with_reducible refine Below.setCell ?_ ?_ _) | go_size)⟩
    · go_enter Tryz.func3, Tryz.ntmps3
      go_wp2_with (first
        | (go_at_call 5; refine (PS.out _).mono ?_; rintro e w' ⟨rfl, hb⟩; obtain ⟨X9, rfl, hl9, hm9⟩ := later _ hb (Nat.le_refl _); clear hb; (try simp only [World.size_alloc, World.size_setCell, World.size_drew] at hm9 hl9)))
      go_ret
      exact ⟨rfl, by repeat' (first | (with_reducible exact Below.refl _ _) | (with_reducible assumption) | (with_reducible refine Later.step ?_ ?_ _) | (with_reducible refine Below.alloc ?_ ?_ _) | (with_reducible refine Below.drew ?_) | (with_reducible refine bel_drewN ?_ _) | (with_reducible refine bel_grown ?_ (by assumption) ?_ ?_) | (with_reducible refine Below.setCell ?_ ?_ _) | go_size)⟩
  · go_enter Tryz.func3, Tryz.ntmps3
    go_wp2_with (first
      | (go_at_call 5; refine (PS.out _).mono ?_; rintro e w' ⟨rfl, hb⟩; obtain ⟨X9, rfl, hl9, hm9⟩ := later _ hb (Nat.le_refl _); clear hb; (try simp only [World.size_alloc, World.size_setCell, World.size_drew] at hm9 hl9)))
    go_ret
    exact ⟨rfl, by repeat' (first | (with_reducible exact Below.refl _ _) | (with_reducible assumption) | (with_reducible refine Later.step ?_ ?_ _) | (with_reducible refine Below.alloc ?_ ?_ _) | (with_reducible refine Below.drew ?_) | (with_reducible refine bel_drewN ?_ _) | (with_reducible refine bel_grown ?_ (by assumption) ?_ ?_) | (with_reducible refine Below.setCell ?_ ?_ _) | go_size)⟩
end Go.Proofs.YthlijfligikciaaGreat
