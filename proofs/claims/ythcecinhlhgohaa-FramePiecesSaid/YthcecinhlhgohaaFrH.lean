/- The document's buffer as a value: what is next, walked. No condition beyond what the slices read as. -/
import Derived.Test.YthcecinhlhgohaaFrF
import Derived.Deep.RegionHeld3
import Derived.IntWalk
namespace Go.Proofs.Ythcecinhlhgohaa
open Go.RowKit
set_option linter.unusedSimpArgs false
set_option linter.unusedVariables false
set_option maxRecDepth 2000

theorem rless_any (a b : Int) (w : World) : Calls Try.prog 27 #[.int .i64 a, .int .i64 b] w fun e w' => e = .returned (.int .i64 (min a b)) ∧ Below w.heap.size w w' := by
  by_cases h : a < b
  · rw [Int.min_eq_left (by omega)]
    go_enter Try.func27, Try.ntmps27
    go_wp2
    go_ret
    exact ⟨rfl, by repeat' (first | (with_reducible exact Below.refl _ _) | (with_reducible assumption) | (with_reducible refine Later.step ?_ ?_ _) | (with_reducible refine Below.alloc ?_ ?_ _) | (with_reducible refine Below.drew ?_) | (with_reducible refine bel_drewN ?_ _) | (with_reducible refine bel_grown ?_ (by assumption) ?_ ?_) | (with_reducible refine Below.setCell ?_ ?_ _) | go_size)⟩
  · rw [Int.min_eq_right (by omega)]
    go_enter Try.func27, Try.ntmps27
    go_wp2
    go_ret
    exact ⟨rfl, by repeat' (first | (with_reducible exact Below.refl _ _) | (with_reducible assumption) | (with_reducible refine Later.step ?_ ?_ _) | (with_reducible refine Below.alloc ?_ ?_ _) | (with_reducible refine Below.drew ?_) | (with_reducible refine bel_drewN ?_ _) | (with_reducible refine bel_grown ?_ (by assumption) ?_ ?_) | (with_reducible refine Below.setCell ?_ ?_ _) | go_size)⟩
/-- Where a cut of a slice lies, the slice lies. -/
def From (A A' : Option Addr) : Prop := ∀ b o, A' = some ⟨b, o, none⟩ → ∃ o2, A = some ⟨b, o2, none⟩
/-- A buffer as a value, a body and its kind are told. -/
def RNext (A0 : Option Addr) (room over : Nat) (l : List Nat) (w : World) (e : Ending) (w' : World) : Prop :=
  ∃ A c B d, e = .returned (.tuple #[.agg #[.int .i64 room, .slice A (nextL l).length c, .int .i64 (nextO l over)], .slice B (nextB l).length d, .int .i64 (kindN l)])
    ∧ Reads .u8 w' w'.heap.size A (nextL l).length (atI (nextL l)) ∧ Reads .u8 w' w'.heap.size B (nextB l).length (atI (nextB l)) ∧ ((nextL l).length ≤ c ∧ c ≤ 9223372036854775807) ∧ Below w.heap.size w w' ∧ From A0 A ∧ From A0 B
theorem reads_drop {w : World} {B : Nat} {A ao : Option Addr} {l : List Nat} {i : Nat} (h : Reads .u8 w B A l.length (atI l)) (hao : ∀ b o, A = some ⟨b, o, none⟩ → i < l.length → ao = some ⟨b, o + i, none⟩) : Reads .u8 w B ao (l.drop i).length (atI (l.drop i)) := by
  have := (h.from_ (i := i) hao).same (g := atI (l.drop i)) fun j _ => (atI_drop l i j).symm
  rwa [← List.length_drop] at this
theorem kind_small {l : List Nat} (h : l.length < 2) : kindN l = 0 := by unfold kindN; rw [if_pos h]
theorem kind_short {l : List Nat} (h : ¬ l.length < 2) (h2 : ¬ 600 < lenI l) (h3 : l.length < 2 + lenI l) : kindN l = 0 := by unfold kindN; rw [if_neg h, if_neg h2, if_pos h3]
theorem kind_over {l : List Nat} (h : ¬ l.length < 2) (h2 : 600 < lenI l) : kindN l = 2 := by unfold kindN; rw [if_neg h, if_pos h2]
theorem kind_whole {l : List Nat} (h : ¬ l.length < 2) (h2 : ¬ 600 < lenI l) (h3 : ¬ l.length < 2 + lenI l) : kindN l = 1 := by unfold kindN; rw [if_neg h, if_neg h2, if_neg h3]
theorem next_zero {l : List Nat} (h : kindN l = 0) (over : Nat) : nextL l = l ∧ nextO l over = over ∧ nextB l = [] := by
  unfold nextL nextO nextB
  rw [h]
  exact ⟨rfl, rfl, rfl⟩
set_option maxHeartbeats 4000000 in
theorem rnext_any (room over : Nat) (A : Option Addr) (c : Nat) (l : List Nat) (w : World) (ha : Reads .u8 w w.heap.size A l.length (atI l)) (hc : l.length ≤ c ∧ c ≤ 9223372036854775807) (hs : Small l) (hov : 0 < l.length → over = 0) (ho : over ≤ 1000000) (hr : room ≤ 1000000) :
    Calls Try.prog 19 #[.agg #[.int .i64 room, .slice A l.length c, .int .i64 over]] w (RNext A room over l w) := by
  have HA := Lib.hid ha
  by_cases h2 : l.length < 2
  · have HK := Lib.hid (kind_small h2)
    clear ha
    obtain ⟨n, hn⟩ : ∃ n, l.length = n := ⟨_, rfl⟩
    rw [hn] at h2 hc ⊢
    have HN := Lib.hid hn
    clear hn
    go_enter Try.func19, Try.ntmps19
    go_wp2
    refine bodyPost_ret (by simp only [results, Try.results19]; go_simp; all_goals rfl) rfl ?_
    obtain ⟨e1, e2, e3⟩ := next_zero HK.out over
    unfold RNext
    rw [e1, e2, e3, HK.out, HN.out]
    refine ⟨A, c, none, 0, rfl, ?_, Reads.nil _ _ _ _ _, hc, by repeat' (first | (with_reducible exact Below.refl _ _) | (with_reducible assumption) | (with_reducible refine Later.step ?_ ?_ _) | (with_reducible refine Below.alloc ?_ ?_ _) | (with_reducible refine Below.drew ?_) | (with_reducible refine bel_drewN ?_ _) | (with_reducible refine bel_grown ?_ (by assumption) ?_ ?_) | (with_reducible refine Below.setCell ?_ ?_ _) | go_size), (fun b o e => ⟨o, e⟩), (fun b o e => by cases e)⟩
    have := HA.out
    rw [HN.out] at this
    exact (this.keep (by repeat' (first | (with_reducible exact Below.refl _ _) | (with_reducible assumption) | (with_reducible refine Later.step ?_ ?_ _) | (with_reducible refine Below.alloc ?_ ?_ _) | (with_reducible refine Below.drew ?_) | (with_reducible refine bel_drewN ?_ _) | (with_reducible refine bel_grown ?_ (by assumption) ?_ ?_) | (with_reducible refine Below.setCell ?_ ?_ _) | go_size))).more (by go_size)
  · obtain ⟨g, o, rfl, hg, hcell⟩ := ha (by omega)
    have c0 := hcell 0 (by omega)
    have c1 := hcell 1 (by omega)
    rw [Nat.add_zero] at c0
    have hv : 256 * atI l 0 + atI l 1 = ((lenI l : Nat) : Int) := by unfold lenI atI; push_cast; rfl
    have b0 := atI_bd hs 0
    have b1 := atI_bd hs 1
    have hvb := lenI_bd hs
    have hov0 : over = 0 := hov (by omega)
    subst hov0
    have K2 := kind_over (l := l) h2
    have K0 := kind_short (l := l) h2
    have K1 := kind_whole (l := l) h2
    clear ha hcell hs
    generalize atI l 0 = x0 at *
    generalize atI l 1 = x1 at *
    obtain ⟨v, hve⟩ : ∃ v, lenI l = v := ⟨_, rfl⟩
    obtain ⟨n, hn⟩ : ∃ n, l.length = n := ⟨_, rfl⟩
    rw [hve] at hv hvb K0 K1 K2
    rw [hn] at K0 K1 h2 hc ⊢
    have HV := Lib.hid hve
    have HN := Lib.hid hn
    clear hve hn hov
    by_cases h6 : 600 < v
    · have HK := Lib.hid (K2 h6)
      obtain ⟨k, hk⟩ : ∃ k, min v (n - 2) = k := ⟨_, rfl⟩
      have P1 : ∀ X : World, Calls Try.prog 27 #[.int .i64 v, .int .i64 ((n : Int) - 2)] X fun e w' => e = .returned (.int .i64 k) ∧ Below X.heap.size X w' := fun X => by
        have := rless_any v ((n : Int) - 2) X
        rw [show min (v : Int) ((n : Int) - 2) = (k : Int) by omega] at this
        exact this
      have Q1 := Lib.hid P1
      have hkv : k ≤ v := by omega
      have hkn : 2 + k ≤ n := by omega
      have HKE := Lib.hid hk
      clear P1 K0 K1 K2 hk
      have hcase : c = 2 + k ∨ ¬ c = 2 + k := by omega
      rcases hcase with hcc | hcc
      · go_enter Try.func19, Try.ntmps19
        go_wp2
        (refine wp_region_later (w.heap.size + 2) (by kernel_rfl) (by kernel_rfl) (by go_size) ?_; (repeat (go_big_quiet_step (fail))); refine wpQuiet_nil ?_; intro Xq hlq hmq)
        go_wp2_with (first
          | (go_at_call 27; with_reducible refine (Q1.out _).mono ?_; rintro e w' ⟨rfl, hb⟩; obtain ⟨X1, rfl, hl1, hm1⟩ := later (w.heap.size + 2) hb (by first | exact Nat.le_refl _ | go_size); clear hb; (try simp only [World.size_alloc, World.size_setCell, World.size_drew] at hm1)))
        (refine wp_region_later_tail 11 (w.heap.size + 2) (by kernel_rfl) (by kernel_rfl) (by go_size) ?_; simp only [List.take_succ_cons, List.take_zero, List.drop_succ_cons, List.drop_zero]; (repeat (go_big_quiet_step (fail))); refine wpQuiet_nil ?_; intro Xq hlq hmq)
        go_wp2
        refine bodyPost_ret (by simp only [results, Try.results19]; go_simp; all_goals rfl) rfl ?_
        have hd : (l.drop 2).drop k = l.drop (2 + k) := by rw [List.drop_drop]
        have hl : (l.drop (2 + k)).length = n - (2 + k) := by rw [List.length_drop, HN.out]
        unfold RNext nextL nextO nextB
        rw [HK.out, if_neg (by decide), if_pos rfl, if_pos rfl, if_neg (by decide), HV.out, HN.out, HKE.out, hd, hl, Int.ofNat_sub hkv]
        refine ⟨_, _, _, _, rfl, ?_, Reads.nil _ _ _ _ _, ?_, by repeat' (first | (with_reducible exact Below.refl _ _) | (with_reducible assumption) | (with_reducible refine Later.step ?_ ?_ _) | (with_reducible refine Below.alloc ?_ ?_ _) | (with_reducible refine Below.drew ?_) | (with_reducible refine bel_drewN ?_ _) | (with_reducible refine bel_grown ?_ (by assumption) ?_ ?_) | (with_reducible refine Below.setCell ?_ ?_ _) | go_size), (fun b o e => by cases e; exact ⟨_, rfl⟩), (fun b o e => by cases e)⟩
        · exact fun h => absurd h (by omega)
        · constructor <;> omega
      · go_enter Try.func19, Try.ntmps19
        go_wp2
        (refine wp_region_later (w.heap.size + 2) (by kernel_rfl) (by kernel_rfl) (by go_size) ?_; (repeat (go_big_quiet_step (fail))); refine wpQuiet_nil ?_; intro Xq hlq hmq)
        go_wp2_with (first
          | (go_at_call 27; with_reducible refine (Q1.out _).mono ?_; rintro e w' ⟨rfl, hb⟩; obtain ⟨X1, rfl, hl1, hm1⟩ := later (w.heap.size + 2) hb (by first | exact Nat.le_refl _ | go_size); clear hb; (try simp only [World.size_alloc, World.size_setCell, World.size_drew] at hm1)))
        (refine wp_region_later_tail 11 (w.heap.size + 2) (by kernel_rfl) (by kernel_rfl) (by go_size) ?_; simp only [List.take_succ_cons, List.take_zero, List.drop_succ_cons, List.drop_zero]; (repeat (go_big_quiet_step (fail))); refine wpQuiet_nil ?_; intro Xq hlq hmq)
        go_wp2
        refine bodyPost_ret (by simp only [results, Try.results19]; go_simp; all_goals rfl) rfl ?_
        have hd : (l.drop 2).drop k = l.drop (2 + k) := by rw [List.drop_drop]
        have hl : (l.drop (2 + k)).length = n - (2 + k) := by rw [List.length_drop, HN.out]
        unfold RNext nextL nextO nextB
        rw [HK.out, if_neg (by decide), if_pos rfl, if_pos rfl, if_neg (by decide), HV.out, HN.out, HKE.out, hd, hl, Int.ofNat_sub hkv]
        refine ⟨_, _, _, _, rfl, ?_, Reads.nil _ _ _ _ _, (by constructor <;> omega), by repeat' (first | (with_reducible exact Below.refl _ _) | (with_reducible assumption) | (with_reducible refine Later.step ?_ ?_ _) | (with_reducible refine Below.alloc ?_ ?_ _) | (with_reducible refine Below.drew ?_) | (with_reducible refine bel_drewN ?_ _) | (with_reducible refine bel_grown ?_ (by assumption) ?_ ?_) | (with_reducible refine Below.setCell ?_ ?_ _) | go_size), (fun b o e => by cases e; exact ⟨_, rfl⟩), (fun b o e => by cases e)⟩
        have hX := reads_drop (i := 2 + k) (ao := some ⟨g, o + (2 + k), none⟩) HA.out (fun b o e _ => by injection e with e; injection e with e1 e2; subst e1 e2; rfl)
        rw [hl] at hX
        exact (hX.keep (by repeat' (first | (with_reducible exact Below.refl _ _) | (with_reducible assumption) | (with_reducible refine Later.step ?_ ?_ _) | (with_reducible refine Below.alloc ?_ ?_ _) | (with_reducible refine Below.drew ?_) | (with_reducible refine bel_drewN ?_ _) | (with_reducible refine bel_grown ?_ (by assumption) ?_ ?_) | (with_reducible refine Below.setCell ?_ ?_ _) | go_size))).more (by go_size)
    · by_cases h7 : n < 2 + v
      · have HK := Lib.hid (K0 h6 h7)
        clear K0 K1 K2
        go_enter Try.func19, Try.ntmps19
        go_wp2
        (refine wp_region_later (w.heap.size + 2) (by kernel_rfl) (by kernel_rfl) (by go_size) ?_; (repeat (go_big_quiet_step (fail))); refine wpQuiet_nil ?_; intro Xq hlq hmq)
        go_wp2
        refine bodyPost_ret (by simp only [results, Try.results19]; go_simp; all_goals rfl) rfl ?_
        obtain ⟨e1, e2, e3⟩ := next_zero HK.out 0
        unfold RNext
        rw [e1, e2, e3, HK.out, HN.out]
        refine ⟨_, c, none, 0, rfl, ?_, Reads.nil _ _ _ _ _, hc, by repeat' (first | (with_reducible exact Below.refl _ _) | (with_reducible assumption) | (with_reducible refine Later.step ?_ ?_ _) | (with_reducible refine Below.alloc ?_ ?_ _) | (with_reducible refine Below.drew ?_) | (with_reducible refine bel_drewN ?_ _) | (with_reducible refine bel_grown ?_ (by assumption) ?_ ?_) | (with_reducible refine Below.setCell ?_ ?_ _) | go_size), (fun b o e => ⟨o, e⟩), (fun b o e => by cases e)⟩
        have := HA.out
        rw [HN.out] at this
        exact (this.keep (by repeat' (first | (with_reducible exact Below.refl _ _) | (with_reducible assumption) | (with_reducible refine Later.step ?_ ?_ _) | (with_reducible refine Below.alloc ?_ ?_ _) | (with_reducible refine Below.drew ?_) | (with_reducible refine bel_drewN ?_ _) | (with_reducible refine bel_grown ?_ (by assumption) ?_ ?_) | (with_reducible refine Below.setCell ?_ ?_ _) | go_size))).more (by go_size)
      · have HK := Lib.hid (K1 h6 h7)
        clear K0 K1 K2
        have hcase : (c = 2 ∧ c = 2 + v) ∨ (¬ c = 2 ∧ c = 2 + v) ∨ (¬ c = 2 ∧ ¬ c = 2 + v) := by omega
        rcases hcase with ⟨hcc, hcd⟩ | ⟨hcc, hcd⟩ | ⟨hcc, hcd⟩
        · obtain rfl : v = 0 := by omega
          obtain rfl : c = 2 := by omega
          clear hcc hcd
          go_enter Try.func19, Try.ntmps19
          go_wp2
          (refine wp_region_later (w.heap.size + 2) (by kernel_rfl) (by kernel_rfl) (by go_size) ?_; (repeat (go_big_quiet_step (fail))); refine wpQuiet_nil ?_; intro Xq hlq hmq)
          go_wp2
          have q1 : IntKind.i64.wrap 2 = 2 := rfl
          have q2 : IntKind.i64.wrap (2 + 0) = 2 := rfl
          have q3 : (n : Int) = 2 := by omega
          have q4 : n = 2 := by omega
          have s0 : Xq.w.cell? ⟨w.heap.size, 0, none⟩ = some (.int .i64 room) := by go_simp
          have s1 : Xq.w.cell? ⟨w.heap.size, 1, none⟩ = some (.slice (some ⟨g, o, none⟩) n 2) := by go_simp
          go_region_held3 (fun w' => w'.cell? ⟨w.heap.size, 0, none⟩ = some (.int .i64 room) ∧ w'.cell? ⟨w.heap.size, 1, none⟩ = some (.slice (some ⟨g, o, none⟩) n 2)) (go_keep) (first | fail)
          all_goals
            go_wp2
            refine bodyPost_ret (by simp only [results, Try.results19]; go_simp; all_goals rfl) rfl ?_
            have hd : (l.drop 2).drop 0 = l.drop (2 + 0) := by rw [List.drop_drop]
            have hl : (l.drop (2 + 0)).length = n - (2 + 0) := by rw [List.length_drop, HN.out]
            have ht : ((l.drop 2).take 0).length = 0 := by rw [List.length_take, List.length_drop, HN.out]; omega
            unfold RNext nextL nextO nextB
            rw [HK.out, if_pos rfl, if_neg (by decide), if_pos rfl, HV.out, hd, hl, ht]
            rw [show n - (2 + 0) = 0 by omega]
            refine ⟨_, _, _, _, rfl, ?_, ?_, (by constructor <;> omega), by repeat' (first | (with_reducible exact Below.refl _ _) | (with_reducible assumption) | (with_reducible refine Later.step ?_ ?_ _) | (with_reducible refine Below.alloc ?_ ?_ _) | (with_reducible refine Below.drew ?_) | (with_reducible refine bel_drewN ?_ _) | (with_reducible refine bel_grown ?_ (by assumption) ?_ ?_) | (with_reducible refine Below.setCell ?_ ?_ _) | go_size), (fun b o e => by cases e; exact ⟨_, rfl⟩), (fun b o e => by cases e; exact ⟨_, rfl⟩)⟩
            · exact fun h => absurd h (by omega)
            · exact fun h => absurd h (by omega)
        · go_enter Try.func19, Try.ntmps19
          go_wp2
          (refine wp_region_later (w.heap.size + 2) (by kernel_rfl) (by kernel_rfl) (by go_size) ?_; (repeat (go_big_quiet_step (fail))); refine wpQuiet_nil ?_; intro Xq hlq hmq)
          go_wp2
          have q1 : IntKind.i64.wrap (2 + (v : Int)) = 2 + (v : Int) := IntWalk.i64_in _ (by omega)
          have q2 : (2 + (v : Int)).toNat = 2 + v := by omega
          have q3 : 0 ≤ 2 + (v : Int) := by omega
          have q4 : ¬ 2 + v < 2 := by omega
          have q5 : ¬ c < 2 + v := by omega
          have q6 : 2 ≤ 2 + v := by omega
          have q7 : 2 + v ≤ c := by omega
          have q8 : ¬ 2 + (v : Int) < 2 := by omega
          have q9 : (2 : Int) ≤ 2 + (v : Int) := by omega
          have q10 : 2 + (v : Int) ≤ (c : Int) := by omega
          have q11 : (2 : Int) ≤ (c : Int) := by omega
          have s0 : Xq.w.cell? ⟨w.heap.size, 0, none⟩ = some (.int .i64 room) := by go_simp
          have s1 : Xq.w.cell? ⟨w.heap.size, 1, none⟩ = some (.slice (some ⟨g, o, none⟩) n c) := by go_simp
          go_region_held3 (fun w' => w'.cell? ⟨w.heap.size, 0, none⟩ = some (.int .i64 room) ∧ w'.cell? ⟨w.heap.size, 1, none⟩ = some (.slice (some ⟨g, o, none⟩) n c)) (go_keep) (first | fail)
          all_goals
            go_wp2
            refine bodyPost_ret (by simp only [results, Try.results19]; go_simp; all_goals rfl) rfl ?_
            have hd : (l.drop 2).drop v = l.drop (2 + v) := by rw [List.drop_drop]
            have hl : (l.drop (2 + v)).length = n - (2 + v) := by rw [List.length_drop, HN.out]
            have ht : ((l.drop 2).take v).length = v := by rw [List.length_take, List.length_drop, HN.out]; omega
            unfold RNext nextL nextO nextB
            rw [HK.out, if_pos rfl, if_neg (by decide), if_pos rfl, HV.out, hd, hl, ht]
            refine ⟨_, _, _, _, rfl, ?_, ?_, (by constructor <;> omega), by repeat' (first | (with_reducible exact Below.refl _ _) | (with_reducible assumption) | (with_reducible refine Later.step ?_ ?_ _) | (with_reducible refine Below.alloc ?_ ?_ _) | (with_reducible refine Below.drew ?_) | (with_reducible refine bel_drewN ?_ _) | (with_reducible refine bel_grown ?_ (by assumption) ?_ ?_) | (with_reducible refine Below.setCell ?_ ?_ _) | go_size), (fun b o e => by cases e; exact ⟨_, rfl⟩), (fun b o e => by cases e; exact ⟨_, rfl⟩)⟩
            · exact fun h => absurd h (by omega)
            · have hX := reads_drop (i := 2) (ao := some ⟨g, o + 2, none⟩) HA.out (fun b o e _ => by injection e with e; injection e with e1 e2; subst e1 e2; rfl)
              have hY := (hX.first (m := v) (by rw [List.length_drop, HN.out]; omega)).same (g := atI ((l.drop 2).take v)) (fun j hj => (atI_take hj).symm)
              exact (hY.keep (by repeat' (first | (with_reducible exact Below.refl _ _) | (with_reducible assumption) | (with_reducible refine Later.step ?_ ?_ _) | (with_reducible refine Below.alloc ?_ ?_ _) | (with_reducible refine Below.drew ?_) | (with_reducible refine bel_drewN ?_ _) | (with_reducible refine bel_grown ?_ (by assumption) ?_ ?_) | (with_reducible refine Below.setCell ?_ ?_ _) | go_size))).more (by go_size)
        · go_enter Try.func19, Try.ntmps19
          go_wp2
          (refine wp_region_later (w.heap.size + 2) (by kernel_rfl) (by kernel_rfl) (by go_size) ?_; (repeat (go_big_quiet_step (fail))); refine wpQuiet_nil ?_; intro Xq hlq hmq)
          go_wp2
          have q1 : IntKind.i64.wrap (2 + (v : Int)) = 2 + (v : Int) := IntWalk.i64_in _ (by omega)
          have q2 : (2 + (v : Int)).toNat = 2 + v := by omega
          have q3 : 0 ≤ 2 + (v : Int) := by omega
          have q4 : ¬ 2 + v < 2 := by omega
          have q5 : ¬ c < 2 + v := by omega
          have q6 : 2 ≤ 2 + v := by omega
          have q7 : 2 + v ≤ c := by omega
          have q8 : ¬ 2 + (v : Int) < 2 := by omega
          have q9 : (2 : Int) ≤ 2 + (v : Int) := by omega
          have q10 : 2 + (v : Int) ≤ (c : Int) := by omega
          have q11 : (2 : Int) ≤ (c : Int) := by omega
          have s0 : Xq.w.cell? ⟨w.heap.size, 0, none⟩ = some (.int .i64 room) := by go_simp
          have s1 : Xq.w.cell? ⟨w.heap.size, 1, none⟩ = some (.slice (some ⟨g, o, none⟩) n c) := by go_simp
          go_region_held3 (fun w' => w'.cell? ⟨w.heap.size, 0, none⟩ = some (.int .i64 room) ∧ w'.cell? ⟨w.heap.size, 1, none⟩ = some (.slice (some ⟨g, o, none⟩) n c)) (go_keep) (first | fail)
          all_goals
            go_wp2
            refine bodyPost_ret (by simp only [results, Try.results19]; go_simp; all_goals rfl) rfl ?_
            have hd : (l.drop 2).drop v = l.drop (2 + v) := by rw [List.drop_drop]
            have hl : (l.drop (2 + v)).length = n - (2 + v) := by rw [List.length_drop, HN.out]
            have ht : ((l.drop 2).take v).length = v := by rw [List.length_take, List.length_drop, HN.out]; omega
            unfold RNext nextL nextO nextB
            rw [HK.out, if_pos rfl, if_neg (by decide), if_pos rfl, HV.out, hd, hl, ht]
            refine ⟨_, _, _, _, rfl, ?_, ?_, (by constructor <;> omega), by repeat' (first | (with_reducible exact Below.refl _ _) | (with_reducible assumption) | (with_reducible refine Later.step ?_ ?_ _) | (with_reducible refine Below.alloc ?_ ?_ _) | (with_reducible refine Below.drew ?_) | (with_reducible refine bel_drewN ?_ _) | (with_reducible refine bel_grown ?_ (by assumption) ?_ ?_) | (with_reducible refine Below.setCell ?_ ?_ _) | go_size), (fun b o e => by cases e; exact ⟨_, rfl⟩), (fun b o e => by cases e; exact ⟨_, rfl⟩)⟩
            · have hX := reads_drop (i := 2 + v) (ao := some ⟨g, o + (2 + v), none⟩) HA.out (fun b o e _ => by injection e with e; injection e with e1 e2; subst e1 e2; rfl)
              rw [hl] at hX
              exact (hX.keep (by repeat' (first | (with_reducible exact Below.refl _ _) | (with_reducible assumption) | (with_reducible refine Later.step ?_ ?_ _) | (with_reducible refine Below.alloc ?_ ?_ _) | (with_reducible refine Below.drew ?_) | (with_reducible refine bel_drewN ?_ _) | (with_reducible refine bel_grown ?_ (by assumption) ?_ ?_) | (with_reducible refine Below.setCell ?_ ?_ _) | go_size))).more (by go_size)
            · have hX := reads_drop (i := 2) (ao := some ⟨g, o + 2, none⟩) HA.out (fun b o e _ => by injection e with e; injection e with e1 e2; subst e1 e2; rfl)
              have hY := (hX.first (m := v) (by rw [List.length_drop, HN.out]; omega)).same (g := atI ((l.drop 2).take v)) (fun j hj => (atI_take hj).symm)
              exact (hY.keep (by repeat' (first | (with_reducible exact Below.refl _ _) | (with_reducible assumption) | (with_reducible refine Later.step ?_ ?_ _) | (with_reducible refine Below.alloc ?_ ?_ _) | (with_reducible refine Below.drew ?_) | (with_reducible refine bel_drewN ?_ _) | (with_reducible refine bel_grown ?_ (by assumption) ?_ ?_) | (with_reducible refine Below.setCell ?_ ?_ _) | go_size))).more (by go_size)
end Go.Proofs.Ythcecinhlhgohaa
