/- A rectangle's home, as the program finds it, walked. No condition. -/
import Derived.Test.YthfnmlbdbjblkaaCellE
namespace Go.Proofs.Ythfnmlbdbjblkaa
open Go.RowKit
set_option linter.unusedSimpArgs false
set_option linter.unusedVariables false

/-- The home so far: the cell of the level below, nothing yet at 0. -/
def lastI (v : Nat → Int) : Nat → Int
  | 0 => 0
  | k + 1 => v k
theorem hm_before {a b c d : Int} {k : Nat} (hk : k ≤ 17) (h : ∀ j, j < k → hm a b c d j = true) : k ≠ 0 → hm a b c d (k - 1) = true := fun h0 => h _ (by omega)

set_option maxHeartbeats 8000000 in
theorem home_any (a b c d : Int) (w : World) :
    Calls Try.prog 21 #[.agg #[.int .i64 a, .int .i64 b, .int .i64 c, .int .i64 d]] w fun e w' => e = .returned (.tuple #[.agg #[.int .i64 (sel (rightB a b c d) (homeH a b c d)), .int .i64 (sel (rightB a b c d) (a / sd (homeH a b c d))), .int .i64 (sel (rightB a b c d) (b / sd (homeH a b c d)))], .bool (rightB a b c d)]) ∧ Below w.heap.size w w' := by
  have p2 := fun X : World => right_any a b c d X
  rcases Bool.eq_false_or_eq_true (rightB a b c d) with hr | hr
  · have g := right_iff.1 hr
    have hz := hm_zero hr
    rw [hr] at p2 ⊢
    have P2 := Lib.hid p2
    have HG := Lib.hid g
    have HZ := Lib.hid hz
    clear p2 hr g hz
    go_enter Try.func21, Try.ntmps21
    go_wp2
    go_step3
    go_wp2_with (first
      | (go_at_call 23; refine (P2.out _).mono ?_; rintro e w' ⟨rfl, hb⟩; obtain ⟨X2, rfl, hl2, hm2⟩ := later (w.heap.size + 2) hb (by first | exact Nat.le_refl _ | go_size); clear hb; (try simp only [World.size_alloc, World.size_setCell, World.size_drew] at hm2)))
    go_step3
    go_wp2
    go_loopw [11] (fun i wr => ∃ k : Nat, k ≤ 17 ∧ i = .int .i64 k ∧ Below (w.heap.size + 2) X2.w wr ∧ X2.w.heap.size + 1 ≤ wr.heap.size ∧ Hid (∀ j, j < k → hm a b c d j = true)
        ∧ wr.cell? ⟨X2.w.heap.size, 0, none⟩ = some (.int .i64 (lastI (fun j => (j : Int)) k)) ∧ wr.frozen? ⟨X2.w.heap.size, 0, none⟩ = false
        ∧ wr.cell? ⟨X2.w.heap.size, 1, none⟩ = some (.int .i64 (lastI (fun j => a / sd j) k)) ∧ wr.frozen? ⟨X2.w.heap.size, 1, none⟩ = false
        ∧ wr.cell? ⟨X2.w.heap.size, 2, none⟩ = some (.int .i64 (lastI (fun j => b / sd j) k)) ∧ wr.frozen? ⟨X2.w.heap.size, 2, none⟩ = false) (fun i _ => 17 - (intOf i).toNat)
    case atStart => exact ⟨0, Nat.zero_le _, rfl, by repeat' (first | (with_reducible exact Below.refl _ _) | (with_reducible assumption) | (with_reducible refine Later.step ?_ ?_ _) | (with_reducible refine Below.alloc ?_ ?_ _) | (with_reducible refine Below.drew ?_) | (with_reducible refine bel_drewN ?_ _) | (with_reducible refine bel_grown ?_ (by assumption) ?_ ?_) | (with_reducible refine Below.setCell ?_ ?_ _) | go_size), by go_size, fun j hj => absurd hj (by omega), by go_simp; rfl, by go_simp, by go_simp; rfl, by go_simp, by go_simp; rfl, by go_simp⟩
    case round =>
      obtain ⟨k, hk, rfl, hbel, hsz, hd, c0, f0, c1, f1, c2, f2⟩ := hrel
      obtain ⟨X, rfl⟩ : ∃ X : Later (w.heap.size + 2) X2.w, wr = X.w := ⟨⟨wr, hbel⟩, rfl⟩
      clear hbel
      by_cases hlt : k < 17
      · have Q3 := Lib.hid (fun X : World => of_any a b k X (by omega) (by omega))
        have Q4 := Lib.hid (fun X : World => of_any c d k X (by omega) (by omega))
        rcases Bool.eq_false_or_eq_true (hm a b c d k) with hh | hh
        · have e := hm_iff.1 hh
          have HH := Lib.hid hh
          rw [← e.1, ← e.2] at Q4
          obtain ⟨u, hu⟩ : ∃ u, a / sd k = u := ⟨_, rfl⟩
          obtain ⟨v, hv⟩ : ∃ v, b / sd k = v := ⟨_, rfl⟩
          rw [hu, hv] at Q3 Q4
          have HU := Lib.hid hu
          have HV := Lib.hid hv
          clear e hh hu hv
          go_wp2_with (first
            | (go_at_call 44; with_reducible refine (Q3.out _).mono ?_; rintro e w' ⟨rfl, hb⟩; obtain ⟨X3, rfl, hl3, hm3⟩ := later (X.w.heap.size) hb (by first | exact Nat.le_refl _ | go_size); clear hb; (try simp only [World.size_alloc, World.size_setCell, World.size_drew] at hm3)))
          (refine wp_region_later (X3.w.heap.size + 1) (by kernel_rfl) (by kernel_rfl) (by go_size) ?_; (repeat (go_big_quiet_step ((first | (go_at_call 44; exact Later.call _ (Nat.le_trans (by go_size) (Later.is _).size) (Q4.out _)))))); refine wpQuiet_nil ?_; intro Xq hlq hmq)
          go_wp2
          go_roundw
          case rel =>
            refine ⟨k + 1, by omega, by go_num, by repeat' (first | (with_reducible exact Below.refl _ _) | (with_reducible assumption) | (with_reducible refine Later.step ?_ ?_ _) | (with_reducible refine Below.alloc ?_ ?_ _) | (with_reducible refine Below.drew ?_) | (with_reducible refine bel_drewN ?_ _) | (with_reducible refine bel_grown ?_ (by assumption) ?_ ?_) | (with_reducible refine Below.setCell ?_ ?_ _) | go_size), by go_size, fun j hj => ?_, ?_, ?_, ?_, ?_, ?_, ?_⟩
            · by_cases e : j = k
              · subst e; exact HH.out
              · exact hd.out j (by omega)
            · go_simp; try rfl
            · go_simp
            · go_simp; show _ = a / sd k; exact HU.out.symm
            · go_simp
            · go_simp; show _ = b / sd k; exact HV.out.symm
            · go_simp
          case measure => simp [intOf]; omega
        · have h0 : k ≠ 0 := by rintro rfl; rw [HZ.out] at hh; cases hh
          obtain ⟨q, rfl⟩ : ∃ q, k = q + 1 := ⟨k - 1, by omega⟩
          have eH : homeH a b c d = q := by
            unfold homeH
            have := homeLv_stop hh (16 - q) (by omega)
            rw [show q + (16 - q) = 16 by omega] at this
            rw [this, homeLv_top (.inl (hd.out q (by omega)))]
          have hne : ¬ (a / sd ((q + 1 : Nat) : Int) = c / sd ((q + 1 : Nat) : Int) ∧ b / sd ((q + 1 : Nat) : Int) = d / sd ((q + 1 : Nat) : Int)) := fun e => by
            rw [hm_iff.2 e] at hh; cases hh
          push_cast at hne Q3 Q4
          obtain ⟨u, hu⟩ : ∃ u, a / sd ((q : Int) + 1) = u := ⟨_, rfl⟩
          obtain ⟨v, hv⟩ : ∃ v, b / sd ((q : Int) + 1) = v := ⟨_, rfl⟩
          obtain ⟨u', hu'⟩ : ∃ u, c / sd ((q : Int) + 1) = u := ⟨_, rfl⟩
          obtain ⟨v', hv'⟩ : ∃ v, d / sd ((q : Int) + 1) = v := ⟨_, rfl⟩
          rw [hu, hv] at Q3
          rw [hu', hv'] at Q4
          rw [hu, hv, hu', hv'] at hne
          have HH := Lib.hid eH
          clear hh hu hv hu' hv' eH h0
          simp only [lastI] at c0 c1 c2
          have hcase : (u' == u) = false ∨ ((u' == u) = true ∧ (v' == v) = false) := by
            by_cases e : u' = u
            · refine .inr ⟨by simp [e], ?_⟩
              rw [Bool.eq_false_iff]; intro h
              exact hne ⟨e.symm, (eq_e h).symm⟩
            · exact .inl (by simp [e])
          clear hne
          rcases hcase with e1 | ⟨e1, e2⟩
          all_goals
            go_wp2_with (first
              | (go_at_call 44; with_reducible refine (Q3.out _).mono ?_; rintro e w' ⟨rfl, hb⟩; obtain ⟨X3, rfl, hl3, hm3⟩ := later (X.w.heap.size) hb (by first | exact Nat.le_refl _ | go_size); clear hb; (try simp only [World.size_alloc, World.size_setCell, World.size_drew] at hm3)))
            (refine wp_region_later (X3.w.heap.size + 1) (by kernel_rfl) (by kernel_rfl) (by go_size) ?_; (repeat (go_big_quiet_step ((first | (go_at_call 44; exact Later.call _ (Nat.le_trans (by go_size) (Later.is _).size) (Q4.out _)))))); refine wpQuiet_nil ?_; intro Xq hlq hmq)
            go_wp2
            (try rw [Exit.noGoto_ret])
            refine bodyPost_ret (by simp only [results, Try.results21]; go_simp; all_goals rfl) rfl ⟨?_, ?_⟩
            · rw [HH.out]; rfl
            · repeat' (first | (with_reducible exact Below.refl _ _) | (with_reducible assumption) | (with_reducible refine Later.step ?_ ?_ _) | (with_reducible refine Below.alloc ?_ ?_ _) | (with_reducible refine Below.drew ?_) | (with_reducible refine bel_drewN ?_ _) | (with_reducible refine bel_grown ?_ (by assumption) ?_ ?_) | (with_reducible refine Below.setCell ?_ ?_ _) | go_size)
      · obtain rfl : k = 17 := by omega
        have eH : homeH a b c d = 16 := by
          unfold homeH
          rw [homeLv_top (.inl (hd.out 16 (by omega)))]; rfl
        simp only [lastI] at c0 c1 c2
        go_wp2
        (try rw [Exit.noGoto_ret])
        refine bodyPost_ret (by simp only [results, Try.results21]; go_simp; all_goals rfl) rfl ⟨?_, ?_⟩
        · rw [eH]; rfl
        · repeat' (first | (with_reducible exact Below.refl _ _) | (with_reducible assumption) | (with_reducible refine Later.step ?_ ?_ _) | (with_reducible refine Below.alloc ?_ ?_ _) | (with_reducible refine Below.drew ?_) | (with_reducible refine bel_drewN ?_ _) | (with_reducible refine bel_grown ?_ (by assumption) ?_ ?_) | (with_reducible refine Below.setCell ?_ ?_ _) | go_size)
  · rw [hr] at p2 ⊢
    have P2 := Lib.hid p2
    clear p2 hr
    go_enter Try.func21, Try.ntmps21
    go_wp2
    go_step3
    go_wp2_with (first
      | (go_at_call 23; refine (P2.out _).mono ?_; rintro e w' ⟨rfl, hb⟩; obtain ⟨X2, rfl, hl2, hm2⟩ := later (w.heap.size + 2) hb (by first | exact Nat.le_refl _ | go_size); clear hb; (try simp only [World.size_alloc, World.size_setCell, World.size_drew] at hm2)))
    (try rw [Exit.noGoto_ret])
    refine bodyPost_ret (by simp only [results, Try.results21]; go_simp; all_goals (first | rfl | simp [sel])) rfl ⟨rfl, ?_⟩
    repeat' (first | (with_reducible exact Below.refl _ _) | (with_reducible assumption) | (with_reducible refine Later.step ?_ ?_ _) | (with_reducible refine Below.alloc ?_ ?_ _) | (with_reducible refine Below.drew ?_) | (with_reducible refine Below.setCell ?_ ?_ _) | go_size)
end Go.Proofs.Ythfnmlbdbjblkaa
