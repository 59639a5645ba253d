/- A secret with others ahead, walked. No condition. -/
import Derived.Test.YtbeekdlhmnegdaaSecL
namespace Go.Proofs.Ytbeekdlhmnegdaa
open Go.RowKit
set_option linter.unusedSimpArgs false
set_option linter.unusedVariables false

/-- One row behind another. -/
def catF (g f : Nat → Nat) (m : Nat) (j : Nat) : Nat := if j < m then g j else f (j - m)
theorem ite_cat (r : Int) (m k : Nat) (P : Prop) [Decidable P] (hr : -1 ≤ r) : (if (if r < 0 then -1 else r + (m : Int)) < 0 ∧ P then ((m + k : Nat) : Int) else if r < 0 then -1 else r + (m : Int)) = if (if r < 0 ∧ P then (k : Int) else r) < 0 then -1 else (if r < 0 ∧ P then (k : Int) else r) + (m : Int) := by
  by_cases h1 : r < 0
  · by_cases h2 : P
    · have : ¬ (k : Int) < 0 := by omega
      simp [h1, h2, this]; omega
    · simp [h1, h2]
  · have : ¬ r + (m : Int) < 0 := by omega
    simp [h1, this]
theorem cat_behind (g f : Nat → Nat) (m k : Nat) : catF g f m (m + k) = f k := by
  unfold catF
  rw [if_neg (by omega), show m + k - m = k by omega]
theorem fst_cat {g f : Nat → Nat} {s m : Nat} (h : fstI g s m < 0) : ∀ k, fstI (catF g f m) s (m + k) = if fstI f s k < 0 then -1 else fstI f s k + m
  | 0 => by
    rw [if_pos (by simp [fstI])]
    have e : ∀ j, j ≤ m → fstI (catF g f m) s j = fstI g s j := by
      intro j
      induction j with
      | zero => intro _; rfl
      | succ j ih =>
        intro hj
        rw [fstI, fstI, ih (by omega)]
        simp only [catF, if_pos (show j < m by omega)]
    have := fstI_bd g s m
    rw [Nat.add_zero, e m (Nat.le_refl _)]
    omega
  | k + 1 => by
    have ih := fst_cat (f := f) h k
    rw [show m + (k + 1) = m + k + 1 by omega, fstI, fstI, ih]
    have e : catF g f m (m + k) = f k := cat_behind g f m k
    have := fstI_bd f s k
    rw [e]
    exact ite_cat _ m k _ (by omega)
theorem info_u64 : (Try.prog.info? 22).map (fun i => (i.zero, i.size, i.bytes)) = some (some (.int .u64 0), 1, 8) := by kernel_rfl
def natI (f : Nat → Nat) (j : Nat) : Int := ((f j : Nat) : Int)
set_option maxHeartbeats 8000000 in
theorem turned_walk (A : Option Addr) (n c : Nat) (zs : List Int) (A2 : Option Addr) (m c2 : Nat) (zs2 : List Int) (a : Int) (w : World) (h : IsRow .u64 w A n c zs) (h2 : IsRow .u64 w A2 m c2 zs2) (wa : (Lit.int .u64 a).wf = true) :
    Calls Try.prog 5 #[.slice A n c, .slice A2 m c2, .int .u64 a] w fun e w' => e = .returned (.bool true) ∧ Below w.heap.size w w' := by
  have ha := su64_lim wa
  obtain ⟨s, rfl⟩ := Int.eq_ofNat_of_zero_le ha.1
  obtain ⟨hn, _⟩ := row_len h
  obtain ⟨hm, _⟩ := row_len h2
  obtain ⟨hr, hf⟩ := row_nat h
  obtain ⟨hr2, hf2⟩ := row_nat h2
  clear wa h h2
  generalize numF zs = f at *
  generalize numF zs2 = g at *
  by_cases hbig : 1000 < n
  · go_enter Try.func5, Try.ntmps5
    go_wp2_with (first
      | (go_at_call 9; refine (sknown_any _).mono ?_; rintro e w' ⟨rfl, hb⟩; obtain ⟨X9, rfl, hl9, hm9⟩ := later (w.heap.size) hb (by first | exact Nat.le_refl _ | go_size); clear hb; (try simp only [World.size_alloc, World.size_setCell, World.size_drew] at hm9)))
    go_ret
    exact ⟨rfl, by repeat' (first | (with_reducible exact Below.refl _ _) | (with_reducible assumption) | (with_reducible refine Later.step ?_ ?_ _) | (with_reducible refine Below.alloc ?_ ?_ _) | (with_reducible refine Below.drew ?_) | (with_reducible refine bel_drewN ?_ _) | (with_reducible refine bel_grown ?_ (by assumption) ?_ ?_) | (with_reducible refine Below.setCell ?_ ?_ _) | go_size)⟩
  · by_cases hbig2 : 1000 < m
    · go_enter Try.func5, Try.ntmps5
      go_wp2_with (first
        | (go_at_call 9; refine (sknown_any _).mono ?_; rintro e w' ⟨rfl, hb⟩; obtain ⟨X9, rfl, hl9, hm9⟩ := later (w.heap.size) hb (by first | exact Nat.le_refl _ | go_size); clear hb; (try simp only [World.size_alloc, World.size_setCell, World.size_drew] at hm9)))
      go_ret
      exact ⟨rfl, by repeat' (first | (with_reducible exact Below.refl _ _) | (with_reducible assumption) | (with_reducible refine Later.step ?_ ?_ _) | (with_reducible refine Below.alloc ?_ ?_ _) | (with_reducible refine Below.drew ?_) | (with_reducible refine bel_drewN ?_ _) | (with_reducible refine bel_grown ?_ (by assumption) ?_ ?_) | (with_reducible refine Below.setCell ?_ ?_ _) | go_size)⟩
    · have p0 := rfind_any A2 m c2 g s w hr2 hf2 (by omega) (by omega)
      by_cases hpos : 0 ≤ fstI g s m
      · generalize fstI g s m = r at *
        have P0 := Lib.hid p0
        clear p0
        go_enter Try.func5, Try.ntmps5
        go_wp2_with (first
          | (go_at_call 11; with_reducible refine P0.out.mono ?_; rintro e w' ⟨rfl, hb⟩; obtain ⟨X1, rfl, hl1, hm1⟩ := later (w.heap.size) hb (by first | exact Nat.le_refl _ | go_size); clear hb; (try simp only [World.size_alloc, World.size_setCell, World.size_drew] at hm1))
          | (go_at_call 9; refine (sknown_any _).mono ?_; rintro e w' ⟨rfl, hb⟩; obtain ⟨X9, rfl, hl9, hm9⟩ := later (w.heap.size) hb (by first | exact Nat.le_refl _ | go_size); clear hb; (try simp only [World.size_alloc, World.size_setCell, World.size_drew] at hm9)))
        go_ret
        exact ⟨rfl, by repeat' (first | (with_reducible exact Below.refl _ _) | (with_reducible assumption) | (with_reducible refine Later.step ?_ ?_ _) | (with_reducible refine Below.alloc ?_ ?_ _) | (with_reducible refine Below.drew ?_) | (with_reducible refine bel_drewN ?_ _) | (with_reducible refine bel_grown ?_ (by assumption) ?_ ?_) | (with_reducible refine Below.setCell ?_ ?_ _) | go_size)⟩
      · have hneg : fstI g s m < 0 := by omega
        have hcat := fst_cat (f := f) hneg n
        have hfc : ∀ j, catF g f m j < 18446744073709551616 := fun j => by unfold catF; split; exact hf2 _; exact hf _
        have P1 := Lib.hid (fun X : Later w.heap.size w => find_any A n c f s X.w ((hr.keep X.is).more X.is.size) hf (by omega) (by omega))
        have P2 := Lib.hid (fun (X : World) (B : Option Addr) (cb : Nat) (hB : Reads .u64 X X.heap.size B (m + n) (fun j => ((catF g f m j : Nat) : Int))) => find_any B (m + n) cb (catF g f m) s X hB hfc (by omega) (by omega))
        have hb1 := fstI_bd f s n
        have hb0 := fstI_bd g s m
        have HR := Lib.hid hr
        have HR2 := Lib.hid hr2
        have HC := Lib.hid hcat
        have P0 := Lib.hid p0
        clear hf hf2 hfc hr hr2 hcat p0
        generalize fstI g s m = r0 at *
        obtain ⟨i0, hi, hz0, hz1, hz2⟩ := info_parts info_u64
        have HI := Lib.hid hi
        have HZ0 := Lib.hid hz0
        have HZ1 := Lib.hid hz1
        have HZ2 := Lib.hid hz2
        clear hi hz0 hz1 hz2
        go_enter Try.func5, Try.ntmps5
        go_wp2_with (first
          | (go_at_call 11; with_reducible refine P0.out.mono ?_; rintro e w' ⟨rfl, hb⟩; obtain ⟨X1, rfl, hl1, hm1⟩ := later (w.heap.size) hb (by first | exact Nat.le_refl _ | go_size); clear hb; (try simp only [World.size_alloc, World.size_setCell, World.size_drew] at hm1)))
        go_loopw [7, 8] (fun al i wr => ∃ (k : Nat) (C : Option Addr) (cc : Nat), (k ≤ m ∧ Hid (wr.ownsRow w.heap.size 22 1 (.slice C k cc) k (rowV .u64 k (natI (catF g f m))))) ∧ al = .slice C k cc ∧ i = .int .i64 k ∧ Below w.heap.size w wr ∧ w.heap.size ≤ wr.heap.size) (fun _ i _ => m - (intOf i).toNat)
        case atStart => exact ⟨0, none, 0, ⟨Nat.zero_le _, World.ownsRow_nil _ _ _ _⟩, rfl, rfl, by repeat' (first | (with_reducible exact Below.refl _ _) | (with_reducible assumption) | (with_reducible refine Later.step ?_ ?_ _) | (with_reducible refine Below.alloc ?_ ?_ _) | (with_reducible refine Below.drew ?_) | (with_reducible refine bel_drewN ?_ _) | (with_reducible refine bel_grown ?_ (by assumption) ?_ ?_) | (with_reducible refine Below.setCell ?_ ?_ _) | go_size), by go_size⟩
        case round =>
          obtain ⟨k, C, cc, ⟨hk, hown⟩, rfl, rfl, hbel, hsz⟩ := hrel
          obtain ⟨X, rfl⟩ : ∃ X : Later w.heap.size w, wr = X.w := ⟨⟨wr, hbel⟩, rfl⟩
          by_cases hlt : k < m
          · obtain ⟨b, o, rfl, hB, hc⟩ := HR2.out (by omega)
            have h1 : _ = some (Value.int .u64 ((g k : Nat) : Int)) := hc k hlt
            have hcf : catF g f m k = g k := by unfold catF; rw [if_pos hlt]
            have hown' := hown.out
            have hi := HI.out
            have hz0 := HZ0.out
            have hz1 := HZ1.out
            have hz2 := HZ2.out
            have HCF := Lib.hid hcf
            clear hc hcf
            go_wp2_with (at_builtin; refine wpList_append_own _ rfl _ _ 27 rfl w.heap.size 22 i0 (.int .u64 0) 1 8 Try.underlying27 hi hz0 hz1 hz2 rfl (by decide) _ _ _ rfl (hown'.alloc _) ⟨X.w.heap.size, 0, none⟩ 1 1 [.int .u64 ((g k : Nat))] rfl rfl ?c1 ?c2 ?c3 ?c4 ?c5 ?_)
            case c1 => intro j u hj; match j, hj with | 0, hj => (simp at hj; subst hj; simp [Addr.add])
            case c2 => intro u hu; simp at hu; subst hu; rfl
            case c3 => unfold maxLen; omega
            case c4 => omega
            case c5 => first | omega | (simp; omega)
            intro v' w1 hown1 hgrow _
            obtain ⟨gb, cap, rfl, _, _⟩ := hown1.form (by omega)
            have hbel1 : Below w.heap.size w w1 := (hbel.alloc hsz _).grown hgrow (by simp; omega) (fun q hq => (hown'.lt q hq).1)
            have e1 : rowV .u64 k (natI (catF g f m)) ++ [.int .u64 ((g k : Nat) : Int)] = rowV .u64 (k + 1) (natI (catF g f m)) := by
              rw [rowV_succ, show natI (catF g f m) k = ((g k : Nat) : Int) by unfold natI; rw [HCF.out]]
            rw [e1] at hown1
            have HO := Lib.hid hown1
            clear hown1 hown' hgrow hi hz0 hz1 hz2
            go_wp2
            go_roundw
            case rel => exact ⟨k + 1, _, _, ⟨by omega, HO.out⟩, rfl, by go_num, hbel1, hbel1.size⟩
            case measure => simp [intOf]; omega
          · obtain rfl : k = m := by omega
            go_wp2
            go_loopw [7, 9] (fun al i wr => ∃ (q : Nat) (C : Option Addr) (cc : Nat), (q ≤ n ∧ Hid (wr.ownsRow w.heap.size 22 1 (.slice C (k + q) cc) (k + q) (rowV .u64 (k + q) (natI (catF g f k))))) ∧ al = .slice C (k + q) cc ∧ i = .int .i64 q ∧ Below w.heap.size w wr ∧ w.heap.size ≤ wr.heap.size) (fun _ i _ => n - (intOf i).toNat)
            case atStart => exact ⟨0, C, cc, ⟨Nat.zero_le _, hown.out⟩, rfl, rfl, by repeat' (first | (with_reducible exact Below.refl _ _) | (with_reducible assumption) | (with_reducible refine Later.step ?_ ?_ _) | (with_reducible refine Below.alloc ?_ ?_ _) | (with_reducible refine Below.drew ?_) | (with_reducible refine bel_drewN ?_ _) | (with_reducible refine bel_grown ?_ (by assumption) ?_ ?_) | (with_reducible refine Below.setCell ?_ ?_ _) | go_size), by go_size⟩
            case round =>
              obtain ⟨q, C, cc, ⟨hq, hown⟩, rfl, rfl, hbel, hsz⟩ := hrel
              obtain ⟨Y, rfl⟩ : ∃ X : Later w.heap.size w, wr = X.w := ⟨⟨wr, hbel⟩, rfl⟩
              by_cases hlt : q < n
              · obtain ⟨b, o, rfl, hB, hc⟩ := HR.out (by omega)
                have h1 : _ = some (Value.int .u64 ((f q : Nat) : Int)) := hc q hlt
                have hcf : catF g f k (k + q) = f q := cat_behind g f k q
                have hown' := hown.out
                have hi := HI.out
                have hz0 := HZ0.out
                have hz1 := HZ1.out
                have hz2 := HZ2.out
                have HCF := Lib.hid hcf
                clear hc hcf
                go_wp2_with (at_builtin; refine wpList_append_own _ rfl _ _ 27 rfl w.heap.size 22 i0 (.int .u64 0) 1 8 Try.underlying27 hi hz0 hz1 hz2 rfl (by decide) _ _ _ rfl (hown'.alloc _) ⟨Y.w.heap.size, 0, none⟩ 1 1 [.int .u64 ((f q : Nat))] rfl rfl ?c1 ?c2 ?c3 ?c4 ?c5 ?_)
                case c1 => intro j u hj; match j, hj with | 0, hj => (simp at hj; subst hj; simp [Addr.add])
                case c2 => intro u hu; simp at hu; subst hu; rfl
                case c3 => unfold maxLen; omega
                case c4 => omega
                case c5 => first | omega | (simp; omega)
                intro v' w1 hown1 hgrow _
                obtain ⟨gb, cap, rfl, _, _⟩ := hown1.form (by omega)
                have hbel1 : Below w.heap.size w w1 := (hbel.alloc hsz _).grown hgrow (by simp; omega) (fun q hq => (hown'.lt q hq).1)
                have e1 : rowV .u64 (k + q) (natI (catF g f k)) ++ [.int .u64 ((f q : Nat) : Int)] = rowV .u64 (k + (q + 1)) (natI (catF g f k)) := by
                  rw [show k + (q + 1) = k + q + 1 by omega, rowV_succ, show natI (catF g f k) (k + q) = ((f q : Nat) : Int) by unfold natI; rw [HCF.out]]
                rw [e1] at hown1
                have HO := Lib.hid hown1
                clear hown1 hown' hgrow hi hz0 hz1 hz2
                go_wp2
                go_roundw
                case rel => exact ⟨q + 1, _, _, ⟨by omega, HO.out⟩, rfl, by go_num, hbel1, hbel1.size⟩
                case measure => simp [intOf]; omega
              · obtain rfl : q = n := by omega
                have hrall := Reads.own hown.out
                have HRA := Lib.hid hrall
                clear hrall
                have hcase : fstI f s q < 0 ∨ 0 ≤ fstI f s q := by omega
                have hcc := HC.out
                generalize fstI f s q = r at *
                generalize fstI (catF g f k) s (k + q) = r2 at *
                have hr2 : (r < 0 ∧ r2 = -1) ∨ (0 ≤ r ∧ r2 = r + k) := by
                  rcases hcase with h | h
                  · rw [if_pos h] at hcc; exact .inl ⟨h, hcc⟩
                  · rw [if_neg (by omega)] at hcc; exact .inr ⟨h, hcc⟩
                clear hcase hcc
                rcases hr2 with ⟨g1, rfl⟩ | ⟨g1, rfl⟩
                all_goals
                  go_wp2_with (first
                    | (go_at_call 10; with_reducible refine (P1.out Y).mono ?_; rintro e w' ⟨rfl, hb⟩; obtain ⟨X1, rfl, hl1, hm1⟩ := later (Y.w.heap.size) hb (by first | exact Nat.le_refl _ | go_size); clear hb; (try simp only [World.size_alloc, World.size_setCell, World.size_drew] at hm1))
                    | (go_at_call 10; refine (P2.out _ _ _ ((HRA.out.keep X1.is).more hl1)).mono ?_; rintro e w' ⟨rfl, hb⟩; obtain ⟨X2, rfl, hl2, hm2⟩ := later (w.heap.size) hb (by first | exact Nat.le_refl _ | go_size); clear hb; (try simp only [World.size_alloc, World.size_setCell, World.size_drew] at hm2))
                    | (go_at_call 9; refine (sknown_any _).mono ?_; rintro e w' ⟨rfl, hb⟩; obtain ⟨X9, rfl, hl9, hm9⟩ := later (w.heap.size) hb (by first | exact Nat.le_refl _ | go_size); clear hb; (try simp only [World.size_alloc, World.size_setCell, World.size_drew] at hm9)))
                  go_ret
                  exact ⟨rfl, by repeat' (first | (with_reducible exact Below.refl _ _) | (with_reducible assumption) | (with_reducible refine Later.step ?_ ?_ _) | (with_reducible refine Below.alloc ?_ ?_ _) | (with_reducible refine Below.drew ?_) | (with_reducible refine bel_drewN ?_ _) | (with_reducible refine bel_grown ?_ (by assumption) ?_ ?_) | (with_reducible refine Below.setCell ?_ ?_ _) | go_size)⟩
end Go.Proofs.Ytbeekdlhmnegdaa
