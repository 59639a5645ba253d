/- The document's rows put together and frames, walked. No condition beyond what the memory holds. -/
import Derived.Test.YthcecinhlhgohaaFrK
namespace Go.Proofs.Ythcecinhlhgohaa
open Go.RowKit
set_option linter.unusedSimpArgs false
set_option linter.unusedVariables false

theorem atI_left {a b : List Nat} {j : Nat} (h : j < a.length) : atI (a ++ b) j = atI a j := by simp [atI, List.getD, List.getElem?_append_left h]
theorem atI_right {a b : List Nat} {j : Nat} : atI (a ++ b) (a.length + j) = atI b j := by simp [atI, List.getD, List.getElem?_append_right]
set_option maxHeartbeats 8000000 in
theorem join_any (A : Option Addr) (c : Nat) (a : List Nat) (B : Option Addr) (d : Nat) (b : List Nat) (w : World) (ha : Reads .u8 w w.heap.size A a.length (atI a)) (hb : Reads .u8 w w.heap.size B b.length (atI b)) (hl : a.length + b.length ≤ 1000000) :
    Calls Try.prog 24 #[.slice A a.length c, .slice B b.length d] w fun e w' => (∃ C k, e = .returned (.slice C (a ++ b).length k) ∧ w'.ownsRow w.heap.size 5 1 (.slice C (a ++ b).length k) (a ++ b).length (rowV .u8 (a ++ b).length (atI (a ++ b)))) ∧ Below w.heap.size w w' := by
  obtain ⟨i0, hi, hz0, hz1, hz2⟩ := info_parts Try.info5
  have HI := Lib.hid hi
  have HZ0 := Lib.hid hz0
  have HZ1 := Lib.hid hz1
  have HZ2 := Lib.hid hz2
  have HA := Lib.hid ha
  have HB := Lib.hid hb
  have hf1 : ∀ j, j < a.length → atI (a ++ b) j = atI a j := fun j h => atI_left h
  have hf2 : ∀ j, atI (a ++ b) (a.length + j) = atI b j := fun j => atI_right
  have hlen : (a ++ b).length = a.length + b.length := by simp
  rw [hlen]
  generalize atI (a ++ b) = f at *
  have HF1 := Lib.hid hf1
  have HF2 := Lib.hid hf2
  clear hi hz0 hz1 hz2 ha hb hf1 hf2 hlen
  generalize a.length = n at *
  generalize b.length = m at *
  go_enter Try.func24, Try.ntmps24
  go_wp2
  go_loopw [5, 6] (fun al i wr => ∃ (k : Nat) (C : Option Addr) (cc : Nat), (k ≤ n ∧ Hid (wr.ownsRow w.heap.size 5 1 (.slice C k cc) k (rowV .u8 k f))) ∧ al = .slice C k cc ∧ i = .int .i64 k ∧ Below w.heap.size w wr ∧ w.heap.size ≤ wr.heap.size) (fun _ i _ => n - (intOf i).toNat)
  case atStart => exact ⟨0, none, 0, ⟨Nat.zero_le _, World.ownsRow_nil _ _ _ _⟩, rfl, rfl, by repeat' (first | (with_reducible exact Below.refl _ _) | (with_reducible assumption) | (with_reducible refine Later.step ?_ ?_ _) | (with_reducible refine Below.alloc ?_ ?_ _) | (with_reducible refine Below.drew ?_) | (with_reducible refine bel_drewN ?_ _) | (with_reducible refine bel_grown ?_ (by assumption) ?_ ?_) | (with_reducible refine Below.setCell ?_ ?_ _) | go_size), by go_size⟩
  case round =>
    obtain ⟨k, C, cc, ⟨hk, hown⟩, rfl, rfl, hbel, hsz⟩ := hrel
    obtain ⟨X, rfl⟩ : ∃ X : Later w.heap.size w, wr = X.w := ⟨⟨wr, hbel⟩, rfl⟩
    by_cases hlt : k < n
    · obtain ⟨bk, o, rfl, hB, hc⟩ := HA.out (by omega)
      have h1 := hc k hlt
      have hcf := HF1.out k hlt
      rw [← hcf] at h1
      have hown' := hown.out
      have hi := HI.out
      have hz0 := HZ0.out
      have hz1 := HZ1.out
      have hz2 := HZ2.out
      clear hc hcf
      go_wp2_with (at_builtin; refine wpList_append_own _ rfl _ _ 22 rfl w.heap.size 5 i0 (.int .u8 0) 1 1 Try.underlying22 hi hz0 hz1 hz2 rfl (by decide) _ _ _ rfl (hown'.alloc _) ⟨X.w.heap.size, 0, none⟩ 1 1 [.int .u8 (f k)] rfl rfl ?c1 ?c2 ?c3 ?c4 ?c5 ?_)
      case c1 => intro j u hj; match j, hj with | 0, hj => (simp at hj; subst hj; simp [Addr.add])
      case c2 => intro u hu; simp at hu; subst hu; rfl
      case c3 => unfold maxLen; omega
      case c4 => omega
      case c5 => first | omega | (simp; omega)
      intro v' w1 hown1 hgrow _
      obtain ⟨gb, cap, rfl, _, _⟩ := hown1.form (by omega)
      have hbel1 : Below w.heap.size w w1 := (hbel.alloc hsz _).grown hgrow (by simp; omega) (fun q hq => (hown'.lt q hq).1)
      have e1 : rowV .u8 k f ++ [.int .u8 (f k)] = rowV .u8 (k + 1) f := rowV_succ.symm
      rw [e1] at hown1
      have HO := Lib.hid hown1
      clear hown1 hown' hgrow hi hz0 hz1 hz2
      go_wp2
      go_roundw
      case rel => exact ⟨k + 1, _, _, ⟨by omega, HO.out⟩, rfl, by go_num, hbel1, hbel1.size⟩
      case measure => simp [intOf]; omega
    · obtain rfl : k = n := by omega
      go_wp2
      go_loopw [5, 7] (fun al i wr => ∃ (q : Nat) (C : Option Addr) (cc : Nat), (q ≤ m ∧ Hid (wr.ownsRow w.heap.size 5 1 (.slice C (k + q) cc) (k + q) (rowV .u8 (k + q) f))) ∧ al = .slice C (k + q) cc ∧ i = .int .i64 q ∧ Below w.heap.size w wr ∧ w.heap.size ≤ wr.heap.size) (fun _ i _ => m - (intOf i).toNat)
      case atStart => exact ⟨0, C, cc, ⟨Nat.zero_le _, hown.out⟩, rfl, rfl, by repeat' (first | (with_reducible exact Below.refl _ _) | (with_reducible assumption) | (with_reducible refine Later.step ?_ ?_ _) | (with_reducible refine Below.alloc ?_ ?_ _) | (with_reducible refine Below.drew ?_) | (with_reducible refine bel_drewN ?_ _) | (with_reducible refine bel_grown ?_ (by assumption) ?_ ?_) | (with_reducible refine Below.setCell ?_ ?_ _) | go_size), by go_size⟩
      case round =>
        obtain ⟨q, C, cc, ⟨hq, hown⟩, rfl, rfl, hbel, hsz⟩ := hrel
        obtain ⟨Y, rfl⟩ : ∃ X : Later w.heap.size w, wr = X.w := ⟨⟨wr, hbel⟩, rfl⟩
        by_cases hlt : q < m
        · obtain ⟨bk, o, rfl, hB, hc⟩ := HB.out (by omega)
          have h1 := hc q hlt
          have hcf := HF2.out q
          rw [← hcf] at h1
          have hown' := hown.out
          have hi := HI.out
          have hz0 := HZ0.out
          have hz1 := HZ1.out
          have hz2 := HZ2.out
          clear hc hcf
          go_wp2_with (at_builtin; refine wpList_append_own _ rfl _ _ 22 rfl w.heap.size 5 i0 (.int .u8 0) 1 1 Try.underlying22 hi hz0 hz1 hz2 rfl (by decide) _ _ _ rfl (hown'.alloc _) ⟨Y.w.heap.size, 0, none⟩ 1 1 [.int .u8 (f (k + q))] rfl rfl ?c1 ?c2 ?c3 ?c4 ?c5 ?_)
          case c1 => intro j u hj; match j, hj with | 0, hj => (simp at hj; subst hj; simp [Addr.add])
          case c2 => intro u hu; simp at hu; subst hu; rfl
          case c3 => unfold maxLen; omega
          case c4 => omega
          case c5 => first | omega | (simp; omega)
          intro v' w1 hown1 hgrow _
          obtain ⟨gb, cap, rfl, _, _⟩ := hown1.form (by omega)
          have hbel1 : Below w.heap.size w w1 := (hbel.alloc hsz _).grown hgrow (by simp; omega) (fun q hq => (hown'.lt q hq).1)
          have e1 : rowV .u8 (k + q) f ++ [.int .u8 (f (k + q))] = rowV .u8 (k + (q + 1)) f := rowV_succ.symm
          rw [e1] at hown1
          have HO := Lib.hid hown1
          clear hown1 hown' hgrow hi hz0 hz1 hz2
          go_wp2
          go_roundw
          case rel => exact ⟨q + 1, _, _, ⟨by omega, HO.out⟩, rfl, by go_num, hbel1, hbel1.size⟩
          case measure => simp [intOf]; omega
        · obtain rfl : q = m := by omega
          go_wp2
          go_ret
          exact ⟨⟨C, cc, rfl, hown.out⟩, hbel⟩
end Go.Proofs.Ythcecinhlhgohaa
