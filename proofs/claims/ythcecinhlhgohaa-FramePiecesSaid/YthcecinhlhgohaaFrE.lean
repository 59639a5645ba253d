/- Frames made; the layer's fixed calls, walked. No condition beyond what the memory holds. -/
import Derived.Test.YthcecinhlhgohaaFrD
import Derived.Test.YthcecinhlhgohaaNumA
namespace Go.Proofs.Ythcecinhlhgohaa
open Go.RowKit
set_option linter.unusedSimpArgs false
set_option linter.unusedVariables false

def frameL (m : List Nat) : List Nat := [m.length / 256, m.length % 256] ++ m
theorem list_ext_at {l m : List Nat} (h : l.length = m.length) (he : ∀ j, j < l.length → atI l j = atI m j) : l = m := by
  refine List.ext_getElem h fun j h1 h2 => ?_
  have := he j h1
  simp only [atI, List.getD] at this
  rw [List.getElem?_eq_getElem h1, List.getElem?_eq_getElem h2] at this
  simp only [Option.getD_some] at this
  omega
theorem sameL (l m : List Nat) : sameF l.length m.length (atI l) (atI m) = decide (l = m) := by
  by_cases h : l = m
  · subst h; rw [sameF_true rfl (fun _ _ => rfl)]; simp
  · rw [decide_eq_false h]
    by_cases hl : l.length = m.length
    · by_cases he : ∀ j, j < l.length → atI l j = atI m j
      · exact absurd (list_ext_at hl he) h
      · simp only [Classical.not_forall] at he
        obtain ⟨j, hj, hne⟩ := he
        exact sameF_at hj hne
    · exact sameF_len hl
theorem lsame_any (A A' : Option Addr) (l m : List Nat) (c c' : Nat) (w : World) (ha : Reads .u8 w w.heap.size A l.length (atI l)) (hb : Reads .u8 w w.heap.size A' m.length (atI m)) (hn : l.length ≤ 9223372036854775807) (hn' : m.length ≤ 9223372036854775807) :
    Calls Try.prog 13 #[.slice A l.length c, .slice A' m.length c'] w fun e w' => e = .returned (.bool (decide (l = m))) ∧ Below w.heap.size w w' := by
  have := same_any A A' l.length m.length c c' (atI l) (atI m) w ha hb hn hn'
  rw [sameL] at this
  exact this
set_option maxHeartbeats 4000000 in
theorem frame_any (A : Option Addr) (c : Nat) (m : List Nat) (w : World) (hr : Reads .u8 w w.heap.size A m.length (atI m)) (hm : m.length ≤ 600) :
    Calls Try.prog 14 #[.slice A m.length c] w fun e w' => (∃ B d, e = .returned (.tuple #[.slice B (frameL m).length d, .int .i64 0]) ∧ w'.ownsRow w.heap.size 5 1 (.slice B (frameL m).length d) (frameL m).length (rowV .u8 (frameL m).length (atI (frameL m)))) ∧ Below w.heap.size w w' := by
  obtain ⟨i0, hi, hz0, hz1, hz2⟩ := info_parts Try.info5
  have P1 := Lib.hid (fun X : World => put_any m.length 2 X (by omega) (by omega) (by omega) (by omega) (fun _ => by
    rw [show (2 : Int) ^ (8 * 2) = 65536 by decide]; omega))
  have hput : rowV .u8 2 (putI m.length 2) = rowV .u8 [m.length / 256, m.length % 256].length (atI [m.length / 256, m.length % 256]) := rowV_congr fun j hj => by
    match j, hj with
    | 0, _ => simp [putI, atI]; omega
    | 1, _ => simp [putI, atI]
  have HR := Lib.hid hr
  have HI := Lib.hid hi
  have HP := Lib.hid hput
  clear hr hput
  have hfl : (frameL m).length = m.length + 2 := by simp [frameL]
  have HFL := Lib.hid hfl
  clear hfl
  go_enter Try.func14, Try.ntmps14
  go_wp2_with fail
  refine (P1.out _).mono ?_
  rintro e w1 ⟨B, d, rfl, hown, hb1⟩
  have hs1 := hb1.size
  rw [HP.out] at hown
  have HO := Lib.hid hown
  have HB := Lib.hid hb1
  clear hown hb1
  go_wp2_with (at_builtin; refine wpList_app _ rfl _ _ 22 rfl w.heap.size 5 i0 (.int .u8 0) 1 Try.underlying22 HI.out hz0 hz1 hz2 rfl _ 2 _ rfl HO.out .u8 w.heap.size _ m.length _ (atI m) rfl ?r1 ?r2 ?r3 ?r4 ?_)
  case r1 => exact HR.out.keep HB.out
  case r2 => omega
  case r3 => omega
  case r4 => omega
  intro v2 w2 hown2 hgrow2
  obtain ⟨A2, k2, rfl⟩ := own_form hown2
  have hb2 : Below w.heap.size w1 w2 := (Below.refl _ _).grown hgrow2 hs1 (fun k hk => (HO.out.lt k hk).1)
  have eapp : rowV .u8 2 (atI [m.length / 256, m.length % 256]) ++ rowV .u8 m.length (atI m) = rowV .u8 (frameL m).length (atI (frameL m)) := rowV_app (k := .u8) (a := [m.length / 256, m.length % 256]) (b := m)
  rw [eapp] at hown2
  have HO2 := Lib.hid hown2
  have HB2 := Lib.hid (HB.out.trans hb2)
  clear hown2 hgrow2 hb2
  go_wp2
  go_ret2
  refine ⟨⟨A2, k2, ?_, ?_⟩, HB2.out⟩
  · rw [HFL.out, Nat.add_comm]; rfl
  · have := HO2.out
    rw [HFL.out] at this ⊢
    rw [Nat.add_comm 2] at this
    exact this
theorem frame_none (A : Option Addr) (n c : Nat) (w : World) (h : 600 < n) (hn : n ≤ 9223372036854775807) :
    Calls Try.prog 14 #[.slice A n c] w fun e w' => e = .returned (.tuple #[.slice none 0 0, .int .i64 2]) ∧ Below w.heap.size w w' := by
  go_enter Try.func14, Try.ntmps14
  go_wp2
  go_ret2
  exact ⟨rfl, by repeat' (first | (with_reducible exact Below.refl _ _) | (with_reducible assumption) | (with_reducible refine Later.step ?_ ?_ _) | (with_reducible refine Below.alloc ?_ ?_ _) | (with_reducible refine Below.drew ?_) | (with_reducible refine bel_drewN ?_ _) | (with_reducible refine bel_grown ?_ (by assumption) ?_ ?_) | (with_reducible refine Below.setCell ?_ ?_ _) | go_size)⟩
end Go.Proofs.Ythcecinhlhgohaa
