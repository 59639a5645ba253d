/- Bytes come into a buffer, walked. No condition beyond what the memory holds. -/
import Derived.Test.YthcecinhlhgohaaFrB
namespace Go.Proofs.Ythcecinhlhgohaa
open Go.RowKit
set_option linter.unusedSimpArgs false
set_option linter.unusedVariables false

theorem Reads.set_other {k : IntKind} {w : World} {B n : Nat} {A : Option Addr} {f : Nat → Int} (h : Reads k w B A n f) {p : Addr} {u : Value} (hp : w.cell? p = some u) (hu : ∀ x, u ≠ .int k x) (u' : Value) : Reads k (w.setCell p u') B A n f := fun hn => by
  obtain ⟨b, o, rfl, hb, hc⟩ := h hn
  refine ⟨b, o, rfl, hb, fun j hj => ?_⟩
  rw [World.cell?_setCell_other _ _ _ _ (fun e => by
    have := hc j hj
    first | rw [e] at this | rw [← e] at this
    rw [hp] at this
    injection this with this
    exact hu _ this)]
  exact hc j hj
/-- What a buffer holds behind bytes that came in. -/
def fedOk (room over : Nat) (l m : List Nat) : Bool := decide (m.length - min over m.length + l.length ≤ room)
def fedL (room over : Nat) (l m : List Nat) : List Nat := if fedOk room over l m then l ++ m.drop (min over m.length) else l
def fedO (room over : Nat) (l m : List Nat) : Nat := if fedOk room over l m then over - min over m.length else over
/-- All blocks but the buffer's own and that of its row are as they were. -/
def Kept (w w' : World) (q : Nat) : Prop := ∀ k, k < w.heap.size → k ≠ q → (∀ g o n c, w.cell? ⟨q, 1, none⟩ = some (.slice (some ⟨g, o, none⟩) n c) → k ≠ g) → w'.heap[k]? = w.heap[k]?
set_option maxHeartbeats 4000000 in
theorem feed_more (q room over : Nat) (l m : List Nat) (X : Option Addr) (c' : Nat) (w : World) (h : Buf w q room l over) (hx : Reads .u8 w w.heap.size X m.length (atI m)) (hc : m.length ≤ c') (hc' : c' ≤ 9223372036854775807)
    (hroom : room ≤ 4096) (hl : l.length ≤ room) (hov : over ≤ 1000000) :
    Calls Try.prog 10 #[.pointer (some ⟨q, 0, none⟩), .slice X m.length c'] w fun e w' => e = .returned (.bool (fedOk room over l m)) ∧ Below q w w' ∧ w.heap.size ≤ w'.heap.size ∧ Buf w' q room (fedL room over l m) (fedO room over l m) ∧ Kept w w' q ∧ (fedOk room over l m = false → Below w.heap.size w w') := by
  have hB := Lib.hid h
  obtain ⟨lt, c0, ⟨A, c, c1, own⟩, c2, z1, z2⟩ := h
  obtain ⟨i0, hi, hz0, hz1, hz2⟩ := info_parts Try.info5
  have hHI := Lib.hid hi
  have hcap := own_cap own
  obtain ⟨d, hd⟩ : ∃ d, min over m.length = d := ⟨_, rfl⟩
  have hmin : min (over : Int) (m.length : Int) = (d : Int) := by omega
  have hdn : d ≤ m.length := by omega
  have hdo : d ≤ over := by omega
  unfold fedL fedO fedOk
  rw [hd]
  have HD := Lib.hid hd
  clear hd
  have HX := Lib.hid hx
  have HO := Lib.hid own
  clear hx own
  by_cases hfit : m.length - d + l.length ≤ room
  · rw [decide_eq_true hfit, if_pos rfl, if_pos rfl]
    have hcase : c' = d ∨ ¬ c' = d := by omega
    rcases hcase with hcc | hcc
    · go_enter Try.func10, Try.ntmps10
      go_wp2
      (refine wp_region_later (w.heap.size) (by kernel_rfl) (by kernel_rfl) (by go_size) ?_; (repeat (go_big_quiet_step (fail))); refine wpQuiet_nil ?_; intro Xq hlq hmq)
      have hownX : (Xq.w.setCell ⟨q, 2, none⟩ (.int .i64 ((over : Int) - (d : Int)))).ownsRow (q + 1) 5 1 (.slice A l.length c) l.length (rowV .u8 l.length (atI l)) := own_set (own_keep HO.out Xq.is) (show q < q + 1 by omega) _
      have hrX : Reads .u8 (Xq.w.setCell ⟨q, 2, none⟩ (.int .i64 ((over : Int) - (d : Int)))) w.heap.size X m.length (atI m) := (HX.out.keep Xq.is).set_other (by go_simp; rfl) (fun _ h => by cases h) _
      have hzS : (Xq.w.setCell ⟨q, 2, none⟩ (.int .i64 ((over : Int) - (d : Int)))).heap.size = Xq.w.heap.size := by go_simp
      have HOX := Lib.hid hownX
      have HRX := Lib.hid hrX
      clear hownX hrX
      go_wp2_with (at_builtin; refine wpList_app _ rfl _ _ 22 rfl (q + 1) 5 i0 (.int .u8 0) 1 Try.underlying22 hHI.out hz0 hz1 hz2 rfl _ l.length _ rfl HOX.out .u8 w.heap.size _ _ _ (fun j => atI m (d + j)) rfl ?r1 ?r2 ?r3 ?r4 ?_)
      case r1 => exact fun hlt => absurd hlt (by omega)
      case r2 => omega
      case r3 => omega
      case r4 => rw [hzS]; omega
      intro v1 w1 hown1 hgrow1
      obtain ⟨A1, k1, rfl⟩ := own_form hown1
      have hb1 : Below (q + 1) (Xq.w.setCell ⟨q, 2, none⟩ (.int .i64 ((over : Int) - (d : Int)))) w1 := (Below.refl _ _).grown hgrow1 (by rw [hzS]; omega) (fun k hk => (HOX.out.lt k hk).1)
      have hs1 := hb1.size
      rw [hzS] at hs1
      obtain ⟨Y, rfl⟩ : ∃ Y : Later (q + 1) (Xq.w.setCell ⟨q, 2, none⟩ (.int .i64 ((over : Int) - (d : Int)))), w1 = Y.w := ⟨⟨w1, hb1⟩, rfl⟩
      have HO1 := Lib.hid hown1
      have HG1 := Lib.hid hgrow1
      clear hown1 hgrow1 hb1
      go_wp2
      go_ret
      refine ⟨rfl, by repeat' (first | (with_reducible exact Below.refl _ _) | (with_reducible assumption) | (with_reducible refine Later.step ?_ ?_ _) | (with_reducible refine Below.alloc ?_ ?_ _) | (with_reducible refine Below.drew ?_) | (with_reducible refine bel_drewN ?_ _) | (with_reducible refine bel_grown ?_ (by assumption) ?_ ?_) | (with_reducible refine Below.setCell ?_ ?_ _) | go_size), by go_size, ⟨by go_size, by go_simp, ⟨A1, k1, ?_, ?_⟩, by go_simp; omega, by go_simp, by go_simp⟩, ?_, fun h => by cases h⟩
      · rw [List.length_append, List.length_drop]; go_simp
      · have := own_set (p := ⟨q, 1, none⟩) HO1.out (show q < q + 1 by omega) (.slice A1 (l.length + (m.length - d)) k1)
        rw [rowV_drop, rowV_app] at this
        rw [List.length_append, List.length_drop] at this ⊢
        exact this
      · intro k hk hkq hkg
        have hne : some k ≠ (Value.slice A l.length c).ownBlock := by
          rcases HO.out.2 with ⟨hv, _⟩ | ⟨g, cap, cur, hv, _⟩
          · rw [hv]; simp [Value.ownBlock]
          · injection hv with hA
            subst hA
            have := hkg g 0 _ _ c1
            simpa [Value.ownBlock] using this
        have e1 := Below.heap_setCell Y.w ⟨q, 1, none⟩ (.slice A1 (l.length + (m.length - d)) k1) k hkq
        have e2 := HG1.out.block k (by rw [hzS]; exact Nat.lt_of_lt_of_le hk Xq.is.size) hne
        have e3 := Below.heap_setCell Xq.w ⟨q, 2, none⟩ (.int .i64 ((over : Int) - (d : Int))) k hkq
        exact ((e1.trans e2).trans e3).trans (Xq.is.block k hk)
    · go_enter Try.func10, Try.ntmps10
      go_wp2
      (refine wp_region_later (w.heap.size) (by kernel_rfl) (by kernel_rfl) (by go_size) ?_; (repeat (go_big_quiet_step (fail))); refine wpQuiet_nil ?_; intro Xq hlq hmq)
      have hownX : (Xq.w.setCell ⟨q, 2, none⟩ (.int .i64 ((over : Int) - (d : Int)))).ownsRow (q + 1) 5 1 (.slice A l.length c) l.length (rowV .u8 l.length (atI l)) := own_set (own_keep HO.out Xq.is) (show q < q + 1 by omega) _
      have hrX : Reads .u8 (Xq.w.setCell ⟨q, 2, none⟩ (.int .i64 ((over : Int) - (d : Int)))) w.heap.size X m.length (atI m) := (HX.out.keep Xq.is).set_other (by go_simp; rfl) (fun _ h => by cases h) _
      have hzS : (Xq.w.setCell ⟨q, 2, none⟩ (.int .i64 ((over : Int) - (d : Int)))).heap.size = Xq.w.heap.size := by go_simp
      have HOX := Lib.hid hownX
      have HRX := Lib.hid hrX
      clear hownX hrX
      go_wp2_with (at_builtin; refine wpList_app _ rfl _ _ 22 rfl (q + 1) 5 i0 (.int .u8 0) 1 Try.underlying22 hHI.out hz0 hz1 hz2 rfl _ l.length _ rfl HOX.out .u8 w.heap.size _ (m.length - d) (c' - d) (fun j => atI m (d + j)) rfl ?r1 ?r2 ?r3 ?r4 ?_)
      case r1 => exact HRX.out.from_ (fun b o e hlt => by subst e; first | (exfalso; omega) | rfl | simp [Addr.add_lit] | skip)
      case r2 => omega
      case r3 => omega
      case r4 => rw [hzS]; omega
      intro v1 w1 hown1 hgrow1
      obtain ⟨A1, k1, rfl⟩ := own_form hown1
      have hb1 : Below (q + 1) (Xq.w.setCell ⟨q, 2, none⟩ (.int .i64 ((over : Int) - (d : Int)))) w1 := (Below.refl _ _).grown hgrow1 (by rw [hzS]; omega) (fun k hk => (HOX.out.lt k hk).1)
      have hs1 := hb1.size
      rw [hzS] at hs1
      obtain ⟨Y, rfl⟩ : ∃ Y : Later (q + 1) (Xq.w.setCell ⟨q, 2, none⟩ (.int .i64 ((over : Int) - (d : Int)))), w1 = Y.w := ⟨⟨w1, hb1⟩, rfl⟩
      have HO1 := Lib.hid hown1
      have HG1 := Lib.hid hgrow1
      clear hown1 hgrow1 hb1
      go_wp2
      go_ret
      refine ⟨rfl, by repeat' (first | (with_reducible exact Below.refl _ _) | (with_reducible assumption) | (with_reducible refine Later.step ?_ ?_ _) | (with_reducible refine Below.alloc ?_ ?_ _) | (with_reducible refine Below.drew ?_) | (with_reducible refine bel_drewN ?_ _) | (with_reducible refine bel_grown ?_ (by assumption) ?_ ?_) | (with_reducible refine Below.setCell ?_ ?_ _) | go_size), by go_size, ⟨by go_size, by go_simp, ⟨A1, k1, ?_, ?_⟩, by go_simp; omega, by go_simp, by go_simp⟩, ?_, fun h => by cases h⟩
      · rw [List.length_append, List.length_drop]; go_simp
      · have := own_set (p := ⟨q, 1, none⟩) HO1.out (show q < q + 1 by omega) (.slice A1 (l.length + (m.length - d)) k1)
        rw [rowV_drop, rowV_app] at this
        rw [List.length_append, List.length_drop] at this ⊢
        exact this
      · intro k hk hkq hkg
        have hne : some k ≠ (Value.slice A l.length c).ownBlock := by
          rcases HO.out.2 with ⟨hv, _⟩ | ⟨g, cap, cur, hv, _⟩
          · rw [hv]; simp [Value.ownBlock]
          · injection hv with hA
            subst hA
            have := hkg g 0 _ _ c1
            simpa [Value.ownBlock] using this
        have e1 := Below.heap_setCell Y.w ⟨q, 1, none⟩ (.slice A1 (l.length + (m.length - d)) k1) k hkq
        have e2 := HG1.out.block k (by rw [hzS]; exact Nat.lt_of_lt_of_le hk Xq.is.size) hne
        have e3 := Below.heap_setCell Xq.w ⟨q, 2, none⟩ (.int .i64 ((over : Int) - (d : Int))) k hkq
        exact ((e1.trans e2).trans e3).trans (Xq.is.block k hk)
  · rw [decide_eq_false hfit, if_neg (by simp), if_neg (by simp)]
    have hcc : ¬ c' = d := by omega
    generalize m.length = n at *
    go_enter Try.func10, Try.ntmps10
    go_wp2
    (refine wp_region_later (w.heap.size) (by kernel_rfl) (by kernel_rfl) (by go_size) ?_; (repeat (go_big_quiet_step (fail))); refine wpQuiet_nil ?_; intro Xq hlq hmq)
    go_wp2
    go_ret
    exact ⟨rfl, by repeat' (first | (with_reducible exact Below.refl _ _) | (with_reducible assumption) | (with_reducible refine Later.step ?_ ?_ _) | (with_reducible refine Below.alloc ?_ ?_ _) | (with_reducible refine Below.drew ?_) | (with_reducible refine bel_drewN ?_ _) | (with_reducible refine bel_grown ?_ (by assumption) ?_ ?_) | (with_reducible refine Below.setCell ?_ ?_ _) | go_size), by go_size, hB.out.keep (by repeat' (first | (with_reducible exact Below.refl _ _) | (with_reducible assumption) | (with_reducible refine Later.step ?_ ?_ _) | (with_reducible refine Below.alloc ?_ ?_ _) | (with_reducible refine Below.drew ?_) | (with_reducible refine bel_drewN ?_ _) | (with_reducible refine bel_grown ?_ (by assumption) ?_ ?_) | (with_reducible refine Below.setCell ?_ ?_ _) | go_size)), fun k hk _ _ => Xq.is.block k hk, fun _ => Xq.is⟩
theorem feed_any (q room over : Nat) (l m : List Nat) (X : Option Addr) (c' : Nat) (w : World) (h : Buf w q room l over) (hx : Reads .u8 w w.heap.size X m.length (atI m)) (hc : m.length ≤ c') (hc' : c' ≤ 9223372036854775807)
    (hroom : room ≤ 4096) (hl : l.length ≤ room) (hov : over ≤ 1000000) :
    Calls Try.prog 10 #[.pointer (some ⟨q, 0, none⟩), .slice X m.length c'] w fun e w' => e = .returned (.bool (fedOk room over l m)) ∧ Below q w w' ∧ w.heap.size ≤ w'.heap.size ∧ Buf w' q room (fedL room over l m) (fedO room over l m) :=
  (feed_more q room over l m X c' w h hx hc hc' hroom hl hov).mono fun _ _ ⟨a, b, c, d, _⟩ => ⟨a, b, c, d⟩
end Go.Proofs.Ythcecinhlhgohaa
