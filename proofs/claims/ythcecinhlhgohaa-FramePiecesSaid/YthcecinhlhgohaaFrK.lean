/- The layer's fixed calls, walked. No condition. -/
import Derived.Test.YthcecinhlhgohaaFrE
namespace Go.Proofs.Ythcecinhlhgohaa
open Go.RowKit
set_option linter.unusedSimpArgs false
set_option linter.unusedVariables false

theorem reads_one {X : World} {b : Nat} {a : Nat} (hb : b < X.heap.size) (h0 : X.cell? ⟨b, 0, none⟩ = some (.int .u8 a)) : Reads .u8 X X.heap.size (some ⟨b, 0, none⟩) [a].length (atI [a]) := fun _ => ⟨b, 0, rfl, hb, fun j hj => by
  match j, hj with
  | 0, _ => exact h0⟩
theorem reads_three {X : World} {b : Nat} {a c d : Nat} (hb : b < X.heap.size) (h0 : X.cell? ⟨b, 0, none⟩ = some (.int .u8 a)) (h1 : X.cell? ⟨b, 1, none⟩ = some (.int .u8 c)) (h2 : X.cell? ⟨b, 2, none⟩ = some (.int .u8 d)) : Reads .u8 X X.heap.size (some ⟨b, 0, none⟩) [a, c, d].length (atI [a, c, d]) := fun _ => ⟨b, 0, rfl, hb, fun j hj => by
  match j, hj with
  | 0, _ => exact h0
  | 1, _ => exact h1
  | 2, _ => exact h2⟩
/-- What leaves a row, a number and a buffer. -/
def RowBuf (q room : Nat) (body : List Nat) (n k : Nat) (l : List Nat) (X : World) (e : Ending) (w' : World) : Prop :=
  (∃ A c, e = .returned (.tuple #[.slice A n c, .int .i64 k]) ∧ w'.ownsRow (q + 1) 5 1 (.slice A n c) n (rowV .u8 n (atI body))) ∧ Buf w' q room l 0 ∧ Below q X w' ∧ X.heap.size ≤ w'.heap.size ∧ X.grownBy w' (some q)
theorem k_frame (X : World) (b : Nat) (hb : b < X.heap.size) (h0 : X.cell? ⟨b, 0, none⟩ = some (.int .u8 7)) :
    Calls Try.prog 14 #[.slice (some ⟨b, 0, none⟩) 1 1] X fun e w' => (∃ B d, e = .returned (.tuple #[.slice B 3 d, .int .i64 0]) ∧ w'.ownsRow X.heap.size 5 1 (.slice B 3 d) 3 (rowV .u8 3 (atI [0, 1, 7]))) ∧ Below X.heap.size X w' :=
  frame_any (some ⟨b, 0, none⟩) 1 [7] X (reads_one hb h0) (by decide)
theorem k_feed1 (X : World) (q b : Nat) (hB : Buf X q 602 [] 0) (hb : b < X.heap.size) (h0 : X.cell? ⟨b, 0, none⟩ = some (.int .u8 0)) :
    Calls Try.prog 10 #[.pointer (some ⟨q, 0, none⟩), .slice (some ⟨b, 0, none⟩) 1 1] X fun e w' => e = .returned (.bool true) ∧ Below q X w' ∧ X.heap.size ≤ w'.heap.size ∧ Buf w' q 602 [0] 0 :=
  feed_any q 602 0 [] [0] (some ⟨b, 0, none⟩) 1 X hB (reads_one hb h0) (by decide) (by decide) (by decide) (by decide) (by decide)
theorem k_feed2 (X : World) (q b : Nat) (hB : Buf X q 602 [0] 0) (hb : b < X.heap.size) (h0 : X.cell? ⟨b, 0, none⟩ = some (.int .u8 1)) (h1 : X.cell? ⟨b, 1, none⟩ = some (.int .u8 7)) (h2 : X.cell? ⟨b, 2, none⟩ = some (.int .u8 0)) :
    Calls Try.prog 10 #[.pointer (some ⟨q, 0, none⟩), .slice (some ⟨b, 0, none⟩) 3 3] X fun e w' => e = .returned (.bool true) ∧ Below q X w' ∧ X.heap.size ≤ w'.heap.size ∧ Buf w' q 602 [0, 1, 7, 0] 0 :=
  feed_any q 602 0 [0] [1, 7, 0] (some ⟨b, 0, none⟩) 3 X hB (reads_three hb h0 h1 h2) (by decide) (by decide) (by decide) (by decide) (by decide)
theorem k_next1 (X : World) (q : Nat) (hB : Buf X q 602 [0, 1, 7, 0] 0) : Calls Try.prog 16 #[.pointer (some ⟨q, 0, none⟩)] X (RowBuf q 602 [7] 1 1 [0] X) :=
  next_any q 602 0 [0, 1, 7, 0] X hB (by intro x hx; simp at hx; omega) (by decide)
theorem k_next2 (X : World) (q : Nat) (hB : Buf X q 602 [0] 0) : Calls Try.prog 16 #[.pointer (some ⟨q, 0, none⟩)] X (RowBuf q 602 [] 0 0 [0] X) :=
  next_any q 602 0 [0] X hB (by intro x hx; simp at hx; omega) (by decide)
theorem k_wait (X : World) (q : Nat) (hB : Buf X q 602 [0] 0) : Calls Try.prog 17 #[.pointer (some ⟨q, 0, none⟩)] X fun e w' => e = .returned (.int .i64 1) ∧ Below X.heap.size X w' :=
  waiting_any q 602 0 [0] X hB (by decide)
theorem k_same3 (X : World) (A : Option Addr) (c b : Nat) (hr : Reads .u8 X X.heap.size A 3 (atI [0, 1, 7])) (hb : b < X.heap.size) (h0 : X.cell? ⟨b, 0, none⟩ = some (.int .u8 0)) (h1 : X.cell? ⟨b, 1, none⟩ = some (.int .u8 1)) (h2 : X.cell? ⟨b, 2, none⟩ = some (.int .u8 7)) :
    Calls Try.prog 13 #[.slice A 3 c, .slice (some ⟨b, 0, none⟩) 3 3] X fun e w' => e = .returned (.bool true) ∧ Below X.heap.size X w' :=
  lsame_any A (some ⟨b, 0, none⟩) [0, 1, 7] [0, 1, 7] c 3 X hr (reads_three hb h0 h1 h2) (by decide) (by decide)
theorem k_same1 (X : World) (A : Option Addr) (c b : Nat) (hr : Reads .u8 X X.heap.size A 1 (atI [7])) (hb : b < X.heap.size) (h0 : X.cell? ⟨b, 0, none⟩ = some (.int .u8 7)) :
    Calls Try.prog 13 #[.slice A 1 c, .slice (some ⟨b, 0, none⟩) 1 1] X fun e w' => e = .returned (.bool true) ∧ Below X.heap.size X w' :=
  lsame_any A (some ⟨b, 0, none⟩) [7] [7] c 1 X hr (reads_one hb h0) (by decide) (by decide)
set_option maxHeartbeats 4000000 in
theorem fknown_any (w : World) : Calls Try.prog 8 #[] w fun e w' => e = .returned (.bool true) ∧ Below w.heap.size w w' := by
  go_enter Try.func8, Try.ntmps8
  go_wp2_with fail
  refine (k_frame _ _ (by go_size) (by go_simp)).mono ?_
  rintro e w2 ⟨⟨A, c, rfl, own2⟩, hb2⟩
  have hs2 : w.heap.size + 1 ≤ w2.heap.size := by have := hb2.size; simpa using this
  have hs2' : w.heap.size ≤ w2.heap.size := by omega
  have HB2 := Lib.hid (((Below.refl w.heap.size w).alloc (Nat.le_refl _) _).trans (hb2.mono (by simp)))
  have HR2 := Lib.hid (Reads.own own2)
  clear own2 hb2
  go_wp2_with fail
  refine (new_any 602 _ (by decide) (by decide)).mono ?_
  rintro e w3 ⟨q, rfl, hq, hB3, hb3⟩
  have hs3 := hb3.size
  have hqs := hB3.lt
  have HB3 := Lib.hid hb3
  have HU3 := Lib.hid hB3
  clear hB3 hb3
  go_wp2_with fail
  refine (k_same3 _ _ _ _ (((HR2.out.keep HB3.out).more hs3 |>.keep ((Below.refl _ _).alloc (Nat.le_refl _) _)).more (by go_size)) (by go_size) (by go_simp) (by go_simp) (by go_simp)).mono ?_
  rintro e w4 ⟨rfl, hb4⟩
  have hs4 : w3.heap.size + 1 ≤ w4.heap.size := by have := hb4.size; simpa using this
  have hb4' := ((Below.refl w3.heap.size w3).alloc (Nat.le_refl _) _).trans (hb4.mono (by simp))
  have HB4 := Lib.hid hb4'
  have HU4 := Lib.hid (HU3.out.keep hb4')
  clear hb4 hb4'
  go_wp2_with fail
  refine (k_feed1 _ q _ (HU4.out.keep ((Below.refl _ _).alloc (Nat.le_refl _) _)) (by go_size) (by go_simp)).mono ?_
  rintro e w5 ⟨rfl, hb5, hs5, hB5⟩
  have hs5' : w4.heap.size + 1 ≤ w5.heap.size := by simpa using hs5
  have HB5 := Lib.hid (((Below.refl q w4).alloc (by omega) _).trans hb5)
  have HU5 := Lib.hid hB5
  clear hb5 hB5 hs5
  go_wp2_with fail
  refine (k_feed2 _ q _ (HU5.out.keep ((Below.refl _ _).alloc (Nat.le_refl _) _)) (by go_size) (by go_simp) (by go_simp) (by go_simp)).mono ?_
  rintro e w6 ⟨rfl, hb6, hs6, hB6⟩
  have hs6' : w5.heap.size + 1 ≤ w6.heap.size := by simpa using hs6
  have HB6 := Lib.hid (((Below.refl q w5).alloc (by omega) _).trans hb6)
  have HU6 := Lib.hid hB6
  clear hb6 hB6 hs6
  go_wp2_with fail
  refine (k_next1 _ q HU6.out).mono ?_
  rintro e w7 ⟨⟨A7, c7, rfl, own7⟩, hB7, hb7, hs7, hg7⟩
  have HO7 := Lib.hid own7
  have HB7 := Lib.hid hb7
  have HU7 := Lib.hid hB7
  clear own7 hB7 hb7 hg7
  go_wp2_with fail
  refine (k_next2 _ q HU7.out).mono ?_
  rintro e w8 ⟨⟨A8, c8, rfl, own8⟩, hB8, hb8, hs8, hg8⟩
  have HR8 := Lib.hid (Reads.own (HO7.out.kept hg8 (by
    rcases h : (Value.slice A7 1 c7).ownBlock with _ | g
    · exact .inl rfl
    · exact .inr (fun e => by have := (HO7.out.lt g h).1; injection e with e; omega))))
  have HB8 := Lib.hid hb8
  have HU8 := Lib.hid hB8
  clear own8 hB8 hb8 hg8
  go_wp2_with fail
  refine (k_same1 _ _ _ _ ((HR8.out.keep ((Below.refl _ _).alloc (Nat.le_refl _) _)).more (by go_size)) (by go_size) (by go_simp)).mono ?_
  rintro e w9 ⟨rfl, hb9⟩
  have hs9 : w8.heap.size + 1 ≤ w9.heap.size := by have := hb9.size; simpa using this
  have hb9' := ((Below.refl w8.heap.size w8).alloc (Nat.le_refl _) _).trans (hb9.mono (by simp))
  have HB9 := Lib.hid hb9'
  have HU9 := Lib.hid (HU8.out.keep hb9')
  clear hb9 hb9'
  go_wp2_with fail
  refine (k_wait _ q HU9.out).mono ?_
  rintro e w10 ⟨rfl, hb10⟩
  have HB10 := Lib.hid hb10
  clear hb10
  go_wp2
  go_ret
  refine ⟨rfl, ?_⟩
  have e2 := HB2.out
  have e3 := HB3.out.mono hs2'
  have e4 := HB4.out.mono (show w.heap.size ≤ w3.heap.size by omega)
  have e5 := HB5.out.mono (show w.heap.size ≤ q by omega)
  have e6 := HB6.out.mono (show w.heap.size ≤ q by omega)
  have e7 := HB7.out.mono (show w.heap.size ≤ q by omega)
  have e8 := HB8.out.mono (show w.heap.size ≤ q by omega)
  have e9 := HB9.out.mono (show w.heap.size ≤ w8.heap.size by omega)
  have e10 := HB10.out.mono (show w.heap.size ≤ w9.heap.size by omega)
  exact ((((((((e2.trans e3).trans e4).trans e5).trans e6).trans e7).trans e8).trans e9).trans e10)
end Go.Proofs.Ythcecinhlhgohaa
