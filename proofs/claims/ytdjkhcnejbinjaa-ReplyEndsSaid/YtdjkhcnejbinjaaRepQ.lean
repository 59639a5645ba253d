/- Bytes read from the front: the reader walked. No condition beyond what the memory holds. -/
import Derived.Test.YtdjkhcnejbinjaaRepL2
import Derived.Test.YtdjkhcnejbinjaaFrA
namespace Go.Proofs.Ytdjkhcnejbinjaa
open Go.RowKit
set_option linter.unusedSimpArgs false
set_option linter.unusedVariables false
set_option maxRecDepth 2000

/-- The number of so many bytes of a list from a place on. -/
def numR (L : List Nat) (off wide : Nat) : Int := getF (fun j => atI L (off + j)) wide
theorem numR_bd {L : List Nat} (h : Small L) (off wide : Nat) : 0 ≤ numR L off wide ∧ numR L off wide < (256 : Int) ^ wide := by
  have h1 := getF_nonneg (f := fun j => atI L (off + j)) (fun j => (atI_bd h _).1) wide
  have h2 := getF_lt (f := fun j => atI L (off + j)) (fun j => atI_bd h _) wide
  unfold numR
  omega
/-- A reader at a block: the bytes, and how many have been taken. -/
structure Rd (w : World) (q : Nat) (L : List Nat) (off : Nat) : Prop where
  lt : q < w.heap.size
  le : off ≤ L.length
  cell : ∃ A c, w.cell? ⟨q, 0, none⟩ = some (.slice A (L.length - off : Nat) c) ∧ L.length - off ≤ c ∧ c ≤ 9223372036854775807 ∧ Reads .u8 w q A (L.length - off) (fun j => atI L (off + j))
  z : w.frozen? ⟨q, 0, none⟩ = false
theorem Rd.keep {w w' : World} {q off : Nat} {L : List Nat} (h : Rd w q L off) (hb : Below w.heap.size w w') : Rd w' q L off := by
  obtain ⟨lt, le, ⟨A, c, c1, h1, h2, hr⟩, z⟩ := h
  exact ⟨Nat.lt_of_lt_of_le lt hb.size, le, ⟨A, c, (hb.cell (p := ⟨q, 0, none⟩) lt).trans c1, h1, h2, hr.keep (hb.mono (by omega))⟩, (hb.frozen (p := ⟨q, 0, none⟩) lt).trans z⟩
theorem below_of_grown {w w' : World} {q : Nat} (h : w.grownBy w' (some q)) (hq : q ≤ w.heap.size) : Below q w w' :=
  ⟨h.os, h.tape, h.output, h.size, fun k hk => h.block k (by omega) (fun e => by injection e with e; omega)⟩
/-- What a reader's method leaves: the reader further on, all else as it was. -/
def RdPost (q : Nat) (L : List Nat) (off : Nat) (w w' : World) : Prop := Rd w' q L off ∧ w.grownBy w' (some q)
theorem RdPost.below {q off : Nat} {L : List Nat} {w w' : World} (h : RdPost q L off w w') (hq : q ≤ w.heap.size) : Below q w w' := below_of_grown h.2 hq
theorem rd_set {w : World} {q off c' k : Nat} {L : List Nat} {u : Value} {A' : Option Addr} (lt : q < w.heap.size) (z : w.frozen? ⟨q, 0, none⟩ = false) (hu : w.cell? ⟨q, 0, none⟩ = some u) (hk : L.length = off + k) (hc : k ≤ c') (hc' : c' ≤ 9223372036854775807) (hr : Reads .u8 w q A' k (fun j => atI L (off + j))) :
    RdPost q L off w (w.setCell ⟨q, 0, none⟩ (.slice A' k c')) := by
  have e : L.length - off = k := by omega
  refine ⟨⟨by go_size, by omega, ⟨A', c', by rw [e]; go_simp, by rw [e]; exact hc, hc', by rw [e]; exact hr.keep (by repeat' (first | (with_reducible exact Below.refl _ _) | (with_reducible assumption) | (with_reducible refine Later.step ?_ ?_ _) | (with_reducible refine Below.alloc ?_ ?_ _) | (with_reducible refine Below.drew ?_) | (with_reducible refine bel_drewN ?_ _) | (with_reducible refine bel_grown ?_ (by assumption) ?_ ?_) | (with_reducible refine Below.setCell ?_ ?_ _) | go_size))⟩, by go_simp⟩, grown_set _ ⟨q, 0, none⟩ _⟩
set_option maxHeartbeats 4000000 in
theorem rtake_any (q off n : Nat) (L : List Nat) (w : World) (h : Rd w q L off) (h1 : 1 ≤ n) (hn : off + n ≤ L.length) :
    Calls Try.prog 49 #[.pointer (some ⟨q, 0, none⟩), .int .i64 n] w fun e w' => (∃ A, e = .returned (.slice A n n) ∧ Reads .u8 w' q A n (fun j => atI L (off + j))) ∧ RdPost q L (off + n) w w' := by
  obtain ⟨lt, le, ⟨A, c, c1, hc1, hc2, hr⟩, z⟩ := h
  obtain ⟨b, o, rfl, hb, hcell⟩ := hr (by omega)
  obtain ⟨m, hm⟩ : ∃ m, L.length - off = m := ⟨_, rfl⟩
  rw [hm] at c1 hc1 hr hcell
  have hnm : n ≤ m := by omega
  have hlm : L.length = off + m := by omega
  have HR := Lib.hid hr
  have HC := Lib.hid hcell
  have HLM := Lib.hid hlm
  clear hr hcell hm hlm le hn
  have hcase : c = n ∨ ¬ c = n := by omega
  have hcn : n ≤ c := by omega
  rcases hcase with hcc | hcc
  all_goals
    go_enter Try.func49, Try.ntmps49
    go_wp2
    go_ret
    have hl := HLM.out
    refine ⟨⟨_, rfl, (fun hlt => ⟨b, o, rfl, hb, fun j hj => by have h9 := HC.out j (by omega); go_simp⟩)⟩, rd_set lt z c1 (by omega) (by omega) (by omega) ?_⟩
    first
      | exact fun hlt => absurd hlt (by omega)
      | exact fun hlt => ⟨b, o + n, rfl, hb, fun j hj => by
          have h9 := HC.out (n + j) (by omega)
          rw [← Nat.add_assoc, ← Nat.add_assoc] at h9
          exact h9⟩
set_option maxHeartbeats 4000000 in
theorem rnumber_any (q off wide : Nat) (L : List Nat) (w : World) (h : Rd w q L off) (hs : Small L) (h1 : 1 ≤ wide) (h2 : wide ≤ 7) (hn : off + wide ≤ L.length) :
    Calls Try.prog 38 #[.pointer (some ⟨q, 0, none⟩), .int .i64 wide] w fun e w' => e = .returned (.int .i64 (numR L off wide)) ∧ RdPost q L (off + wide) w w' := by
  have p1 := rtake_any q off wide L w h h1 hn
  have p2 := fun (Y : World) (A : Option Addr) (hr : Reads .u8 Y Y.heap.size A wide (fun j => atI L (off + j))) => get_any A wide wide (fun j => atI L (off + j)) Y hr (fun j => atI_bd hs _) (by omega) h1 (by omega)
  have hb := getF_small (f := fun j => atI L (off + j)) (fun j => atI_bd hs _) h2
  unfold numR
  obtain ⟨v, hv⟩ : ∃ v, getF (fun j => atI L (off + j)) wide = v := ⟨_, rfl⟩
  rw [hv] at p2 hb ⊢
  have hw : IntKind.i64.wrap v = v := IntWalk.i64_in _ (by omega)
  have lt := h.lt
  have P1 := Lib.hid p1
  have P2 := Lib.hid p2
  clear p1 p2 h hv hs
  go_enter Try.func38, Try.ntmps38
  go_wp2_with fail
  refine P1.out.mono ?_
  rintro e w1 ⟨⟨A, rfl, hr⟩, hp⟩
  have hs1 := hp.2.size
  have HR := Lib.hid hr
  have HP := Lib.hid hp
  obtain ⟨X1, rfl⟩ : ∃ Z : Later q w, w1 = Z.w := ⟨⟨w1, hp.below (by omega)⟩, rfl⟩
  clear hr hp
  go_wp2_with (first
    | (go_at_call 48; refine (P2.out _ _ (HR.out.more (by omega))).mono ?_; rintro e w' ⟨rfl, hb⟩; obtain ⟨X2, rfl, hl2, hm2⟩ := later (X1.w.heap.size) hb (by first | exact Nat.le_refl _ | go_size); clear hb; (try simp only [World.size_alloc, World.size_setCell, World.size_drew] at hm2)))
  go_ret
  exact ⟨rfl, HP.out.1.keep X2.is, grown_trans HP.out.2 (grown_of_below X2.is _)⟩
/-- A block of cells that may be written. -/
def CellsAt (w : World) (b n : Nat) (F : Nat → Value) : Prop := b < w.heap.size ∧ ∀ j, j < n → w.cell? ⟨b, j, none⟩ = some (F j) ∧ w.frozen? ⟨b, j, none⟩ = false
theorem CellsAt.grown {w w' : World} {b n q : Nat} {F : Nat → Value} (h : CellsAt w b n F) (hg : w.grownBy w' (some q)) (hq : b ≠ q) : CellsAt w' b n F :=
  ⟨Nat.lt_of_lt_of_le h.1 hg.size, fun j hj => by
    have e := hg.block b h.1 (fun e => by injection e with e; exact hq e)
    exact ⟨(World.cell?_of_block (a := ⟨b, j, none⟩) e).trans (h.2 j hj).1, (World.frozen?_of_block (a := ⟨b, j, none⟩) e).trans (h.2 j hj).2⟩⟩
theorem CellsAt.keep {w w' : World} {b n : Nat} {F : Nat → Value} (h : CellsAt w b n F) (hb : Below w.heap.size w w') : CellsAt w' b n F :=
  ⟨Nat.lt_of_lt_of_le h.1 hb.size, fun j hj => ⟨(hb.cell (p := ⟨b, j, none⟩) h.1).trans (h.2 j hj).1, (hb.frozen (p := ⟨b, j, none⟩) h.1).trans (h.2 j hj).2⟩⟩
theorem CellsAt.congr {w : World} {b n : Nat} {F G : Nat → Value} (h : CellsAt w b n F) (e : ∀ j, j < n → F j = G j) : CellsAt w b n G := ⟨h.1, fun j hj => by rw [← e j hj]; exact h.2 j hj⟩
theorem CellsAt.set {w : World} {b n j : Nat} {F : Nat → Value} (h : CellsAt w b n F) (hj : j < n) (v : Value) : CellsAt (w.setCell ⟨b, j, none⟩ v) b n (fun i => if i = j then v else F i) := by
  refine ⟨by rw [World.size_setCell]; exact h.1, fun i hi => ?_⟩
  have h1 := h.2 i hi
  have h2 := h.2 j hj
  have hlt := h.1
  by_cases e : i = j
  · subst e
    exact ⟨by go_simp, by go_simp⟩
  · exact ⟨by go_simp, by go_simp⟩
theorem CellsAt.other {w : World} {b n : Nat} {p : Addr} {F : Nat → Value} (h : CellsAt w b n F) (hp : p.block ≠ b) (v : Value) : CellsAt (w.setCell p v) b n F := by
  refine ⟨by rw [World.size_setCell]; exact h.1, fun i hi => ?_⟩
  have e := Below.heap_setCell w p v b (fun e => hp e.symm)
  exact ⟨(World.cell?_of_block (a := ⟨b, i, none⟩) e).trans (h.2 i hi).1, (World.frozen?_of_block (a := ⟨b, i, none⟩) e).trans (h.2 i hi).2⟩
theorem CellsAt.new {w : World} {n : Nat} {F : Nat → Value} {C : Array Value} {t : TypeId} (h : ∀ j, j < n → C[j]? = some (F j)) : CellsAt (w.alloc (Obj.cells C t)) w.heap.size n F := by
  refine ⟨by rw [World.size_alloc]; omega, fun j hj => ⟨cell_heap (heap_alloc_new w _) (h j hj), ?_⟩⟩
  have h9 := heap_alloc_new w (Obj.cells C t)
  unfold World.frozen?
  simp only [h9]
  simp
theorem Rd.other {w : World} {q off : Nat} {L : List Nat} {p : Addr} (h : Rd w q L off) (hp : q < p.block) (u : Value) : Rd (w.setCell p u) q L off := by
  obtain ⟨lt, le, ⟨A, c, c1, h1, h2, hr⟩, z⟩ := h
  have hb : Below p.block w (w.setCell p u) := Below.setCell (Below.refl _ _) (Nat.le_refl _) u
  exact ⟨by rw [World.size_setCell]; exact lt, le, ⟨A, c, (hb.cell (p := ⟨q, 0, none⟩) hp).trans c1, h1, h2, hr.keep (hb.mono (by omega))⟩, (hb.frozen (p := ⟨q, 0, none⟩) hp).trans z⟩
theorem grown_put {w w' : World} {r : Option Nat} {p : Addr} (h : w.grownBy w' r) (hp : w.heap.size ≤ p.block) (u : Value) : w.grownBy (w'.setCell p u) r :=
  ⟨h.os, h.tape, h.output, by rw [World.size_setCell]; exact h.size, fun k hk hr => (Below.heap_setCell w' p u k (by omega)).trans (h.block k hk hr)⟩
theorem RdPost.other {w w' : World} {q off : Nat} {L : List Nat} {p : Addr} (h : RdPost q L off w w') (hp : w.heap.size ≤ p.block) (hq : q < w.heap.size) (u : Value) : RdPost q L off w (w'.setCell p u) :=
  ⟨h.1.other (by omega) u, grown_put h.2 hp u⟩
def rdRow (L : List Nat) (off k j : Nat) : Value := if j < k then .int .i64 (numR L (off + 2 * j) 2) else .int .i64 0
theorem rdRow_succ (L : List Nat) (off k j : Nat) : (if j = k then Value.int .i64 (numR L (off + 2 * k) 2) else rdRow L off k j) = rdRow L off (k + 1) j := by
  unfold rdRow
  by_cases e : j = k
  · subst e
    rw [if_pos rfl, if_pos (by omega)]
  · rw [if_neg e]
    by_cases h : j < k
    · rw [if_pos h, if_pos (by omega)]
    · rw [if_neg h, if_neg (by omega)]
theorem rdRow_lt {L : List Nat} {off k j : Nat} (h : j < k) : rdRow L off k j = .int .i64 (numR L (off + 2 * j) 2) := if_pos h
set_option maxHeartbeats 4000000 in
theorem rrect_any (q off : Nat) (L : List Nat) (w : World) (h : Rd w q L off) (hs : Small L) (hn : off + 8 ≤ L.length) :
    Calls Try.prog 50 #[.pointer (some ⟨q, 0, none⟩)] w fun e w' => e = .returned (.agg #[.int .i64 (numR L off 2), .int .i64 (numR L (off + 2) 2), .int .i64 (numR L (off + 4) 2), .int .i64 (numR L (off + 6) 2)]) ∧ RdPost q L (off + 8) w w' := by
  have lt := h.lt
  have H := Lib.hid h
  have HS := Lib.hid hs
  clear h hs
  have hc1 : CellsAt ((w.alloc (Obj.cells #[.int .i64 0, .int .i64 0, .int .i64 0, .int .i64 0] 34)).alloc (Obj.cells #[.int .i64 0, .int .i64 0, .int .i64 0, .int .i64 0] 87)) (w.heap.size + 1) 4 (rdRow L off 0) := by
    have := CellsAt.new (w := w.alloc (Obj.cells #[.int .i64 0, .int .i64 0, .int .i64 0, .int .i64 0] 34)) (n := 4) (F := rdRow L off 0) (C := #[.int .i64 0, .int .i64 0, .int .i64 0, .int .i64 0]) (t := 87) (fun j hj => by
      rcases (show j = 0 ∨ j = 1 ∨ j = 2 ∨ j = 3 by omega) with rfl | rfl | rfl | rfl <;> rfl)
    rwa [World.size_alloc] at this
  have hc0 : CellsAt ((w.alloc (Obj.cells #[.int .i64 0, .int .i64 0, .int .i64 0, .int .i64 0] 34)).alloc (Obj.cells #[.int .i64 0, .int .i64 0, .int .i64 0, .int .i64 0] 87)) w.heap.size 4 (fun _ => .int .i64 0) := by
    exact (CellsAt.new (w := w) (n := 4) (F := fun _ => .int .i64 0) (C := #[.int .i64 0, .int .i64 0, .int .i64 0, .int .i64 0]) (t := 34) (fun j hj => by
      rcases (show j = 0 ∨ j = 1 ∨ j = 2 ∨ j = 3 by omega) with rfl | rfl | rfl | rfl <;> rfl)).keep ((Below.refl _ _).alloc (Nat.le_refl _) _)
  have HC1 := Lib.hid hc1
  have HC0 := Lib.hid hc0
  clear hc1 hc0
  go_enter Try.func50, Try.ntmps50
  go_wp2
  go_loopw [5] (fun i wr => ∃ k : Nat, k ≤ 4 ∧ i = .int .i64 k ∧ Hid (Rd wr q L (off + 2 * k)) ∧ Hid (CellsAt wr (w.heap.size + 1) 4 (rdRow L off k)) ∧ Hid (CellsAt wr w.heap.size 4 (fun _ => .int .i64 0)) ∧ Hid (w.grownBy wr (some q)) ∧ w.heap.size + 2 ≤ wr.heap.size) (fun i _ => 4 - (intOf i).toNat)
  case atStart => exact ⟨0, by omega, rfl, H.out.keep (by repeat' (first | (with_reducible exact Below.refl _ _) | (with_reducible assumption) | (with_reducible refine Later.step ?_ ?_ _) | (with_reducible refine Below.alloc ?_ ?_ _) | (with_reducible refine Below.drew ?_) | (with_reducible refine bel_drewN ?_ _) | (with_reducible refine bel_grown ?_ (by assumption) ?_ ?_) | (with_reducible refine Below.setCell ?_ ?_ _) | go_size)), HC1.out, HC0.out, grown_of_below (by repeat' (first | (with_reducible exact Below.refl _ _) | (with_reducible assumption) | (with_reducible refine Later.step ?_ ?_ _) | (with_reducible refine Below.alloc ?_ ?_ _) | (with_reducible refine Below.drew ?_) | (with_reducible refine bel_drewN ?_ _) | (with_reducible refine bel_grown ?_ (by assumption) ?_ ?_) | (with_reducible refine Below.setCell ?_ ?_ _) | go_size)) _, by go_size⟩
  case round =>
    obtain ⟨k, hk, rfl, hrd, hca, hcr, hgr, hsz⟩ := hrel
    obtain ⟨X, rfl⟩ : ∃ Z : Later q w, wr = Z.w := ⟨⟨wr, below_of_grown hgr.out (by omega)⟩, rfl⟩
    by_cases hlt : k < 4
    · have PN := Lib.hid (rnumber_any q (off + 2 * k) 2 L X.w hrd.out HS.out (by decide) (by decide) (by omega))
      go_wp2_with fail
      refine PN.out.mono ?_
      rintro e w2 ⟨rfl, hp⟩
      have ha2 := (hca.out.grown hp.2 (by omega))
      have hr2 := (hcr.out.grown hp.2 (by omega))
      have hs2 := hp.2.size
      have hcell := ha2.2 k (by omega)
      have HR2 := Lib.hid hp.1
      have HG2 := Lib.hid (grown_trans hgr.out hp.2)
      have HA2 := Lib.hid ha2
      have HC2 := Lib.hid hr2
      obtain ⟨Y, rfl⟩ : ∃ Z : Later q X.w, w2 = Z.w := ⟨⟨w2, hp.below (by omega)⟩, rfl⟩
      clear hp ha2 hr2
      go_wp2
      go_roundw
      case rel =>
        refine ⟨k + 1, by omega, by go_num, ?_, ?_, ?_, ?_, by go_size⟩
        · have h9 := HR2.out
          rw [show off + 2 * k + 2 = off + 2 * (k + 1) by omega] at h9
          exact h9.other (by go_size) _
        · have h9 := HA2.out.set (show k < 4 from hlt) (.int .i64 (numR L (off + 2 * k) 2))
          exact h9.congr fun j _ => rdRow_succ L off k j
        · exact HC2.out.other (by simp) _
        · exact grown_put HG2.out (by simp) _
      case measure => simp [intOf]; omega
    · have hk4 := Lib.hid (show k = 4 by omega)
      have HC := Lib.hid (fun (j : Nat) (hj : j < 4) => show X.w.cell? ⟨w.heap.size + 1, j, none⟩ = some (.int .i64 (numR L (off + 2 * j) 2)) by
        have h1 := (hca.out.2 j hj).1
        rwa [rdRow_lt (by omega)] at h1)
      have g0 : X.w.cell? ⟨w.heap.size + 1, 0, none⟩ = some (.int .i64 (numR L off 2)) := HC.out 0 (by omega)
      have g1 : X.w.cell? ⟨w.heap.size + 1, 1, none⟩ = some (.int .i64 (numR L (off + 2) 2)) := HC.out 1 (by omega)
      have g2 : X.w.cell? ⟨w.heap.size + 1, 2, none⟩ = some (.int .i64 (numR L (off + 4) 2)) := HC.out 2 (by omega)
      have g3 : X.w.cell? ⟨w.heap.size + 1, 3, none⟩ = some (.int .i64 (numR L (off + 6) 2)) := HC.out 3 (by omega)
      obtain ⟨r0, z0⟩ := hcr.out.2 0 (by omega)
      obtain ⟨r1, z1⟩ := hcr.out.2 1 (by omega)
      obtain ⟨r2, z2⟩ := hcr.out.2 2 (by omega)
      obtain ⟨r3, z3⟩ := hcr.out.2 3 (by omega)
      go_wp2
      refine bodyPost_ret (v := .agg #[.int .i64 (numR L off 2), .int .i64 (numR L (off + 2) 2), .int .i64 (numR L (off + 4) 2), .int .i64 (numR L (off + 6) 2)]) (by simp only [results, Try.results50]; go_simp; all_goals (first | rfl | simp [sel])) rfl ⟨rfl, ?_⟩
      have h9 : RdPost q L (off + 8) w X.w := ⟨by have := hrd.out; rwa [hk4.out] at this, hgr.out⟩
      repeat' (first | exact h9 | refine RdPost.other ?_ (by simp) (by omega) _)
end Go.Proofs.Ytdjkhcnejbinjaa
