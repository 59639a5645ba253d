/- The layer's fixed calls, walked. No condition. -/
import Derived.Test.YthoanoaigfcchaaClI
namespace Go.Proofs.Ythoanoaigfcchaa
open Go.RowKit Go.Maps
set_option linter.unusedSimpArgs false
set_option linter.unusedVariables false
set_option maxRecDepth 4000

def knownQ : List (Int × Int) := [(0, 0), (1, 0), (0, 1), (0, 1)]
theorem known_lv : lvA (cntP knownQ) 2 2 0 0 0 = 1 := by kernel_rfl
theorem known_v : lvV (cntP knownQ) 2 2 0 0 0 = .agg #[.int .i64 0, .int .i64 0, .int .i64 1, .int .i64 0, .int .i64 16, .int .i64 0, .int .i64 0, .int .i64 1, .int .i64 2] := by kernel_rfl
theorem cntF_bd {F : Nat → Nat → Int} {P : List (Int × Int)} (h : FitsF F P) (hg : GoodP P) (hn : P.length ≤ 60) : ∀ l x y, 0 ≤ cntF F l x y ∧ cntF F l x y ≤ 1000000 := fun l x y => by
  rw [cnt_same h hg]
  have := cntP_bd (P := P) l x y
  omega
theorem cntF_eq {F : Nat → Nat → Int} {P Q : List (Int × Int)} (h : FitsF F P) (hg : GoodP P) (hp : P.Perm Q) : cntF F = cntP Q := by
  funext l x y
  rw [cnt_same h hg, cntP_perm hp]
set_option maxHeartbeats 8000000 in
theorem k_find (q n : Nat) (F : Nat → Nat → Int) (P : List (Int × Int)) (w : World) (h : Pyr w q n F) (hF : FitsF F P) (hg : GoodP P) (hp : P.Perm knownQ) :
    Calls Try.prog 11 #[.pointer (some ⟨q, 0, none⟩), .agg #[.int .i64 0, .int .i64 0], .agg #[.int .i64 2, .int .u64 2]] w fun e w' => e = .returned (.tuple #[.agg #[.int .i64 0, .int .i64 0, .int .i64 1, .int .i64 0, .int .i64 16, .int .i64 0, .int .i64 0, .int .i64 1, .int .i64 2], .int .i64 0]) ∧ Below w.heap.size w w' := by
  have hl : P.length = 4 := hp.length_eq
  refine (find_any 0 0 2 2 q n F w h (by decide) (by decide) (cntF_bd hF hg (by omega))).mono ?_
  rw [cntF_eq hF hg hp]
  rintro e w' ⟨hc, hb⟩
  refine ⟨?_, hb⟩
  rcases hc with ⟨j, hj, hall, hne, rfl⟩ | ⟨hall, rfl⟩
  · have hj0 : j = 0 := by
      rcases Nat.eq_zero_or_pos j with h0 | h0
      · exact h0
      · have := hall 0 h0
        rw [known_lv] at this
        cases this
    subst hj0
    rw [known_v]
  · have := hall 0 (by omega)
    rw [known_lv] at this
    cases this
set_option maxHeartbeats 8000000 in
theorem cknown_any (w : World) : Calls Try.prog 10 #[] w fun e w' => e = .returned (.bool true) ∧ Below w.heap.size w w' := by
  have PB := Lib.hid (fun (Y : World) (hY : Pts Y Y.heap.size (some ⟨w.heap.size, 0, none⟩) knownQ) => built_any (some ⟨w.heap.size, 0, none⟩) 4 knownQ Y hY (by decide))
  go_enter Try.func10, Try.ntmps10
  go_wp2_with fail
  refine (PB.out _ (fun _ => ⟨w.heap.size, 0, rfl, by simp, fun i hi => by
    rcases (show i = 0 ∨ i = 1 ∨ i = 2 ∨ i = 3 by have : i < 4 := hi; omega) with rfl | rfl | rfl | rfl
    all_goals exact ⟨by go_simp; rfl, by go_simp; rfl⟩⟩)).mono ?_
  rintro e w1 ⟨hc, hb⟩
  have hs1 := hb.size
  simp only [World.size_alloc] at hs1
  rcases hc with ⟨_, q, n, F, A, c, P, rfl, hP, hF, hg, hp, hA⟩ | ⟨hbig, _⟩
  · have hp2 : P.Perm knownQ := hp
    have hl : P.length = 4 := hp2.length_eq
    rw [hl]
    have PFD := Lib.hid (fun (Y : World) (hY : Below w1.heap.size w1 Y) => k_find q n F P Y (hP.keep hY) hF hg hp2)
    have hb1 : Below w.heap.size w w1 := Below.trans (b := w.alloc (Obj.cells #[.int .i64 0, .int .i64 0, .int .i64 1, .int .i64 0, .int .i64 0, .int .i64 1, .int .i64 0, .int .i64 1] 24)) (by repeat' (first | (with_reducible exact Below.refl _ _) | (with_reducible assumption) | (with_reducible refine Later.step ?_ ?_ _) | (with_reducible refine Below.alloc ?_ ?_ _) | (with_reducible refine Below.drew ?_) | (with_reducible refine Below.setCell ?_ ?_ _) | go_size)) (hb.mono (by simp))
    obtain ⟨X1, rfl⟩ : ∃ Z : Later w.heap.size w, w1 = Z.w := ⟨⟨w1, hb1⟩, rfl⟩
    clear hb hb1 hP hF hg hp hA hp2 hl
    go_wp2_with (first
      | (go_at_call 11; refine (PFD.out _ (by repeat' (first | (with_reducible exact Below.refl _ _) | (with_reducible assumption) | (with_reducible refine Later.step ?_ ?_ _) | (with_reducible refine Below.alloc ?_ ?_ _) | (with_reducible refine Below.drew ?_) | (with_reducible refine bel_drewN ?_ _) | (with_reducible refine bel_grown ?_ (by assumption) ?_ ?_) | (with_reducible refine Below.setCell ?_ ?_ _) | go_size))).mono ?_; rintro e w' ⟨rfl, hb⟩; obtain ⟨X2, rfl, hl2, hm2⟩ := later _ hb (Nat.le_refl _); clear hb; (try simp only [World.size_alloc, World.size_setCell, World.size_drew] at hm2 hl2)))
    go_ret
    exact ⟨rfl, by repeat' (first | (with_reducible exact Below.refl _ _) | (with_reducible assumption) | (with_reducible refine Later.step ?_ ?_ _) | (with_reducible refine Below.alloc ?_ ?_ _) | (with_reducible refine Below.drew ?_) | (with_reducible refine bel_drewN ?_ _) | (with_reducible refine bel_grown ?_ (by assumption) ?_ ?_) | (with_reducible refine Below.setCell ?_ ?_ _) | go_size)⟩
  · exact absurd hbig (by decide)
end Go.Proofs.Ythoanoaigfcchaa
