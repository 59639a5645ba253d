/- Two answers that are the same, compared by the document. No condition beyond what the slices read as. -/
import Derived.Test.YtdjkhcnejbinjaaRepE
namespace Go.Proofs.Ytdjkhcnejbinjaa
open Go.RowKit
set_option linter.unusedSimpArgs false
set_option linter.unusedVariables false
set_option maxRecDepth 2000

set_option maxHeartbeats 8000000 in
theorem asame_true (s k id x y lab b0 b1 b2 b3 : Int) (A1 A2 A3 A4 : Option Addr) (ns ne c1 c2 c3 c4 : Nat) (f g : Nat → Nat → Int) (w : World) (h1 : IsItems w w.heap.size A1 ns 6 f) (h2 : IsItems w w.heap.size A2 ne 4 g) (h3 : IsItems w w.heap.size A3 ns 6 f) (h4 : IsItems w w.heap.size A4 ne 4 g) (hn1 : ns ≤ 9223372036854775807) (hn2 : ne ≤ 9223372036854775807) :
    Calls Try.prog 19 #[.agg #[.int .i64 s, .int .u64 k, .int .i64 id, .int .i64 x, .int .i64 y, .int .i64 lab, .int .i64 b0, .int .i64 b1, .int .i64 b2, .int .i64 b3, .slice A1 ns c1, .slice A2 ne c2], .agg #[.int .i64 s, .int .u64 k, .int .i64 id, .int .i64 x, .int .i64 y, .int .i64 lab, .int .i64 b0, .int .i64 b1, .int .i64 b2, .int .i64 b3, .slice A3 ns c3, .slice A4 ne c4]] w fun e w' => e = .returned (.bool true) ∧ Below w.heap.size w w' := by
  have H1 := Lib.hid h1
  have H2 := Lib.hid h2
  have H3 := Lib.hid h3
  have H4 := Lib.hid h4
  clear h1 h2 h3 h4
  go_enter Try.func19, Try.ntmps19
  go_wp2
  go_loopw [5] (fun i wr => ∃ kk : Nat, kk ≤ ns ∧ i = .int .i64 kk ∧ Below (w.heap.size + 2) ((w.alloc (Obj.cells #[.int .i64 s, .int .u64 k, .int .i64 id, .int .i64 x, .int .i64 y, .int .i64 lab, .int .i64 b0, .int .i64 b1, .int .i64 b2, .int .i64 b3, .slice A1 ns c1, .slice A2 ne c2] 38)).alloc (Obj.cells #[.int .i64 s, .int .u64 k, .int .i64 id, .int .i64 x, .int .i64 y, .int .i64 lab, .int .i64 b0, .int .i64 b1, .int .i64 b2, .int .i64 b3, .slice A3 ns c3, .slice A4 ne c4] 38)) wr) (fun i _ => ns - (intOf i).toNat)
  case atStart => exact ⟨0, Nat.zero_le _, rfl, Below.refl _ _⟩
  case round =>
    obtain ⟨kk, hk, rfl, hb⟩ := hrel
    have hsz := hb.size
    simp only [World.size_alloc] at hsz
    obtain ⟨X, rfl⟩ : ∃ Z : Later (w.heap.size + 2) ((w.alloc (Obj.cells #[.int .i64 s, .int .u64 k, .int .i64 id, .int .i64 x, .int .i64 y, .int .i64 lab, .int .i64 b0, .int .i64 b1, .int .i64 b2, .int .i64 b3, .slice A1 ns c1, .slice A2 ne c2] 38)).alloc (Obj.cells #[.int .i64 s, .int .u64 k, .int .i64 id, .int .i64 x, .int .i64 y, .int .i64 lab, .int .i64 b0, .int .i64 b1, .int .i64 b2, .int .i64 b3, .slice A3 ns c3, .slice A4 ne c4] 38)), wr = Z.w := ⟨⟨wr, hb⟩, rfl⟩
    clear hb
    by_cases hlt : kk < ns
    · obtain ⟨b, o, hA, hbl, hc⟩ := H1.out (by omega)
      obtain ⟨b', o', hA', hbl', hc'⟩ := H3.out (by omega)
      subst hA hA'
      have k0 := hc kk hlt 0 (by omega)
      have l0 := hc' kk hlt 0 (by omega)
      have k1 := hc kk hlt 1 (by omega)
      have l1 := hc' kk hlt 1 (by omega)
      have k2 := hc kk hlt 2 (by omega)
      have l2 := hc' kk hlt 2 (by omega)
      have k3 := hc kk hlt 3 (by omega)
      have l3 := hc' kk hlt 3 (by omega)
      have k4 := hc kk hlt 4 (by omega)
      have l4 := hc' kk hlt 4 (by omega)
      have k5 := hc kk hlt 5 (by omega)
      have l5 := hc' kk hlt 5 (by omega)
      rw [Nat.add_zero] at k0 l0
      clear hc hc'
      go_wp2
      go_quiet (fail)
      go_wp2
      go_roundw
      case rel => exact ⟨kk + 1, by omega, by go_num, by repeat' (first | (with_reducible exact Below.refl _ _) | (with_reducible assumption) | (with_reducible refine Later.step ?_ ?_ _) | (with_reducible refine Below.alloc ?_ ?_ _) | (with_reducible refine Below.drew ?_) | (with_reducible refine bel_drewN ?_ _) | (with_reducible refine bel_grown ?_ (by assumption) ?_ ?_) | (with_reducible refine Below.setCell ?_ ?_ _) | go_size)⟩
      case measure => simp [intOf]; omega
    · go_wp2
      go_loopw [6] (fun i wr => ∃ kk : Nat, kk ≤ ne ∧ i = .int .i64 kk ∧ Below (w.heap.size + 2) X.w wr) (fun i _ => ne - (intOf i).toNat)
      case atStart => exact ⟨0, Nat.zero_le _, rfl, Below.refl _ _⟩
      case round =>
        obtain ⟨kk, hk, rfl, hb⟩ := hrel
        have hsz2 := hb.size
        obtain ⟨Y, rfl⟩ : ∃ Z : Later (w.heap.size + 2) X.w, wr = Z.w := ⟨⟨wr, hb⟩, rfl⟩
        clear hb
        by_cases hlt : kk < ne
        · obtain ⟨b, o, hA, hbl, hc⟩ := H2.out (by omega)
          obtain ⟨b', o', hA', hbl', hc'⟩ := H4.out (by omega)
          subst hA hA'
          have k0 := hc kk hlt 0 (by omega)
          have l0 := hc' kk hlt 0 (by omega)
          have k1 := hc kk hlt 1 (by omega)
          have l1 := hc' kk hlt 1 (by omega)
          have k2 := hc kk hlt 2 (by omega)
          have l2 := hc' kk hlt 2 (by omega)
          have k3 := hc kk hlt 3 (by omega)
          have l3 := hc' kk hlt 3 (by omega)
          rw [Nat.add_zero] at k0 l0
          clear hc hc'
          go_wp2
          go_quiet (fail)
          go_wp2
          go_roundw
          case rel => exact ⟨kk + 1, by omega, by go_num, by repeat' (first | (with_reducible exact Below.refl _ _) | (with_reducible assumption) | (with_reducible refine Later.step ?_ ?_ _) | (with_reducible refine Below.alloc ?_ ?_ _) | (with_reducible refine Below.drew ?_) | (with_reducible refine bel_drewN ?_ _) | (with_reducible refine bel_grown ?_ (by assumption) ?_ ?_) | (with_reducible refine Below.setCell ?_ ?_ _) | go_size)⟩
          case measure => simp [intOf]; omega
        · go_wp2
          go_ret
          exact ⟨rfl, by repeat' (first | (with_reducible exact Below.refl _ _) | (with_reducible assumption) | (with_reducible refine Later.step ?_ ?_ _) | (with_reducible refine Below.alloc ?_ ?_ _) | (with_reducible refine Below.drew ?_) | (with_reducible refine bel_drewN ?_ _) | (with_reducible refine bel_grown ?_ (by assumption) ?_ ?_) | (with_reducible refine Below.setCell ?_ ?_ _) | go_size)⟩
end Go.Proofs.Ytdjkhcnejbinjaa
