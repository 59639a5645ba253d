/- Of any profile it is told whether it may be, and what does: the statement walked. No condition. -/
import Derived.Test.YthoanoaigfcchaaClJ
namespace Go.Proofs.Ythoanoaigfcchaa
open Go.RowKit Go.Maps
set_option linter.unusedSimpArgs false
set_option linter.unusedVariables false
set_option maxRecDepth 2000

set_option maxHeartbeats 8000000 in
theorem does_law (K A c a x y : Int) (w : World) : Calls Try.prog 8 #[.agg #[.int .i64 K, .int .u64 A], .int .i64 c, .int .u64 a, .agg #[.int .i64 x, .int .i64 y]] w fun e w' => e = .returned (.bool true) ∧ Below w.heap.size w w' := by
  have P0 := Lib.hid (show ∀ Y : World, Calls Try.prog 11 #[.pointer none, .agg #[.int .i64 x, .int .i64 y], .agg #[.int .i64 K, .int .u64 A]] Y fun e w' => e = .returned (.tuple #[.agg #[.int .i64 0, .int .i64 0, .int .i64 0, .int .i64 0, .int .i64 0, .int .i64 0, .int .i64 0, .int .i64 0, .int .i64 0], .int .i64 3]) ∧ Below Y.heap.size Y w' from fun Y => find_nil undef undef x y K A Y)
  have p1 := cloakright_any K A
  have p2 := krright_any K A
  have p3 := cloakdoes_any K A c a
  have p4 := rdoes_any K A c a
  generalize rightK K = r at *
  generalize doesB K A c a = d at *
  have P1 := Lib.hid p1
  have P2 := Lib.hid p2
  have P3 := Lib.hid p3
  have P4 := Lib.hid p4
  have PK := Lib.hid cknown_any
  clear p1 p2 p3 p4
  go_enter Try.func8, Try.ntmps8
  go_wp2_with (first
    | (go_at_call 11; refine (P0.out _).mono ?_; rintro e w' ⟨rfl, hb⟩; obtain ⟨X1, rfl, hl1, hm1⟩ := later _ hb (Nat.le_refl _); clear hb; (try simp only [World.size_alloc, World.size_setCell, World.size_drew] at hm1 hl1)))
  (refine wp_region_later (X1.w.heap.size + 1) (by kernel_rfl) (by kernel_rfl) (by go_size) ?_; (repeat (go_big_quiet_step ((first | (go_at_call 24; exact Later.call _ (Nat.le_trans (by go_size) (Later.is _).size) (P1.out _)) | (go_at_call 13; exact Later.call _ (Nat.le_trans (by go_size) (Later.is _).size) (P2.out _)) | (go_at_call 22; exact Later.call _ (Nat.le_trans (by go_size) (Later.is _).size) (P3.out _)) | (go_at_call 23; exact Later.call _ (Nat.le_trans (by go_size) (Later.is _).size) (P4.out _)) | (go_at_call 10; exact Later.call _ (Nat.le_trans (by go_size) (Later.is _).size) (PK.out _)))))); refine wpQuiet_nil ?_; intro Xq hlq hmq)
  go_wp2
  go_ret
  exact ⟨rfl, by repeat' (first | (with_reducible exact Below.refl _ _) | (with_reducible assumption) | (with_reducible refine Later.step ?_ ?_ _) | (with_reducible refine Below.alloc ?_ ?_ _) | (with_reducible refine Below.drew ?_) | (with_reducible refine bel_drewN ?_ _) | (with_reducible refine bel_grown ?_ (by assumption) ?_ ?_) | (with_reducible refine Below.setCell ?_ ?_ _) | go_size)⟩
end Go.Proofs.Ythoanoaigfcchaa
