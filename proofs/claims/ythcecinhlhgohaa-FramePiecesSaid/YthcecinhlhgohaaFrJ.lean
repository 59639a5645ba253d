/- A buffer and the document's one held against one another, walked. No condition beyond what the memory holds. -/
import Derived.Test.YthcecinhlhgohaaFrI
import Derived.Test.YthcecinhlhgohaaFrK
namespace Go.Proofs.Ythcecinhlhgohaa
open Go.RowKit
set_option linter.unusedSimpArgs false
set_option linter.unusedVariables false
set_option maxRecDepth 2000

set_option maxHeartbeats 4000000 in
theorem fsame_any (q room over : Nat) (l : List Nat) (A : Option Addr) (c : Nat) (w : World) (h : Buf w q room l over) (ha : Reads .u8 w w.heap.size A l.length (atI l)) (hc : l.length ≤ c ∧ c ≤ 9223372036854775807) (hs : Small l) (hov : 0 < l.length → over = 0) (ho : over ≤ 1000000) (hr : room ≤ 4096) (hl : l.length ≤ room) :
    Calls Try.prog 20 #[.pointer (some ⟨q, 0, none⟩), .agg #[.int .i64 room, .slice A l.length c, .int .i64 over]] w fun e w' => e = .returned (.bool true) ∧ Below w.heap.size w w' := by
  have hq := h.lt
  have P1 := Lib.hid (fun (X : World) (hX : Below w.heap.size w X) => rnext_any room over A c l X ((ha.keep hX).more hX.size) hc hs hov ho (by omega))
  have P2 := Lib.hid (fun (X : World) (hX : Below w.heap.size w X) => waiting_any q room over l X (h.keep hX) (by omega))
  have P3 := Lib.hid (fun (X : World) (hX : Below w.heap.size w X) => over_any q room over l X (h.keep hX) ho)
  have P4 := Lib.hid (fun (X : World) (hX : Below w.heap.size w X) => ready_any q room over l X (h.keep hX) hs (by omega))
  clear h ha
  go_enter Try.func20, Try.ntmps20
  go_wp2_with fail
  refine (P1.out _ (by repeat' (first | (with_reducible exact Below.refl _ _) | (with_reducible assumption) | (with_reducible refine Later.step ?_ ?_ _) | (with_reducible refine Below.alloc ?_ ?_ _) | (with_reducible refine Below.drew ?_) | (with_reducible refine bel_drewN ?_ _) | (with_reducible refine bel_grown ?_ (by assumption) ?_ ?_) | (with_reducible refine Below.setCell ?_ ?_ _) | go_size))).mono ?_
  rintro e w2 ⟨A2, c2, B2, d2, rfl, _, _, _, hb2, _, _⟩
  have hs2 : w.heap.size + 1 ≤ w2.heap.size := by have := hb2.size; simpa using this
  obtain ⟨X2, rfl⟩ : ∃ X : Later (w.heap.size + 1) (w.alloc (Obj.cells #[.int .i64 room, .slice A l.length c, .int .i64 over] 48)), w2 = X.w := ⟨⟨w2, by simpa using hb2⟩, rfl⟩
  clear hb2
  generalize hnn : l.length = n at *
  clear hnn
  go_wp2
  (refine wp_region_later (w.heap.size + 1) (by kernel_rfl) (by kernel_rfl) (by go_size) ?_; (repeat (go_big_quiet_step ((first | (go_at_call 17; exact Later.call _ (Nat.le_trans (by go_size) (Later.is _).size) (P2.out _ (by repeat' (first | (with_reducible exact Below.refl _ _) | (with_reducible assumption) | (with_reducible refine Later.step ?_ ?_ _) | (with_reducible refine Below.alloc ?_ ?_ _) | (with_reducible refine Below.drew ?_) | (with_reducible refine bel_drewN ?_ _) | (with_reducible refine bel_grown ?_ (by assumption) ?_ ?_) | (with_reducible refine Below.setCell ?_ ?_ _) | go_size)))) | (go_at_call 21; exact Later.call _ (Nat.le_trans (by go_size) (Later.is _).size) (P3.out _ (by repeat' (first | (with_reducible exact Below.refl _ _) | (with_reducible assumption) | (with_reducible refine Later.step ?_ ?_ _) | (with_reducible refine Below.alloc ?_ ?_ _) | (with_reducible refine Below.drew ?_) | (with_reducible refine bel_drewN ?_ _) | (with_reducible refine bel_grown ?_ (by assumption) ?_ ?_) | (with_reducible refine Below.setCell ?_ ?_ _) | go_size)))) | (go_at_call 22; exact Later.call _ (Nat.le_trans (by go_size) (Later.is _).size) (P4.out _ (by repeat' (first | (with_reducible exact Below.refl _ _) | (with_reducible assumption) | (with_reducible refine Later.step ?_ ?_ _) | (with_reducible refine Below.alloc ?_ ?_ _) | (with_reducible refine Below.drew ?_) | (with_reducible refine bel_drewN ?_ _) | (with_reducible refine bel_grown ?_ (by assumption) ?_ ?_) | (with_reducible refine Below.setCell ?_ ?_ _) | go_size)))))))); refine wpQuiet_nil ?_; intro Xq hlq hmq)
  go_wp2
  go_ret
  exact ⟨rfl, by repeat' (first | (with_reducible exact Below.refl _ _) | (with_reducible assumption) | (with_reducible refine Later.step ?_ ?_ _) | (with_reducible refine Below.alloc ?_ ?_ _) | (with_reducible refine Below.drew ?_) | (with_reducible refine bel_drewN ?_ _) | (with_reducible refine bel_grown ?_ (by assumption) ?_ ?_) | (with_reducible refine Below.setCell ?_ ?_ _) | go_size)⟩
end Go.Proofs.Ythcecinhlhgohaa
