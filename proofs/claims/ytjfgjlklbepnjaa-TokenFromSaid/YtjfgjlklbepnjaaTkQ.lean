/- Operations in a row: what it reads as; tables played, as values. No condition. -/
import Derived.Test.YtjfgjlklbepnjaaTkM
namespace Go.Proofs.Ytjfgjlklbepnjaa
open Go.RowKit
set_option linter.unusedSimpArgs false
set_option linter.unusedVariables false
set_option maxRecDepth 2000

def op0 : OpT := ⟨0, 0, 0, g0, 0⟩
def opC (x : OpT) (j : Nat) : Value := ([.int .i64 x.kind, .int .u64 (x.fr : Nat), .int .u64 (x.draw : Nat), .int .i64 x.g.ops, .int .i64 x.g.zoom, .int .i64 x.g.a, .int .i64 x.g.b, .int .i64 x.g.c, .int .i64 x.g.d, .bool x.g.void, .int .i64 x.g.til, .int .i64 x.now] : List Value).getD j undef
/-- A slice that reads as operations. -/
def Ops (w : World) (B : Nat) (A : Option Addr) (L : List OpT) : Prop := 0 < L.length → ∃ b o, A = some ⟨b, o, none⟩ ∧ b < B ∧ ∀ i, i < L.length → ∀ j, j < 12 → w.cell? ⟨b, o + i * 12 + j, none⟩ = some (opC (L.getD i op0) j)
theorem Ops.keep {w w' : World} {B : Nat} {A : Option Addr} {L : List OpT} (h : Ops w B A L) (hb : Below B w w') : Ops w' B A L := fun hn => by
  obtain ⟨b, o, rfl, hlt, hc⟩ := h hn
  exact ⟨b, o, rfl, hlt, fun i hi j hj => (hb.cell (p := ⟨b, o + i * 12 + j, none⟩) hlt).trans (hc i hi j hj)⟩
theorem Ops.more {w : World} {B B' : Nat} {A : Option Addr} {L : List OpT} (h : Ops w B A L) (hb : B ≤ B') : Ops w B' A L := fun hn => by
  obtain ⟨b, o, rfl, hlt, hc⟩ := h hn
  exact ⟨b, o, rfl, Nat.lt_of_lt_of_le hlt hb, hc⟩
theorem ops_at {w : World} {B i : Nat} {C : Option Addr} {L : List OpT} (h : Ops w B C L) (hi : i < L.length) : ∃ b o, C = some ⟨b, o, none⟩ ∧ b < B ∧ w.cell? ⟨b, o + i * 12, none⟩ = some (.int .i64 (L.getD i op0).kind) ∧ w.cell? ⟨b, o + i * 12 + 1, none⟩ = some (.int .u64 ((L.getD i op0).fr : Nat)) ∧ w.cell? ⟨b, o + i * 12 + 2, none⟩ = some (.int .u64 ((L.getD i op0).draw : Nat)) ∧ w.cell? ⟨b, o + i * 12 + 3, none⟩ = some (.int .i64 (L.getD i op0).g.ops) ∧ w.cell? ⟨b, o + i * 12 + 4, none⟩ = some (.int .i64 (L.getD i op0).g.zoom) ∧ w.cell? ⟨b, o + i * 12 + 5, none⟩ = some (.int .i64 (L.getD i op0).g.a) ∧ w.cell? ⟨b, o + i * 12 + 6, none⟩ = some (.int .i64 (L.getD i op0).g.b) ∧ w.cell? ⟨b, o + i * 12 + 7, none⟩ = some (.int .i64 (L.getD i op0).g.c) ∧ w.cell? ⟨b, o + i * 12 + 8, none⟩ = some (.int .i64 (L.getD i op0).g.d) ∧ w.cell? ⟨b, o + i * 12 + 9, none⟩ = some (.bool (L.getD i op0).g.void) ∧ w.cell? ⟨b, o + i * 12 + 10, none⟩ = some (.int .i64 (L.getD i op0).g.til) ∧ w.cell? ⟨b, o + i * 12 + 11, none⟩ = some (.int .i64 (L.getD i op0).now) := by
  obtain ⟨b, o, hA, hb, hc⟩ := h (by omega)
  have hk := hc i hi
  exact ⟨b, o, hA, hb, hk 0 (by decide), hk 1 (by decide), hk 2 (by decide), hk 3 (by decide), hk 4 (by decide), hk 5 (by decide), hk 6 (by decide), hk 7 (by decide), hk 8 (by decide), hk 9 (by decide), hk 10 (by decide), hk 11 (by decide)⟩
/-- Numbers that fit. -/
def U64o (L : List OpT) : Prop := ∀ i, i < L.length → (L.getD i op0).fr < 18446744073709551616 ∧ (L.getD i op0).draw < 18446744073709551616
/-- What one operation makes of a table's tickets; what operations make. -/
def stepT (T : List Tk) (x : OpT) : List Tk := if x.kind = 0 then makeT (leftT T x.now) 0 x.draw x.g else if x.kind = 1 then derT (leftT T x.now) x.fr x.draw x.g else if x.kind = 2 then revT (leftT T x.now) x.fr else T
def playN (L : List OpT) : Nat → List Tk
  | 0 => []
  | n + 1 => stepT (playN L n) (L.getD n op0)
def playT (L : List OpT) : List Tk := playN L (min L.length 40)
end Go.Proofs.Ytjfgjlklbepnjaa
