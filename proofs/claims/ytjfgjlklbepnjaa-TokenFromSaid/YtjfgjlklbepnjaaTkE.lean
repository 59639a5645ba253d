/- Two grants, two tickets compared: the model's equality. No condition. -/
import Derived.Test.YtjfgjlklbepnjaaTkP
import Derived.Test.YtjfgjlklbepnjaaTail
import Derived.Laws.StructEq
namespace Go.Proofs.Ytjfgjlklbepnjaa
open Go.RowKit
set_option linter.unusedSimpArgs false
set_option linter.unusedVariables false
set_option maxRecDepth 4000

set_option maxHeartbeats 4000000 in
theorem eqIn_grant (x y : Gr) (w : World) : (Op.equalIn 10000 30 (.agg #[.int .i64 x.ops, .int .i64 x.zoom, .int .i64 x.a, .int .i64 x.b, .int .i64 x.c, .int .i64 x.d, .bool x.void, .int .i64 x.til]) (.agg #[.int .i64 y.ops, .int .i64 y.zoom, .int .i64 y.a, .int .i64 y.b, .int .i64 y.c, .int .i64 y.d, .bool y.void, .int .i64 y.til])).run Try.prog w = .ok (eqG x y) w := by
  have hS : Try.prog.underlying 30 = some (.struct (Try.prog.fieldsOf 30)) := by kernel_rfl
  have hp : Try.prog.stoodInHeld 30 = false := by kernel_rfl
  obtain ⟨o, z, a, b, c, d1, v, t⟩ := x
  obtain ⟨o', z', a', b', c', d1', v', t'⟩ := y
  rw [show (10000 : Nat) = 9999 + 1 from rfl, run_equalIn_agg w 9999 30 _ _ hS hp]
  unfold eqG
  simp only [Program.fieldsOf, Try.underlying30]
  clear hS hp
  go_simp
  repeat' split
  all_goals simp_all
theorem eql_grant (x y : Gr) (w : World) : (binOp .eql 30 (.agg #[.int .i64 x.ops, .int .i64 x.zoom, .int .i64 x.a, .int .i64 x.b, .int .i64 x.c, .int .i64 x.d, .bool x.void, .int .i64 x.til]) (.agg #[.int .i64 y.ops, .int .i64 y.zoom, .int .i64 y.a, .int .i64 y.b, .int .i64 y.c, .int .i64 y.d, .bool y.void, .int .i64 y.til])).run Try.prog w = .ok (.bool (eqG x y)) w := by
  rw [run_eql_struct, eqIn_grant]
  rfl
theorem neq_grant (x y : Gr) (w : World) : (binOp .neq 30 (.agg #[.int .i64 x.ops, .int .i64 x.zoom, .int .i64 x.a, .int .i64 x.b, .int .i64 x.c, .int .i64 x.d, .bool x.void, .int .i64 x.til]) (.agg #[.int .i64 y.ops, .int .i64 y.zoom, .int .i64 y.a, .int .i64 y.b, .int .i64 y.c, .int .i64 y.d, .bool y.void, .int .i64 y.til])).run Try.prog w = .ok (.bool (!eqG x y)) w := by
  rw [run_neq_struct, eqIn_grant]
  rfl
set_option maxHeartbeats 4000000 in
theorem eqIn_ticket (x y : Tk) (w : World) : (Op.equalIn 10000 35 (.agg #[.int .u64 (x.s : Nat), .int .u64 (x.p : Nat), .int .i64 x.g.ops, .int .i64 x.g.zoom, .int .i64 x.g.a, .int .i64 x.g.b, .int .i64 x.g.c, .int .i64 x.g.d, .bool x.g.void, .int .i64 x.g.til]) (.agg #[.int .u64 (y.s : Nat), .int .u64 (y.p : Nat), .int .i64 y.g.ops, .int .i64 y.g.zoom, .int .i64 y.g.a, .int .i64 y.g.b, .int .i64 y.g.c, .int .i64 y.g.d, .bool y.g.void, .int .i64 y.g.til])).run Try.prog w = .ok (eqT x y) w := by
  have hS : Try.prog.underlying 35 = some (.struct (Try.prog.fieldsOf 35)) := by kernel_rfl
  have hp : Try.prog.stoodInHeld 35 = false := by kernel_rfl
  obtain ⟨s, p, o, z, a, b, c, d1, v, t⟩ := x
  obtain ⟨s', p', o', z', a', b', c', d1', v', t'⟩ := y
  rw [show (10000 : Nat) = 9999 + 1 from rfl, run_equalIn_agg w 9999 35 _ _ hS hp]
  unfold eqT eqG
  simp only [Program.fieldsOf, Try.underlying35]
  clear hS hp
  go_simp
  repeat' split
  all_goals first | (simp_all; done) | (simp_all; omega) | (simp_all [Int.ofNat_inj]; done)
theorem eql_ticket (x y : Tk) (w : World) : (binOp .eql 35 (.agg #[.int .u64 (x.s : Nat), .int .u64 (x.p : Nat), .int .i64 x.g.ops, .int .i64 x.g.zoom, .int .i64 x.g.a, .int .i64 x.g.b, .int .i64 x.g.c, .int .i64 x.g.d, .bool x.g.void, .int .i64 x.g.til]) (.agg #[.int .u64 (y.s : Nat), .int .u64 (y.p : Nat), .int .i64 y.g.ops, .int .i64 y.g.zoom, .int .i64 y.g.a, .int .i64 y.g.b, .int .i64 y.g.c, .int .i64 y.g.d, .bool y.g.void, .int .i64 y.g.til])).run Try.prog w = .ok (.bool (eqT x y)) w := by
  rw [run_eql_struct, eqIn_ticket]
  rfl
theorem neq_ticket (x y : Tk) (w : World) : (binOp .neq 35 (.agg #[.int .u64 (x.s : Nat), .int .u64 (x.p : Nat), .int .i64 x.g.ops, .int .i64 x.g.zoom, .int .i64 x.g.a, .int .i64 x.g.b, .int .i64 x.g.c, .int .i64 x.g.d, .bool x.g.void, .int .i64 x.g.til]) (.agg #[.int .u64 (y.s : Nat), .int .u64 (y.p : Nat), .int .i64 y.g.ops, .int .i64 y.g.zoom, .int .i64 y.g.a, .int .i64 y.g.b, .int .i64 y.g.c, .int .i64 y.g.d, .bool y.g.void, .int .i64 y.g.til])).run Try.prog w = .ok (.bool (!eqT x y)) w := by
  rw [run_neq_struct, eqIn_ticket]
  rfl
end Go.Proofs.Ytjfgjlklbepnjaa
