/- How two structs are compared, for each struct type that the texts compare. Printed by geneq.py. -/
import Derived.Test.YtbkaeoaepmeceaaEq
namespace Go.Proofs.Ytbkaeoaepmeceaa
set_option maxRecDepth 100000
open Go.RowKit
set_option linter.unusedVariables false

theorem eqagg_seqid : EqAgg Try.prog 35 [some .u16, some .u32, some .u32] 2 := eq_agg (P := Try.prog) (m := 0) [[some .u16], [some .u32], [some .u32]] Try.underlying35 (by kernel_rfl) (by kernel_rfl) ⟨⟨eq_int Try.underlying29, rfl, rfl⟩, ⟨eq_int Try.underlying30, rfl, rfl⟩, ⟨eq_int Try.underlying30, rfl, rfl⟩, trivial⟩
@[go_sem high] theorem run_eql_seqid (a0 a1 a2 : Int) (b0 b1 b2 : Int) (w : World) : (binOp .eql 35 (.agg #[.int .u16 a0, .int .u32 a1, .int .u32 a2]) (.agg #[.int .u16 b0, .int .u32 b1, .int .u32 b2])).run Try.prog w = .ok (.bool ((a0 == b0 && (a1 == b1 && (a2 == b2))))) w := by
  have h := run_eql_ks eqagg_seqid (by decide) w [.int .u16 a0, .int .u32 a1, .int .u32 a2] [.int .u16 b0, .int .u32 b1, .int .u32 b2] ⟨⟨_, rfl⟩, ⟨_, rfl⟩, ⟨_, rfl⟩, trivial⟩ ⟨⟨_, rfl⟩, ⟨_, rfl⟩, ⟨_, rfl⟩, trivial⟩
  rw [show (#[.int .u16 a0, .int .u32 a1, .int .u32 a2] : Array Value) = ([.int .u16 a0, .int .u32 a1, .int .u32 a2] : List Value).toArray from rfl, show (#[.int .u16 b0, .int .u32 b1, .int .u32 b2] : Array Value) = ([.int .u16 b0, .int .u32 b1, .int .u32 b2] : List Value).toArray from rfl, h]
  simp only [eqCells, cellEq, Bool.and_true]
@[go_sem high] theorem run_neq_seqid (a0 a1 a2 : Int) (b0 b1 b2 : Int) (w : World) : (binOp .neq 35 (.agg #[.int .u16 a0, .int .u32 a1, .int .u32 a2]) (.agg #[.int .u16 b0, .int .u32 b1, .int .u32 b2])).run Try.prog w = .ok (.bool (!(a0 == b0 && (a1 == b1 && (a2 == b2))))) w := by
  have h := run_neq_ks eqagg_seqid (by decide) w [.int .u16 a0, .int .u32 a1, .int .u32 a2] [.int .u16 b0, .int .u32 b1, .int .u32 b2] ⟨⟨_, rfl⟩, ⟨_, rfl⟩, ⟨_, rfl⟩, trivial⟩ ⟨⟨_, rfl⟩, ⟨_, rfl⟩, ⟨_, rfl⟩, trivial⟩
  rw [show (#[.int .u16 a0, .int .u32 a1, .int .u32 a2] : Array Value) = ([.int .u16 a0, .int .u32 a1, .int .u32 a2] : List Value).toArray from rfl, show (#[.int .u16 b0, .int .u32 b1, .int .u32 b2] : Array Value) = ([.int .u16 b0, .int .u32 b1, .int .u32 b2] : List Value).toArray from rfl, h]
  simp only [eqCells, cellEq, Bool.and_true]
theorem eqagg_netkey : EqAgg Try.prog 25 [some .u64, some .i64, some .u64, some .u64, some .u64] 2 := eq_agg (P := Try.prog) (m := 0) [[some .u64], [some .i64], [some .u64], [some .u64], [some .u64]] Try.underlying25 (by kernel_rfl) (by kernel_rfl) ⟨⟨eq_int Try.underlying23, rfl, rfl⟩, ⟨eq_int Try.underlying3, rfl, rfl⟩, ⟨eq_int Try.underlying23, rfl, rfl⟩, ⟨eq_int Try.underlying23, rfl, rfl⟩, ⟨eq_int Try.underlying23, rfl, rfl⟩, trivial⟩
@[go_sem high] theorem run_eql_netkey (a0 a1 a2 a3 a4 : Int) (b0 b1 b2 b3 b4 : Int) (w : World) : (binOp .eql 25 (.agg #[.int .u64 a0, .int .i64 a1, .int .u64 a2, .int .u64 a3, .int .u64 a4]) (.agg #[.int .u64 b0, .int .i64 b1, .int .u64 b2, .int .u64 b3, .int .u64 b4])).run Try.prog w = .ok (.bool ((a0 == b0 && (a1 == b1 && (a2 == b2 && (a3 == b3 && (a4 == b4))))))) w := by
  have h := run_eql_ks eqagg_netkey (by decide) w [.int .u64 a0, .int .i64 a1, .int .u64 a2, .int .u64 a3, .int .u64 a4] [.int .u64 b0, .int .i64 b1, .int .u64 b2, .int .u64 b3, .int .u64 b4] ⟨⟨_, rfl⟩, ⟨_, rfl⟩, ⟨_, rfl⟩, ⟨_, rfl⟩, ⟨_, rfl⟩, trivial⟩ ⟨⟨_, rfl⟩, ⟨_, rfl⟩, ⟨_, rfl⟩, ⟨_, rfl⟩, ⟨_, rfl⟩, trivial⟩
  rw [show (#[.int .u64 a0, .int .i64 a1, .int .u64 a2, .int .u64 a3, .int .u64 a4] : Array Value) = ([.int .u64 a0, .int .i64 a1, .int .u64 a2, .int .u64 a3, .int .u64 a4] : List Value).toArray from rfl, show (#[.int .u64 b0, .int .i64 b1, .int .u64 b2, .int .u64 b3, .int .u64 b4] : Array Value) = ([.int .u64 b0, .int .i64 b1, .int .u64 b2, .int .u64 b3, .int .u64 b4] : List Value).toArray from rfl, h]
  simp only [eqCells, cellEq, Bool.and_true]
@[go_sem high] theorem run_neq_netkey (a0 a1 a2 a3 a4 : Int) (b0 b1 b2 b3 b4 : Int) (w : World) : (binOp .neq 25 (.agg #[.int .u64 a0, .int .i64 a1, .int .u64 a2, .int .u64 a3, .int .u64 a4]) (.agg #[.int .u64 b0, .int .i64 b1, .int .u64 b2, .int .u64 b3, .int .u64 b4])).run Try.prog w = .ok (.bool (!(a0 == b0 && (a1 == b1 && (a2 == b2 && (a3 == b3 && (a4 == b4))))))) w := by
  have h := run_neq_ks eqagg_netkey (by decide) w [.int .u64 a0, .int .i64 a1, .int .u64 a2, .int .u64 a3, .int .u64 a4] [.int .u64 b0, .int .i64 b1, .int .u64 b2, .int .u64 b3, .int .u64 b4] ⟨⟨_, rfl⟩, ⟨_, rfl⟩, ⟨_, rfl⟩, ⟨_, rfl⟩, ⟨_, rfl⟩, trivial⟩ ⟨⟨_, rfl⟩, ⟨_, rfl⟩, ⟨_, rfl⟩, ⟨_, rfl⟩, ⟨_, rfl⟩, trivial⟩
  rw [show (#[.int .u64 a0, .int .i64 a1, .int .u64 a2, .int .u64 a3, .int .u64 a4] : Array Value) = ([.int .u64 a0, .int .i64 a1, .int .u64 a2, .int .u64 a3, .int .u64 a4] : List Value).toArray from rfl, show (#[.int .u64 b0, .int .i64 b1, .int .u64 b2, .int .u64 b3, .int .u64 b4] : Array Value) = ([.int .u64 b0, .int .i64 b1, .int .u64 b2, .int .u64 b3, .int .u64 b4] : List Value).toArray from rfl, h]
  simp only [eqCells, cellEq, Bool.and_true]
end Go.Proofs.Ytbkaeoaepmeceaa
