/- Contracts of the functions of layer 1 (serial) and of its reference. -/
import Derived.Test.YtbkaeoaepmeceaaRows
import Derived.Test.YtbkaeoaepmeceaaSerFn
import Derived.ProofKit
import Derived.OpenShut
import Derived.Handy
import Derived.Lib.Hide
import Derived.BigQuiet
import Derived.Deep.QuietTactic
namespace Go.Proofs.Ytbkaeoaepmeceaa
set_option maxRecDepth 100000
open Go.ChangeShapes Go.WideShapes Go.ChangeAt Go.RowKit
set_option linter.unusedVariables false

theorem ret_int {k : IntKind} {a b : Int} (h : a = b) : Ending.returned (.int k a) = .returned (.int k b) := by rw [h]
theorem ret_bool {a b : Bool} (h : a = b) : Ending.returned (.bool a) = .returned (.bool b) := by rw [h]

theorem serial_Low (n : BitVec 64) (b : Int) (w : World) :
    Calls Try.prog 77 #[.int .u64 (W64 n), .int .i64 b] w fun e w' => e = .returned (.int .u64 (W64 (low n b))) ∧ w = w' := by
  go_enter Try.func77, Try.ntmps77
  go_wp2
  · go_ret; exact ⟨ret_int (by unfold low; rw [if_pos (by assumption)]; rfl), rfl⟩
  · go_ret; exact ⟨ret_int (by unfold low; rw [if_neg (by omega), if_pos (by assumption)]), rfl⟩
  · go_ret; exact ⟨ret_int (by unfold low; rw [if_neg (by omega), if_neg (by omega)]), rfl⟩
end Go.Proofs.Ytbkaeoaepmeceaa
