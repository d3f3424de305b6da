/- Contract of octets.Take. -/
import Derived.Test.YtbkaeoaepmeceaaOct
namespace Go.Proofs.Ytbkaeoaepmeceaa
set_option maxRecDepth 100000
open Go.ChangeShapes Go.WideShapes Go.ChangeAt Go.RowKit
set_option linter.unusedVariables false
theorem info_u64 : (Try.prog.info? 22).map (fun i => (i.zero, i.size, i.bytes)) = some (some (.int .u64 0), 1, 8) := by kernel_rfl
def ncells (ns : List Nat) : List Value := ns.map fun n : Nat => .int .i64 (n : Int)
def sumTo (ns : List Nat) (k : Nat) : Nat := (ns.take k).sum
theorem sumTo_succ (ns : List Nat) (k : Nat) (h : k < ns.length) : sumTo ns (k + 1) = sumTo ns k + ns[k] := by
  unfold sumTo
  rw [List.take_succ_eq_append_getElem h, List.sum_append]
  simp
theorem sumTo_all (ns : List Nat) : sumTo ns ns.length = ns.sum := by unfold sumTo; rw [List.take_length]
theorem sumTo_le (ns : List Nat) (k : Nat) : sumTo ns k ≤ ns.sum := by
  have h := List.take_append_drop k ns
  have : ns.sum = sumTo ns k + (ns.drop k).sum := by
    conv => lhs; rw [← h, List.sum_append]
    rfl
  omega
/-- The numbers that the first k sizes take. -/
def valsTo (ns : List Nat) (bs : List (BitVec 8)) : Nat → List (BitVec 64)
  | 0 => []
  | k + 1 => valsTo ns bs k ++ [leVal ((bs.drop (sumTo ns k)).take (ns[k]?.getD 0))]
theorem valsTo_len (ns : List Nat) (bs : List (BitVec 8)) (k : Nat) : (valsTo ns bs k).length = k := by
  induction k with
  | zero => rfl
  | succ k ih => rw [valsTo, List.length_append, ih]; rfl
theorem valsTo_succ (ns : List Nat) (bs : List (BitVec 8)) (k : Nat) (h : k < ns.length) : valsTo ns bs (k + 1) = valsTo ns bs k ++ [leVal ((bs.drop (sumTo ns k)).take ns[k])] := by
  rw [valsTo, List.getElem?_eq_getElem h]; rfl
theorem leVal_step (bs : List (BitVec 8)) (o j : Nat) (h : o + j < bs.length) : leVal ((bs.drop o).take (j + 1)) = leVal ((bs.drop o).take j) ||| (bs[o + j].setWidth 64 <<< (8 * j)) := by
  have hd : j < (bs.drop o).length := by rw [List.length_drop]; omega
  rw [List.take_succ_eq_append_getElem hd, leVal_snoc, List.length_take, Nat.min_eq_left (by omega), List.getElem_drop]
end Go.Proofs.Ytbkaeoaepmeceaa
