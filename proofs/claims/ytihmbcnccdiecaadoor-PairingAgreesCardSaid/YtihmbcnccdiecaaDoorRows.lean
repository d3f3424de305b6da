/-
  NARROWER THAN 'FOR EVERY INPUT', by the rows' own cells (each row's printed sentence says how): PairingEnds: laid · PairingSucceeds: laid · PairingKeysReplaced: laid · PairingAgrees: laid · PairingCompares: laid.
  DERIVED. THE GIVEN ROWS OF THIS SEAT. 5 by the template 'for every input the law returns true; each argument reads behind the call as it read before'; 0 by the template 'total and deterministic' (their statements: YtihmbcnccdiecaaDoorTotals.lean).
  GIVEN WITH THE SEED: the statements are not yours to turn. If you find one false, say at which input.
  Laid BY PROGRAM, IN A SANDBOX (cutbox-rows.mjs): the forced cells as the released guide's own fill.sh prints them over the translation 6f6d821ed04ed4af… (all of the seat's roots in one cut). By AI agents, Wed Nov 11 2026. No macro, syntax, notation, axiom, sorry.
-/
import Derived.Test.YtihmbcnccdiecaaDoorChecked
import GoSem.Claim
import GoSem.ClaimJoined
import GoSem.ClaimMapViews
import Derived.JoinedTies
import Derived.KernelRfl
namespace Go.Proofs.YtihmbcnccdiecaaDoor
/- THE CELL 'sum', in the pinned program and in every row, IS THE sha256 OF THE DUMP (.gsa) THAT YtihmbcnccdiecaaDoorProg.lean LOADS. Nothing in Lean hashes anything: it is a label: what it is worth is what the hold of that sum in a sandbox is worth. -/
noncomputable def Tryd.pinned : Pinned := { name := "ytihmbcnccdiecaadoor", sum := "6f6d821ed04ed4af3b341f7d630756de83dc0db82b22d43670b91eb143f965f9", checked := Tryd.checked }
namespace Rows
def none {H : Type} : Left H := { results := [], args := [] }

/- WHAT THE LISTED PACKAGE-LEVEL VARIABLES READ AS WHEN THE CALL BEGINS. Each datum BY PROGRAM (the guide's laid-datum.mjs) off the statement by which the dump's own 'gosem.cut.vars' lays the variable. In a bare row this is a premise. The card (YtihmbcnccdiecaaDoorCards.lean) ties it to the program's text. -/
def laid_wireless_method_table {H : Type} : DataW H := .agg [.agg [.lit (.int .i64 1), .lit (.int .i64 1), .lit (.int .i64 3), .lit (.int .i64 1), .lit (.int .i64 3)], .agg [.lit (.int .i64 1), .lit (.int .i64 2), .lit (.int .i64 3), .lit (.int .i64 1), .lit (.int .i64 2)], .agg [.lit (.int .i64 4), .lit (.int .i64 4), .lit (.int .i64 5), .lit (.int .i64 1), .lit (.int .i64 4)], .agg [.lit (.int .i64 1), .lit (.int .i64 1), .lit (.int .i64 1), .lit (.int .i64 1), .lit (.int .i64 1)], .agg [.lit (.int .i64 4), .lit (.int .i64 2), .lit (.int .i64 3), .lit (.int .i64 1), .lit (.int .i64 2)]]
def laid_wireless_address_prefixes {H : Type} : DataW H := .agg [.lit (.int .u64 0), .lit (.int .u64 0), .lit (.int .u64 3), .lit (.int .u64 1), .lit (.int .u64 0)]

/-- 'wirelesslaw38.PairingEnds': WHATEVER THE INPUT: true; the input reads as it did. -/
def pairingEndsSpec : ChangeSpec := { name := "pairingEnds", fn := fun _ => fun
  | [d1, d2] => { results := [.lit (.bool true)], args := [d1, d2] }
  | _ => none }
def pairingEndsRow : OpenClaim := { program := "ytihmbcnccdiecaadoor", sum := "6f6d821ed04ed4af3b341f7d630756de83dc0db82b22d43670b91eb143f965f9", func := "wireless/wirelesslaw38.PairingEnds", spec := "pairingEnds", unfollowed := true, recurses := true, named := ["wireless/address.prefixes", "wireless/method.table"], apart := false, laid := [("wireless/method.table", laid_wireless_method_table), ("wireless/address.prefixes", laid_wireless_address_prefixes)] }
def PairingEndsSaid : Prop := pairingEndsRow.holds Tryd.pinned (OpenSpec.ofChange pairingEndsSpec)

/-- ITS FALSE NEIGHBOUR: 'it returns false'. Refute it at one input. -/
def pairingEndsWrong : ChangeSpec := { name := "pairingEnds", fn := fun _ => fun
  | [d1, d2] => { results := [.lit (.bool false)], args := [d1, d2] }
  | _ => none }
def PairingEndsWrongFalsely : Prop := pairingEndsRow.holds Tryd.pinned (OpenSpec.ofChange pairingEndsWrong)

/-- 'wirelesslaw38.PairingSucceeds': WHATEVER THE INPUT: true; the input reads as it did. -/
def pairingSucceedsSpec : ChangeSpec := { name := "pairingSucceeds", fn := fun _ => fun
  | [d1, d2, d3] => { results := [.lit (.bool true)], args := [d1, d2, d3] }
  | _ => none }
def pairingSucceedsRow : OpenClaim := { program := "ytihmbcnccdiecaadoor", sum := "6f6d821ed04ed4af3b341f7d630756de83dc0db82b22d43670b91eb143f965f9", func := "wireless/wirelesslaw38.PairingSucceeds", spec := "pairingSucceeds", unfollowed := true, recurses := true, named := ["wireless/address.prefixes", "wireless/method.table"], apart := false, laid := [("wireless/method.table", laid_wireless_method_table), ("wireless/address.prefixes", laid_wireless_address_prefixes)] }
def PairingSucceedsSaid : Prop := pairingSucceedsRow.holds Tryd.pinned (OpenSpec.ofChange pairingSucceedsSpec)

/-- ITS FALSE NEIGHBOUR: 'it returns false'. Refute it at one input. -/
def pairingSucceedsWrong : ChangeSpec := { name := "pairingSucceeds", fn := fun _ => fun
  | [d1, d2, d3] => { results := [.lit (.bool false)], args := [d1, d2, d3] }
  | _ => none }
def PairingSucceedsWrongFalsely : Prop := pairingSucceedsRow.holds Tryd.pinned (OpenSpec.ofChange pairingSucceedsWrong)

/-- 'wirelesslaw38.PairingKeysReplaced': WHATEVER THE INPUT: true; the input reads as it did. -/
def pairingKeysReplacedSpec : ChangeSpec := { name := "pairingKeysReplaced", fn := fun _ => fun
  | [d1, d2, d3, d4] => { results := [.lit (.bool true)], args := [d1, d2, d3, d4] }
  | _ => none }
def pairingKeysReplacedRow : OpenClaim := { program := "ytihmbcnccdiecaadoor", sum := "6f6d821ed04ed4af3b341f7d630756de83dc0db82b22d43670b91eb143f965f9", func := "wireless/wirelesslaw38.PairingKeysReplaced", spec := "pairingKeysReplaced", unfollowed := true, recurses := true, named := ["wireless/address.prefixes", "wireless/method.table"], apart := false, laid := [("wireless/method.table", laid_wireless_method_table), ("wireless/address.prefixes", laid_wireless_address_prefixes)] }
def PairingKeysReplacedSaid : Prop := pairingKeysReplacedRow.holds Tryd.pinned (OpenSpec.ofChange pairingKeysReplacedSpec)

/-- ITS FALSE NEIGHBOUR: 'it returns false'. Refute it at one input. -/
def pairingKeysReplacedWrong : ChangeSpec := { name := "pairingKeysReplaced", fn := fun _ => fun
  | [d1, d2, d3, d4] => { results := [.lit (.bool false)], args := [d1, d2, d3, d4] }
  | _ => none }
def PairingKeysReplacedWrongFalsely : Prop := pairingKeysReplacedRow.holds Tryd.pinned (OpenSpec.ofChange pairingKeysReplacedWrong)

/-- 'wirelesslaw38.PairingAgrees': WHATEVER THE INPUT: true; the input reads as it did. -/
def pairingAgreesSpec : ChangeSpec := { name := "pairingAgrees", fn := fun _ => fun
  | [d1, d2, d3, d4] => { results := [.lit (.bool true)], args := [d1, d2, d3, d4] }
  | _ => none }
def pairingAgreesRow : OpenClaim := { program := "ytihmbcnccdiecaadoor", sum := "6f6d821ed04ed4af3b341f7d630756de83dc0db82b22d43670b91eb143f965f9", func := "wireless/wirelesslaw38.PairingAgrees", spec := "pairingAgrees", unfollowed := true, recurses := true, named := ["wireless/address.prefixes", "wireless/method.table"], apart := false, laid := [("wireless/method.table", laid_wireless_method_table), ("wireless/address.prefixes", laid_wireless_address_prefixes)] }
def PairingAgreesSaid : Prop := pairingAgreesRow.holds Tryd.pinned (OpenSpec.ofChange pairingAgreesSpec)

/-- ITS FALSE NEIGHBOUR: 'it returns false'. Refute it at one input. -/
def pairingAgreesWrong : ChangeSpec := { name := "pairingAgrees", fn := fun _ => fun
  | [d1, d2, d3, d4] => { results := [.lit (.bool false)], args := [d1, d2, d3, d4] }
  | _ => none }
def PairingAgreesWrongFalsely : Prop := pairingAgreesRow.holds Tryd.pinned (OpenSpec.ofChange pairingAgreesWrong)

/-- 'wirelesslaw38.PairingCompares': WHATEVER THE INPUT: true; the input reads as it did. -/
def pairingComparesSpec : ChangeSpec := { name := "pairingCompares", fn := fun _ => fun
  | [d1, d2, d3] => { results := [.lit (.bool true)], args := [d1, d2, d3] }
  | _ => none }
def pairingComparesRow : OpenClaim := { program := "ytihmbcnccdiecaadoor", sum := "6f6d821ed04ed4af3b341f7d630756de83dc0db82b22d43670b91eb143f965f9", func := "wireless/wirelesslaw38.PairingCompares", spec := "pairingCompares", unfollowed := true, recurses := true, named := ["wireless/address.prefixes", "wireless/method.table"], apart := false, laid := [("wireless/method.table", laid_wireless_method_table), ("wireless/address.prefixes", laid_wireless_address_prefixes)] }
def PairingComparesSaid : Prop := pairingComparesRow.holds Tryd.pinned (OpenSpec.ofChange pairingComparesSpec)

/-- ITS FALSE NEIGHBOUR: 'it returns false'. Refute it at one input. -/
def pairingComparesWrong : ChangeSpec := { name := "pairingCompares", fn := fun _ => fun
  | [d1, d2, d3] => { results := [.lit (.bool false)], args := [d1, d2, d3] }
  | _ => none }
def PairingComparesWrongFalsely : Prop := pairingComparesRow.holds Tryd.pinned (OpenSpec.ofChange pairingComparesWrong)

/- THE SECOND FORM. 'bulk': how many values and letters a reading holds, each counted each time it is reached (what is shared counts as often as it is met; a slice's spare places count too). A statement '..UptoSaid' is the law's where the arguments, and the package variables that the reading takes, are together of bulk at most 1048576: NARROWER than '..Said'. Prove '..Said' where nothing that the law and all that it calls make is longer than what came in: it says more and counts as full. Else prove '..UptoSaid'. A law counts once. -/
mutual
def uptoBulk {H : Type} : DataW H → Nat
  | .lit (.string bytes) => bytes.length + 1
  | .lit _ => 1
  | .nil => 1
  | .ptr d => uptoBulk d + 1
  | .slice elems spare => uptoBulkAll elems + uptoBulkAll spare + 1
  | .agg parts => uptoBulkAll parts + 1
  | .iface _ d => uptoBulk d + 1
  | .map entries => uptoBulkEntries entries + 1
  | .held _ => 1
def uptoBulkAll {H : Type} : List (DataW H) → Nat
  | [] => 0
  | d :: r => uptoBulk d + uptoBulkAll r
def uptoBulkEntries {H : Type} : List (Lit × DataW H) → Nat
  | [] => 0
  | x :: r => uptoBulkEntry x + uptoBulkEntries r
def uptoBulkEntry {H : Type} : Lit × DataW H → Nat
  | (.string bytes, d) => bytes.length + uptoBulk d + 1
  | (_, d) => uptoBulk d + 1
 end
def uptoSmall : (H : Type) → List (DataW H) → Bool := fun _ ds => decide (uptoBulkAll ds ≤ 1048576)
def OpenSpec.upto (s : _root_.Go.ChangeSpec) : _root_.Go.OpenSpec := { _root_.Go.OpenSpec.ofChange s with cond := some uptoSmall }

/-- 'wirelesslaw38.PairingEnds', WHERE WHAT IT READS IS OF BULK AT MOST 1048576: true; the input reads as it did. -/
def pairingEndsUptoRow : OpenClaim := { program := "ytihmbcnccdiecaadoor", sum := "6f6d821ed04ed4af3b341f7d630756de83dc0db82b22d43670b91eb143f965f9", func := "wireless/wirelesslaw38.PairingEnds", spec := "pairingEnds", unfollowed := true, recurses := true, named := ["wireless/address.prefixes", "wireless/method.table"], apart := false, laid := [("wireless/method.table", laid_wireless_method_table), ("wireless/address.prefixes", laid_wireless_address_prefixes)], narrowed := true }
def PairingEndsUptoSaid : Prop := pairingEndsUptoRow.holds Tryd.pinned (OpenSpec.upto pairingEndsSpec)

/-- 'wirelesslaw38.PairingSucceeds', WHERE WHAT IT READS IS OF BULK AT MOST 1048576: true; the input reads as it did. -/
def pairingSucceedsUptoRow : OpenClaim := { program := "ytihmbcnccdiecaadoor", sum := "6f6d821ed04ed4af3b341f7d630756de83dc0db82b22d43670b91eb143f965f9", func := "wireless/wirelesslaw38.PairingSucceeds", spec := "pairingSucceeds", unfollowed := true, recurses := true, named := ["wireless/address.prefixes", "wireless/method.table"], apart := false, laid := [("wireless/method.table", laid_wireless_method_table), ("wireless/address.prefixes", laid_wireless_address_prefixes)], narrowed := true }
def PairingSucceedsUptoSaid : Prop := pairingSucceedsUptoRow.holds Tryd.pinned (OpenSpec.upto pairingSucceedsSpec)

/-- 'wirelesslaw38.PairingKeysReplaced', WHERE WHAT IT READS IS OF BULK AT MOST 1048576: true; the input reads as it did. -/
def pairingKeysReplacedUptoRow : OpenClaim := { program := "ytihmbcnccdiecaadoor", sum := "6f6d821ed04ed4af3b341f7d630756de83dc0db82b22d43670b91eb143f965f9", func := "wireless/wirelesslaw38.PairingKeysReplaced", spec := "pairingKeysReplaced", unfollowed := true, recurses := true, named := ["wireless/address.prefixes", "wireless/method.table"], apart := false, laid := [("wireless/method.table", laid_wireless_method_table), ("wireless/address.prefixes", laid_wireless_address_prefixes)], narrowed := true }
def PairingKeysReplacedUptoSaid : Prop := pairingKeysReplacedUptoRow.holds Tryd.pinned (OpenSpec.upto pairingKeysReplacedSpec)

/-- 'wirelesslaw38.PairingAgrees', WHERE WHAT IT READS IS OF BULK AT MOST 1048576: true; the input reads as it did. -/
def pairingAgreesUptoRow : OpenClaim := { program := "ytihmbcnccdiecaadoor", sum := "6f6d821ed04ed4af3b341f7d630756de83dc0db82b22d43670b91eb143f965f9", func := "wireless/wirelesslaw38.PairingAgrees", spec := "pairingAgrees", unfollowed := true, recurses := true, named := ["wireless/address.prefixes", "wireless/method.table"], apart := false, laid := [("wireless/method.table", laid_wireless_method_table), ("wireless/address.prefixes", laid_wireless_address_prefixes)], narrowed := true }
def PairingAgreesUptoSaid : Prop := pairingAgreesUptoRow.holds Tryd.pinned (OpenSpec.upto pairingAgreesSpec)

/-- 'wirelesslaw38.PairingCompares', WHERE WHAT IT READS IS OF BULK AT MOST 1048576: true; the input reads as it did. -/
def pairingComparesUptoRow : OpenClaim := { program := "ytihmbcnccdiecaadoor", sum := "6f6d821ed04ed4af3b341f7d630756de83dc0db82b22d43670b91eb143f965f9", func := "wireless/wirelesslaw38.PairingCompares", spec := "pairingCompares", unfollowed := true, recurses := true, named := ["wireless/address.prefixes", "wireless/method.table"], apart := false, laid := [("wireless/method.table", laid_wireless_method_table), ("wireless/address.prefixes", laid_wireless_address_prefixes)], narrowed := true }
def PairingComparesUptoSaid : Prop := pairingComparesUptoRow.holds Tryd.pinned (OpenSpec.upto pairingComparesSpec)

end Rows
end Go.Proofs.YtihmbcnccdiecaaDoor
