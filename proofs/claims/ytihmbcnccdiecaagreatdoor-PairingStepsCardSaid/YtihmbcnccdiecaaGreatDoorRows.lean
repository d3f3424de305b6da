/-
  NARROWER THAN 'FOR EVERY INPUT', by the rows' own cells (each row's printed sentence says how): PairingSteps: laid · PairingSettings: laid.
  DERIVED. THE GIVEN ROWS OF THIS SEAT. 2 by the template 'for every input the law returns true; each argument reads behind the call as it read before'; 0 by the template 'total and deterministic' (their statements: YtihmbcnccdiecaaGreatDoorTotals.lean).
  GIVEN WITH THE SEED: the statements are not yours to turn. If you find one false, say at which input.
  Laid BY PROGRAM, IN A SANDBOX (cutbox-rows.mjs): the forced cells as the released guide's own fill.sh prints them over the translation 5c6ca872b521f194… (all of the seat's roots in one cut). By AI agents, Wed Nov 11 2026. No macro, syntax, notation, axiom, sorry.
-/
import Derived.Test.YtihmbcnccdiecaaGreatDoorChecked
import GoSem.Claim
import GoSem.ClaimJoined
import GoSem.ClaimMapViews
import Derived.JoinedTies
import Derived.KernelRfl
namespace Go.Proofs.YtihmbcnccdiecaaGreatDoor
/- THE CELL 'sum', in the pinned program and in every row, IS THE sha256 OF THE DUMP (.gsa) THAT YtihmbcnccdiecaaGreatDoorProg.lean LOADS. Nothing in Lean hashes anything: it is a label: what it is worth is what the hold of that sum in a sandbox is worth. -/
noncomputable def Tryz.pinned : Pinned := { name := "ytihmbcnccdiecaagreatdoor", sum := "5c6ca872b521f1941bd953035a0d79e3bb7d444f76077bc50bf250dfe333475f", checked := Tryz.checked }
namespace Rows
def none {H : Type} : Left H := { results := [], args := [] }

/- WHAT THE LISTED PACKAGE-LEVEL VARIABLES READ AS WHEN THE CALL BEGINS. Each datum BY PROGRAM (the guide's laid-datum.mjs) off the statement by which the dump's own 'gosem.cut.vars' lays the variable. In a bare row this is a premise. The card (YtihmbcnccdiecaaGreatDoorCards.lean) ties it to the program's text. -/
def laid_wireless_method_table {H : Type} : DataW H := .agg [.agg [.lit (.int .i64 1), .lit (.int .i64 1), .lit (.int .i64 3), .lit (.int .i64 1), .lit (.int .i64 3)], .agg [.lit (.int .i64 1), .lit (.int .i64 2), .lit (.int .i64 3), .lit (.int .i64 1), .lit (.int .i64 2)], .agg [.lit (.int .i64 4), .lit (.int .i64 4), .lit (.int .i64 5), .lit (.int .i64 1), .lit (.int .i64 4)], .agg [.lit (.int .i64 1), .lit (.int .i64 1), .lit (.int .i64 1), .lit (.int .i64 1), .lit (.int .i64 1)], .agg [.lit (.int .i64 4), .lit (.int .i64 2), .lit (.int .i64 3), .lit (.int .i64 1), .lit (.int .i64 2)]]
def laid_wireless_address_prefixes {H : Type} : DataW H := .agg [.lit (.int .u64 0), .lit (.int .u64 0), .lit (.int .u64 3), .lit (.int .u64 1), .lit (.int .u64 0)]

/-- 'wirelesslaw38.PairingSteps': WHATEVER THE INPUT: true; the input reads as it did. -/
def pairingStepsSpec : ChangeSpec := { name := "pairingSteps", fn := fun _ => fun
  | [d1, d2] => { results := [.lit (.bool true)], args := [d1, d2] }
  | _ => none }
def pairingStepsRow : OpenClaim := { program := "ytihmbcnccdiecaagreatdoor", sum := "5c6ca872b521f1941bd953035a0d79e3bb7d444f76077bc50bf250dfe333475f", func := "wireless/wirelesslaw38.PairingSteps", spec := "pairingSteps", unfollowed := true, recurses := true, named := ["wireless/address.prefixes", "wireless/method.table"], apart := false, laid := [("wireless/method.table", laid_wireless_method_table), ("wireless/address.prefixes", laid_wireless_address_prefixes)] }
def PairingStepsSaid : Prop := pairingStepsRow.holds Tryz.pinned (OpenSpec.ofChange pairingStepsSpec)

/-- ITS FALSE NEIGHBOUR: 'it returns false'. Refute it at one input. -/
def pairingStepsWrong : ChangeSpec := { name := "pairingSteps", fn := fun _ => fun
  | [d1, d2] => { results := [.lit (.bool false)], args := [d1, d2] }
  | _ => none }
def PairingStepsWrongFalsely : Prop := pairingStepsRow.holds Tryz.pinned (OpenSpec.ofChange pairingStepsWrong)

/-- 'wirelesslaw38.PairingSettings': WHATEVER THE INPUT: true; the input reads as it did. -/
def pairingSettingsSpec : ChangeSpec := { name := "pairingSettings", fn := fun _ => fun
  | [d] => { results := [.lit (.bool true)], args := [d] }
  | _ => none }
def pairingSettingsRow : OpenClaim := { program := "ytihmbcnccdiecaagreatdoor", sum := "5c6ca872b521f1941bd953035a0d79e3bb7d444f76077bc50bf250dfe333475f", func := "wireless/wirelesslaw38.PairingSettings", spec := "pairingSettings", unfollowed := true, recurses := true, named := ["wireless/address.prefixes", "wireless/method.table"], apart := false, laid := [("wireless/method.table", laid_wireless_method_table), ("wireless/address.prefixes", laid_wireless_address_prefixes)] }
def PairingSettingsSaid : Prop := pairingSettingsRow.holds Tryz.pinned (OpenSpec.ofChange pairingSettingsSpec)

/-- ITS FALSE NEIGHBOUR: 'it returns false'. Refute it at one input. -/
def pairingSettingsWrong : ChangeSpec := { name := "pairingSettings", fn := fun _ => fun
  | [d] => { results := [.lit (.bool false)], args := [d] }
  | _ => none }
def PairingSettingsWrongFalsely : Prop := pairingSettingsRow.holds Tryz.pinned (OpenSpec.ofChange pairingSettingsWrong)

/- THE SECOND FORM. 'bulk': how many values and letters a reading holds, each counted each time it is reached (what is shared counts as often as it is met; a slice's spare places count too). A statement '..UptoSaid' is the law's where the arguments, and the package variables that the reading takes, are together of bulk at most 1048576: NARROWER than '..Said'. Prove '..Said' where nothing that the law and all that it calls make is longer than what came in: it says more and counts as full. Else prove '..UptoSaid'. A law counts once. -/
mutual
def uptoBulk {H : Type} : DataW H → Nat
  | .lit (.string bytes) => bytes.length + 1
  | .lit _ => 1
  | .nil => 1
  | .ptr d => uptoBulk d + 1
  | .slice elems spare => uptoBulkAll elems + uptoBulkAll spare + 1
  | .agg parts => uptoBulkAll parts + 1
  | .iface _ d => uptoBulk d + 1
  | .map entries => uptoBulkEntries entries + 1
  | .held _ => 1
def uptoBulkAll {H : Type} : List (DataW H) → Nat
  | [] => 0
  | d :: r => uptoBulk d + uptoBulkAll r
def uptoBulkEntries {H : Type} : List (Lit × DataW H) → Nat
  | [] => 0
  | x :: r => uptoBulkEntry x + uptoBulkEntries r
def uptoBulkEntry {H : Type} : Lit × DataW H → Nat
  | (.string bytes, d) => bytes.length + uptoBulk d + 1
  | (_, d) => uptoBulk d + 1
 end
def uptoSmall : (H : Type) → List (DataW H) → Bool := fun _ ds => decide (uptoBulkAll ds ≤ 1048576)
def OpenSpec.upto (s : _root_.Go.ChangeSpec) : _root_.Go.OpenSpec := { _root_.Go.OpenSpec.ofChange s with cond := some uptoSmall }

/-- 'wirelesslaw38.PairingSteps', WHERE WHAT IT READS IS OF BULK AT MOST 1048576: true; the input reads as it did. -/
def pairingStepsUptoRow : OpenClaim := { program := "ytihmbcnccdiecaagreatdoor", sum := "5c6ca872b521f1941bd953035a0d79e3bb7d444f76077bc50bf250dfe333475f", func := "wireless/wirelesslaw38.PairingSteps", spec := "pairingSteps", unfollowed := true, recurses := true, named := ["wireless/address.prefixes", "wireless/method.table"], apart := false, laid := [("wireless/method.table", laid_wireless_method_table), ("wireless/address.prefixes", laid_wireless_address_prefixes)], narrowed := true }
def PairingStepsUptoSaid : Prop := pairingStepsUptoRow.holds Tryz.pinned (OpenSpec.upto pairingStepsSpec)

/-- 'wirelesslaw38.PairingSettings', WHERE WHAT IT READS IS OF BULK AT MOST 1048576: true; the input reads as it did. -/
def pairingSettingsUptoRow : OpenClaim := { program := "ytihmbcnccdiecaagreatdoor", sum := "5c6ca872b521f1941bd953035a0d79e3bb7d444f76077bc50bf250dfe333475f", func := "wireless/wirelesslaw38.PairingSettings", spec := "pairingSettings", unfollowed := true, recurses := true, named := ["wireless/address.prefixes", "wireless/method.table"], apart := false, laid := [("wireless/method.table", laid_wireless_method_table), ("wireless/address.prefixes", laid_wireless_address_prefixes)], narrowed := true }
def PairingSettingsUptoSaid : Prop := pairingSettingsUptoRow.holds Tryz.pinned (OpenSpec.upto pairingSettingsSpec)

end Rows
end Go.Proofs.YtihmbcnccdiecaaGreatDoor
