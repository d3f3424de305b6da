/-
  No cell of these rows narrows 'for every input' (looked for: loops, veiled, ifaces, maps, wideKeys, modest, calm, conditions, laid).
  DERIVED. THE GIVEN ROWS OF THIS SEAT. 11 by the template 'for every input the law returns true; each argument reads behind the call as it read before'; 0 by the template 'total and deterministic' (their statements: YtbkaeoaepmeceaaTotals.lean).
  GIVEN WITH THE SEED: the statements are not yours to turn. If you find one false, say at which input.
  Laid BY PROGRAM, IN A SANDBOX (cutbox-rows.mjs): the forced cells as the released guide's own fill.sh prints them over the translation e81c93047115c070… (all of the seat's roots in one cut). By AI agents, Wed Nov 11 2026. No macro, syntax, notation, axiom, sorry.
-/
import Derived.Test.YtbkaeoaepmeceaaChecked
import GoSem.Claim
import GoSem.ClaimJoined
import GoSem.ClaimMapViews
import Derived.JoinedTies
import Derived.KernelRfl
namespace Go.Proofs.Ytbkaeoaepmeceaa
/- THE CELL 'sum', in the pinned program and in every row, IS THE sha256 OF THE DUMP (.gsa) THAT YtbkaeoaepmeceaaProg.lean LOADS. Nothing in Lean hashes anything: it is a label: what it is worth is what the hold of that sum in a sandbox is worth. -/
noncomputable def Try.pinned : Pinned := { name := "ytbkaeoaepmeceaa", sum := "e81c93047115c070381a269bd9e8da4b3cee4f2fb3233cfe735c65354a210fbe", checked := Try.checked }
namespace Rows
def none {H : Type} : Left H := { results := [], args := [] }

/-- 'wirelesslaw47.MeshkeyDerives': WHATEVER THE INPUT: true; the input reads as it did. -/
def meshkeyDerivesSpec : ChangeSpec := { name := "meshkeyDerives", fn := fun _ => fun
  | [d] => { results := [.lit (.bool true)], args := [d] }
  | _ => none }
def meshkeyDerivesRow : OpenClaim := { program := "ytbkaeoaepmeceaa", sum := "e81c93047115c070381a269bd9e8da4b3cee4f2fb3233cfe735c65354a210fbe", func := "wireless/wirelesslaw47.MeshkeyDerives", spec := "meshkeyDerives", unfollowed := true, recurses := true, apart := false }
def MeshkeyDerivesSaid : Prop := meshkeyDerivesRow.holds Try.pinned (OpenSpec.ofChange meshkeyDerivesSpec)

/-- ITS FALSE NEIGHBOUR: 'it returns false'. Refute it at one input. -/
def meshkeyDerivesWrong : ChangeSpec := { name := "meshkeyDerives", fn := fun _ => fun
  | [d] => { results := [.lit (.bool false)], args := [d] }
  | _ => none }
def MeshkeyDerivesWrongFalsely : Prop := meshkeyDerivesRow.holds Try.pinned (OpenSpec.ofChange meshkeyDerivesWrong)

/-- 'wirelesslaw47.MeshkeyNonces': WHATEVER THE INPUT: true; the input reads as it did. -/
def meshkeyNoncesSpec : ChangeSpec := { name := "meshkeyNonces", fn := fun _ => fun
  | [d1, d2, d3, d4] => { results := [.lit (.bool true)], args := [d1, d2, d3, d4] }
  | _ => none }
def meshkeyNoncesRow : OpenClaim := { program := "ytbkaeoaepmeceaa", sum := "e81c93047115c070381a269bd9e8da4b3cee4f2fb3233cfe735c65354a210fbe", func := "wireless/wirelesslaw47.MeshkeyNonces", spec := "meshkeyNonces", unfollowed := true, recurses := true, apart := false }
def MeshkeyNoncesSaid : Prop := meshkeyNoncesRow.holds Try.pinned (OpenSpec.ofChange meshkeyNoncesSpec)

/-- ITS FALSE NEIGHBOUR: 'it returns false'. Refute it at one input. -/
def meshkeyNoncesWrong : ChangeSpec := { name := "meshkeyNonces", fn := fun _ => fun
  | [d1, d2, d3, d4] => { results := [.lit (.bool false)], args := [d1, d2, d3, d4] }
  | _ => none }
def MeshkeyNoncesWrongFalsely : Prop := meshkeyNoncesRow.holds Try.pinned (OpenSpec.ofChange meshkeyNoncesWrong)

/-- 'wirelesslaw47.MeshkeySeals': WHATEVER THE INPUT: true; the input reads as it did. -/
def meshkeySealsSpec : ChangeSpec := { name := "meshkeySeals", fn := fun _ => fun
  | [d1, d2, d3, d4, d5] => { results := [.lit (.bool true)], args := [d1, d2, d3, d4, d5] }
  | _ => none }
def meshkeySealsRow : OpenClaim := { program := "ytbkaeoaepmeceaa", sum := "e81c93047115c070381a269bd9e8da4b3cee4f2fb3233cfe735c65354a210fbe", func := "wireless/wirelesslaw47.MeshkeySeals", spec := "meshkeySeals", unfollowed := true, recurses := true, apart := false }
def MeshkeySealsSaid : Prop := meshkeySealsRow.holds Try.pinned (OpenSpec.ofChange meshkeySealsSpec)

/-- ITS FALSE NEIGHBOUR: 'it returns false'. Refute it at one input. -/
def meshkeySealsWrong : ChangeSpec := { name := "meshkeySeals", fn := fun _ => fun
  | [d1, d2, d3, d4, d5] => { results := [.lit (.bool false)], args := [d1, d2, d3, d4, d5] }
  | _ => none }
def MeshkeySealsWrongFalsely : Prop := meshkeySealsRow.holds Try.pinned (OpenSpec.ofChange meshkeySealsWrong)

/-- 'wirelesslaw47.MeshkeyOpens': WHATEVER THE INPUT: true; the input reads as it did. -/
def meshkeyOpensSpec : ChangeSpec := { name := "meshkeyOpens", fn := fun _ => fun
  | [d1, d2, d3, d4, d5] => { results := [.lit (.bool true)], args := [d1, d2, d3, d4, d5] }
  | _ => none }
def meshkeyOpensRow : OpenClaim := { program := "ytbkaeoaepmeceaa", sum := "e81c93047115c070381a269bd9e8da4b3cee4f2fb3233cfe735c65354a210fbe", func := "wireless/wirelesslaw47.MeshkeyOpens", spec := "meshkeyOpens", unfollowed := true, recurses := true, apart := false }
def MeshkeyOpensSaid : Prop := meshkeyOpensRow.holds Try.pinned (OpenSpec.ofChange meshkeyOpensSpec)

/-- ITS FALSE NEIGHBOUR: 'it returns false'. Refute it at one input. -/
def meshkeyOpensWrong : ChangeSpec := { name := "meshkeyOpens", fn := fun _ => fun
  | [d1, d2, d3, d4, d5] => { results := [.lit (.bool false)], args := [d1, d2, d3, d4, d5] }
  | _ => none }
def MeshkeyOpensWrongFalsely : Prop := meshkeyOpensRow.holds Try.pinned (OpenSpec.ofChange meshkeyOpensWrong)

/-- 'wirelesslaw47.MeshkeyBack': WHATEVER THE INPUT: true; the input reads as it did. -/
def meshkeyBackSpec : ChangeSpec := { name := "meshkeyBack", fn := fun _ => fun
  | [d1, d2, d3, d4, d5] => { results := [.lit (.bool true)], args := [d1, d2, d3, d4, d5] }
  | _ => none }
def meshkeyBackRow : OpenClaim := { program := "ytbkaeoaepmeceaa", sum := "e81c93047115c070381a269bd9e8da4b3cee4f2fb3233cfe735c65354a210fbe", func := "wireless/wirelesslaw47.MeshkeyBack", spec := "meshkeyBack", unfollowed := true, recurses := true, apart := false }
def MeshkeyBackSaid : Prop := meshkeyBackRow.holds Try.pinned (OpenSpec.ofChange meshkeyBackSpec)

/-- ITS FALSE NEIGHBOUR: 'it returns false'. Refute it at one input. -/
def meshkeyBackWrong : ChangeSpec := { name := "meshkeyBack", fn := fun _ => fun
  | [d1, d2, d3, d4, d5] => { results := [.lit (.bool false)], args := [d1, d2, d3, d4, d5] }
  | _ => none }
def MeshkeyBackWrongFalsely : Prop := meshkeyBackRow.holds Try.pinned (OpenSpec.ofChange meshkeyBackWrong)

/-- 'wirelesslaw48.NetpduChecks': WHATEVER THE INPUT: true; the input reads as it did. -/
def netpduChecksSpec : ChangeSpec := { name := "netpduChecks", fn := fun _ => fun
  | [d1, d2] => { results := [.lit (.bool true)], args := [d1, d2] }
  | _ => none }
def netpduChecksRow : OpenClaim := { program := "ytbkaeoaepmeceaa", sum := "e81c93047115c070381a269bd9e8da4b3cee4f2fb3233cfe735c65354a210fbe", func := "wireless/wirelesslaw48.NetpduChecks", spec := "netpduChecks", unfollowed := true, recurses := true, apart := false }
def NetpduChecksSaid : Prop := netpduChecksRow.holds Try.pinned (OpenSpec.ofChange netpduChecksSpec)

/-- ITS FALSE NEIGHBOUR: 'it returns false'. Refute it at one input. -/
def netpduChecksWrong : ChangeSpec := { name := "netpduChecks", fn := fun _ => fun
  | [d1, d2] => { results := [.lit (.bool false)], args := [d1, d2] }
  | _ => none }
def NetpduChecksWrongFalsely : Prop := netpduChecksRow.holds Try.pinned (OpenSpec.ofChange netpduChecksWrong)

/-- 'wirelesslaw48.NetpduEncodes': WHATEVER THE INPUT: true; the input reads as it did. -/
def netpduEncodesSpec : ChangeSpec := { name := "netpduEncodes", fn := fun _ => fun
  | [d1, d2] => { results := [.lit (.bool true)], args := [d1, d2] }
  | _ => none }
def netpduEncodesRow : OpenClaim := { program := "ytbkaeoaepmeceaa", sum := "e81c93047115c070381a269bd9e8da4b3cee4f2fb3233cfe735c65354a210fbe", func := "wireless/wirelesslaw48.NetpduEncodes", spec := "netpduEncodes", unfollowed := true, recurses := true, apart := false }
def NetpduEncodesSaid : Prop := netpduEncodesRow.holds Try.pinned (OpenSpec.ofChange netpduEncodesSpec)

/-- ITS FALSE NEIGHBOUR: 'it returns false'. Refute it at one input. -/
def netpduEncodesWrong : ChangeSpec := { name := "netpduEncodes", fn := fun _ => fun
  | [d1, d2] => { results := [.lit (.bool false)], args := [d1, d2] }
  | _ => none }
def NetpduEncodesWrongFalsely : Prop := netpduEncodesRow.holds Try.pinned (OpenSpec.ofChange netpduEncodesWrong)

/-- 'wirelesslaw48.NetpduDecodes': WHATEVER THE INPUT: true; the input reads as it did. -/
def netpduDecodesSpec : ChangeSpec := { name := "netpduDecodes", fn := fun _ => fun
  | [d1, d2, d3] => { results := [.lit (.bool true)], args := [d1, d2, d3] }
  | _ => none }
def netpduDecodesRow : OpenClaim := { program := "ytbkaeoaepmeceaa", sum := "e81c93047115c070381a269bd9e8da4b3cee4f2fb3233cfe735c65354a210fbe", func := "wireless/wirelesslaw48.NetpduDecodes", spec := "netpduDecodes", unfollowed := true, recurses := true, apart := false }
def NetpduDecodesSaid : Prop := netpduDecodesRow.holds Try.pinned (OpenSpec.ofChange netpduDecodesSpec)

/-- ITS FALSE NEIGHBOUR: 'it returns false'. Refute it at one input. -/
def netpduDecodesWrong : ChangeSpec := { name := "netpduDecodes", fn := fun _ => fun
  | [d1, d2, d3] => { results := [.lit (.bool false)], args := [d1, d2, d3] }
  | _ => none }
def NetpduDecodesWrongFalsely : Prop := netpduDecodesRow.holds Try.pinned (OpenSpec.ofChange netpduDecodesWrong)

/-- 'wirelesslaw48.NetpduBack': WHATEVER THE INPUT: true; the input reads as it did. -/
def netpduBackSpec : ChangeSpec := { name := "netpduBack", fn := fun _ => fun
  | [d1, d2, d3, d4] => { results := [.lit (.bool true)], args := [d1, d2, d3, d4] }
  | _ => none }
def netpduBackRow : OpenClaim := { program := "ytbkaeoaepmeceaa", sum := "e81c93047115c070381a269bd9e8da4b3cee4f2fb3233cfe735c65354a210fbe", func := "wireless/wirelesslaw48.NetpduBack", spec := "netpduBack", unfollowed := true, recurses := true, apart := false }
def NetpduBackSaid : Prop := netpduBackRow.holds Try.pinned (OpenSpec.ofChange netpduBackSpec)

/-- ITS FALSE NEIGHBOUR: 'it returns false'. Refute it at one input. -/
def netpduBackWrong : ChangeSpec := { name := "netpduBack", fn := fun _ => fun
  | [d1, d2, d3, d4] => { results := [.lit (.bool false)], args := [d1, d2, d3, d4] }
  | _ => none }
def NetpduBackWrongFalsely : Prop := netpduBackRow.holds Try.pinned (OpenSpec.ofChange netpduBackWrong)

/-- 'wirelesslaw48.NetpduOne': WHATEVER THE INPUT: true; the input reads as it did. -/
def netpduOneSpec : ChangeSpec := { name := "netpduOne", fn := fun _ => fun
  | [d1, d2, d3] => { results := [.lit (.bool true)], args := [d1, d2, d3] }
  | _ => none }
def netpduOneRow : OpenClaim := { program := "ytbkaeoaepmeceaa", sum := "e81c93047115c070381a269bd9e8da4b3cee4f2fb3233cfe735c65354a210fbe", func := "wireless/wirelesslaw48.NetpduOne", spec := "netpduOne", unfollowed := true, recurses := true, apart := false }
def NetpduOneSaid : Prop := netpduOneRow.holds Try.pinned (OpenSpec.ofChange netpduOneSpec)

/-- ITS FALSE NEIGHBOUR: 'it returns false'. Refute it at one input. -/
def netpduOneWrong : ChangeSpec := { name := "netpduOne", fn := fun _ => fun
  | [d1, d2, d3] => { results := [.lit (.bool false)], args := [d1, d2, d3] }
  | _ => none }
def NetpduOneWrongFalsely : Prop := netpduOneRow.holds Try.pinned (OpenSpec.ofChange netpduOneWrong)

/-- 'wirelesslaw48.NetpduOthers': WHATEVER THE INPUT: true; the input reads as it did. -/
def netpduOthersSpec : ChangeSpec := { name := "netpduOthers", fn := fun _ => fun
  | [d1, d2, d3, d4] => { results := [.lit (.bool true)], args := [d1, d2, d3, d4] }
  | _ => none }
def netpduOthersRow : OpenClaim := { program := "ytbkaeoaepmeceaa", sum := "e81c93047115c070381a269bd9e8da4b3cee4f2fb3233cfe735c65354a210fbe", func := "wireless/wirelesslaw48.NetpduOthers", spec := "netpduOthers", unfollowed := true, recurses := true, apart := false }
def NetpduOthersSaid : Prop := netpduOthersRow.holds Try.pinned (OpenSpec.ofChange netpduOthersSpec)

/-- ITS FALSE NEIGHBOUR: 'it returns false'. Refute it at one input. -/
def netpduOthersWrong : ChangeSpec := { name := "netpduOthers", fn := fun _ => fun
  | [d1, d2, d3, d4] => { results := [.lit (.bool false)], args := [d1, d2, d3, d4] }
  | _ => none }
def NetpduOthersWrongFalsely : Prop := netpduOthersRow.holds Try.pinned (OpenSpec.ofChange netpduOthersWrong)

/- THE SECOND FORM. 'bulk': how many values and letters a reading holds, each counted each time it is reached (what is shared counts as often as it is met; a slice's spare places count too). A statement '..UptoSaid' is the law's where the arguments, and the package variables that the reading takes, are together of bulk at most 1048576: NARROWER than '..Said'. Prove '..Said' where nothing that the law and all that it calls make is longer than what came in: it says more and counts as full. Else prove '..UptoSaid'. A law counts once. -/
mutual
def uptoBulk {H : Type} : DataW H → Nat
  | .lit (.string bytes) => bytes.length + 1
  | .lit _ => 1
  | .nil => 1
  | .ptr d => uptoBulk d + 1
  | .slice elems spare => uptoBulkAll elems + uptoBulkAll spare + 1
  | .agg parts => uptoBulkAll parts + 1
  | .iface _ d => uptoBulk d + 1
  | .map entries => uptoBulkEntries entries + 1
  | .held _ => 1
def uptoBulkAll {H : Type} : List (DataW H) → Nat
  | [] => 0
  | d :: r => uptoBulk d + uptoBulkAll r
def uptoBulkEntries {H : Type} : List (Lit × DataW H) → Nat
  | [] => 0
  | x :: r => uptoBulkEntry x + uptoBulkEntries r
def uptoBulkEntry {H : Type} : Lit × DataW H → Nat
  | (.string bytes, d) => bytes.length + uptoBulk d + 1
  | (_, d) => uptoBulk d + 1
 end
def uptoSmall : (H : Type) → List (DataW H) → Bool := fun _ ds => decide (uptoBulkAll ds ≤ 1048576)
def OpenSpec.upto (s : _root_.Go.ChangeSpec) : _root_.Go.OpenSpec := { _root_.Go.OpenSpec.ofChange s with cond := some uptoSmall }

/-- 'wirelesslaw47.MeshkeyDerives', WHERE WHAT IT READS IS OF BULK AT MOST 1048576: true; the input reads as it did. -/
def meshkeyDerivesUptoRow : OpenClaim := { program := "ytbkaeoaepmeceaa", sum := "e81c93047115c070381a269bd9e8da4b3cee4f2fb3233cfe735c65354a210fbe", func := "wireless/wirelesslaw47.MeshkeyDerives", spec := "meshkeyDerives", unfollowed := true, recurses := true, apart := false, narrowed := true }
def MeshkeyDerivesUptoSaid : Prop := meshkeyDerivesUptoRow.holds Try.pinned (OpenSpec.upto meshkeyDerivesSpec)

/-- 'wirelesslaw47.MeshkeyNonces', WHERE WHAT IT READS IS OF BULK AT MOST 1048576: true; the input reads as it did. -/
def meshkeyNoncesUptoRow : OpenClaim := { program := "ytbkaeoaepmeceaa", sum := "e81c93047115c070381a269bd9e8da4b3cee4f2fb3233cfe735c65354a210fbe", func := "wireless/wirelesslaw47.MeshkeyNonces", spec := "meshkeyNonces", unfollowed := true, recurses := true, apart := false, narrowed := true }
def MeshkeyNoncesUptoSaid : Prop := meshkeyNoncesUptoRow.holds Try.pinned (OpenSpec.upto meshkeyNoncesSpec)

/-- 'wirelesslaw47.MeshkeySeals', WHERE WHAT IT READS IS OF BULK AT MOST 1048576: true; the input reads as it did. -/
def meshkeySealsUptoRow : OpenClaim := { program := "ytbkaeoaepmeceaa", sum := "e81c93047115c070381a269bd9e8da4b3cee4f2fb3233cfe735c65354a210fbe", func := "wireless/wirelesslaw47.MeshkeySeals", spec := "meshkeySeals", unfollowed := true, recurses := true, apart := false, narrowed := true }
def MeshkeySealsUptoSaid : Prop := meshkeySealsUptoRow.holds Try.pinned (OpenSpec.upto meshkeySealsSpec)

/-- 'wirelesslaw47.MeshkeyOpens', WHERE WHAT IT READS IS OF BULK AT MOST 1048576: true; the input reads as it did. -/
def meshkeyOpensUptoRow : OpenClaim := { program := "ytbkaeoaepmeceaa", sum := "e81c93047115c070381a269bd9e8da4b3cee4f2fb3233cfe735c65354a210fbe", func := "wireless/wirelesslaw47.MeshkeyOpens", spec := "meshkeyOpens", unfollowed := true, recurses := true, apart := false, narrowed := true }
def MeshkeyOpensUptoSaid : Prop := meshkeyOpensUptoRow.holds Try.pinned (OpenSpec.upto meshkeyOpensSpec)

/-- 'wirelesslaw47.MeshkeyBack', WHERE WHAT IT READS IS OF BULK AT MOST 1048576: true; the input reads as it did. -/
def meshkeyBackUptoRow : OpenClaim := { program := "ytbkaeoaepmeceaa", sum := "e81c93047115c070381a269bd9e8da4b3cee4f2fb3233cfe735c65354a210fbe", func := "wireless/wirelesslaw47.MeshkeyBack", spec := "meshkeyBack", unfollowed := true, recurses := true, apart := false, narrowed := true }
def MeshkeyBackUptoSaid : Prop := meshkeyBackUptoRow.holds Try.pinned (OpenSpec.upto meshkeyBackSpec)

/-- 'wirelesslaw48.NetpduChecks', WHERE WHAT IT READS IS OF BULK AT MOST 1048576: true; the input reads as it did. -/
def netpduChecksUptoRow : OpenClaim := { program := "ytbkaeoaepmeceaa", sum := "e81c93047115c070381a269bd9e8da4b3cee4f2fb3233cfe735c65354a210fbe", func := "wireless/wirelesslaw48.NetpduChecks", spec := "netpduChecks", unfollowed := true, recurses := true, apart := false, narrowed := true }
def NetpduChecksUptoSaid : Prop := netpduChecksUptoRow.holds Try.pinned (OpenSpec.upto netpduChecksSpec)

/-- 'wirelesslaw48.NetpduEncodes', WHERE WHAT IT READS IS OF BULK AT MOST 1048576: true; the input reads as it did. -/
def netpduEncodesUptoRow : OpenClaim := { program := "ytbkaeoaepmeceaa", sum := "e81c93047115c070381a269bd9e8da4b3cee4f2fb3233cfe735c65354a210fbe", func := "wireless/wirelesslaw48.NetpduEncodes", spec := "netpduEncodes", unfollowed := true, recurses := true, apart := false, narrowed := true }
def NetpduEncodesUptoSaid : Prop := netpduEncodesUptoRow.holds Try.pinned (OpenSpec.upto netpduEncodesSpec)

/-- 'wirelesslaw48.NetpduDecodes', WHERE WHAT IT READS IS OF BULK AT MOST 1048576: true; the input reads as it did. -/
def netpduDecodesUptoRow : OpenClaim := { program := "ytbkaeoaepmeceaa", sum := "e81c93047115c070381a269bd9e8da4b3cee4f2fb3233cfe735c65354a210fbe", func := "wireless/wirelesslaw48.NetpduDecodes", spec := "netpduDecodes", unfollowed := true, recurses := true, apart := false, narrowed := true }
def NetpduDecodesUptoSaid : Prop := netpduDecodesUptoRow.holds Try.pinned (OpenSpec.upto netpduDecodesSpec)

/-- 'wirelesslaw48.NetpduBack', WHERE WHAT IT READS IS OF BULK AT MOST 1048576: true; the input reads as it did. -/
def netpduBackUptoRow : OpenClaim := { program := "ytbkaeoaepmeceaa", sum := "e81c93047115c070381a269bd9e8da4b3cee4f2fb3233cfe735c65354a210fbe", func := "wireless/wirelesslaw48.NetpduBack", spec := "netpduBack", unfollowed := true, recurses := true, apart := false, narrowed := true }
def NetpduBackUptoSaid : Prop := netpduBackUptoRow.holds Try.pinned (OpenSpec.upto netpduBackSpec)

/-- 'wirelesslaw48.NetpduOne', WHERE WHAT IT READS IS OF BULK AT MOST 1048576: true; the input reads as it did. -/
def netpduOneUptoRow : OpenClaim := { program := "ytbkaeoaepmeceaa", sum := "e81c93047115c070381a269bd9e8da4b3cee4f2fb3233cfe735c65354a210fbe", func := "wireless/wirelesslaw48.NetpduOne", spec := "netpduOne", unfollowed := true, recurses := true, apart := false, narrowed := true }
def NetpduOneUptoSaid : Prop := netpduOneUptoRow.holds Try.pinned (OpenSpec.upto netpduOneSpec)

/-- 'wirelesslaw48.NetpduOthers', WHERE WHAT IT READS IS OF BULK AT MOST 1048576: true; the input reads as it did. -/
def netpduOthersUptoRow : OpenClaim := { program := "ytbkaeoaepmeceaa", sum := "e81c93047115c070381a269bd9e8da4b3cee4f2fb3233cfe735c65354a210fbe", func := "wireless/wirelesslaw48.NetpduOthers", spec := "netpduOthers", unfollowed := true, recurses := true, apart := false, narrowed := true }
def NetpduOthersUptoSaid : Prop := netpduOthersUptoRow.holds Try.pinned (OpenSpec.upto netpduOthersSpec)

end Rows
end Go.Proofs.Ytbkaeoaepmeceaa
