/-
  No cell of these rows narrows 'for every input' (looked for: loops, veiled, ifaces, maps, wideKeys, modest, calm, conditions, laid).
  DERIVED. THE GIVEN ROWS OF THIS SEAT. 9 by the template 'for every input the law returns true; each argument reads behind the call as it read before'; 0 by the template 'total and deterministic' (their statements: YtebcngpdniamdaaTotals.lean).
  GIVEN WITH THE SEED: the statements are not yours to turn. If you find one false, say at which input.
  Laid BY PROGRAM, IN A SANDBOX (cutbox-rows.mjs): the forced cells as the released guide's own fill.sh prints them over the translation ac1c7a28fbbb3ec0… (all of the seat's roots in one cut). By AI agents, Wed Nov 11 2026. No macro, syntax, notation, axiom, sorry.
-/
import Derived.Test.YtebcngpdniamdaaChecked
import GoSem.Claim
import GoSem.ClaimJoined
import GoSem.ClaimMapViews
import Derived.JoinedTies
import Derived.KernelRfl
namespace Go.Proofs.Ytebcngpdniamdaa
/- THE CELL 'sum', in the pinned program and in every row, IS THE sha256 OF THE DUMP (.gsa) THAT YtebcngpdniamdaaProg.lean LOADS. Nothing in Lean hashes anything: it is a label: what it is worth is what the hold of that sum in a sandbox is worth. -/
noncomputable def Try.pinned : Pinned := { name := "ytebcngpdniamdaa", sum := "ac1c7a28fbbb3ec09c7edb59b05f5de84f8361f9828c44afc5e7cff9bbfd45ad", checked := Try.checked }
namespace Rows
def none {H : Type} : Left H := { results := [], args := [] }

/-- 'wirelesslaw06.MacTags': WHATEVER THE INPUT: true; the input reads as it did. -/
def macTagsSpec : ChangeSpec := { name := "macTags", fn := fun _ => fun
  | [d1, d2] => { results := [.lit (.bool true)], args := [d1, d2] }
  | _ => none }
def macTagsRow : OpenClaim := { program := "ytebcngpdniamdaa", sum := "ac1c7a28fbbb3ec09c7edb59b05f5de84f8361f9828c44afc5e7cff9bbfd45ad", func := "wireless/wirelesslaw06.MacTags", spec := "macTags", unfollowed := true, recurses := true, apart := false }
def MacTagsSaid : Prop := macTagsRow.holds Try.pinned (OpenSpec.ofChange macTagsSpec)

/-- ITS FALSE NEIGHBOUR: 'it returns false'. Refute it at one input. -/
def macTagsWrong : ChangeSpec := { name := "macTags", fn := fun _ => fun
  | [d1, d2] => { results := [.lit (.bool false)], args := [d1, d2] }
  | _ => none }
def MacTagsWrongFalsely : Prop := macTagsRow.holds Try.pinned (OpenSpec.ofChange macTagsWrong)

/-- 'wirelesslaw06.MacSeals': WHATEVER THE INPUT: true; the input reads as it did. -/
def macSealsSpec : ChangeSpec := { name := "macSeals", fn := fun _ => fun
  | [d1, d2, d3, d4] => { results := [.lit (.bool true)], args := [d1, d2, d3, d4] }
  | _ => none }
def macSealsRow : OpenClaim := { program := "ytebcngpdniamdaa", sum := "ac1c7a28fbbb3ec09c7edb59b05f5de84f8361f9828c44afc5e7cff9bbfd45ad", func := "wireless/wirelesslaw06.MacSeals", spec := "macSeals", unfollowed := true, recurses := true, apart := false }
def MacSealsSaid : Prop := macSealsRow.holds Try.pinned (OpenSpec.ofChange macSealsSpec)

/-- ITS FALSE NEIGHBOUR: 'it returns false'. Refute it at one input. -/
def macSealsWrong : ChangeSpec := { name := "macSeals", fn := fun _ => fun
  | [d1, d2, d3, d4] => { results := [.lit (.bool false)], args := [d1, d2, d3, d4] }
  | _ => none }
def MacSealsWrongFalsely : Prop := macSealsRow.holds Try.pinned (OpenSpec.ofChange macSealsWrong)

/-- 'wirelesslaw06.MacOpens': WHATEVER THE INPUT: true; the input reads as it did. -/
def macOpensSpec : ChangeSpec := { name := "macOpens", fn := fun _ => fun
  | [d1, d2, d3, d4] => { results := [.lit (.bool true)], args := [d1, d2, d3, d4] }
  | _ => none }
def macOpensRow : OpenClaim := { program := "ytebcngpdniamdaa", sum := "ac1c7a28fbbb3ec09c7edb59b05f5de84f8361f9828c44afc5e7cff9bbfd45ad", func := "wireless/wirelesslaw06.MacOpens", spec := "macOpens", unfollowed := true, recurses := true, apart := false }
def MacOpensSaid : Prop := macOpensRow.holds Try.pinned (OpenSpec.ofChange macOpensSpec)

/-- ITS FALSE NEIGHBOUR: 'it returns false'. Refute it at one input. -/
def macOpensWrong : ChangeSpec := { name := "macOpens", fn := fun _ => fun
  | [d1, d2, d3, d4] => { results := [.lit (.bool false)], args := [d1, d2, d3, d4] }
  | _ => none }
def MacOpensWrongFalsely : Prop := macOpensRow.holds Try.pinned (OpenSpec.ofChange macOpensWrong)

/-- 'wirelesslaw06.MacOneGroup': WHATEVER THE INPUT: true; the input reads as it did. -/
def macOneGroupSpec : ChangeSpec := { name := "macOneGroup", fn := fun _ => fun
  | [d1, d2, d3, d4] => { results := [.lit (.bool true)], args := [d1, d2, d3, d4] }
  | _ => none }
def macOneGroupRow : OpenClaim := { program := "ytebcngpdniamdaa", sum := "ac1c7a28fbbb3ec09c7edb59b05f5de84f8361f9828c44afc5e7cff9bbfd45ad", func := "wireless/wirelesslaw06.MacOneGroup", spec := "macOneGroup", unfollowed := true, recurses := true, apart := false }
def MacOneGroupSaid : Prop := macOneGroupRow.holds Try.pinned (OpenSpec.ofChange macOneGroupSpec)

/-- ITS FALSE NEIGHBOUR: 'it returns false'. Refute it at one input. -/
def macOneGroupWrong : ChangeSpec := { name := "macOneGroup", fn := fun _ => fun
  | [d1, d2, d3, d4] => { results := [.lit (.bool false)], args := [d1, d2, d3, d4] }
  | _ => none }
def MacOneGroupWrongFalsely : Prop := macOneGroupRow.holds Try.pinned (OpenSpec.ofChange macOneGroupWrong)

/-- 'wirelesslaw06.MacChanges': WHATEVER THE INPUT: true; the input reads as it did. -/
def macChangesSpec : ChangeSpec := { name := "macChanges", fn := fun _ => fun
  | [d1, d2, d3, d4, d5] => { results := [.lit (.bool true)], args := [d1, d2, d3, d4, d5] }
  | _ => none }
def macChangesRow : OpenClaim := { program := "ytebcngpdniamdaa", sum := "ac1c7a28fbbb3ec09c7edb59b05f5de84f8361f9828c44afc5e7cff9bbfd45ad", func := "wireless/wirelesslaw06.MacChanges", spec := "macChanges", unfollowed := true, recurses := true, apart := false }
def MacChangesSaid : Prop := macChangesRow.holds Try.pinned (OpenSpec.ofChange macChangesSpec)

/-- ITS FALSE NEIGHBOUR: 'it returns false'. Refute it at one input. -/
def macChangesWrong : ChangeSpec := { name := "macChanges", fn := fun _ => fun
  | [d1, d2, d3, d4, d5] => { results := [.lit (.bool false)], args := [d1, d2, d3, d4, d5] }
  | _ => none }
def MacChangesWrongFalsely : Prop := macChangesRow.holds Try.pinned (OpenSpec.ofChange macChangesWrong)

/-- 'wirelesslaw06.MacDerives': WHATEVER THE INPUT: true; the input reads as it did. -/
def macDerivesSpec : ChangeSpec := { name := "macDerives", fn := fun _ => fun
  | [d1, d2, d3] => { results := [.lit (.bool true)], args := [d1, d2, d3] }
  | _ => none }
def macDerivesRow : OpenClaim := { program := "ytebcngpdniamdaa", sum := "ac1c7a28fbbb3ec09c7edb59b05f5de84f8361f9828c44afc5e7cff9bbfd45ad", func := "wireless/wirelesslaw06.MacDerives", spec := "macDerives", unfollowed := true, recurses := true, apart := false }
def MacDerivesSaid : Prop := macDerivesRow.holds Try.pinned (OpenSpec.ofChange macDerivesSpec)

/-- ITS FALSE NEIGHBOUR: 'it returns false'. Refute it at one input. -/
def macDerivesWrong : ChangeSpec := { name := "macDerives", fn := fun _ => fun
  | [d1, d2, d3] => { results := [.lit (.bool false)], args := [d1, d2, d3] }
  | _ => none }
def MacDerivesWrongFalsely : Prop := macDerivesRow.holds Try.pinned (OpenSpec.ofChange macDerivesWrong)

/-- 'wirelesslaw06.MacStreams': WHATEVER THE INPUT: true; the input reads as it did. -/
def macStreamsSpec : ChangeSpec := { name := "macStreams", fn := fun _ => fun
  | [d1, d2, d3] => { results := [.lit (.bool true)], args := [d1, d2, d3] }
  | _ => none }
def macStreamsRow : OpenClaim := { program := "ytebcngpdniamdaa", sum := "ac1c7a28fbbb3ec09c7edb59b05f5de84f8361f9828c44afc5e7cff9bbfd45ad", func := "wireless/wirelesslaw06.MacStreams", spec := "macStreams", unfollowed := true, recurses := true, apart := false }
def MacStreamsSaid : Prop := macStreamsRow.holds Try.pinned (OpenSpec.ofChange macStreamsSpec)

/-- ITS FALSE NEIGHBOUR: 'it returns false'. Refute it at one input. -/
def macStreamsWrong : ChangeSpec := { name := "macStreams", fn := fun _ => fun
  | [d1, d2, d3] => { results := [.lit (.bool false)], args := [d1, d2, d3] }
  | _ => none }
def MacStreamsWrongFalsely : Prop := macStreamsRow.holds Try.pinned (OpenSpec.ofChange macStreamsWrong)

/-- 'wirelesslaw06.MacStreamLimit': WHATEVER THE INPUT: true; the input reads as it did. -/
def macStreamLimitSpec : ChangeSpec := { name := "macStreamLimit", fn := fun _ => fun
  | [d1, d2, d3, d4] => { results := [.lit (.bool true)], args := [d1, d2, d3, d4] }
  | _ => none }
def macStreamLimitRow : OpenClaim := { program := "ytebcngpdniamdaa", sum := "ac1c7a28fbbb3ec09c7edb59b05f5de84f8361f9828c44afc5e7cff9bbfd45ad", func := "wireless/wirelesslaw06.MacStreamLimit", spec := "macStreamLimit", unfollowed := true, recurses := true, apart := false }
def MacStreamLimitSaid : Prop := macStreamLimitRow.holds Try.pinned (OpenSpec.ofChange macStreamLimitSpec)

/-- ITS FALSE NEIGHBOUR: 'it returns false'. Refute it at one input. -/
def macStreamLimitWrong : ChangeSpec := { name := "macStreamLimit", fn := fun _ => fun
  | [d1, d2, d3, d4] => { results := [.lit (.bool false)], args := [d1, d2, d3, d4] }
  | _ => none }
def MacStreamLimitWrongFalsely : Prop := macStreamLimitRow.holds Try.pinned (OpenSpec.ofChange macStreamLimitWrong)

/-- 'wirelesslaw06.MacInverse': WHATEVER THE INPUT: true; the input reads as it did. -/
def macInverseSpec : ChangeSpec := { name := "macInverse", fn := fun _ => fun
  | [d1, d2, d3, d4] => { results := [.lit (.bool true)], args := [d1, d2, d3, d4] }
  | _ => none }
def macInverseRow : OpenClaim := { program := "ytebcngpdniamdaa", sum := "ac1c7a28fbbb3ec09c7edb59b05f5de84f8361f9828c44afc5e7cff9bbfd45ad", func := "wireless/wirelesslaw06.MacInverse", spec := "macInverse", unfollowed := true, recurses := true, apart := false }
def MacInverseSaid : Prop := macInverseRow.holds Try.pinned (OpenSpec.ofChange macInverseSpec)

/-- ITS FALSE NEIGHBOUR: 'it returns false'. Refute it at one input. -/
def macInverseWrong : ChangeSpec := { name := "macInverse", fn := fun _ => fun
  | [d1, d2, d3, d4] => { results := [.lit (.bool false)], args := [d1, d2, d3, d4] }
  | _ => none }
def MacInverseWrongFalsely : Prop := macInverseRow.holds Try.pinned (OpenSpec.ofChange macInverseWrong)

/- THE SECOND FORM. 'bulk': how many values and letters a reading holds, each counted each time it is reached (what is shared counts as often as it is met; a slice's spare places count too). A statement '..UptoSaid' is the law's where the arguments, and the package variables that the reading takes, are together of bulk at most 1048576: NARROWER than '..Said'. Prove '..Said' where nothing that the law and all that it calls make is longer than what came in: it says more and counts as full. Else prove '..UptoSaid'. A law counts once. -/
mutual
def uptoBulk {H : Type} : DataW H → Nat
  | .lit (.string bytes) => bytes.length + 1
  | .lit _ => 1
  | .nil => 1
  | .ptr d => uptoBulk d + 1
  | .slice elems spare => uptoBulkAll elems + uptoBulkAll spare + 1
  | .agg parts => uptoBulkAll parts + 1
  | .iface _ d => uptoBulk d + 1
  | .map entries => uptoBulkEntries entries + 1
  | .held _ => 1
def uptoBulkAll {H : Type} : List (DataW H) → Nat
  | [] => 0
  | d :: r => uptoBulk d + uptoBulkAll r
def uptoBulkEntries {H : Type} : List (Lit × DataW H) → Nat
  | [] => 0
  | x :: r => uptoBulkEntry x + uptoBulkEntries r
def uptoBulkEntry {H : Type} : Lit × DataW H → Nat
  | (.string bytes, d) => bytes.length + uptoBulk d + 1
  | (_, d) => uptoBulk d + 1
 end
def uptoSmall : (H : Type) → List (DataW H) → Bool := fun _ ds => decide (uptoBulkAll ds ≤ 1048576)
def OpenSpec.upto (s : _root_.Go.ChangeSpec) : _root_.Go.OpenSpec := { _root_.Go.OpenSpec.ofChange s with cond := some uptoSmall }

/-- 'wirelesslaw06.MacTags', WHERE WHAT IT READS IS OF BULK AT MOST 1048576: true; the input reads as it did. -/
def macTagsUptoRow : OpenClaim := { program := "ytebcngpdniamdaa", sum := "ac1c7a28fbbb3ec09c7edb59b05f5de84f8361f9828c44afc5e7cff9bbfd45ad", func := "wireless/wirelesslaw06.MacTags", spec := "macTags", unfollowed := true, recurses := true, apart := false, narrowed := true }
def MacTagsUptoSaid : Prop := macTagsUptoRow.holds Try.pinned (OpenSpec.upto macTagsSpec)

/-- 'wirelesslaw06.MacSeals', WHERE WHAT IT READS IS OF BULK AT MOST 1048576: true; the input reads as it did. -/
def macSealsUptoRow : OpenClaim := { program := "ytebcngpdniamdaa", sum := "ac1c7a28fbbb3ec09c7edb59b05f5de84f8361f9828c44afc5e7cff9bbfd45ad", func := "wireless/wirelesslaw06.MacSeals", spec := "macSeals", unfollowed := true, recurses := true, apart := false, narrowed := true }
def MacSealsUptoSaid : Prop := macSealsUptoRow.holds Try.pinned (OpenSpec.upto macSealsSpec)

/-- 'wirelesslaw06.MacOpens', WHERE WHAT IT READS IS OF BULK AT MOST 1048576: true; the input reads as it did. -/
def macOpensUptoRow : OpenClaim := { program := "ytebcngpdniamdaa", sum := "ac1c7a28fbbb3ec09c7edb59b05f5de84f8361f9828c44afc5e7cff9bbfd45ad", func := "wireless/wirelesslaw06.MacOpens", spec := "macOpens", unfollowed := true, recurses := true, apart := false, narrowed := true }
def MacOpensUptoSaid : Prop := macOpensUptoRow.holds Try.pinned (OpenSpec.upto macOpensSpec)

/-- 'wirelesslaw06.MacOneGroup', WHERE WHAT IT READS IS OF BULK AT MOST 1048576: true; the input reads as it did. -/
def macOneGroupUptoRow : OpenClaim := { program := "ytebcngpdniamdaa", sum := "ac1c7a28fbbb3ec09c7edb59b05f5de84f8361f9828c44afc5e7cff9bbfd45ad", func := "wireless/wirelesslaw06.MacOneGroup", spec := "macOneGroup", unfollowed := true, recurses := true, apart := false, narrowed := true }
def MacOneGroupUptoSaid : Prop := macOneGroupUptoRow.holds Try.pinned (OpenSpec.upto macOneGroupSpec)

/-- 'wirelesslaw06.MacChanges', WHERE WHAT IT READS IS OF BULK AT MOST 1048576: true; the input reads as it did. -/
def macChangesUptoRow : OpenClaim := { program := "ytebcngpdniamdaa", sum := "ac1c7a28fbbb3ec09c7edb59b05f5de84f8361f9828c44afc5e7cff9bbfd45ad", func := "wireless/wirelesslaw06.MacChanges", spec := "macChanges", unfollowed := true, recurses := true, apart := false, narrowed := true }
def MacChangesUptoSaid : Prop := macChangesUptoRow.holds Try.pinned (OpenSpec.upto macChangesSpec)

/-- 'wirelesslaw06.MacDerives', WHERE WHAT IT READS IS OF BULK AT MOST 1048576: true; the input reads as it did. -/
def macDerivesUptoRow : OpenClaim := { program := "ytebcngpdniamdaa", sum := "ac1c7a28fbbb3ec09c7edb59b05f5de84f8361f9828c44afc5e7cff9bbfd45ad", func := "wireless/wirelesslaw06.MacDerives", spec := "macDerives", unfollowed := true, recurses := true, apart := false, narrowed := true }
def MacDerivesUptoSaid : Prop := macDerivesUptoRow.holds Try.pinned (OpenSpec.upto macDerivesSpec)

/-- 'wirelesslaw06.MacStreams', WHERE WHAT IT READS IS OF BULK AT MOST 1048576: true; the input reads as it did. -/
def macStreamsUptoRow : OpenClaim := { program := "ytebcngpdniamdaa", sum := "ac1c7a28fbbb3ec09c7edb59b05f5de84f8361f9828c44afc5e7cff9bbfd45ad", func := "wireless/wirelesslaw06.MacStreams", spec := "macStreams", unfollowed := true, recurses := true, apart := false, narrowed := true }
def MacStreamsUptoSaid : Prop := macStreamsUptoRow.holds Try.pinned (OpenSpec.upto macStreamsSpec)

/-- 'wirelesslaw06.MacStreamLimit', WHERE WHAT IT READS IS OF BULK AT MOST 1048576: true; the input reads as it did. -/
def macStreamLimitUptoRow : OpenClaim := { program := "ytebcngpdniamdaa", sum := "ac1c7a28fbbb3ec09c7edb59b05f5de84f8361f9828c44afc5e7cff9bbfd45ad", func := "wireless/wirelesslaw06.MacStreamLimit", spec := "macStreamLimit", unfollowed := true, recurses := true, apart := false, narrowed := true }
def MacStreamLimitUptoSaid : Prop := macStreamLimitUptoRow.holds Try.pinned (OpenSpec.upto macStreamLimitSpec)

/-- 'wirelesslaw06.MacInverse', WHERE WHAT IT READS IS OF BULK AT MOST 1048576: true; the input reads as it did. -/
def macInverseUptoRow : OpenClaim := { program := "ytebcngpdniamdaa", sum := "ac1c7a28fbbb3ec09c7edb59b05f5de84f8361f9828c44afc5e7cff9bbfd45ad", func := "wireless/wirelesslaw06.MacInverse", spec := "macInverse", unfollowed := true, recurses := true, apart := false, narrowed := true }
def MacInverseUptoSaid : Prop := macInverseUptoRow.holds Try.pinned (OpenSpec.upto macInverseSpec)

end Rows
end Go.Proofs.Ytebcngpdniamdaa
