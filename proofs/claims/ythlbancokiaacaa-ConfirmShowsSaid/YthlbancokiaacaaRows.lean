/-
  No cell of these rows narrows 'for every input' (looked for: loops, veiled, ifaces, maps, wideKeys, modest, calm, conditions, laid).
  DERIVED. THE GIVEN ROWS OF THIS SEAT. 8 by the template 'for every input the law returns true; each argument reads behind the call as it read before'; 0 by the template 'total and deterministic' (their statements: YthlbancokiaacaaTotals.lean).
  GIVEN WITH THE SEED: the statements are not yours to turn. If you find one false, say at which input.
  Laid BY PROGRAM, IN A SANDBOX (cutbox-rows.mjs): the forced cells as the released guide's own fill.sh prints them over the translation 742ba0b82de8a4d1… (all of the seat's roots in one cut). By AI agents, Wed Nov 11 2026. No macro, syntax, notation, axiom, sorry.
-/
import Derived.Test.YthlbancokiaacaaChecked
import GoSem.Claim
import GoSem.ClaimJoined
import GoSem.ClaimMapViews
import Derived.JoinedTies
import Derived.KernelRfl
namespace Go.Proofs.Ythlbancokiaacaa
/- THE CELL 'sum', in the pinned program and in every row, IS THE sha256 OF THE DUMP (.gsa) THAT YthlbancokiaacaaProg.lean LOADS. Nothing in Lean hashes anything: it is a label: what it is worth is what the hold of that sum in a sandbox is worth. -/
noncomputable def Try.pinned : Pinned := { name := "ythlbancokiaacaa", sum := "742ba0b82de8a4d1d36258a21cf3379a28dbfa872b5a3543c172f4665bd3df9c", checked := Try.checked }
namespace Rows
def none {H : Type} : Left H := { results := [], args := [] }

/-- 'wirelesslaw10.ConfirmDraws': WHATEVER THE INPUT: true; the input reads as it did. -/
def confirmDrawsSpec : ChangeSpec := { name := "confirmDraws", fn := fun _ => fun
  | [d1, d2, d3] => { results := [.lit (.bool true)], args := [d1, d2, d3] }
  | _ => none }
def confirmDrawsRow : OpenClaim := { program := "ythlbancokiaacaa", sum := "742ba0b82de8a4d1d36258a21cf3379a28dbfa872b5a3543c172f4665bd3df9c", func := "wireless/wirelesslaw10.ConfirmDraws", spec := "confirmDraws", unfollowed := true, recurses := true, apart := false }
def ConfirmDrawsSaid : Prop := confirmDrawsRow.holds Try.pinned (OpenSpec.ofChange confirmDrawsSpec)

/-- ITS FALSE NEIGHBOUR: 'it returns false'. Refute it at one input. -/
def confirmDrawsWrong : ChangeSpec := { name := "confirmDraws", fn := fun _ => fun
  | [d1, d2, d3] => { results := [.lit (.bool false)], args := [d1, d2, d3] }
  | _ => none }
def ConfirmDrawsWrongFalsely : Prop := confirmDrawsRow.holds Try.pinned (OpenSpec.ofChange confirmDrawsWrong)

/-- 'wirelesslaw10.ConfirmCommits': WHATEVER THE INPUT: true; the input reads as it did. -/
def confirmCommitsSpec : ChangeSpec := { name := "confirmCommits", fn := fun _ => fun
  | [d1, d2, d3, d4] => { results := [.lit (.bool true)], args := [d1, d2, d3, d4] }
  | _ => none }
def confirmCommitsRow : OpenClaim := { program := "ythlbancokiaacaa", sum := "742ba0b82de8a4d1d36258a21cf3379a28dbfa872b5a3543c172f4665bd3df9c", func := "wireless/wirelesslaw10.ConfirmCommits", spec := "confirmCommits", unfollowed := true, recurses := true, apart := false }
def ConfirmCommitsSaid : Prop := confirmCommitsRow.holds Try.pinned (OpenSpec.ofChange confirmCommitsSpec)

/-- ITS FALSE NEIGHBOUR: 'it returns false'. Refute it at one input. -/
def confirmCommitsWrong : ChangeSpec := { name := "confirmCommits", fn := fun _ => fun
  | [d1, d2, d3, d4] => { results := [.lit (.bool false)], args := [d1, d2, d3, d4] }
  | _ => none }
def ConfirmCommitsWrongFalsely : Prop := confirmCommitsRow.holds Try.pinned (OpenSpec.ofChange confirmCommitsWrong)

/-- 'wirelesslaw10.ConfirmBinds': WHATEVER THE INPUT: true; the input reads as it did. -/
def confirmBindsSpec : ChangeSpec := { name := "confirmBinds", fn := fun _ => fun
  | [d1, d2, d3, d4, d5] => { results := [.lit (.bool true)], args := [d1, d2, d3, d4, d5] }
  | _ => none }
def confirmBindsRow : OpenClaim := { program := "ythlbancokiaacaa", sum := "742ba0b82de8a4d1d36258a21cf3379a28dbfa872b5a3543c172f4665bd3df9c", func := "wireless/wirelesslaw10.ConfirmBinds", spec := "confirmBinds", unfollowed := true, recurses := true, apart := false }
def ConfirmBindsSaid : Prop := confirmBindsRow.holds Try.pinned (OpenSpec.ofChange confirmBindsSpec)

/-- ITS FALSE NEIGHBOUR: 'it returns false'. Refute it at one input. -/
def confirmBindsWrong : ChangeSpec := { name := "confirmBinds", fn := fun _ => fun
  | [d1, d2, d3, d4, d5] => { results := [.lit (.bool false)], args := [d1, d2, d3, d4, d5] }
  | _ => none }
def ConfirmBindsWrongFalsely : Prop := confirmBindsRow.holds Try.pinned (OpenSpec.ofChange confirmBindsWrong)

/-- 'wirelesslaw10.ConfirmDigits': WHATEVER THE INPUT: true; the input reads as it did. -/
def confirmDigitsSpec : ChangeSpec := { name := "confirmDigits", fn := fun _ => fun
  | [d1, d2, d3, d4] => { results := [.lit (.bool true)], args := [d1, d2, d3, d4] }
  | _ => none }
def confirmDigitsRow : OpenClaim := { program := "ythlbancokiaacaa", sum := "742ba0b82de8a4d1d36258a21cf3379a28dbfa872b5a3543c172f4665bd3df9c", func := "wireless/wirelesslaw10.ConfirmDigits", spec := "confirmDigits", unfollowed := true, recurses := true, apart := false }
def ConfirmDigitsSaid : Prop := confirmDigitsRow.holds Try.pinned (OpenSpec.ofChange confirmDigitsSpec)

/-- ITS FALSE NEIGHBOUR: 'it returns false'. Refute it at one input. -/
def confirmDigitsWrong : ChangeSpec := { name := "confirmDigits", fn := fun _ => fun
  | [d1, d2, d3, d4] => { results := [.lit (.bool false)], args := [d1, d2, d3, d4] }
  | _ => none }
def ConfirmDigitsWrongFalsely : Prop := confirmDigitsRow.holds Try.pinned (OpenSpec.ofChange confirmDigitsWrong)

/-- 'wirelesslaw10.ConfirmBuilt': WHATEVER THE INPUT: true; the input reads as it did. -/
def confirmBuiltSpec : ChangeSpec := { name := "confirmBuilt", fn := fun _ => fun
  | [d1, d2, d3, d4, d5] => { results := [.lit (.bool true)], args := [d1, d2, d3, d4, d5] }
  | _ => none }
def confirmBuiltRow : OpenClaim := { program := "ythlbancokiaacaa", sum := "742ba0b82de8a4d1d36258a21cf3379a28dbfa872b5a3543c172f4665bd3df9c", func := "wireless/wirelesslaw10.ConfirmBuilt", spec := "confirmBuilt", unfollowed := true, recurses := true, apart := false }
def ConfirmBuiltSaid : Prop := confirmBuiltRow.holds Try.pinned (OpenSpec.ofChange confirmBuiltSpec)

/-- ITS FALSE NEIGHBOUR: 'it returns false'. Refute it at one input. -/
def confirmBuiltWrong : ChangeSpec := { name := "confirmBuilt", fn := fun _ => fun
  | [d1, d2, d3, d4, d5] => { results := [.lit (.bool false)], args := [d1, d2, d3, d4, d5] }
  | _ => none }
def ConfirmBuiltWrongFalsely : Prop := confirmBuiltRow.holds Try.pinned (OpenSpec.ofChange confirmBuiltWrong)

/-- 'wirelesslaw10.ConfirmKeys': WHATEVER THE INPUT: true; the input reads as it did. -/
def confirmKeysSpec : ChangeSpec := { name := "confirmKeys", fn := fun _ => fun
  | [d1, d2, d3, d4, d5] => { results := [.lit (.bool true)], args := [d1, d2, d3, d4, d5] }
  | _ => none }
def confirmKeysRow : OpenClaim := { program := "ythlbancokiaacaa", sum := "742ba0b82de8a4d1d36258a21cf3379a28dbfa872b5a3543c172f4665bd3df9c", func := "wireless/wirelesslaw10.ConfirmKeys", spec := "confirmKeys", unfollowed := true, recurses := true, apart := false }
def ConfirmKeysSaid : Prop := confirmKeysRow.holds Try.pinned (OpenSpec.ofChange confirmKeysSpec)

/-- ITS FALSE NEIGHBOUR: 'it returns false'. Refute it at one input. -/
def confirmKeysWrong : ChangeSpec := { name := "confirmKeys", fn := fun _ => fun
  | [d1, d2, d3, d4, d5] => { results := [.lit (.bool false)], args := [d1, d2, d3, d4, d5] }
  | _ => none }
def ConfirmKeysWrongFalsely : Prop := confirmKeysRow.holds Try.pinned (OpenSpec.ofChange confirmKeysWrong)

/-- 'wirelesslaw10.ConfirmChecks': WHATEVER THE INPUT: true; the input reads as it did. -/
def confirmChecksSpec : ChangeSpec := { name := "confirmChecks", fn := fun _ => fun
  | [d1, d2, d3, d4, d5, d6] => { results := [.lit (.bool true)], args := [d1, d2, d3, d4, d5, d6] }
  | _ => none }
def confirmChecksRow : OpenClaim := { program := "ythlbancokiaacaa", sum := "742ba0b82de8a4d1d36258a21cf3379a28dbfa872b5a3543c172f4665bd3df9c", func := "wireless/wirelesslaw10.ConfirmChecks", spec := "confirmChecks", unfollowed := true, recurses := true, apart := false }
def ConfirmChecksSaid : Prop := confirmChecksRow.holds Try.pinned (OpenSpec.ofChange confirmChecksSpec)

/-- ITS FALSE NEIGHBOUR: 'it returns false'. Refute it at one input. -/
def confirmChecksWrong : ChangeSpec := { name := "confirmChecks", fn := fun _ => fun
  | [d1, d2, d3, d4, d5, d6] => { results := [.lit (.bool false)], args := [d1, d2, d3, d4, d5, d6] }
  | _ => none }
def ConfirmChecksWrongFalsely : Prop := confirmChecksRow.holds Try.pinned (OpenSpec.ofChange confirmChecksWrong)

/-- 'wirelesslaw10.ConfirmShows': WHATEVER THE INPUT: true; the input reads as it did. -/
def confirmShowsSpec : ChangeSpec := { name := "confirmShows", fn := fun _ => fun
  | [d1, d2, d3, d4, d5, d6, d7] => { results := [.lit (.bool true)], args := [d1, d2, d3, d4, d5, d6, d7] }
  | _ => none }
def confirmShowsRow : OpenClaim := { program := "ythlbancokiaacaa", sum := "742ba0b82de8a4d1d36258a21cf3379a28dbfa872b5a3543c172f4665bd3df9c", func := "wireless/wirelesslaw10.ConfirmShows", spec := "confirmShows", unfollowed := true, recurses := true, apart := false }
def ConfirmShowsSaid : Prop := confirmShowsRow.holds Try.pinned (OpenSpec.ofChange confirmShowsSpec)

/-- ITS FALSE NEIGHBOUR: 'it returns false'. Refute it at one input. -/
def confirmShowsWrong : ChangeSpec := { name := "confirmShows", fn := fun _ => fun
  | [d1, d2, d3, d4, d5, d6, d7] => { results := [.lit (.bool false)], args := [d1, d2, d3, d4, d5, d6, d7] }
  | _ => none }
def ConfirmShowsWrongFalsely : Prop := confirmShowsRow.holds Try.pinned (OpenSpec.ofChange confirmShowsWrong)

/- THE SECOND FORM. 'bulk': how many values and letters a reading holds, each counted each time it is reached (what is shared counts as often as it is met; a slice's spare places count too). A statement '..UptoSaid' is the law's where the arguments, and the package variables that the reading takes, are together of bulk at most 1048576: NARROWER than '..Said'. Prove '..Said' where nothing that the law and all that it calls make is longer than what came in: it says more and counts as full. Else prove '..UptoSaid'. A law counts once. -/
mutual
def uptoBulk {H : Type} : DataW H → Nat
  | .lit (.string bytes) => bytes.length + 1
  | .lit _ => 1
  | .nil => 1
  | .ptr d => uptoBulk d + 1
  | .slice elems spare => uptoBulkAll elems + uptoBulkAll spare + 1
  | .agg parts => uptoBulkAll parts + 1
  | .iface _ d => uptoBulk d + 1
  | .map entries => uptoBulkEntries entries + 1
  | .held _ => 1
def uptoBulkAll {H : Type} : List (DataW H) → Nat
  | [] => 0
  | d :: r => uptoBulk d + uptoBulkAll r
def uptoBulkEntries {H : Type} : List (Lit × DataW H) → Nat
  | [] => 0
  | x :: r => uptoBulkEntry x + uptoBulkEntries r
def uptoBulkEntry {H : Type} : Lit × DataW H → Nat
  | (.string bytes, d) => bytes.length + uptoBulk d + 1
  | (_, d) => uptoBulk d + 1
 end
def uptoSmall : (H : Type) → List (DataW H) → Bool := fun _ ds => decide (uptoBulkAll ds ≤ 1048576)
def OpenSpec.upto (s : _root_.Go.ChangeSpec) : _root_.Go.OpenSpec := { _root_.Go.OpenSpec.ofChange s with cond := some uptoSmall }

/-- 'wirelesslaw10.ConfirmDraws', WHERE WHAT IT READS IS OF BULK AT MOST 1048576: true; the input reads as it did. -/
def confirmDrawsUptoRow : OpenClaim := { program := "ythlbancokiaacaa", sum := "742ba0b82de8a4d1d36258a21cf3379a28dbfa872b5a3543c172f4665bd3df9c", func := "wireless/wirelesslaw10.ConfirmDraws", spec := "confirmDraws", unfollowed := true, recurses := true, apart := false, narrowed := true }
def ConfirmDrawsUptoSaid : Prop := confirmDrawsUptoRow.holds Try.pinned (OpenSpec.upto confirmDrawsSpec)

/-- 'wirelesslaw10.ConfirmCommits', WHERE WHAT IT READS IS OF BULK AT MOST 1048576: true; the input reads as it did. -/
def confirmCommitsUptoRow : OpenClaim := { program := "ythlbancokiaacaa", sum := "742ba0b82de8a4d1d36258a21cf3379a28dbfa872b5a3543c172f4665bd3df9c", func := "wireless/wirelesslaw10.ConfirmCommits", spec := "confirmCommits", unfollowed := true, recurses := true, apart := false, narrowed := true }
def ConfirmCommitsUptoSaid : Prop := confirmCommitsUptoRow.holds Try.pinned (OpenSpec.upto confirmCommitsSpec)

/-- 'wirelesslaw10.ConfirmBinds', WHERE WHAT IT READS IS OF BULK AT MOST 1048576: true; the input reads as it did. -/
def confirmBindsUptoRow : OpenClaim := { program := "ythlbancokiaacaa", sum := "742ba0b82de8a4d1d36258a21cf3379a28dbfa872b5a3543c172f4665bd3df9c", func := "wireless/wirelesslaw10.ConfirmBinds", spec := "confirmBinds", unfollowed := true, recurses := true, apart := false, narrowed := true }
def ConfirmBindsUptoSaid : Prop := confirmBindsUptoRow.holds Try.pinned (OpenSpec.upto confirmBindsSpec)

/-- 'wirelesslaw10.ConfirmDigits', WHERE WHAT IT READS IS OF BULK AT MOST 1048576: true; the input reads as it did. -/
def confirmDigitsUptoRow : OpenClaim := { program := "ythlbancokiaacaa", sum := "742ba0b82de8a4d1d36258a21cf3379a28dbfa872b5a3543c172f4665bd3df9c", func := "wireless/wirelesslaw10.ConfirmDigits", spec := "confirmDigits", unfollowed := true, recurses := true, apart := false, narrowed := true }
def ConfirmDigitsUptoSaid : Prop := confirmDigitsUptoRow.holds Try.pinned (OpenSpec.upto confirmDigitsSpec)

/-- 'wirelesslaw10.ConfirmBuilt', WHERE WHAT IT READS IS OF BULK AT MOST 1048576: true; the input reads as it did. -/
def confirmBuiltUptoRow : OpenClaim := { program := "ythlbancokiaacaa", sum := "742ba0b82de8a4d1d36258a21cf3379a28dbfa872b5a3543c172f4665bd3df9c", func := "wireless/wirelesslaw10.ConfirmBuilt", spec := "confirmBuilt", unfollowed := true, recurses := true, apart := false, narrowed := true }
def ConfirmBuiltUptoSaid : Prop := confirmBuiltUptoRow.holds Try.pinned (OpenSpec.upto confirmBuiltSpec)

/-- 'wirelesslaw10.ConfirmKeys', WHERE WHAT IT READS IS OF BULK AT MOST 1048576: true; the input reads as it did. -/
def confirmKeysUptoRow : OpenClaim := { program := "ythlbancokiaacaa", sum := "742ba0b82de8a4d1d36258a21cf3379a28dbfa872b5a3543c172f4665bd3df9c", func := "wireless/wirelesslaw10.ConfirmKeys", spec := "confirmKeys", unfollowed := true, recurses := true, apart := false, narrowed := true }
def ConfirmKeysUptoSaid : Prop := confirmKeysUptoRow.holds Try.pinned (OpenSpec.upto confirmKeysSpec)

/-- 'wirelesslaw10.ConfirmChecks', WHERE WHAT IT READS IS OF BULK AT MOST 1048576: true; the input reads as it did. -/
def confirmChecksUptoRow : OpenClaim := { program := "ythlbancokiaacaa", sum := "742ba0b82de8a4d1d36258a21cf3379a28dbfa872b5a3543c172f4665bd3df9c", func := "wireless/wirelesslaw10.ConfirmChecks", spec := "confirmChecks", unfollowed := true, recurses := true, apart := false, narrowed := true }
def ConfirmChecksUptoSaid : Prop := confirmChecksUptoRow.holds Try.pinned (OpenSpec.upto confirmChecksSpec)

/-- 'wirelesslaw10.ConfirmShows', WHERE WHAT IT READS IS OF BULK AT MOST 1048576: true; the input reads as it did. -/
def confirmShowsUptoRow : OpenClaim := { program := "ythlbancokiaacaa", sum := "742ba0b82de8a4d1d36258a21cf3379a28dbfa872b5a3543c172f4665bd3df9c", func := "wireless/wirelesslaw10.ConfirmShows", spec := "confirmShows", unfollowed := true, recurses := true, apart := false, narrowed := true }
def ConfirmShowsUptoSaid : Prop := confirmShowsUptoRow.holds Try.pinned (OpenSpec.upto confirmShowsSpec)

end Rows
end Go.Proofs.Ythlbancokiaacaa
