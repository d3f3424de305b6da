/-
  No cell of these rows narrows 'for every input' (looked for: loops, veiled, ifaces, maps, wideKeys, modest, calm, conditions, laid).
  DERIVED. THE GIVEN ROWS OF THIS SEAT. 12 by the template 'for every input the law returns true; each argument reads behind the call as it read before'; 0 by the template 'total and deterministic' (their statements: YtmehemojopfihaaTotals.lean).
  GIVEN WITH THE SEED: the statements are not yours to turn. If you find one false, say at which input.
  Laid BY PROGRAM, IN A SANDBOX (cutbox-rows.mjs): the forced cells as the released guide's own fill.sh prints them over the translation 576878d37c531b0d… (all of the seat's roots in one cut). By AI agents, Wed Nov 11 2026. No macro, syntax, notation, axiom, sorry.
-/
import Derived.Test.YtmehemojopfihaaChecked
import GoSem.Claim
import GoSem.ClaimJoined
import GoSem.ClaimMapViews
import Derived.JoinedTies
import Derived.KernelRfl
namespace Go.Proofs.Ytmehemojopfihaa
/- THE CELL 'sum', in the pinned program and in every row, IS THE sha256 OF THE DUMP (.gsa) THAT YtmehemojopfihaaProg.lean LOADS. Nothing in Lean hashes anything: it is a label: what it is worth is what the hold of that sum in a sandbox is worth. -/
noncomputable def Try.pinned : Pinned := { name := "ytmehemojopfihaa", sum := "576878d37c531b0dd2e2bbe81bb9b0c2d2003ab3f90e316851d119b6287d3498", checked := Try.checked }
namespace Rows
def none {H : Type} : Left H := { results := [], args := [] }

/-- 'wirelesslaw52.RefreshKeys': WHATEVER THE INPUT: true; the input reads as it did. -/
def refreshKeysSpec : ChangeSpec := { name := "refreshKeys", fn := fun _ => fun
  | [d1, d2, d3] => { results := [.lit (.bool true)], args := [d1, d2, d3] }
  | _ => none }
def refreshKeysRow : OpenClaim := { program := "ytmehemojopfihaa", sum := "576878d37c531b0dd2e2bbe81bb9b0c2d2003ab3f90e316851d119b6287d3498", func := "wireless/wirelesslaw52.RefreshKeys", spec := "refreshKeys", unfollowed := true, recurses := true, apart := false }
def RefreshKeysSaid : Prop := refreshKeysRow.holds Try.pinned (OpenSpec.ofChange refreshKeysSpec)

/-- ITS FALSE NEIGHBOUR: 'it returns false'. Refute it at one input. -/
def refreshKeysWrong : ChangeSpec := { name := "refreshKeys", fn := fun _ => fun
  | [d1, d2, d3] => { results := [.lit (.bool false)], args := [d1, d2, d3] }
  | _ => none }
def RefreshKeysWrongFalsely : Prop := refreshKeysRow.holds Try.pinned (OpenSpec.ofChange refreshKeysWrong)

/-- 'wirelesslaw29.EncryptNews': WHATEVER THE INPUT: true; the input reads as it did. -/
def encryptNewsSpec : ChangeSpec := { name := "encryptNews", fn := fun _ => fun
  | [d1, d2, d3, d4] => { results := [.lit (.bool true)], args := [d1, d2, d3, d4] }
  | _ => none }
def encryptNewsRow : OpenClaim := { program := "ytmehemojopfihaa", sum := "576878d37c531b0dd2e2bbe81bb9b0c2d2003ab3f90e316851d119b6287d3498", func := "wireless/wirelesslaw29.EncryptNews", spec := "encryptNews", unfollowed := true, recurses := true, apart := false }
def EncryptNewsSaid : Prop := encryptNewsRow.holds Try.pinned (OpenSpec.ofChange encryptNewsSpec)

/-- ITS FALSE NEIGHBOUR: 'it returns false'. Refute it at one input. -/
def encryptNewsWrong : ChangeSpec := { name := "encryptNews", fn := fun _ => fun
  | [d1, d2, d3, d4] => { results := [.lit (.bool false)], args := [d1, d2, d3, d4] }
  | _ => none }
def EncryptNewsWrongFalsely : Prop := encryptNewsRow.holds Try.pinned (OpenSpec.ofChange encryptNewsWrong)

/-- 'wirelesslaw29.EncryptSeals': WHATEVER THE INPUT: true; the input reads as it did. -/
def encryptSealsSpec : ChangeSpec := { name := "encryptSeals", fn := fun _ => fun
  | [d1, d2] => { results := [.lit (.bool true)], args := [d1, d2] }
  | _ => none }
def encryptSealsRow : OpenClaim := { program := "ytmehemojopfihaa", sum := "576878d37c531b0dd2e2bbe81bb9b0c2d2003ab3f90e316851d119b6287d3498", func := "wireless/wirelesslaw29.EncryptSeals", spec := "encryptSeals", unfollowed := true, recurses := true, apart := false }
def EncryptSealsSaid : Prop := encryptSealsRow.holds Try.pinned (OpenSpec.ofChange encryptSealsSpec)

/-- ITS FALSE NEIGHBOUR: 'it returns false'. Refute it at one input. -/
def encryptSealsWrong : ChangeSpec := { name := "encryptSeals", fn := fun _ => fun
  | [d1, d2] => { results := [.lit (.bool false)], args := [d1, d2] }
  | _ => none }
def EncryptSealsWrongFalsely : Prop := encryptSealsRow.holds Try.pinned (OpenSpec.ofChange encryptSealsWrong)

/-- 'wirelesslaw29.EncryptRepeats': WHATEVER THE INPUT: true; the input reads as it did. -/
def encryptRepeatsSpec : ChangeSpec := { name := "encryptRepeats", fn := fun _ => fun
  | [d1, d2, d3, d4, d5] => { results := [.lit (.bool true)], args := [d1, d2, d3, d4, d5] }
  | _ => none }
def encryptRepeatsRow : OpenClaim := { program := "ytmehemojopfihaa", sum := "576878d37c531b0dd2e2bbe81bb9b0c2d2003ab3f90e316851d119b6287d3498", func := "wireless/wirelesslaw29.EncryptRepeats", spec := "encryptRepeats", unfollowed := true, recurses := true, apart := false }
def EncryptRepeatsSaid : Prop := encryptRepeatsRow.holds Try.pinned (OpenSpec.ofChange encryptRepeatsSpec)

/-- ITS FALSE NEIGHBOUR: 'it returns false'. Refute it at one input. -/
def encryptRepeatsWrong : ChangeSpec := { name := "encryptRepeats", fn := fun _ => fun
  | [d1, d2, d3, d4, d5] => { results := [.lit (.bool false)], args := [d1, d2, d3, d4, d5] }
  | _ => none }
def EncryptRepeatsWrongFalsely : Prop := encryptRepeatsRow.holds Try.pinned (OpenSpec.ofChange encryptRepeatsWrong)

/-- 'wirelesslaw52.RefreshIndexes': WHATEVER THE INPUT: true; the input reads as it did. -/
def refreshIndexesSpec : ChangeSpec := { name := "refreshIndexes", fn := fun _ => fun
  | [d1, d2, d3] => { results := [.lit (.bool true)], args := [d1, d2, d3] }
  | _ => none }
def refreshIndexesRow : OpenClaim := { program := "ytmehemojopfihaa", sum := "576878d37c531b0dd2e2bbe81bb9b0c2d2003ab3f90e316851d119b6287d3498", func := "wireless/wirelesslaw52.RefreshIndexes", spec := "refreshIndexes", unfollowed := true, recurses := true, apart := false }
def RefreshIndexesSaid : Prop := refreshIndexesRow.holds Try.pinned (OpenSpec.ofChange refreshIndexesSpec)

/-- ITS FALSE NEIGHBOUR: 'it returns false'. Refute it at one input. -/
def refreshIndexesWrong : ChangeSpec := { name := "refreshIndexes", fn := fun _ => fun
  | [d1, d2, d3] => { results := [.lit (.bool false)], args := [d1, d2, d3] }
  | _ => none }
def RefreshIndexesWrongFalsely : Prop := refreshIndexesRow.holds Try.pinned (OpenSpec.ofChange refreshIndexesWrong)

/-- 'wirelesslaw52.RefreshUnderstood': WHATEVER THE INPUT: true; the input reads as it did. -/
def refreshUnderstoodSpec : ChangeSpec := { name := "refreshUnderstood", fn := fun _ => fun
  | [d1, d2, d3, d4, d5] => { results := [.lit (.bool true)], args := [d1, d2, d3, d4, d5] }
  | _ => none }
def refreshUnderstoodRow : OpenClaim := { program := "ytmehemojopfihaa", sum := "576878d37c531b0dd2e2bbe81bb9b0c2d2003ab3f90e316851d119b6287d3498", func := "wireless/wirelesslaw52.RefreshUnderstood", spec := "refreshUnderstood", unfollowed := true, recurses := true, apart := false }
def RefreshUnderstoodSaid : Prop := refreshUnderstoodRow.holds Try.pinned (OpenSpec.ofChange refreshUnderstoodSpec)

/-- ITS FALSE NEIGHBOUR: 'it returns false'. Refute it at one input. -/
def refreshUnderstoodWrong : ChangeSpec := { name := "refreshUnderstood", fn := fun _ => fun
  | [d1, d2, d3, d4, d5] => { results := [.lit (.bool false)], args := [d1, d2, d3, d4, d5] }
  | _ => none }
def RefreshUnderstoodWrongFalsely : Prop := refreshUnderstoodRow.holds Try.pinned (OpenSpec.ofChange refreshUnderstoodWrong)

/-- 'wirelesslaw52.RefreshHears': WHATEVER THE INPUT: true; the input reads as it did. -/
def refreshHearsSpec : ChangeSpec := { name := "refreshHears", fn := fun _ => fun
  | [d1, d2, d3, d4, d5] => { results := [.lit (.bool true)], args := [d1, d2, d3, d4, d5] }
  | _ => none }
def refreshHearsRow : OpenClaim := { program := "ytmehemojopfihaa", sum := "576878d37c531b0dd2e2bbe81bb9b0c2d2003ab3f90e316851d119b6287d3498", func := "wireless/wirelesslaw52.RefreshHears", spec := "refreshHears", unfollowed := true, recurses := true, apart := false }
def RefreshHearsSaid : Prop := refreshHearsRow.holds Try.pinned (OpenSpec.ofChange refreshHearsSpec)

/-- ITS FALSE NEIGHBOUR: 'it returns false'. Refute it at one input. -/
def refreshHearsWrong : ChangeSpec := { name := "refreshHears", fn := fun _ => fun
  | [d1, d2, d3, d4, d5] => { results := [.lit (.bool false)], args := [d1, d2, d3, d4, d5] }
  | _ => none }
def RefreshHearsWrongFalsely : Prop := refreshHearsRow.holds Try.pinned (OpenSpec.ofChange refreshHearsWrong)

/-- 'wirelesslaw52.RefreshForward': WHATEVER THE INPUT: true; the input reads as it did. -/
def refreshForwardSpec : ChangeSpec := { name := "refreshForward", fn := fun _ => fun
  | [d1, d2, d3] => { results := [.lit (.bool true)], args := [d1, d2, d3] }
  | _ => none }
def refreshForwardRow : OpenClaim := { program := "ytmehemojopfihaa", sum := "576878d37c531b0dd2e2bbe81bb9b0c2d2003ab3f90e316851d119b6287d3498", func := "wireless/wirelesslaw52.RefreshForward", spec := "refreshForward", unfollowed := true, recurses := true, apart := false }
def RefreshForwardSaid : Prop := refreshForwardRow.holds Try.pinned (OpenSpec.ofChange refreshForwardSpec)

/-- ITS FALSE NEIGHBOUR: 'it returns false'. Refute it at one input. -/
def refreshForwardWrong : ChangeSpec := { name := "refreshForward", fn := fun _ => fun
  | [d1, d2, d3] => { results := [.lit (.bool false)], args := [d1, d2, d3] }
  | _ => none }
def RefreshForwardWrongFalsely : Prop := refreshForwardRow.holds Try.pinned (OpenSpec.ofChange refreshForwardWrong)

/-- 'wirelesslaw29.EncryptOpens': WHATEVER THE INPUT: true; the input reads as it did. -/
def encryptOpensSpec : ChangeSpec := { name := "encryptOpens", fn := fun _ => fun
  | [d1, d2] => { results := [.lit (.bool true)], args := [d1, d2] }
  | _ => none }
def encryptOpensRow : OpenClaim := { program := "ytmehemojopfihaa", sum := "576878d37c531b0dd2e2bbe81bb9b0c2d2003ab3f90e316851d119b6287d3498", func := "wireless/wirelesslaw29.EncryptOpens", spec := "encryptOpens", unfollowed := true, recurses := true, apart := false }
def EncryptOpensSaid : Prop := encryptOpensRow.holds Try.pinned (OpenSpec.ofChange encryptOpensSpec)

/-- ITS FALSE NEIGHBOUR: 'it returns false'. Refute it at one input. -/
def encryptOpensWrong : ChangeSpec := { name := "encryptOpens", fn := fun _ => fun
  | [d1, d2] => { results := [.lit (.bool false)], args := [d1, d2] }
  | _ => none }
def EncryptOpensWrongFalsely : Prop := encryptOpensRow.holds Try.pinned (OpenSpec.ofChange encryptOpensWrong)

/-- 'wirelesslaw29.EncryptBack': WHATEVER THE INPUT: true; the input reads as it did. -/
def encryptBackSpec : ChangeSpec := { name := "encryptBack", fn := fun _ => fun
  | [d] => { results := [.lit (.bool true)], args := [d] }
  | _ => none }
def encryptBackRow : OpenClaim := { program := "ytmehemojopfihaa", sum := "576878d37c531b0dd2e2bbe81bb9b0c2d2003ab3f90e316851d119b6287d3498", func := "wireless/wirelesslaw29.EncryptBack", spec := "encryptBack", unfollowed := true, recurses := true, apart := false }
def EncryptBackSaid : Prop := encryptBackRow.holds Try.pinned (OpenSpec.ofChange encryptBackSpec)

/-- ITS FALSE NEIGHBOUR: 'it returns false'. Refute it at one input. -/
def encryptBackWrong : ChangeSpec := { name := "encryptBack", fn := fun _ => fun
  | [d] => { results := [.lit (.bool false)], args := [d] }
  | _ => none }
def EncryptBackWrongFalsely : Prop := encryptBackRow.holds Try.pinned (OpenSpec.ofChange encryptBackWrong)

/-- 'wirelesslaw52.RefreshBeacons': WHATEVER THE INPUT: true; the input reads as it did. -/
def refreshBeaconsSpec : ChangeSpec := { name := "refreshBeacons", fn := fun _ => fun
  | [d1, d2, d3] => { results := [.lit (.bool true)], args := [d1, d2, d3] }
  | _ => none }
def refreshBeaconsRow : OpenClaim := { program := "ytmehemojopfihaa", sum := "576878d37c531b0dd2e2bbe81bb9b0c2d2003ab3f90e316851d119b6287d3498", func := "wireless/wirelesslaw52.RefreshBeacons", spec := "refreshBeacons", unfollowed := true, recurses := true, apart := false }
def RefreshBeaconsSaid : Prop := refreshBeaconsRow.holds Try.pinned (OpenSpec.ofChange refreshBeaconsSpec)

/-- ITS FALSE NEIGHBOUR: 'it returns false'. Refute it at one input. -/
def refreshBeaconsWrong : ChangeSpec := { name := "refreshBeacons", fn := fun _ => fun
  | [d1, d2, d3] => { results := [.lit (.bool false)], args := [d1, d2, d3] }
  | _ => none }
def RefreshBeaconsWrongFalsely : Prop := refreshBeaconsRow.holds Try.pinned (OpenSpec.ofChange refreshBeaconsWrong)

/-- 'wirelesslaw52.RefreshDecodes': WHATEVER THE INPUT: true; the input reads as it did. -/
def refreshDecodesSpec : ChangeSpec := { name := "refreshDecodes", fn := fun _ => fun
  | [d1, d2] => { results := [.lit (.bool true)], args := [d1, d2] }
  | _ => none }
def refreshDecodesRow : OpenClaim := { program := "ytmehemojopfihaa", sum := "576878d37c531b0dd2e2bbe81bb9b0c2d2003ab3f90e316851d119b6287d3498", func := "wireless/wirelesslaw52.RefreshDecodes", spec := "refreshDecodes", unfollowed := true, recurses := true, apart := false }
def RefreshDecodesSaid : Prop := refreshDecodesRow.holds Try.pinned (OpenSpec.ofChange refreshDecodesSpec)

/-- ITS FALSE NEIGHBOUR: 'it returns false'. Refute it at one input. -/
def refreshDecodesWrong : ChangeSpec := { name := "refreshDecodes", fn := fun _ => fun
  | [d1, d2] => { results := [.lit (.bool false)], args := [d1, d2] }
  | _ => none }
def RefreshDecodesWrongFalsely : Prop := refreshDecodesRow.holds Try.pinned (OpenSpec.ofChange refreshDecodesWrong)

/- THE SECOND FORM. 'bulk': how many values and letters a reading holds, each counted each time it is reached (what is shared counts as often as it is met; a slice's spare places count too). A statement '..UptoSaid' is the law's where the arguments, and the package variables that the reading takes, are together of bulk at most 1048576: NARROWER than '..Said'. Prove '..Said' where nothing that the law and all that it calls make is longer than what came in: it says more and counts as full. Else prove '..UptoSaid'. A law counts once. -/
mutual
def uptoBulk {H : Type} : DataW H → Nat
  | .lit (.string bytes) => bytes.length + 1
  | .lit _ => 1
  | .nil => 1
  | .ptr d => uptoBulk d + 1
  | .slice elems spare => uptoBulkAll elems + uptoBulkAll spare + 1
  | .agg parts => uptoBulkAll parts + 1
  | .iface _ d => uptoBulk d + 1
  | .map entries => uptoBulkEntries entries + 1
  | .held _ => 1
def uptoBulkAll {H : Type} : List (DataW H) → Nat
  | [] => 0
  | d :: r => uptoBulk d + uptoBulkAll r
def uptoBulkEntries {H : Type} : List (Lit × DataW H) → Nat
  | [] => 0
  | x :: r => uptoBulkEntry x + uptoBulkEntries r
def uptoBulkEntry {H : Type} : Lit × DataW H → Nat
  | (.string bytes, d) => bytes.length + uptoBulk d + 1
  | (_, d) => uptoBulk d + 1
 end
def uptoSmall : (H : Type) → List (DataW H) → Bool := fun _ ds => decide (uptoBulkAll ds ≤ 1048576)
def OpenSpec.upto (s : _root_.Go.ChangeSpec) : _root_.Go.OpenSpec := { _root_.Go.OpenSpec.ofChange s with cond := some uptoSmall }

/-- 'wirelesslaw52.RefreshKeys', WHERE WHAT IT READS IS OF BULK AT MOST 1048576: true; the input reads as it did. -/
def refreshKeysUptoRow : OpenClaim := { program := "ytmehemojopfihaa", sum := "576878d37c531b0dd2e2bbe81bb9b0c2d2003ab3f90e316851d119b6287d3498", func := "wireless/wirelesslaw52.RefreshKeys", spec := "refreshKeys", unfollowed := true, recurses := true, apart := false, narrowed := true }
def RefreshKeysUptoSaid : Prop := refreshKeysUptoRow.holds Try.pinned (OpenSpec.upto refreshKeysSpec)

/-- 'wirelesslaw29.EncryptNews', WHERE WHAT IT READS IS OF BULK AT MOST 1048576: true; the input reads as it did. -/
def encryptNewsUptoRow : OpenClaim := { program := "ytmehemojopfihaa", sum := "576878d37c531b0dd2e2bbe81bb9b0c2d2003ab3f90e316851d119b6287d3498", func := "wireless/wirelesslaw29.EncryptNews", spec := "encryptNews", unfollowed := true, recurses := true, apart := false, narrowed := true }
def EncryptNewsUptoSaid : Prop := encryptNewsUptoRow.holds Try.pinned (OpenSpec.upto encryptNewsSpec)

/-- 'wirelesslaw29.EncryptSeals', WHERE WHAT IT READS IS OF BULK AT MOST 1048576: true; the input reads as it did. -/
def encryptSealsUptoRow : OpenClaim := { program := "ytmehemojopfihaa", sum := "576878d37c531b0dd2e2bbe81bb9b0c2d2003ab3f90e316851d119b6287d3498", func := "wireless/wirelesslaw29.EncryptSeals", spec := "encryptSeals", unfollowed := true, recurses := true, apart := false, narrowed := true }
def EncryptSealsUptoSaid : Prop := encryptSealsUptoRow.holds Try.pinned (OpenSpec.upto encryptSealsSpec)

/-- 'wirelesslaw29.EncryptRepeats', WHERE WHAT IT READS IS OF BULK AT MOST 1048576: true; the input reads as it did. -/
def encryptRepeatsUptoRow : OpenClaim := { program := "ytmehemojopfihaa", sum := "576878d37c531b0dd2e2bbe81bb9b0c2d2003ab3f90e316851d119b6287d3498", func := "wireless/wirelesslaw29.EncryptRepeats", spec := "encryptRepeats", unfollowed := true, recurses := true, apart := false, narrowed := true }
def EncryptRepeatsUptoSaid : Prop := encryptRepeatsUptoRow.holds Try.pinned (OpenSpec.upto encryptRepeatsSpec)

/-- 'wirelesslaw52.RefreshIndexes', WHERE WHAT IT READS IS OF BULK AT MOST 1048576: true; the input reads as it did. -/
def refreshIndexesUptoRow : OpenClaim := { program := "ytmehemojopfihaa", sum := "576878d37c531b0dd2e2bbe81bb9b0c2d2003ab3f90e316851d119b6287d3498", func := "wireless/wirelesslaw52.RefreshIndexes", spec := "refreshIndexes", unfollowed := true, recurses := true, apart := false, narrowed := true }
def RefreshIndexesUptoSaid : Prop := refreshIndexesUptoRow.holds Try.pinned (OpenSpec.upto refreshIndexesSpec)

/-- 'wirelesslaw52.RefreshUnderstood', WHERE WHAT IT READS IS OF BULK AT MOST 1048576: true; the input reads as it did. -/
def refreshUnderstoodUptoRow : OpenClaim := { program := "ytmehemojopfihaa", sum := "576878d37c531b0dd2e2bbe81bb9b0c2d2003ab3f90e316851d119b6287d3498", func := "wireless/wirelesslaw52.RefreshUnderstood", spec := "refreshUnderstood", unfollowed := true, recurses := true, apart := false, narrowed := true }
def RefreshUnderstoodUptoSaid : Prop := refreshUnderstoodUptoRow.holds Try.pinned (OpenSpec.upto refreshUnderstoodSpec)

/-- 'wirelesslaw52.RefreshHears', WHERE WHAT IT READS IS OF BULK AT MOST 1048576: true; the input reads as it did. -/
def refreshHearsUptoRow : OpenClaim := { program := "ytmehemojopfihaa", sum := "576878d37c531b0dd2e2bbe81bb9b0c2d2003ab3f90e316851d119b6287d3498", func := "wireless/wirelesslaw52.RefreshHears", spec := "refreshHears", unfollowed := true, recurses := true, apart := false, narrowed := true }
def RefreshHearsUptoSaid : Prop := refreshHearsUptoRow.holds Try.pinned (OpenSpec.upto refreshHearsSpec)

/-- 'wirelesslaw52.RefreshForward', WHERE WHAT IT READS IS OF BULK AT MOST 1048576: true; the input reads as it did. -/
def refreshForwardUptoRow : OpenClaim := { program := "ytmehemojopfihaa", sum := "576878d37c531b0dd2e2bbe81bb9b0c2d2003ab3f90e316851d119b6287d3498", func := "wireless/wirelesslaw52.RefreshForward", spec := "refreshForward", unfollowed := true, recurses := true, apart := false, narrowed := true }
def RefreshForwardUptoSaid : Prop := refreshForwardUptoRow.holds Try.pinned (OpenSpec.upto refreshForwardSpec)

/-- 'wirelesslaw29.EncryptOpens', WHERE WHAT IT READS IS OF BULK AT MOST 1048576: true; the input reads as it did. -/
def encryptOpensUptoRow : OpenClaim := { program := "ytmehemojopfihaa", sum := "576878d37c531b0dd2e2bbe81bb9b0c2d2003ab3f90e316851d119b6287d3498", func := "wireless/wirelesslaw29.EncryptOpens", spec := "encryptOpens", unfollowed := true, recurses := true, apart := false, narrowed := true }
def EncryptOpensUptoSaid : Prop := encryptOpensUptoRow.holds Try.pinned (OpenSpec.upto encryptOpensSpec)

/-- 'wirelesslaw29.EncryptBack', WHERE WHAT IT READS IS OF BULK AT MOST 1048576: true; the input reads as it did. -/
def encryptBackUptoRow : OpenClaim := { program := "ytmehemojopfihaa", sum := "576878d37c531b0dd2e2bbe81bb9b0c2d2003ab3f90e316851d119b6287d3498", func := "wireless/wirelesslaw29.EncryptBack", spec := "encryptBack", unfollowed := true, recurses := true, apart := false, narrowed := true }
def EncryptBackUptoSaid : Prop := encryptBackUptoRow.holds Try.pinned (OpenSpec.upto encryptBackSpec)

/-- 'wirelesslaw52.RefreshBeacons', WHERE WHAT IT READS IS OF BULK AT MOST 1048576: true; the input reads as it did. -/
def refreshBeaconsUptoRow : OpenClaim := { program := "ytmehemojopfihaa", sum := "576878d37c531b0dd2e2bbe81bb9b0c2d2003ab3f90e316851d119b6287d3498", func := "wireless/wirelesslaw52.RefreshBeacons", spec := "refreshBeacons", unfollowed := true, recurses := true, apart := false, narrowed := true }
def RefreshBeaconsUptoSaid : Prop := refreshBeaconsUptoRow.holds Try.pinned (OpenSpec.upto refreshBeaconsSpec)

/-- 'wirelesslaw52.RefreshDecodes', WHERE WHAT IT READS IS OF BULK AT MOST 1048576: true; the input reads as it did. -/
def refreshDecodesUptoRow : OpenClaim := { program := "ytmehemojopfihaa", sum := "576878d37c531b0dd2e2bbe81bb9b0c2d2003ab3f90e316851d119b6287d3498", func := "wireless/wirelesslaw52.RefreshDecodes", spec := "refreshDecodes", unfollowed := true, recurses := true, apart := false, narrowed := true }
def RefreshDecodesUptoSaid : Prop := refreshDecodesUptoRow.holds Try.pinned (OpenSpec.upto refreshDecodesSpec)

end Rows
end Go.Proofs.Ytmehemojopfihaa
