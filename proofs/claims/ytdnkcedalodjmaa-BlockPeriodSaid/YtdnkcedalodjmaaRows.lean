/-
  No cell of these rows narrows 'for every input' (looked for: loops, veiled, ifaces, maps, wideKeys, modest, calm, conditions, laid).
  DERIVED. THE GIVEN ROWS OF THIS SEAT. 13 by the template 'for every input the law returns true; each argument reads behind the call as it read before'; 0 by the template 'total and deterministic' (their statements: YtdnkcedalodjmaaTotals.lean).
  GIVEN WITH THE SEED: the statements are not yours to turn. If you find one false, say at which input.
  Laid BY PROGRAM, IN A SANDBOX (cutbox-rows.mjs): the forced cells as the released guide's own fill.sh prints them over the translation 890fb8e0bd11540d… (all of the seat's roots in one cut). By AI agents, Wed Nov 11 2026. No macro, syntax, notation, axiom, sorry.
-/
import Derived.Test.YtdnkcedalodjmaaChecked
import GoSem.Claim
import GoSem.ClaimJoined
import GoSem.ClaimMapViews
import Derived.JoinedTies
import Derived.KernelRfl
namespace Go.Proofs.Ytdnkcedalodjmaa
/- THE CELL 'sum', in the pinned program and in every row, IS THE sha256 OF THE DUMP (.gsa) THAT YtdnkcedalodjmaaProg.lean LOADS. Nothing in Lean hashes anything: it is a label: what it is worth is what the hold of that sum in a sandbox is worth. -/
noncomputable def Try.pinned : Pinned := { name := "ytdnkcedalodjmaa", sum := "890fb8e0bd11540d9970b1d84925abb56c8c089eb07c1d8e0e2549b61389f05d", checked := Try.checked }
namespace Rows
def none {H : Type} : Left H := { results := [], args := [] }

/-- 'wirelesslaw01.SerialLow': WHATEVER THE INPUT: true; the input reads as it did. -/
def serialLowSpec : ChangeSpec := { name := "serialLow", fn := fun _ => fun
  | [d1, d2] => { results := [.lit (.bool true)], args := [d1, d2] }
  | _ => none }
def serialLowRow : OpenClaim := { program := "ytdnkcedalodjmaa", sum := "890fb8e0bd11540d9970b1d84925abb56c8c089eb07c1d8e0e2549b61389f05d", func := "wireless/wirelesslaw01.SerialLow", spec := "serialLow", apart := false }
def SerialLowSaid : Prop := serialLowRow.holds Try.pinned (OpenSpec.ofChange serialLowSpec)

/-- ITS FALSE NEIGHBOUR: 'it returns false'. Refute it at one input. -/
def serialLowWrong : ChangeSpec := { name := "serialLow", fn := fun _ => fun
  | [d1, d2] => { results := [.lit (.bool false)], args := [d1, d2] }
  | _ => none }
def SerialLowWrongFalsely : Prop := serialLowRow.holds Try.pinned (OpenSpec.ofChange serialLowWrong)

/-- 'wirelesslaw01.SerialCounts': WHATEVER THE INPUT: true; the input reads as it did. -/
def serialCountsSpec : ChangeSpec := { name := "serialCounts", fn := fun _ => fun
  | [d1, d2, d3] => { results := [.lit (.bool true)], args := [d1, d2, d3] }
  | _ => none }
def serialCountsRow : OpenClaim := { program := "ytdnkcedalodjmaa", sum := "890fb8e0bd11540d9970b1d84925abb56c8c089eb07c1d8e0e2549b61389f05d", func := "wireless/wirelesslaw01.SerialCounts", spec := "serialCounts", apart := false }
def SerialCountsSaid : Prop := serialCountsRow.holds Try.pinned (OpenSpec.ofChange serialCountsSpec)

/-- ITS FALSE NEIGHBOUR: 'it returns false'. Refute it at one input. -/
def serialCountsWrong : ChangeSpec := { name := "serialCounts", fn := fun _ => fun
  | [d1, d2, d3] => { results := [.lit (.bool false)], args := [d1, d2, d3] }
  | _ => none }
def SerialCountsWrongFalsely : Prop := serialCountsRow.holds Try.pinned (OpenSpec.ofChange serialCountsWrong)

/-- 'wirelesslaw01.SerialPasses': WHATEVER THE INPUT: true; the input reads as it did. -/
def serialPassesSpec : ChangeSpec := { name := "serialPasses", fn := fun _ => fun
  | [d1, d2, d3] => { results := [.lit (.bool true)], args := [d1, d2, d3] }
  | _ => none }
def serialPassesRow : OpenClaim := { program := "ytdnkcedalodjmaa", sum := "890fb8e0bd11540d9970b1d84925abb56c8c089eb07c1d8e0e2549b61389f05d", func := "wireless/wirelesslaw01.SerialPasses", spec := "serialPasses", apart := false }
def SerialPassesSaid : Prop := serialPassesRow.holds Try.pinned (OpenSpec.ofChange serialPassesSpec)

/-- ITS FALSE NEIGHBOUR: 'it returns false'. Refute it at one input. -/
def serialPassesWrong : ChangeSpec := { name := "serialPasses", fn := fun _ => fun
  | [d1, d2, d3] => { results := [.lit (.bool false)], args := [d1, d2, d3] }
  | _ => none }
def SerialPassesWrongFalsely : Prop := serialPassesRow.holds Try.pinned (OpenSpec.ofChange serialPassesWrong)

/-- 'wirelesslaw01.SerialNearest': WHATEVER THE INPUT: true; the input reads as it did. -/
def serialNearestSpec : ChangeSpec := { name := "serialNearest", fn := fun _ => fun
  | [d1, d2, d3] => { results := [.lit (.bool true)], args := [d1, d2, d3] }
  | _ => none }
def serialNearestRow : OpenClaim := { program := "ytdnkcedalodjmaa", sum := "890fb8e0bd11540d9970b1d84925abb56c8c089eb07c1d8e0e2549b61389f05d", func := "wireless/wirelesslaw01.SerialNearest", spec := "serialNearest", apart := false }
def SerialNearestSaid : Prop := serialNearestRow.holds Try.pinned (OpenSpec.ofChange serialNearestSpec)

/-- ITS FALSE NEIGHBOUR: 'it returns false'. Refute it at one input. -/
def serialNearestWrong : ChangeSpec := { name := "serialNearest", fn := fun _ => fun
  | [d1, d2, d3] => { results := [.lit (.bool false)], args := [d1, d2, d3] }
  | _ => none }
def SerialNearestWrongFalsely : Prop := serialNearestRow.holds Try.pinned (OpenSpec.ofChange serialNearestWrong)

/-- 'wirelesslaw01.SerialExtends': WHATEVER THE INPUT: true; the input reads as it did. -/
def serialExtendsSpec : ChangeSpec := { name := "serialExtends", fn := fun _ => fun
  | [d1, d2, d3] => { results := [.lit (.bool true)], args := [d1, d2, d3] }
  | _ => none }
def serialExtendsRow : OpenClaim := { program := "ytdnkcedalodjmaa", sum := "890fb8e0bd11540d9970b1d84925abb56c8c089eb07c1d8e0e2549b61389f05d", func := "wireless/wirelesslaw01.SerialExtends", spec := "serialExtends", apart := false }
def SerialExtendsSaid : Prop := serialExtendsRow.holds Try.pinned (OpenSpec.ofChange serialExtendsSpec)

/-- ITS FALSE NEIGHBOUR: 'it returns false'. Refute it at one input. -/
def serialExtendsWrong : ChangeSpec := { name := "serialExtends", fn := fun _ => fun
  | [d1, d2, d3] => { results := [.lit (.bool false)], args := [d1, d2, d3] }
  | _ => none }
def SerialExtendsWrongFalsely : Prop := serialExtendsRow.holds Try.pinned (OpenSpec.ofChange serialExtendsWrong)

/-- 'wirelesslaw01.SerialInstants': WHATEVER THE INPUT: true; the input reads as it did. -/
def serialInstantsSpec : ChangeSpec := { name := "serialInstants", fn := fun _ => fun
  | [d1, d2, d3] => { results := [.lit (.bool true)], args := [d1, d2, d3] }
  | _ => none }
def serialInstantsRow : OpenClaim := { program := "ytdnkcedalodjmaa", sum := "890fb8e0bd11540d9970b1d84925abb56c8c089eb07c1d8e0e2549b61389f05d", func := "wireless/wirelesslaw01.SerialInstants", spec := "serialInstants", apart := false }
def SerialInstantsSaid : Prop := serialInstantsRow.holds Try.pinned (OpenSpec.ofChange serialInstantsSpec)

/-- ITS FALSE NEIGHBOUR: 'it returns false'. Refute it at one input. -/
def serialInstantsWrong : ChangeSpec := { name := "serialInstants", fn := fun _ => fun
  | [d1, d2, d3] => { results := [.lit (.bool false)], args := [d1, d2, d3] }
  | _ => none }
def SerialInstantsWrongFalsely : Prop := serialInstantsRow.holds Try.pinned (OpenSpec.ofChange serialInstantsWrong)

/-- 'wirelesslaw05.BlockRounds': WHATEVER THE INPUT: true; the input reads as it did. -/
def blockRoundsSpec : ChangeSpec := { name := "blockRounds", fn := fun _ => fun
  | [d1, d2, d3] => { results := [.lit (.bool true)], args := [d1, d2, d3] }
  | _ => none }
def blockRoundsRow : OpenClaim := { program := "ytdnkcedalodjmaa", sum := "890fb8e0bd11540d9970b1d84925abb56c8c089eb07c1d8e0e2549b61389f05d", func := "wireless/wirelesslaw05.BlockRounds", spec := "blockRounds", apart := false }
def BlockRoundsSaid : Prop := blockRoundsRow.holds Try.pinned (OpenSpec.ofChange blockRoundsSpec)

/-- ITS FALSE NEIGHBOUR: 'it returns false'. Refute it at one input. -/
def blockRoundsWrong : ChangeSpec := { name := "blockRounds", fn := fun _ => fun
  | [d1, d2, d3] => { results := [.lit (.bool false)], args := [d1, d2, d3] }
  | _ => none }
def BlockRoundsWrongFalsely : Prop := blockRoundsRow.holds Try.pinned (OpenSpec.ofChange blockRoundsWrong)

/-- 'wirelesslaw05.BlockMixes': WHATEVER THE INPUT: true; the input reads as it did. -/
def blockMixesSpec : ChangeSpec := { name := "blockMixes", fn := fun _ => fun
  | [d1, d2] => { results := [.lit (.bool true)], args := [d1, d2] }
  | _ => none }
def blockMixesRow : OpenClaim := { program := "ytdnkcedalodjmaa", sum := "890fb8e0bd11540d9970b1d84925abb56c8c089eb07c1d8e0e2549b61389f05d", func := "wireless/wirelesslaw05.BlockMixes", spec := "blockMixes", apart := false }
def BlockMixesSaid : Prop := blockMixesRow.holds Try.pinned (OpenSpec.ofChange blockMixesSpec)

/-- ITS FALSE NEIGHBOUR: 'it returns false'. Refute it at one input. -/
def blockMixesWrong : ChangeSpec := { name := "blockMixes", fn := fun _ => fun
  | [d1, d2] => { results := [.lit (.bool false)], args := [d1, d2] }
  | _ => none }
def BlockMixesWrongFalsely : Prop := blockMixesRow.holds Try.pinned (OpenSpec.ofChange blockMixesWrong)

/-- 'wirelesslaw05.BlockEightRounds': WHATEVER THE INPUT: true; the input reads as it did. -/
def blockEightRoundsSpec : ChangeSpec := { name := "blockEightRounds", fn := fun _ => fun
  | [d1, d2] => { results := [.lit (.bool true)], args := [d1, d2] }
  | _ => none }
def blockEightRoundsRow : OpenClaim := { program := "ytdnkcedalodjmaa", sum := "890fb8e0bd11540d9970b1d84925abb56c8c089eb07c1d8e0e2549b61389f05d", func := "wireless/wirelesslaw05.BlockEightRounds", spec := "blockEightRounds", apart := false }
def BlockEightRoundsSaid : Prop := blockEightRoundsRow.holds Try.pinned (OpenSpec.ofChange blockEightRoundsSpec)

/-- ITS FALSE NEIGHBOUR: 'it returns false'. Refute it at one input. -/
def blockEightRoundsWrong : ChangeSpec := { name := "blockEightRounds", fn := fun _ => fun
  | [d1, d2] => { results := [.lit (.bool false)], args := [d1, d2] }
  | _ => none }
def BlockEightRoundsWrongFalsely : Prop := blockEightRoundsRow.holds Try.pinned (OpenSpec.ofChange blockEightRoundsWrong)

/-- 'wirelesslaw05.BlockBack': WHATEVER THE INPUT: true; the input reads as it did. -/
def blockBackSpec : ChangeSpec := { name := "blockBack", fn := fun _ => fun
  | [d1, d2] => { results := [.lit (.bool true)], args := [d1, d2] }
  | _ => none }
def blockBackRow : OpenClaim := { program := "ytdnkcedalodjmaa", sum := "890fb8e0bd11540d9970b1d84925abb56c8c089eb07c1d8e0e2549b61389f05d", func := "wireless/wirelesslaw05.BlockBack", spec := "blockBack", apart := false }
def BlockBackSaid : Prop := blockBackRow.holds Try.pinned (OpenSpec.ofChange blockBackSpec)

/-- ITS FALSE NEIGHBOUR: 'it returns false'. Refute it at one input. -/
def blockBackWrong : ChangeSpec := { name := "blockBack", fn := fun _ => fun
  | [d1, d2] => { results := [.lit (.bool false)], args := [d1, d2] }
  | _ => none }
def BlockBackWrongFalsely : Prop := blockBackRow.holds Try.pinned (OpenSpec.ofChange blockBackWrong)

/-- 'wirelesslaw05.BlockApart': WHATEVER THE INPUT: true; the input reads as it did. -/
def blockApartSpec : ChangeSpec := { name := "blockApart", fn := fun _ => fun
  | [d1, d2, d3] => { results := [.lit (.bool true)], args := [d1, d2, d3] }
  | _ => none }
def blockApartRow : OpenClaim := { program := "ytdnkcedalodjmaa", sum := "890fb8e0bd11540d9970b1d84925abb56c8c089eb07c1d8e0e2549b61389f05d", func := "wireless/wirelesslaw05.BlockApart", spec := "blockApart", apart := false }
def BlockApartSaid : Prop := blockApartRow.holds Try.pinned (OpenSpec.ofChange blockApartSpec)

/-- ITS FALSE NEIGHBOUR: 'it returns false'. Refute it at one input. -/
def blockApartWrong : ChangeSpec := { name := "blockApart", fn := fun _ => fun
  | [d1, d2, d3] => { results := [.lit (.bool false)], args := [d1, d2, d3] }
  | _ => none }
def BlockApartWrongFalsely : Prop := blockApartRow.holds Try.pinned (OpenSpec.ofChange blockApartWrong)

/-- 'wirelesslaw05.BlockHalves': WHATEVER THE INPUT: true; the input reads as it did. -/
def blockHalvesSpec : ChangeSpec := { name := "blockHalves", fn := fun _ => fun
  | [d1, d2, d3, d4] => { results := [.lit (.bool true)], args := [d1, d2, d3, d4] }
  | _ => none }
def blockHalvesRow : OpenClaim := { program := "ytdnkcedalodjmaa", sum := "890fb8e0bd11540d9970b1d84925abb56c8c089eb07c1d8e0e2549b61389f05d", func := "wireless/wirelesslaw05.BlockHalves", spec := "blockHalves", apart := false }
def BlockHalvesSaid : Prop := blockHalvesRow.holds Try.pinned (OpenSpec.ofChange blockHalvesSpec)

/-- ITS FALSE NEIGHBOUR: 'it returns false'. Refute it at one input. -/
def blockHalvesWrong : ChangeSpec := { name := "blockHalves", fn := fun _ => fun
  | [d1, d2, d3, d4] => { results := [.lit (.bool false)], args := [d1, d2, d3, d4] }
  | _ => none }
def BlockHalvesWrongFalsely : Prop := blockHalvesRow.holds Try.pinned (OpenSpec.ofChange blockHalvesWrong)

/-- 'wirelesslaw05.BlockPeriod': WHATEVER THE INPUT: true; the input reads as it did. -/
def blockPeriodSpec : ChangeSpec := { name := "blockPeriod", fn := fun _ => fun
  | [d1, d2, d3] => { results := [.lit (.bool true)], args := [d1, d2, d3] }
  | _ => none }
def blockPeriodRow : OpenClaim := { program := "ytdnkcedalodjmaa", sum := "890fb8e0bd11540d9970b1d84925abb56c8c089eb07c1d8e0e2549b61389f05d", func := "wireless/wirelesslaw05.BlockPeriod", spec := "blockPeriod", apart := false }
def BlockPeriodSaid : Prop := blockPeriodRow.holds Try.pinned (OpenSpec.ofChange blockPeriodSpec)

/-- ITS FALSE NEIGHBOUR: 'it returns false'. Refute it at one input. -/
def blockPeriodWrong : ChangeSpec := { name := "blockPeriod", fn := fun _ => fun
  | [d1, d2, d3] => { results := [.lit (.bool false)], args := [d1, d2, d3] }
  | _ => none }
def BlockPeriodWrongFalsely : Prop := blockPeriodRow.holds Try.pinned (OpenSpec.ofChange blockPeriodWrong)

/- THE SECOND FORM. 'bulk': how many values and letters a reading holds, each counted each time it is reached (what is shared counts as often as it is met; a slice's spare places count too). A statement '..UptoSaid' is the law's where the arguments, and the package variables that the reading takes, are together of bulk at most 1048576: NARROWER than '..Said'. Prove '..Said' where nothing that the law and all that it calls make is longer than what came in: it says more and counts as full. Else prove '..UptoSaid'. A law counts once. -/
mutual
def uptoBulk {H : Type} : DataW H → Nat
  | .lit (.string bytes) => bytes.length + 1
  | .lit _ => 1
  | .nil => 1
  | .ptr d => uptoBulk d + 1
  | .slice elems spare => uptoBulkAll elems + uptoBulkAll spare + 1
  | .agg parts => uptoBulkAll parts + 1
  | .iface _ d => uptoBulk d + 1
  | .map entries => uptoBulkEntries entries + 1
  | .held _ => 1
def uptoBulkAll {H : Type} : List (DataW H) → Nat
  | [] => 0
  | d :: r => uptoBulk d + uptoBulkAll r
def uptoBulkEntries {H : Type} : List (Lit × DataW H) → Nat
  | [] => 0
  | x :: r => uptoBulkEntry x + uptoBulkEntries r
def uptoBulkEntry {H : Type} : Lit × DataW H → Nat
  | (.string bytes, d) => bytes.length + uptoBulk d + 1
  | (_, d) => uptoBulk d + 1
 end
def uptoSmall : (H : Type) → List (DataW H) → Bool := fun _ ds => decide (uptoBulkAll ds ≤ 1048576)
def OpenSpec.upto (s : _root_.Go.ChangeSpec) : _root_.Go.OpenSpec := { _root_.Go.OpenSpec.ofChange s with cond := some uptoSmall }

/-- 'wirelesslaw01.SerialLow', WHERE WHAT IT READS IS OF BULK AT MOST 1048576: true; the input reads as it did. -/
def serialLowUptoRow : OpenClaim := { program := "ytdnkcedalodjmaa", sum := "890fb8e0bd11540d9970b1d84925abb56c8c089eb07c1d8e0e2549b61389f05d", func := "wireless/wirelesslaw01.SerialLow", spec := "serialLow", apart := false, narrowed := true }
def SerialLowUptoSaid : Prop := serialLowUptoRow.holds Try.pinned (OpenSpec.upto serialLowSpec)

/-- 'wirelesslaw01.SerialCounts', WHERE WHAT IT READS IS OF BULK AT MOST 1048576: true; the input reads as it did. -/
def serialCountsUptoRow : OpenClaim := { program := "ytdnkcedalodjmaa", sum := "890fb8e0bd11540d9970b1d84925abb56c8c089eb07c1d8e0e2549b61389f05d", func := "wireless/wirelesslaw01.SerialCounts", spec := "serialCounts", apart := false, narrowed := true }
def SerialCountsUptoSaid : Prop := serialCountsUptoRow.holds Try.pinned (OpenSpec.upto serialCountsSpec)

/-- 'wirelesslaw01.SerialPasses', WHERE WHAT IT READS IS OF BULK AT MOST 1048576: true; the input reads as it did. -/
def serialPassesUptoRow : OpenClaim := { program := "ytdnkcedalodjmaa", sum := "890fb8e0bd11540d9970b1d84925abb56c8c089eb07c1d8e0e2549b61389f05d", func := "wireless/wirelesslaw01.SerialPasses", spec := "serialPasses", apart := false, narrowed := true }
def SerialPassesUptoSaid : Prop := serialPassesUptoRow.holds Try.pinned (OpenSpec.upto serialPassesSpec)

/-- 'wirelesslaw01.SerialNearest', WHERE WHAT IT READS IS OF BULK AT MOST 1048576: true; the input reads as it did. -/
def serialNearestUptoRow : OpenClaim := { program := "ytdnkcedalodjmaa", sum := "890fb8e0bd11540d9970b1d84925abb56c8c089eb07c1d8e0e2549b61389f05d", func := "wireless/wirelesslaw01.SerialNearest", spec := "serialNearest", apart := false, narrowed := true }
def SerialNearestUptoSaid : Prop := serialNearestUptoRow.holds Try.pinned (OpenSpec.upto serialNearestSpec)

/-- 'wirelesslaw01.SerialExtends', WHERE WHAT IT READS IS OF BULK AT MOST 1048576: true; the input reads as it did. -/
def serialExtendsUptoRow : OpenClaim := { program := "ytdnkcedalodjmaa", sum := "890fb8e0bd11540d9970b1d84925abb56c8c089eb07c1d8e0e2549b61389f05d", func := "wireless/wirelesslaw01.SerialExtends", spec := "serialExtends", apart := false, narrowed := true }
def SerialExtendsUptoSaid : Prop := serialExtendsUptoRow.holds Try.pinned (OpenSpec.upto serialExtendsSpec)

/-- 'wirelesslaw01.SerialInstants', WHERE WHAT IT READS IS OF BULK AT MOST 1048576: true; the input reads as it did. -/
def serialInstantsUptoRow : OpenClaim := { program := "ytdnkcedalodjmaa", sum := "890fb8e0bd11540d9970b1d84925abb56c8c089eb07c1d8e0e2549b61389f05d", func := "wireless/wirelesslaw01.SerialInstants", spec := "serialInstants", apart := false, narrowed := true }
def SerialInstantsUptoSaid : Prop := serialInstantsUptoRow.holds Try.pinned (OpenSpec.upto serialInstantsSpec)

/-- 'wirelesslaw05.BlockRounds', WHERE WHAT IT READS IS OF BULK AT MOST 1048576: true; the input reads as it did. -/
def blockRoundsUptoRow : OpenClaim := { program := "ytdnkcedalodjmaa", sum := "890fb8e0bd11540d9970b1d84925abb56c8c089eb07c1d8e0e2549b61389f05d", func := "wireless/wirelesslaw05.BlockRounds", spec := "blockRounds", apart := false, narrowed := true }
def BlockRoundsUptoSaid : Prop := blockRoundsUptoRow.holds Try.pinned (OpenSpec.upto blockRoundsSpec)

/-- 'wirelesslaw05.BlockMixes', WHERE WHAT IT READS IS OF BULK AT MOST 1048576: true; the input reads as it did. -/
def blockMixesUptoRow : OpenClaim := { program := "ytdnkcedalodjmaa", sum := "890fb8e0bd11540d9970b1d84925abb56c8c089eb07c1d8e0e2549b61389f05d", func := "wireless/wirelesslaw05.BlockMixes", spec := "blockMixes", apart := false, narrowed := true }
def BlockMixesUptoSaid : Prop := blockMixesUptoRow.holds Try.pinned (OpenSpec.upto blockMixesSpec)

/-- 'wirelesslaw05.BlockEightRounds', WHERE WHAT IT READS IS OF BULK AT MOST 1048576: true; the input reads as it did. -/
def blockEightRoundsUptoRow : OpenClaim := { program := "ytdnkcedalodjmaa", sum := "890fb8e0bd11540d9970b1d84925abb56c8c089eb07c1d8e0e2549b61389f05d", func := "wireless/wirelesslaw05.BlockEightRounds", spec := "blockEightRounds", apart := false, narrowed := true }
def BlockEightRoundsUptoSaid : Prop := blockEightRoundsUptoRow.holds Try.pinned (OpenSpec.upto blockEightRoundsSpec)

/-- 'wirelesslaw05.BlockBack', WHERE WHAT IT READS IS OF BULK AT MOST 1048576: true; the input reads as it did. -/
def blockBackUptoRow : OpenClaim := { program := "ytdnkcedalodjmaa", sum := "890fb8e0bd11540d9970b1d84925abb56c8c089eb07c1d8e0e2549b61389f05d", func := "wireless/wirelesslaw05.BlockBack", spec := "blockBack", apart := false, narrowed := true }
def BlockBackUptoSaid : Prop := blockBackUptoRow.holds Try.pinned (OpenSpec.upto blockBackSpec)

/-- 'wirelesslaw05.BlockApart', WHERE WHAT IT READS IS OF BULK AT MOST 1048576: true; the input reads as it did. -/
def blockApartUptoRow : OpenClaim := { program := "ytdnkcedalodjmaa", sum := "890fb8e0bd11540d9970b1d84925abb56c8c089eb07c1d8e0e2549b61389f05d", func := "wireless/wirelesslaw05.BlockApart", spec := "blockApart", apart := false, narrowed := true }
def BlockApartUptoSaid : Prop := blockApartUptoRow.holds Try.pinned (OpenSpec.upto blockApartSpec)

/-- 'wirelesslaw05.BlockHalves', WHERE WHAT IT READS IS OF BULK AT MOST 1048576: true; the input reads as it did. -/
def blockHalvesUptoRow : OpenClaim := { program := "ytdnkcedalodjmaa", sum := "890fb8e0bd11540d9970b1d84925abb56c8c089eb07c1d8e0e2549b61389f05d", func := "wireless/wirelesslaw05.BlockHalves", spec := "blockHalves", apart := false, narrowed := true }
def BlockHalvesUptoSaid : Prop := blockHalvesUptoRow.holds Try.pinned (OpenSpec.upto blockHalvesSpec)

/-- 'wirelesslaw05.BlockPeriod', WHERE WHAT IT READS IS OF BULK AT MOST 1048576: true; the input reads as it did. -/
def blockPeriodUptoRow : OpenClaim := { program := "ytdnkcedalodjmaa", sum := "890fb8e0bd11540d9970b1d84925abb56c8c089eb07c1d8e0e2549b61389f05d", func := "wireless/wirelesslaw05.BlockPeriod", spec := "blockPeriod", apart := false, narrowed := true }
def BlockPeriodUptoSaid : Prop := blockPeriodUptoRow.holds Try.pinned (OpenSpec.upto blockPeriodSpec)

end Rows
end Go.Proofs.Ytdnkcedalodjmaa
