/-
  DERIVED. GIVEN WITH THE SEED: THE CARDS: each row of YtihmbcnccdiecaaDoorRows.lean that lists a variable, with what it lists TIED to the program's text (the seventh form; the later family's looks); each row that meets fmt, with fmt's text TOLD by the authors' own Lean function (tested against real Go, not proved from fmt's source: count such statements apart). THE CARD IS WHAT COUNTS. Prove the row's statement (the work); the ties are given (YtihmbcnccdiecaaDoorTie.lean); close each card by the builder's one call (the guide's Derived/Test/ToyasCard.lean, 'card_holds'). Laid BY PROGRAM, IN A SANDBOX (cutbox-door.mjs). By AI agents, Wed Nov 11 2026. No macro, syntax, notation, axiom, sorry.
-/
import Derived.Test.YtihmbcnccdiecaaDoorRows
import GoSem.ClaimSeven
namespace Go.Proofs.YtihmbcnccdiecaaDoor
namespace Rows

/-- THE TIED CARD OF 'wirelesslaw38.PairingEnds'. -/
def pairingEndsCard : Claim7 := { stood := { row := pairingEndsRow, standIns := [], harness := (true, "d9300aab5997a4bcd90a15bd1a529025f2a7005b93a3d19f719bc2af0cd2d419"), looks := false }, kinds := [], alts := [], laidByText := true, laidKinds := [.data, .data], laidTests := true, laidLooks := .later }
def PairingEndsCardSaid : Prop := Claim7.holds Tryd.pinned (.plain (OpenSpec.ofChange pairingEndsSpec)) pairingEndsCard

/-- THE TIED CARD OF 'wirelesslaw38.PairingSucceeds'. -/
def pairingSucceedsCard : Claim7 := { stood := { row := pairingSucceedsRow, standIns := [], harness := (true, "d9300aab5997a4bcd90a15bd1a529025f2a7005b93a3d19f719bc2af0cd2d419"), looks := false }, kinds := [], alts := [], laidByText := true, laidKinds := [.data, .data], laidTests := true, laidLooks := .later }
def PairingSucceedsCardSaid : Prop := Claim7.holds Tryd.pinned (.plain (OpenSpec.ofChange pairingSucceedsSpec)) pairingSucceedsCard

/-- THE TIED CARD OF 'wirelesslaw38.PairingKeysReplaced'. -/
def pairingKeysReplacedCard : Claim7 := { stood := { row := pairingKeysReplacedRow, standIns := [], harness := (true, "d9300aab5997a4bcd90a15bd1a529025f2a7005b93a3d19f719bc2af0cd2d419"), looks := false }, kinds := [], alts := [], laidByText := true, laidKinds := [.data, .data], laidTests := true, laidLooks := .later }
def PairingKeysReplacedCardSaid : Prop := Claim7.holds Tryd.pinned (.plain (OpenSpec.ofChange pairingKeysReplacedSpec)) pairingKeysReplacedCard

/-- THE TIED CARD OF 'wirelesslaw38.PairingAgrees'. -/
def pairingAgreesCard : Claim7 := { stood := { row := pairingAgreesRow, standIns := [], harness := (true, "d9300aab5997a4bcd90a15bd1a529025f2a7005b93a3d19f719bc2af0cd2d419"), looks := false }, kinds := [], alts := [], laidByText := true, laidKinds := [.data, .data], laidTests := true, laidLooks := .later }
def PairingAgreesCardSaid : Prop := Claim7.holds Tryd.pinned (.plain (OpenSpec.ofChange pairingAgreesSpec)) pairingAgreesCard

/-- THE TIED CARD OF 'wirelesslaw38.PairingCompares'. -/
def pairingComparesCard : Claim7 := { stood := { row := pairingComparesRow, standIns := [], harness := (true, "d9300aab5997a4bcd90a15bd1a529025f2a7005b93a3d19f719bc2af0cd2d419"), looks := false }, kinds := [], alts := [], laidByText := true, laidKinds := [.data, .data], laidTests := true, laidLooks := .later }
def PairingComparesCardSaid : Prop := Claim7.holds Tryd.pinned (.plain (OpenSpec.ofChange pairingComparesSpec)) pairingComparesCard

/-- THE SECOND FORM's CARD OF 'wirelesslaw38.PairingEnds'. -/
def pairingEndsUptoCard : Claim7 := { stood := { row := pairingEndsUptoRow, standIns := [], harness := (true, "d9300aab5997a4bcd90a15bd1a529025f2a7005b93a3d19f719bc2af0cd2d419"), looks := false }, kinds := [], alts := [], laidByText := true, laidKinds := [.data, .data], laidTests := true, laidLooks := .later }
def PairingEndsUptoCardSaid : Prop := Claim7.holds Tryd.pinned (.plain (OpenSpec.upto pairingEndsSpec)) pairingEndsUptoCard

/-- THE SECOND FORM's CARD OF 'wirelesslaw38.PairingSucceeds'. -/
def pairingSucceedsUptoCard : Claim7 := { stood := { row := pairingSucceedsUptoRow, standIns := [], harness := (true, "d9300aab5997a4bcd90a15bd1a529025f2a7005b93a3d19f719bc2af0cd2d419"), looks := false }, kinds := [], alts := [], laidByText := true, laidKinds := [.data, .data], laidTests := true, laidLooks := .later }
def PairingSucceedsUptoCardSaid : Prop := Claim7.holds Tryd.pinned (.plain (OpenSpec.upto pairingSucceedsSpec)) pairingSucceedsUptoCard

/-- THE SECOND FORM's CARD OF 'wirelesslaw38.PairingKeysReplaced'. -/
def pairingKeysReplacedUptoCard : Claim7 := { stood := { row := pairingKeysReplacedUptoRow, standIns := [], harness := (true, "d9300aab5997a4bcd90a15bd1a529025f2a7005b93a3d19f719bc2af0cd2d419"), looks := false }, kinds := [], alts := [], laidByText := true, laidKinds := [.data, .data], laidTests := true, laidLooks := .later }
def PairingKeysReplacedUptoCardSaid : Prop := Claim7.holds Tryd.pinned (.plain (OpenSpec.upto pairingKeysReplacedSpec)) pairingKeysReplacedUptoCard

/-- THE SECOND FORM's CARD OF 'wirelesslaw38.PairingAgrees'. -/
def pairingAgreesUptoCard : Claim7 := { stood := { row := pairingAgreesUptoRow, standIns := [], harness := (true, "d9300aab5997a4bcd90a15bd1a529025f2a7005b93a3d19f719bc2af0cd2d419"), looks := false }, kinds := [], alts := [], laidByText := true, laidKinds := [.data, .data], laidTests := true, laidLooks := .later }
def PairingAgreesUptoCardSaid : Prop := Claim7.holds Tryd.pinned (.plain (OpenSpec.upto pairingAgreesSpec)) pairingAgreesUptoCard

/-- THE SECOND FORM's CARD OF 'wirelesslaw38.PairingCompares'. -/
def pairingComparesUptoCard : Claim7 := { stood := { row := pairingComparesUptoRow, standIns := [], harness := (true, "d9300aab5997a4bcd90a15bd1a529025f2a7005b93a3d19f719bc2af0cd2d419"), looks := false }, kinds := [], alts := [], laidByText := true, laidKinds := [.data, .data], laidTests := true, laidLooks := .later }
def PairingComparesUptoCardSaid : Prop := Claim7.holds Tryd.pinned (.plain (OpenSpec.upto pairingComparesSpec)) pairingComparesUptoCard
end Rows
end Go.Proofs.YtihmbcnccdiecaaDoor
