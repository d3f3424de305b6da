/-
  DERIVED. GIVEN WITH THE SEED: THE CARDS: each row of YtihmbcnccdiecaaGreatDoorRows.lean that lists a variable, with what it lists TIED to the program's text (the seventh form; the later family's looks); each row that meets fmt, with fmt's text TOLD by the authors' own Lean function (tested against real Go, not proved from fmt's source: count such statements apart). THE CARD IS WHAT COUNTS. Prove the row's statement (the work); the ties are given (YtihmbcnccdiecaaGreatDoorTie.lean); close each card by the builder's one call (the guide's Derived/Test/ToyasCard.lean, 'card_holds'). Laid BY PROGRAM, IN A SANDBOX (cutbox-door.mjs). By AI agents, Wed Nov 11 2026. No macro, syntax, notation, axiom, sorry.
-/
import Derived.Test.YtihmbcnccdiecaaGreatDoorRows
import GoSem.ClaimSeven
namespace Go.Proofs.YtihmbcnccdiecaaGreatDoor
namespace Rows

/-- THE TIED CARD OF 'wirelesslaw38.PairingSteps'. -/
def pairingStepsCard : Claim7 := { stood := { row := pairingStepsRow, standIns := [], harness := (true, "d84225f448846ac85147c24c05f7cec720ae87a47b45f255842263124b1ac3c4"), looks := false }, kinds := [], alts := [], laidByText := true, laidKinds := [.data, .data], laidTests := true, laidLooks := .later }
def PairingStepsCardSaid : Prop := Claim7.holds Tryz.pinned (.plain (OpenSpec.ofChange pairingStepsSpec)) pairingStepsCard

/-- THE TIED CARD OF 'wirelesslaw38.PairingSettings'. -/
def pairingSettingsCard : Claim7 := { stood := { row := pairingSettingsRow, standIns := [], harness := (true, "d84225f448846ac85147c24c05f7cec720ae87a47b45f255842263124b1ac3c4"), looks := false }, kinds := [], alts := [], laidByText := true, laidKinds := [.data, .data], laidTests := true, laidLooks := .later }
def PairingSettingsCardSaid : Prop := Claim7.holds Tryz.pinned (.plain (OpenSpec.ofChange pairingSettingsSpec)) pairingSettingsCard

/-- THE SECOND FORM's CARD OF 'wirelesslaw38.PairingSteps'. -/
def pairingStepsUptoCard : Claim7 := { stood := { row := pairingStepsUptoRow, standIns := [], harness := (true, "d84225f448846ac85147c24c05f7cec720ae87a47b45f255842263124b1ac3c4"), looks := false }, kinds := [], alts := [], laidByText := true, laidKinds := [.data, .data], laidTests := true, laidLooks := .later }
def PairingStepsUptoCardSaid : Prop := Claim7.holds Tryz.pinned (.plain (OpenSpec.upto pairingStepsSpec)) pairingStepsUptoCard

/-- THE SECOND FORM's CARD OF 'wirelesslaw38.PairingSettings'. -/
def pairingSettingsUptoCard : Claim7 := { stood := { row := pairingSettingsUptoRow, standIns := [], harness := (true, "d84225f448846ac85147c24c05f7cec720ae87a47b45f255842263124b1ac3c4"), looks := false }, kinds := [], alts := [], laidByText := true, laidKinds := [.data, .data], laidTests := true, laidLooks := .later }
def PairingSettingsUptoCardSaid : Prop := Claim7.holds Tryz.pinned (.plain (OpenSpec.upto pairingSettingsSpec)) pairingSettingsUptoCard
end Rows
end Go.Proofs.YtihmbcnccdiecaaGreatDoor
