/- Part of the proofs of the laws of pairing. -/
import Derived.Test.YtihmbcnccdiecaaGreatDoorBStepsW
namespace Go.Proofs.YtihmbcnccdiecaaGreatDoor
set_option maxRecDepth 100000
set_option linter.unusedVariables false
set_option linter.unusedSimpArgs false
open Go.ChangeShapes Go.WideShapes Go.ChangeAt Go.RowKit
theorem pF (rolec : Int) (wrolec : (Lit.int .i64 rolec).wf = true) (feat_ioc : Int) (wfeat_ioc : (Lit.int .i64 feat_ioc).wf = true) (feat_oobc : Bool) (feat_bondc : Bool) (feat_mitmc : Bool) (feat_sidc : Bool) (feat_tidc : Bool) (own_kindc : Int) (wown_kindc : (Lit.int .i64 own_kindc).wf = true) (own_bitsc : BitVec 64) (peer_kindc : Int) (wpeer_kindc : (Lit.int .i64 peer_kindc).wf = true) (peer_bitsc : BitVec 64) (idn_adr_kindc : Int) (widn_adr_kindc : (Lit.int .i64 idn_adr_kindc).wf = true) (idn_adr_bitsc : BitVec 64) (idn_irkc : BitVec 64) (secretc : BitVec 32) (seedc : BitVec 64) (minec : BitVec 64) (oob_valuec : BitVec 64) (oob_randomc : BitVec 64) (lA : Option Addr) (lC : Nat) (l : List iI) (w : World) (HL : bW w) (hl : Rd w lA (l.flatMap iI.cells)) (ol : ∀ r ∈ l, r.ok w) (ll : l.length ≤ lC) :
    Calls Tryz.prog 3 #[.agg #[.int .i64 rolec, .int .i64 feat_ioc, .bool feat_oobc, .bool feat_bondc, .bool feat_mitmc, .bool feat_sidc, .bool feat_tidc, .int .i64 own_kindc, .int .u64 (W64 own_bitsc), .int .i64 peer_kindc, .int .u64 (W64 peer_bitsc), .int .i64 idn_adr_kindc, .int .u64 (W64 idn_adr_bitsc), .int .u64 (W64 idn_irkc), .int .u32 (W32 secretc), .int .u64 (W64 seedc), .int .u64 (W64 minec), .int .u64 (W64 oob_valuec), .int .u64 (W64 oob_randomc)], .slice lA l.length lC] w (fun e w' => e = .returned (.bool true) ∧ Below w.heap.size w w') := by
  have h := rH (⟨rolec, ⟨feat_ioc, feat_oobc, feat_bondc, feat_mitmc, feat_sidc, feat_tidc⟩, ⟨own_kindc, own_bitsc⟩, ⟨peer_kindc, peer_bitsc⟩, ⟨⟨idn_adr_kindc, idn_adr_bitsc⟩, idn_irkc⟩, secretc, seedc, minec, ⟨oob_valuec, oob_randomc⟩⟩ : Cfg) lA lC (l.map opR) w HL (by rw [← D2]; exact hl)
  rw [List.length_map] at h
  exact h
end Go.Proofs.YtihmbcnccdiecaaGreatDoor
