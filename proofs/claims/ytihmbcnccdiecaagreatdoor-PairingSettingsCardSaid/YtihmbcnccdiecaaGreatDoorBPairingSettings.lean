/- Part of the proofs of the laws of pairing. -/
import Derived.Below
import Derived.Carry
import Derived.ChangeMaps5
import Derived.ChangeOld
import Derived.OpenShut
import Derived.ProofKit
import Derived.SevenTiedAt
import Derived.ShutString
import Derived.WalkKit
import Derived.Test.YtihmbcnccdiecaaGreatDoorA2
import Derived.Test.YtihmbcnccdiecaaGreatDoorBLive
import Derived.Test.YtihmbcnccdiecaaGreatDoorBLowB
import Derived.Test.YtihmbcnccdiecaaGreatDoorBLowC
import Derived.Test.YtihmbcnccdiecaaGreatDoorBRfA
import Derived.Test.YtihmbcnccdiecaaGreatDoorBRfB
import Derived.Test.YtihmbcnccdiecaaGreatDoorBSdA
import Derived.Test.YtihmbcnccdiecaaGreatDoorBSdB
import Derived.Test.YtihmbcnccdiecaaGreatDoorBSdC
import Derived.Test.YtihmbcnccdiecaaGreatDoorBSdD
import Derived.Test.YtihmbcnccdiecaaGreatDoorBSdE
import Derived.Test.YtihmbcnccdiecaaGreatDoorBSdF
import Derived.Test.YtihmbcnccdiecaaGreatDoorBSdG
import Derived.Test.YtihmbcnccdiecaaGreatDoorBSdH
import Derived.Test.YtihmbcnccdiecaaGreatDoorBSdIe
import Derived.Test.YtihmbcnccdiecaaGreatDoorBSdIs
import Derived.Test.YtihmbcnccdiecaaGreatDoorBSdIu
import Derived.Test.YtihmbcnccdiecaaGreatDoorBSdJ
import Derived.Test.YtihmbcnccdiecaaGreatDoorBSdK
import Derived.Test.YtihmbcnccdiecaaGreatDoorBSdL
import Derived.Test.YtihmbcnccdiecaaGreatDoorBSdM
import Derived.Test.YtihmbcnccdiecaaGreatDoorBSdN
import Derived.Test.YtihmbcnccdiecaaGreatDoorBSetL
import Derived.Test.YtihmbcnccdiecaaGreatDoorBSetW
import Derived.Test.YtihmbcnccdiecaaGreatDoorBTkP
import Derived.Test.YtihmbcnccdiecaaGreatDoorBTkU
import Derived.Test.YtihmbcnccdiecaaGreatDoorBTkV
import Derived.Test.YtihmbcnccdiecaaGreatDoorBTkW
import Derived.Test.YtihmbcnccdiecaaGreatDoorBTkY
import Derived.Test.YtihmbcnccdiecaaGreatDoorBTkZ
namespace Go.Proofs.YtihmbcnccdiecaaGreatDoor.pairingSettings
open Go.ChangeShapes Go.WideShapes Go.ChangeAt Go.RowKit
open Go.ChangeMaps (open_string shut_string)
set_option linter.unusedVariables false
theorem own : ownKnob Tryz.prog.godebug = none := by kernel_rfl
theorem laidOut : laidOutB Tryz.prog = true := by kernel_rfl
theorem door_met (os : Os) (args : Array Value) : laidMetH Tryz.prog laidT ((World.doorLaid Tryz.prog 400 os).forCall (fun _ _ => 0) ⟨#[], args, []⟩).memory :=
  laidMetH_of_parts3 (fuel := 8) (laidMet_of_run' 8 (by kernel_rfl) (by kernel_rfl)) (by kernel_rfl) (by kernel_rfl)
set_option maxRecDepth 100000 in
theorem lifted (os : Os) (started : os.Started) (H : Type) (enc : TypeId × Value → H) :
    ReturnsInHanded {} Tryz.checked os 4 .any (fun w args => (Rows.pairingSettingsSpec.pre enc Tryz.prog Tryz.f4 [] false w args ∧ laidMetH Tryz.prog laidT w) ∧ sizedMet enc Tryz.prog Tryz.f4 (OpenSpec.ofChange Rows.pairingSettingsSpec) false w args)
      (Rows.pairingSettingsSpec.post enc Tryz.prog Tryz.f4 false true false false) := by
  refine returnsInHanded_of_change_and (C := Tryz.checked) (X := fun w _ => laidMetH Tryz.prog laidT w) (fun _ _ _ hh h => h.of_heap hh) own started (by kernel_rfl) Tryz.func4
    (ChangeSpec.witness_shaped (enc := enc) (C := Tryz.checked) (os := os) (X := fun w _ => laidMetH Tryz.prog laidT w) false (World.doorLaid Tryz.prog 400 os) #[.agg #[.int .i64 0, .int .i64 0, .bool false, .bool false, .bool false, .bool false, .bool false, .int .i64 0, .int .u64 0, .int .i64 0, .int .u64 0, .int .i64 0, .int .u64 0, .int .u64 0, .int .u32 0, .int .u64 0, .int .u64 0, .int .u64 0, .int .u64 0]] 8 rfl (World.shaped_of_RefB (by kernel_rfl) (by kernel_rfl)) (by kernel_rfl) (by kernel_rfl) (by kernel_rfl) (door_met os _)) ?_
  intro W base args ds gs before hval0 hW _ _ hL _
  have hval : ∀ (j : Nat) t v, Tryz.f4.params[j]? = some t → args[j]? = some v → Value.okWide Tryz.prog W .any base t v := hval0
  have hW' := hW
  obtain ⟨p, q, hA0, hV, rfl, hfz, hnd⟩ := hW
  have hA : DataW.TrodAll enc Tryz.prog W 0 (fun _ => true) true Tryz.f4.params.toList args.toList ds p := hA0
  rw [Tryz.params4] at hA hval
  obtain ⟨v0, vs0, d0, ds0, p0, q0, hargs, rfl, rfl, h0, r0⟩ := trodAll_cons hA
  obtain ⟨rfl, rfl, rfl⟩ := trodAll_nil r0
  obtain rfl : args = #[v0] := by cases args; simp_all
  obtain ⟨rfl, rfl⟩ := trodVars_none hV
  have k0 := h0
  have lt0 : ∀ x ∈ p0, x.block < W.heap.size := by obtain ⟨m, hm⟩ := k0; exact DataW.trod_lt m _ _ _ hm
  obtain ⟨role0, feat_io0, feat_oob0, feat_bond0, feat_mitm0, feat_sid0, feat_tid0, own_kind0, own_bits0, peer_kind0, peer_bits0, idn_adr_kind0, idn_adr_bits0, idn_irk0, secret0, seed0, mine0, oob_value0, oob_random0, rfl, wrole0, wfeat_io0, wown_kind0, wpeer_kind0, widn_adr_kind0⟩ := pcfg_in (hval 0 34 v0 rfl rfl) h0
  clear hA0 hval0
  refine (law38_PairingSettings role0 wrole0 feat_io0 wfeat_io0 feat_oob0 feat_bond0 feat_mitm0 feat_sid0 feat_tid0 own_kind0 wown_kind0 own_bits0 peer_kind0 wpeer_kind0 peer_bits0 idn_adr_kind0 widn_adr_kind0 idn_adr_bits0 idn_irk0 secret0 seed0 mine0 oob_value0 oob_random0 W (laid_of hL) ).mono fun e W' ⟨he, bel⟩ => ?_
  subst he
  exact ⟨_, rfl, _, _, _, [], _, [], hW', trodAll_mk1 (shut_bool Tryz.underlying4 _), (trodAll_cons_mk (Below.trod laidOut (by kernel_rfl) (of_decide_eq_true (by kernel_rfl)) k0 bel lt0) trodAll_mk0), rfl, bel.frame _, fun h => by cases h⟩
theorem over : Rows.pairingSettingsRow.holds Tryz.pinned (OpenSpec.ofChange Rows.pairingSettingsSpec) :=
  OpenClaim.holds_of_wide 4 Tryz.f4 rfl rfl rfl rfl rfl rfl rfl ⟨rfl, rfl, rfl, rfl, rfl⟩ rfl rfl rfl rfl rfl (by kernel_rfl) Tryz.func4 (by kernel_rfl)
    (of_decide_eq_true (by kernel_rfl)) (by unfold Func.isWrapper; first | (rw [if_pos (by decide +kernel)]; kernel_rfl) | (rw [if_neg (by decide +kernel)]; exact ⟨rfl, rfl⟩))
    (fun os started H enc _ => lifted os started H enc)
theorem proved : Rows.PairingSettingsCardSaid :=
  Claim7.holds_tied_plain_at .later [] [.data, .data] true _ false over (fun _ h => by cases h) (by kernel_rfl) (fun _ h => by cases h) pairingSettings_row_tie rfl ⟨rfl, rfl⟩ (by kernel_rfl) rfl
    (fun f fn hf hfn => by
      obtain rfl : f = 4 := Option.some.inj ((show Tryz.prog.funcNamed "wireless/wirelesslaw38.PairingSettings" = some 4 by kernel_rfl).symm.trans hf) |>.symm
      obtain rfl : fn = Tryz.f4 := (Option.some.inj (Tryz.func4.symm.trans hfn)).symm
      exact ⟨by kernel_rfl, fun j t ht => by
        rw [Tryz.params4] at ht
        have hm : t ∈ [34] := by simpa using Array.mem_of_getElem? ht
        have hall : ([34].all fun u => !Tryz.prog.wantsStandIn u) = true := by kernel_rfl
        exact (show Tryz.prog.wantsStandIn t = false by simpa using List.all_eq_true.1 hall t hm)⟩)
    (by kernel_rfl)
end Go.Proofs.YtihmbcnccdiecaaGreatDoor.pairingSettings
