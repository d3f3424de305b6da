/- Part of the proofs of the laws of pairing. -/
import Derived.Test.YtihmbcnccdiecaaGreatDoorA2
import Derived.Test.YtihmbcnccdiecaaGreatDoorBLive
import Derived.Test.YtihmbcnccdiecaaGreatDoorBLowB
import Derived.Test.YtihmbcnccdiecaaGreatDoorBLowC
import Derived.Test.YtihmbcnccdiecaaGreatDoorBRfA
import Derived.Test.YtihmbcnccdiecaaGreatDoorBRfB
import Derived.Test.YtihmbcnccdiecaaGreatDoorBSdA
import Derived.Test.YtihmbcnccdiecaaGreatDoorBSdB
import Derived.Test.YtihmbcnccdiecaaGreatDoorBSdC
import Derived.Test.YtihmbcnccdiecaaGreatDoorBSdD
import Derived.Test.YtihmbcnccdiecaaGreatDoorBSdE
import Derived.Test.YtihmbcnccdiecaaGreatDoorBSdF
import Derived.Test.YtihmbcnccdiecaaGreatDoorBSdG
import Derived.Test.YtihmbcnccdiecaaGreatDoorBSdH
import Derived.Test.YtihmbcnccdiecaaGreatDoorBSdIe
import Derived.Test.YtihmbcnccdiecaaGreatDoorBSdIs
import Derived.Test.YtihmbcnccdiecaaGreatDoorBSdIu
import Derived.Test.YtihmbcnccdiecaaGreatDoorBSdJ
import Derived.Test.YtihmbcnccdiecaaGreatDoorBSdK
import Derived.Test.YtihmbcnccdiecaaGreatDoorBSdL
import Derived.Test.YtihmbcnccdiecaaGreatDoorBSdM
import Derived.Test.YtihmbcnccdiecaaGreatDoorBSdN
import Derived.Test.YtihmbcnccdiecaaGreatDoorBTkP
import Derived.Test.YtihmbcnccdiecaaGreatDoorBTkU
import Derived.Test.YtihmbcnccdiecaaGreatDoorBTkV
import Derived.Test.YtihmbcnccdiecaaGreatDoorBTkW
import Derived.Test.YtihmbcnccdiecaaGreatDoorBTkY
import Derived.Test.YtihmbcnccdiecaaGreatDoorBTkZ
namespace Go.Proofs.YtihmbcnccdiecaaGreatDoor
set_option maxRecDepth 100000
open Go.ChangeShapes Go.WideShapes Go.ChangeAt Go.RowKit
set_option linter.unusedVariables false
set_option linter.unusedSimpArgs false
set_option maxHeartbeats 4000000 in
theorem law_PairingSettings (c : Cfg) (w : World) (HL : Laid w) :
  Calls Tryz.prog 4 #[.agg (cfgL c).toArray] w (fun e w' => e = .returned (.bool true) ∧ Below w.heap.size w w') := by
 have HM := MR.start HL
 obtain ⟨base, hbs⟩ : ∃ b, w.heap.size = b := ⟨_, rfl⟩
 rw [hbs] at HM
 have hbs1 := Lib.hid hbs
 clear HL hbs
 go_enter Tryz.func4, Tryz.ntmps4
 go_wp2_with (with_reducible refine so ?_)
 refine HM.nw (ty := 34) (cs := (cfgL c).toArray) ?_; clear HM; intro g_1 w_2 HM
 go_wp2_with (first | (with_reducible refine so ?_) | ((with_reducible refine wpList_ld 0 (cfgL c) HM.b0 ?_ ?_ Tryz.underlying34 ?_ ?_ ?_); rfl; rfl; rfl; kernel_rfl))
 refine (pa_New c _ HM.laid).mono ?_; rintro e w_8 ⟨rfl, hb_9⟩
 replace HM := HM.to hb_9
 clear hb_9
 go_wp2_with (with_reducible refine so ?_)
 refine HM.nw (ty := 37) (cs := (prL pr0).toArray) ?_; clear HM; intro g_10 w_11 HM
 go_wp2_with (with_reducible refine so ?_)
 refine sv (prL (newP c).1).toArray HM.b0 ?_
 intro w_16 G_18 hU_17
 replace HM := HM.s0 hU_17 G_18
 clear hU_17 G_18
 go_wp2_with (first | (with_reducible refine so ?_) | ((with_reducible refine wpList_ld 0 (cfgL c) HM.b1 ?_ ?_ Tryz.underlying34 ?_ ?_ ?_); rfl; rfl; rfl; kernel_rfl))
 refine (ra_New c _).mono ?_; rintro e w_20 ⟨rfl, hb_21⟩
 replace HM := HM.to hb_21
 clear hb_21
 go_wp2_with (with_reducible refine so ?_)
 refine HM.nw (ty := 37) (cs := (prL pr0).toArray) ?_; clear HM; intro g_22 w_23 HM
 go_wp2_with (with_reducible refine so ?_)
 refine sv (prL (newP c).1).toArray HM.b0 ?_
 intro w_28 G_30 hU_29
 replace HM := HM.s0 hU_29 G_30
 clear hU_29 G_30
 go_wp2_with (with_reducible refine so ?_)
 refine (lives38 _ HM.laid).mono ?_; rintro e w_31 ⟨rfl, hb_32⟩
 replace HM := HM.to hb_32
 clear hb_32
 go_wp2_with (first | (with_reducible refine so ?_) | ((with_reducible refine wpList_ld 0 (prL (newP c).1) HM.b1 ?_ ?_ Tryz.underlying37 ?_ ?_ ?_); rfl; rfl; rfl; kernel_rfl) | ((with_reducible refine wpList_ldg 0 (prL (newP c).1) HM.b1 ?_ ?_ Tryz.underlying37 ?_ ?_ ?_ ?_); rfl; rfl; rfl; kernel_rfl; rfl) | ((with_reducible refine wpList_ld 0 (prL (newP c).1) HM.b0 ?_ ?_ Tryz.underlying37 ?_ ?_ ?_); rfl; rfl; rfl; kernel_rfl) | ((with_reducible refine wpList_ldg 0 (prL (newP c).1) HM.b0 ?_ ?_ Tryz.underlying37 ?_ ?_ ?_ ?_); rfl; rfl; rfl; kernel_rfl; rfl))
 go_returns
 refine ⟨?_, by first | exact HM.below | (rw [hbs1.out]; exact HM.below)⟩
 rfl
end Go.Proofs.YtihmbcnccdiecaaGreatDoor
