/- Part of the proofs of the laws of pairing. -/
import Derived.Test.YtihmbcnccdiecaaGreatDoorA2
import Derived.Test.YtihmbcnccdiecaaGreatDoorBLowB
import Derived.Test.YtihmbcnccdiecaaGreatDoorBLowC
import Derived.Test.YtihmbcnccdiecaaGreatDoorBSdA
import Derived.Test.YtihmbcnccdiecaaGreatDoorBSdB
import Derived.Test.YtihmbcnccdiecaaGreatDoorBSdC
import Derived.Test.YtihmbcnccdiecaaGreatDoorBSdD
import Derived.Test.YtihmbcnccdiecaaGreatDoorBSdE
import Derived.Test.YtihmbcnccdiecaaGreatDoorBSdF
import Derived.Test.YtihmbcnccdiecaaGreatDoorBSdG
import Derived.Test.YtihmbcnccdiecaaGreatDoorBSdH
import Derived.Test.YtihmbcnccdiecaaGreatDoorBSdIe
import Derived.Test.YtihmbcnccdiecaaGreatDoorBSdIs
import Derived.Test.YtihmbcnccdiecaaGreatDoorBSdIu
import Derived.Test.YtihmbcnccdiecaaGreatDoorBSdJ
import Derived.Test.YtihmbcnccdiecaaGreatDoorBSdK
import Derived.Test.YtihmbcnccdiecaaGreatDoorBSdL
import Derived.Test.YtihmbcnccdiecaaGreatDoorBSdM
import Derived.Test.YtihmbcnccdiecaaGreatDoorBSdN
import Derived.Test.YtihmbcnccdiecaaGreatDoorBTkP
import Derived.Test.YtihmbcnccdiecaaGreatDoorBTkY
namespace Go.Proofs.YtihmbcnccdiecaaGreatDoor
set_option maxRecDepth 100000
open Go.ChangeShapes Go.WideShapes Go.ChangeAt Go.RowKit
set_option linter.unusedVariables false
set_option linter.unusedSimpArgs false
theorem tk_config0  (w : World) (HL : Laid w) :
  Calls Tryz.prog 22 #[.int .i64 0, .int .i64 3] w (fun e w' => e = .returned (.agg (cfgL (cfgX 0 3)).toArray) ∧ Below w.heap.size w w') := by
 have HM := MR.start HL
 obtain ⟨base, hbs⟩ : ∃ b, w.heap.size = b := ⟨_, rfl⟩
 rw [hbs] at HM
 go_enter Tryz.func22, Tryz.ntmps22
 go_wp2_with (with_reducible refine so ?_)
 refine HM.nw (ty := 34) (cs := (cfgL cfg0).toArray) ?_; clear HM; intro g_1 w_2 HM
 go_wp2_with (with_reducible refine so ?_)
 refine HM.nw (ty := 26) (cs := #[.int .i64 0, .int .u64 0]) ?_; clear HM; intro g_7 w_8 HM
 go_wp2_with (with_reducible refine so ?_)
 refine sv #[.int .i64 1, .int .u64 10] HM.b0 ?_
 intro w_13 G_15 hU_14
 replace HM := HM.s0 hU_14 G_15
 clear hU_14 G_15
 go_wp2_with (with_reducible refine so ?_)
 refine HM.nw (ty := 26) (cs := #[.int .i64 0, .int .u64 0]) ?_; clear HM; intro g_16 w_17 HM
 go_wp2_with (with_reducible refine so ?_)
 refine sv #[.int .i64 1, .int .u64 11] HM.b0 ?_
 intro w_22 G_24 hU_23
 replace HM := HM.s0 hU_23 G_24
 clear hU_23 G_24
 go_wp2_with (first | (with_reducible refine so ?_) | ((with_reducible refine wpList_ld 0 [.int .i64 1, .int .u64 10] HM.b1 ?_ ?_ Tryz.underlying26 ?_ ?_ ?_); rfl; rfl; rfl; kernel_rfl) | ((with_reducible refine wpList_ld 0 [.int .i64 1, .int .u64 11] HM.b0 ?_ ?_ Tryz.underlying26 ?_ ?_ ?_); rfl; rfl; rfl; kernel_rfl))
 refine sv #[.int .i64 0, .int .i64 3, .bool false, .bool false, .bool false, .bool true, .bool true, .int .i64 1, .int .u64 10, .int .i64 1, .int .u64 11, .int .i64 1, .int .u64 10, .int .u64 5, .int .u32 7, .int .u64 3, .int .u64 0, .int .u64 0, .int .u64 0] HM.b2 ?_
 intro w_27 G_29 hU_28
 replace HM := HM.s2 hU_28 G_29
 clear hU_28 G_29
 go_wp2_with (with_reducible refine so ?_)
 refine bodyPost_ret (results_cell rfl rfl (load_blk HM.b2 Tryz.underlying34 rfl (by kernel_rfl))) rfl ?_
 refine ⟨?_, by first | exact HM.below | (rw [hbs]; exact HM.below)⟩
 first | rfl | (congr 1; done) | (simp [cfgX, cfgL]; done) | kernel_rfl
theorem tk_config1  (w : World) (HL : Laid w) :
  Calls Tryz.prog 22 #[.int .i64 1, .int .i64 3] w (fun e w' => e = .returned (.agg (cfgL (cfgX 1 3)).toArray) ∧ Below w.heap.size w w') := by
 have HM := MR.start HL
 obtain ⟨base, hbs⟩ : ∃ b, w.heap.size = b := ⟨_, rfl⟩
 rw [hbs] at HM
 go_enter Tryz.func22, Tryz.ntmps22
 go_wp2_with (with_reducible refine so ?_)
 refine HM.nw (ty := 34) (cs := (cfgL cfg0).toArray) ?_; clear HM; intro g_1 w_2 HM
 go_wp2_with (with_reducible refine so ?_)
 refine HM.nw (ty := 26) (cs := #[.int .i64 0, .int .u64 0]) ?_; clear HM; intro g_7 w_8 HM
 go_wp2_with (with_reducible refine so ?_)
 refine sv #[.int .i64 1, .int .u64 11] HM.b0 ?_
 intro w_13 G_15 hU_14
 replace HM := HM.s0 hU_14 G_15
 clear hU_14 G_15
 go_wp2_with (with_reducible refine so ?_)
 refine HM.nw (ty := 26) (cs := #[.int .i64 0, .int .u64 0]) ?_; clear HM; intro g_16 w_17 HM
 go_wp2_with (with_reducible refine so ?_)
 refine sv #[.int .i64 1, .int .u64 10] HM.b0 ?_
 intro w_22 G_24 hU_23
 replace HM := HM.s0 hU_23 G_24
 clear hU_23 G_24
 go_wp2_with (first | (with_reducible refine so ?_) | ((with_reducible refine wpList_ld 0 [.int .i64 1, .int .u64 11] HM.b1 ?_ ?_ Tryz.underlying26 ?_ ?_ ?_); rfl; rfl; rfl; kernel_rfl) | ((with_reducible refine wpList_ld 0 [.int .i64 1, .int .u64 10] HM.b0 ?_ ?_ Tryz.underlying26 ?_ ?_ ?_); rfl; rfl; rfl; kernel_rfl))
 refine sv #[.int .i64 1, .int .i64 3, .bool false, .bool false, .bool false, .bool true, .bool true, .int .i64 1, .int .u64 11, .int .i64 1, .int .u64 10, .int .i64 1, .int .u64 11, .int .u64 5, .int .u32 8, .int .u64 4, .int .u64 0, .int .u64 0, .int .u64 0] HM.b2 ?_
 intro w_27 G_29 hU_28
 replace HM := HM.s2 hU_28 G_29
 clear hU_28 G_29
 go_wp2_with (with_reducible refine so ?_)
 refine bodyPost_ret (results_cell rfl rfl (load_blk HM.b2 Tryz.underlying34 rfl (by kernel_rfl))) rfl ?_
 refine ⟨?_, by first | exact HM.below | (rw [hbs]; exact HM.below)⟩
 first | rfl | (congr 1; done) | (simp [cfgX, cfgL]; done) | kernel_rfl
end Go.Proofs.YtihmbcnccdiecaaGreatDoor
