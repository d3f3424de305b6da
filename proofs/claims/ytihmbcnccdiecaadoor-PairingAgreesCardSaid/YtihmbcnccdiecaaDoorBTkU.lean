/- Part of the proofs of the laws of pairing. -/
import Derived.Test.YtihmbcnccdiecaaDoorA2
import Derived.Test.YtihmbcnccdiecaaDoorBLowB
import Derived.Test.YtihmbcnccdiecaaDoorBLowC
import Derived.Test.YtihmbcnccdiecaaDoorBSdA
import Derived.Test.YtihmbcnccdiecaaDoorBSdB
import Derived.Test.YtihmbcnccdiecaaDoorBSdC
import Derived.Test.YtihmbcnccdiecaaDoorBSdD
import Derived.Test.YtihmbcnccdiecaaDoorBSdE
import Derived.Test.YtihmbcnccdiecaaDoorBSdF
import Derived.Test.YtihmbcnccdiecaaDoorBSdG
import Derived.Test.YtihmbcnccdiecaaDoorBSdH
import Derived.Test.YtihmbcnccdiecaaDoorBSdIe
import Derived.Test.YtihmbcnccdiecaaDoorBSdIs
import Derived.Test.YtihmbcnccdiecaaDoorBSdIu
import Derived.Test.YtihmbcnccdiecaaDoorBSdJ
import Derived.Test.YtihmbcnccdiecaaDoorBSdK
import Derived.Test.YtihmbcnccdiecaaDoorBSdL
import Derived.Test.YtihmbcnccdiecaaDoorBSdM
import Derived.Test.YtihmbcnccdiecaaDoorBSdN
import Derived.Test.YtihmbcnccdiecaaDoorBTkP
import Derived.Test.YtihmbcnccdiecaaDoorBTkY
namespace Go.Proofs.YtihmbcnccdiecaaDoor
set_option maxRecDepth 100000
open Go.ChangeShapes Go.WideShapes Go.ChangeAt Go.RowKit
set_option linter.unusedVariables false
set_option linter.unusedSimpArgs false
theorem tk_config0  (w : World) (HL : Laid w) :
  Calls Tryd.prog 24 #[.int .i64 0, .int .i64 3] w (fun e w' => e = .returned (.agg (cfgL (cfgX 0 3)).toArray) ∧ Below w.heap.size w w') := by
 have HM := MR.start HL
 obtain ⟨base, hbs⟩ : ∃ b, w.heap.size = b := ⟨_, rfl⟩
 rw [hbs] at HM
 go_enter Tryd.func24, Tryd.ntmps24
 go_wp2_with (with_reducible refine so ?_)
 refine HM.nw (ty := 34) (cs := (cfgL cfg0).toArray) ?_; clear HM; intro g_1 w_2 HM
 go_wp2_with (with_reducible refine so ?_)
 refine HM.nw (ty := 26) (cs := #[.int .i64 0, .int .u64 0]) ?_; clear HM; intro g_7 w_8 HM
 go_wp2_with (with_reducible refine so ?_)
 refine sv #[.int .i64 1, .int .u64 10] HM.b0 ?_
 intro w_13 G_15 hU_14
 replace HM := HM.s0 hU_14 G_15
 clear hU_14 G_15
 go_wp2_with (with_reducible refine so ?_)
 refine HM.nw (ty := 26) (cs := #[.int .i64 0, .int .u64 0]) ?_; clear HM; intro g_16 w_17 HM
 go_wp2_with (with_reducible refine so ?_)
 refine sv #[.int .i64 1, .int .u64 11] HM.b0 ?_
 intro w_22 G_24 hU_23
 replace HM := HM.s0 hU_23 G_24
 clear hU_23 G_24
 go_wp2_with (first | (with_reducible refine so ?_) | (with_reducible refine ld 0 [.int .i64 1, .int .u64 10] HM.b1 Tryd.underlying26 ?_) | (with_reducible refine ld 0 [.int .i64 1, .int .u64 11] HM.b0 Tryd.underlying26 ?_))
 refine sv #[.int .i64 0, .int .i64 3, .bool false, .bool false, .bool false, .bool true, .bool true, .int .i64 1, .int .u64 10, .int .i64 1, .int .u64 11, .int .i64 1, .int .u64 10, .int .u64 5, .int .u32 7, .int .u64 3, .int .u64 0, .int .u64 0, .int .u64 0] HM.b2 ?_
 intro w_27 G_29 hU_28
 replace HM := HM.s2 hU_28 G_29
 clear hU_28 G_29
 go_wp2_with (with_reducible refine so ?_)
 refine bodyPost_ret (results_cell rfl rfl (load_blk HM.b2 Tryd.underlying34 rfl (by kernel_rfl))) rfl ?_
 refine ⟨?_, by first | exact HM.below | (rw [hbs]; exact HM.below)⟩
 first | rfl | (congr 1; done) | (simp [cfgX, cfgL]; done) | kernel_rfl
theorem tk_config1  (w : World) (HL : Laid w) :
  Calls Tryd.prog 24 #[.int .i64 1, .int .i64 3] w (fun e w' => e = .returned (.agg (cfgL (cfgX 1 3)).toArray) ∧ Below w.heap.size w w') := by
 have HM := MR.start HL
 obtain ⟨base, hbs⟩ : ∃ b, w.heap.size = b := ⟨_, rfl⟩
 rw [hbs] at HM
 go_enter Tryd.func24, Tryd.ntmps24
 go_wp2_with (with_reducible refine so ?_)
 refine HM.nw (ty := 34) (cs := (cfgL cfg0).toArray) ?_; clear HM; intro g_1 w_2 HM
 go_wp2_with (with_reducible refine so ?_)
 refine HM.nw (ty := 26) (cs := #[.int .i64 0, .int .u64 0]) ?_; clear HM; intro g_7 w_8 HM
 go_wp2_with (with_reducible refine so ?_)
 refine sv #[.int .i64 1, .int .u64 11] HM.b0 ?_
 intro w_13 G_15 hU_14
 replace HM := HM.s0 hU_14 G_15
 clear hU_14 G_15
 go_wp2_with (with_reducible refine so ?_)
 refine HM.nw (ty := 26) (cs := #[.int .i64 0, .int .u64 0]) ?_; clear HM; intro g_16 w_17 HM
 go_wp2_with (with_reducible refine so ?_)
 refine sv #[.int .i64 1, .int .u64 10] HM.b0 ?_
 intro w_22 G_24 hU_23
 replace HM := HM.s0 hU_23 G_24
 clear hU_23 G_24
 go_wp2_with (first | (with_reducible refine so ?_) | (with_reducible refine ld 0 [.int .i64 1, .int .u64 11] HM.b1 Tryd.underlying26 ?_) | (with_reducible refine ld 0 [.int .i64 1, .int .u64 10] HM.b0 Tryd.underlying26 ?_))
 refine sv #[.int .i64 1, .int .i64 3, .bool false, .bool false, .bool false, .bool true, .bool true, .int .i64 1, .int .u64 11, .int .i64 1, .int .u64 10, .int .i64 1, .int .u64 11, .int .u64 5, .int .u32 8, .int .u64 4, .int .u64 0, .int .u64 0, .int .u64 0] HM.b2 ?_
 intro w_27 G_29 hU_28
 replace HM := HM.s2 hU_28 G_29
 clear hU_28 G_29
 go_wp2_with (with_reducible refine so ?_)
 refine bodyPost_ret (results_cell rfl rfl (load_blk HM.b2 Tryd.underlying34 rfl (by kernel_rfl))) rfl ?_
 refine ⟨?_, by first | exact HM.below | (rw [hbs]; exact HM.below)⟩
 first | rfl | (congr 1; done) | (simp [cfgX, cfgL]; done) | kernel_rfl
end Go.Proofs.YtihmbcnccdiecaaDoor
