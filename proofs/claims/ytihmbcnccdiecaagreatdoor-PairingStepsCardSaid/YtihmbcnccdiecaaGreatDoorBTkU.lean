/- Part of the proofs of the laws of pairing. -/
import Derived.Test.YtihmbcnccdiecaaGreatDoorBTkY
namespace Go.Proofs.YtihmbcnccdiecaaGreatDoor
set_option maxRecDepth 100000
set_option linter.unusedVariables false
set_option linter.unusedSimpArgs false
open Go.ChangeShapes Go.WideShapes Go.ChangeAt Go.RowKit
theorem sQ  (w : World) (HL : bW w) :
  Calls Tryz.prog 22 #[.int .i64 0, .int .i64 3] w (fun e w' => e = .returned (.agg (cT (lQ 0 3)).toArray) ∧ Below w.heap.size w w') := by
 have HM := MR.start HL
 obtain ⟨base, hbs⟩ : ∃ b, w.heap.size = b := ⟨_, rfl⟩
 rw [hbs] at HM
 go_enter Tryz.func22, Tryz.ntmps22
 go_wp2_with with_reducible refine so ?_
 refine HM.nw (ty := 34) (cs := (cT pN).toArray) ?_; clear HM; intro q z HM
 go_wp2_with with_reducible refine so ?_
 refine HM.nw (ty := 26) (cs := #[.int .i64 0, .int .u64 0]) ?_; clear HM; intro C D HM
 go_wp2_with with_reducible refine so ?_
 refine yv HM.b0 HM.s0 ?_; clear HM; intro F HM
 go_wp2_with with_reducible refine so ?_
 refine HM.nw (ty := 26) (cs := #[.int .i64 0, .int .u64 0]) ?_; clear HM; intro I J HM
 go_wp2_with with_reducible refine so ?_
 refine yv HM.b0 HM.s0 ?_; clear HM; intro L HM
 go_wp2_with first | with_reducible refine so ?_ | with_reducible refine ld 0 [.int .i64 1, .int .u64 10] HM.b1 U26 ?_ | with_reducible refine ld 0 [.int .i64 1, .int .u64 11] HM.b0 U26 ?_
 refine yv HM.b2 HM.s2 ?_; clear HM; intro O HM
 go_wp2_with with_reducible refine so ?_
 refine rc1 HM.b2 U34 ?_
 refine ⟨?_, by first | exact HM.below | (rw [hbs]; exact HM.below)⟩
 first | rfl | (congr 1; done) | (simp [lQ, cT]; done) | kernel_rfl
theorem CJ  (w : World) (HL : bW w) :
  Calls Tryz.prog 22 #[.int .i64 1, .int .i64 3] w (fun e w' => e = .returned (.agg (cT (lQ 1 3)).toArray) ∧ Below w.heap.size w w') := by
 have HM := MR.start HL
 obtain ⟨base, hbs⟩ : ∃ b, w.heap.size = b := ⟨_, rfl⟩
 rw [hbs] at HM
 go_enter Tryz.func22, Tryz.ntmps22
 go_wp2_with with_reducible refine so ?_
 refine HM.nw (ty := 34) (cs := (cT pN).toArray) ?_; clear HM; intro q z HM
 go_wp2_with with_reducible refine so ?_
 refine HM.nw (ty := 26) (cs := #[.int .i64 0, .int .u64 0]) ?_; clear HM; intro C D HM
 go_wp2_with with_reducible refine so ?_
 refine yv HM.b0 HM.s0 ?_; clear HM; intro F HM
 go_wp2_with with_reducible refine so ?_
 refine HM.nw (ty := 26) (cs := #[.int .i64 0, .int .u64 0]) ?_; clear HM; intro I J HM
 go_wp2_with with_reducible refine so ?_
 refine yv HM.b0 HM.s0 ?_; clear HM; intro L HM
 go_wp2_with first | with_reducible refine so ?_ | with_reducible refine ld 0 [.int .i64 1, .int .u64 11] HM.b1 U26 ?_ | with_reducible refine ld 0 [.int .i64 1, .int .u64 10] HM.b0 U26 ?_
 refine yv HM.b2 HM.s2 ?_; clear HM; intro O HM
 go_wp2_with with_reducible refine so ?_
 refine rc1 HM.b2 U34 ?_
 refine ⟨?_, by first | exact HM.below | (rw [hbs]; exact HM.below)⟩
 first | rfl | (congr 1; done) | (simp [lQ, cT]; done) | kernel_rfl
end Go.Proofs.YtihmbcnccdiecaaGreatDoor
