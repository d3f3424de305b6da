/- Part of the proofs of the laws of pairing. -/
import Derived.Test.YtihmbcnccdiecaaDoorA2
import Derived.Test.YtihmbcnccdiecaaDoorBLowB
import Derived.Test.YtihmbcnccdiecaaDoorBLowC
import Derived.Test.YtihmbcnccdiecaaDoorBSdA
import Derived.Test.YtihmbcnccdiecaaDoorBSdB
import Derived.Test.YtihmbcnccdiecaaDoorBSdC
import Derived.Test.YtihmbcnccdiecaaDoorBSdD
import Derived.Test.YtihmbcnccdiecaaDoorBSdE
import Derived.Test.YtihmbcnccdiecaaDoorBSdF
import Derived.Test.YtihmbcnccdiecaaDoorBSdG
import Derived.Test.YtihmbcnccdiecaaDoorBSdH
import Derived.Test.YtihmbcnccdiecaaDoorBSdIe
import Derived.Test.YtihmbcnccdiecaaDoorBSdIs
import Derived.Test.YtihmbcnccdiecaaDoorBSdIu
import Derived.Test.YtihmbcnccdiecaaDoorBSdJ
import Derived.Test.YtihmbcnccdiecaaDoorBSdK
import Derived.Test.YtihmbcnccdiecaaDoorBSdL
import Derived.Test.YtihmbcnccdiecaaDoorBSdM
import Derived.Test.YtihmbcnccdiecaaDoorBSdN
import Derived.Test.YtihmbcnccdiecaaDoorBTkP
import Derived.Test.YtihmbcnccdiecaaDoorBTkY
import Derived.Test.YtihmbcnccdiecaaDoorCACKS
namespace Go.Proofs.YtihmbcnccdiecaaDoor
set_option maxRecDepth 100000
open Go.ChangeShapes Go.WideShapes Go.ChangeAt Go.RowKit
set_option linter.unusedVariables false
set_option linter.unusedSimpArgs false
theorem tk_keyed_f (X : Tk) (v0 v1 va vl : Value) (w : World) (HL : Laid w) :
  Calls Tryd.prog 17 #[.agg (tkL X v0 v1 va vl).toArray, .int .i64 0] w (fun e w' => e = .returned (.bool (X.keyed false)) ∧ Below w.heap.size w w') := by
 have HM := MR.start HL
 obtain ⟨base, hbs⟩ : ∃ b, w.heap.size = b := ⟨_, rfl⟩
 rw [hbs] at HM
 go_enter Tryd.func17, Tryd.ntmps17
 go_wp2_with (with_reducible refine so ?_)
 refine HM.nw (ty := 58) (cs := (tkL X v0 v1 va vl).toArray) ?_; clear HM; intro g_1 w_2 HM
 rcases hc_7 : X.ok with _ | _
 ·
  skip
  have ld_8 := HM.b0.c 116 (.bool X.ok)
  go_wp2_with (with_reducible refine so ?_)
  go_returns
  have er : X.keyed false = false := by unfold Tk.keyed Tk.side; simp [hc_7] <;> omega
  rw [er]; first | exact ⟨rfl, HM.below⟩ | (rw [hbs]; exact ⟨rfl, HM.below⟩)
 skip
 by_cases hc_9 : (X.s0.phase : Int) < 6
 ·
  obtain ⟨ec_9m, ec_9, ec_9n, kc_9⟩ := lT hc_9; clear hc_9
  have ld_10 := HM.b0.c 116 (.bool X.ok)
  have ld_11 := HM.b0.c 19 (.int .i64 X.s0.phase)
  go_wp2_with (with_reducible refine so ?_)
  go_returns
  have q1 := kc_9.out
  have er : X.keyed false = false := by unfold Tk.keyed Tk.side; simp [hc_7, q1] <;> omega
  rw [er]; first | exact ⟨rfl, HM.below⟩ | (rw [hbs]; exact ⟨rfl, HM.below⟩)
 obtain ⟨ec_9m, ec_9, ec_9n, kc_9⟩ := lF hc_9; clear hc_9
 have ld_12 := HM.b0.c 116 (.bool X.ok)
 have ld_13 := HM.b0.c 19 (.int .i64 X.s0.phase)
 go_wp2_with (with_reducible refine so ?_)
 go_returns
 have q1 := kc_9.out
 have er : X.keyed false = decide (X.s0.phase ≤ 7) := by unfold Tk.keyed Tk.side; simp [hc_7, q1] <;> omega
 rw [er]; first | exact ⟨rfl, HM.below⟩ | (rw [hbs]; exact ⟨rfl, HM.below⟩)
theorem tk_keyed_t (X : Tk) (v0 v1 va vl : Value) (w : World) (HL : Laid w) :
  Calls Tryd.prog 17 #[.agg (tkL X v0 v1 va vl).toArray, .int .i64 1] w (fun e w' => e = .returned (.bool (X.keyed true)) ∧ Below w.heap.size w w') := by
 have HM := MR.start HL
 obtain ⟨base, hbs⟩ : ∃ b, w.heap.size = b := ⟨_, rfl⟩
 rw [hbs] at HM
 go_enter Tryd.func17, Tryd.ntmps17
 go_wp2_with (with_reducible refine so ?_)
 refine HM.nw (ty := 58) (cs := (tkL X v0 v1 va vl).toArray) ?_; clear HM; intro g_1 w_2 HM
 rcases hc_7 : X.ok with _ | _
 ·
  skip
  have ld_8 := HM.b0.c 116 (.bool X.ok)
  go_wp2_with (with_reducible refine so ?_)
  go_returns
  have er : X.keyed true = false := by unfold Tk.keyed Tk.side; simp [hc_7] <;> omega
  rw [er]; first | exact ⟨rfl, HM.below⟩ | (rw [hbs]; exact ⟨rfl, HM.below⟩)
 skip
 by_cases hc_9 : (X.s1.phase : Int) < 6
 ·
  obtain ⟨ec_9m, ec_9, ec_9n, kc_9⟩ := lT hc_9; clear hc_9
  have ld_10 := HM.b0.c 116 (.bool X.ok)
  have ld_11 := HM.b0.c 77 (.int .i64 X.s1.phase)
  go_wp2_with (with_reducible refine so ?_)
  go_returns
  have q1 := kc_9.out
  have er : X.keyed true = false := by unfold Tk.keyed Tk.side; simp [hc_7, q1] <;> omega
  rw [er]; first | exact ⟨rfl, HM.below⟩ | (rw [hbs]; exact ⟨rfl, HM.below⟩)
 obtain ⟨ec_9m, ec_9, ec_9n, kc_9⟩ := lF hc_9; clear hc_9
 have ld_12 := HM.b0.c 116 (.bool X.ok)
 have ld_13 := HM.b0.c 77 (.int .i64 X.s1.phase)
 go_wp2_with (with_reducible refine so ?_)
 go_returns
 have q1 := kc_9.out
 have er : X.keyed true = decide (X.s1.phase ≤ 7) := by unfold Tk.keyed Tk.side; simp [hc_7, q1] <;> omega
 rw [er]; first | exact ⟨rfl, HM.below⟩ | (rw [hbs]; exact ⟨rfl, HM.below⟩)
end Go.Proofs.YtihmbcnccdiecaaDoor
