/- Part of the proofs of the laws of pairing. -/
import Derived.Test.YtihmbcnccdiecaaDoorA2
import Derived.Test.YtihmbcnccdiecaaDoorBLowB
import Derived.Test.YtihmbcnccdiecaaDoorBLowC
import Derived.Test.YtihmbcnccdiecaaDoorBSdA
import Derived.Test.YtihmbcnccdiecaaDoorBSdB
import Derived.Test.YtihmbcnccdiecaaDoorBSdC
import Derived.Test.YtihmbcnccdiecaaDoorBSdD
import Derived.Test.YtihmbcnccdiecaaDoorBSdE
import Derived.Test.YtihmbcnccdiecaaDoorBSdF
import Derived.Test.YtihmbcnccdiecaaDoorBSdG
import Derived.Test.YtihmbcnccdiecaaDoorBSdH
import Derived.Test.YtihmbcnccdiecaaDoorBSdJ
import Derived.Test.YtihmbcnccdiecaaDoorBSdK
import Derived.Test.YtihmbcnccdiecaaDoorBSdM
namespace Go.Proofs.YtihmbcnccdiecaaDoor
set_option maxRecDepth 100000
open Go.ChangeShapes Go.WideShapes Go.ChangeAt Go.RowKit
set_option linter.unusedVariables false
set_option linter.unusedSimpArgs false
theorem pa_Handle (p : Pr) (d : Sec) (now : Int) (w : World) (HL : Laid w) (r0 : 0 ≤ p.round) (r1 : p.round ≤ 60) :
    Calls Tryd.prog 26 #[.agg (prL p).toArray, .agg (secL d).toArray, .int .i64 now] w (fun e w' => OutR w w' (handleP p d now).1 (handleP p d now).2.1 (handleP p d now).2.2 e) := by
  by_cases h0 : p.phase = 0
  · exact pa_Handle0 p d now w HL r0 r1 h0
  by_cases h1 : p.phase = 1
  · exact pa_Handle1 p d now w HL r0 r1 h0 h1
  by_cases h2 : p.phase = 2
  · exact pa_Handle2 p d now w HL r0 r1 h0 h1 h2
  by_cases h3 : p.phase = 3
  · exact pa_Handle3 p d now w HL r0 r1 h0 h1 h2 h3
  by_cases h4 : p.phase = 4
  · exact pa_Handle4 p d now w HL r0 r1 h0 h1 h2 h3 h4
  by_cases h5 : p.phase = 5
  · exact pa_Handle5 p d now w HL r0 r1 h0 h1 h2 h3 h4 h5
  by_cases h6 : p.phase = 6
  · exact pa_Handle6 p d now w HL r0 r1 h0 h1 h2 h3 h4 h5 h6
  exact pa_Handlex p d now w HL r0 r1 h0 h1 h2 h3 h4 h5 h6
end Go.Proofs.YtihmbcnccdiecaaDoor
