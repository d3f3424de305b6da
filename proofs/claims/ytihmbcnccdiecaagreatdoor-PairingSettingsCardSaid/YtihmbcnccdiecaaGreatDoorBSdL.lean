/- Part of the proofs of the laws of pairing. -/
import Derived.Test.YtihmbcnccdiecaaGreatDoorA2
import Derived.Test.YtihmbcnccdiecaaGreatDoorBLowB
import Derived.Test.YtihmbcnccdiecaaGreatDoorBLowC
import Derived.Test.YtihmbcnccdiecaaGreatDoorBSdA
import Derived.Test.YtihmbcnccdiecaaGreatDoorBSdB
import Derived.Test.YtihmbcnccdiecaaGreatDoorBSdC
import Derived.Test.YtihmbcnccdiecaaGreatDoorBSdD
import Derived.Test.YtihmbcnccdiecaaGreatDoorBSdE
import Derived.Test.YtihmbcnccdiecaaGreatDoorBSdF
import Derived.Test.YtihmbcnccdiecaaGreatDoorBSdG
import Derived.Test.YtihmbcnccdiecaaGreatDoorBSdH
import Derived.Test.YtihmbcnccdiecaaGreatDoorBSdJ
import Derived.Test.YtihmbcnccdiecaaGreatDoorBSdK
import Derived.Test.YtihmbcnccdiecaaGreatDoorBSdM
namespace Go.Proofs.YtihmbcnccdiecaaGreatDoor
set_option maxRecDepth 100000
open Go.ChangeShapes Go.WideShapes Go.ChangeAt Go.RowKit
set_option linter.unusedVariables false
set_option linter.unusedSimpArgs false
theorem pa_Handle (p : Pr) (d : Sec) (now : Int) (w : World) (HL : Laid w) (r0 : 0 ≤ p.round) (r1 : p.round ≤ 60) :
    Calls Tryz.prog 26 #[.agg (prL p).toArray, .agg (secL d).toArray, .int .i64 now] w (fun e w' => OutR w w' (handleP p d now).1 (handleP p d now).2.1 (handleP p d now).2.2 e) := by
  by_cases h0 : p.phase = 0
  · exact pa_Handle0 p d now w HL r0 r1 h0
  by_cases h1 : p.phase = 1
  · exact pa_Handle1 p d now w HL r0 r1 h0 h1
  by_cases h2 : p.phase = 2
  · exact pa_Handle2 p d now w HL r0 r1 h0 h1 h2
  by_cases h3 : p.phase = 3
  · exact pa_Handle3 p d now w HL r0 r1 h0 h1 h2 h3
  by_cases h4 : p.phase = 4
  · exact pa_Handle4 p d now w HL r0 r1 h0 h1 h2 h3 h4
  by_cases h5 : p.phase = 5
  · exact pa_Handle5 p d now w HL r0 r1 h0 h1 h2 h3 h4 h5
  by_cases h6 : p.phase = 6
  · exact pa_Handle6 p d now w HL r0 r1 h0 h1 h2 h3 h4 h5 h6
  exact pa_Handlex p d now w HL r0 r1 h0 h1 h2 h3 h4 h5 h6
end Go.Proofs.YtihmbcnccdiecaaGreatDoor
