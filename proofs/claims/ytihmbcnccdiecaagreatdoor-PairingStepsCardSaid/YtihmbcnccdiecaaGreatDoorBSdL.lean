/- Part of the proofs of the laws of pairing. -/
import Derived.Test.YtihmbcnccdiecaaGreatDoorBSdH
import Derived.Test.YtihmbcnccdiecaaGreatDoorBSdJ
import Derived.Test.YtihmbcnccdiecaaGreatDoorBSdK
import Derived.Test.YtihmbcnccdiecaaGreatDoorBSdM
namespace Go.Proofs.YtihmbcnccdiecaaGreatDoor
set_option maxRecDepth 100000
set_option linter.unusedVariables false
set_option linter.unusedSimpArgs false
open Go.ChangeShapes Go.WideShapes Go.ChangeAt Go.RowKit
theorem uX (p : Pr) (d : Sec) (now : Int) (w : World) (HL : bW w) (r0 : 0 ≤ p.round) (r1 : p.round ≤ 60) :
    Calls Tryz.prog 26 #[.agg (prL p).toArray, .agg (aI d).toArray, .int .i64 now] w (fun e w' => jF w w' (bU p d now).1 (bU p d now).2.1 (bU p d now).2.2 e) := by
  by_cases h0 : p.phase = 0
  · exact CS p d now w HL r0 r1 h0
  by_cases h1 : p.phase = 1
  · exact AF p d now w HL r0 r1 h0 h1
  by_cases h2 : p.phase = 2
  · exact BJ p d now w HL r0 r1 h0 h1 h2
  by_cases h3 : p.phase = 3
  · exact AR p d now w HL r0 r1 h0 h1 h2 h3
  by_cases h4 : p.phase = 4
  · exact AG p d now w HL r0 r1 h0 h1 h2 h3 h4
  by_cases h5 : p.phase = 5
  · exact BL p d now w HL r0 r1 h0 h1 h2 h3 h4 h5
  by_cases h6 : p.phase = 6
  · exact BB p d now w HL r0 r1 h0 h1 h2 h3 h4 h5 h6
  exact CO p d now w HL r0 r1 h0 h1 h2 h3 h4 h5 h6
end Go.Proofs.YtihmbcnccdiecaaGreatDoor
