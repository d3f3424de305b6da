/- Part of the proofs of the laws of pairing. -/
import Derived.Test.YtihmbcnccdiecaaDoorA2
import Derived.Test.YtihmbcnccdiecaaDoorBLowB
import Derived.Test.YtihmbcnccdiecaaDoorBLowC
import Derived.Test.YtihmbcnccdiecaaDoorBSdA
import Derived.Test.YtihmbcnccdiecaaDoorBSdB
import Derived.Test.YtihmbcnccdiecaaDoorBSdC
import Derived.Test.YtihmbcnccdiecaaDoorBSdD
import Derived.Test.YtihmbcnccdiecaaDoorBSdE
import Derived.Test.YtihmbcnccdiecaaDoorBSdF
import Derived.Test.YtihmbcnccdiecaaDoorBSdG
import Derived.Test.YtihmbcnccdiecaaDoorBSdH
import Derived.Test.YtihmbcnccdiecaaDoorBSdIe
import Derived.Test.YtihmbcnccdiecaaDoorBSdIs
import Derived.Test.YtihmbcnccdiecaaDoorBSdIu
import Derived.Test.YtihmbcnccdiecaaDoorBSdJ
import Derived.Test.YtihmbcnccdiecaaDoorBSdK
import Derived.Test.YtihmbcnccdiecaaDoorBSdL
import Derived.Test.YtihmbcnccdiecaaDoorBSdM
import Derived.Test.YtihmbcnccdiecaaDoorBSdN
import Derived.Test.YtihmbcnccdiecaaDoorBTkP
import Derived.Test.YtihmbcnccdiecaaDoorBTkY
namespace Go.Proofs.YtihmbcnccdiecaaDoor
set_option maxRecDepth 100000
open Go.ChangeShapes Go.WideShapes Go.ChangeAt Go.RowKit
set_option linter.unusedVariables false
set_option linter.unusedSimpArgs false
structure Op38 where
  kind : Int
  pdu : Sec
  answer : Int
  now : Int
structure Acted where
  p : Pr
  out : List Sec
  ev : List Evt
  er : Int
end Go.Proofs.YtihmbcnccdiecaaDoor
