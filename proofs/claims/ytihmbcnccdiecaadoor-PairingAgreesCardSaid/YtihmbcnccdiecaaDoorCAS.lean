/- Part of the proofs of the laws of pairing. -/
import Derived.Test.YtihmbcnccdiecaaDoorA2
import Derived.Test.YtihmbcnccdiecaaDoorBFit
import Derived.Test.YtihmbcnccdiecaaDoorBLive
import Derived.Test.YtihmbcnccdiecaaDoorBLowB
import Derived.Test.YtihmbcnccdiecaaDoorBLowC
import Derived.Test.YtihmbcnccdiecaaDoorBSdA
import Derived.Test.YtihmbcnccdiecaaDoorBSdB
import Derived.Test.YtihmbcnccdiecaaDoorBSdC
import Derived.Test.YtihmbcnccdiecaaDoorBSdD
import Derived.Test.YtihmbcnccdiecaaDoorBSdE
import Derived.Test.YtihmbcnccdiecaaDoorBSdF
import Derived.Test.YtihmbcnccdiecaaDoorBSdG
import Derived.Test.YtihmbcnccdiecaaDoorBSdH
import Derived.Test.YtihmbcnccdiecaaDoorBSdIe
import Derived.Test.YtihmbcnccdiecaaDoorBSdIs
import Derived.Test.YtihmbcnccdiecaaDoorBSdIu
import Derived.Test.YtihmbcnccdiecaaDoorBSdJ
import Derived.Test.YtihmbcnccdiecaaDoorBSdK
import Derived.Test.YtihmbcnccdiecaaDoorBSdL
import Derived.Test.YtihmbcnccdiecaaDoorBSdM
import Derived.Test.YtihmbcnccdiecaaDoorBSdN
import Derived.Test.YtihmbcnccdiecaaDoorBTkP
import Derived.Test.YtihmbcnccdiecaaDoorBTkU
import Derived.Test.YtihmbcnccdiecaaDoorBTkV
import Derived.Test.YtihmbcnccdiecaaDoorBTkW
import Derived.Test.YtihmbcnccdiecaaDoorBTkY
import Derived.Test.YtihmbcnccdiecaaDoorBTkZ
import Derived.Test.YtihmbcnccdiecaaDoorCACKS
import Derived.Test.YtihmbcnccdiecaaDoorCAKS
namespace Go.Proofs.YtihmbcnccdiecaaDoor
set_option maxRecDepth 100000
open Go.ChangeShapes Go.WideShapes Go.ChangeAt Go.RowKit
set_option linter.unusedVariables false
set_option linter.unusedSimpArgs false
theorem stable_ex (g n : Nat) (ty : TypeId) : Stable fun W => ∃ cs, cs.size = n ∧ Blk W g ty cs := fun W W' h hb => h.elim fun cs k => ⟨cs, k.1, k.2.to hb k.2.lt⟩
end Go.Proofs.YtihmbcnccdiecaaDoor
namespace Go.Proofs.YtihmbcnccdiecaaDoor
set_option maxRecDepth 100000
open Go.ChangeShapes Go.WideShapes Go.ChangeAt Go.RowKit
set_option linter.unusedVariables false
set_option linter.unusedSimpArgs false
theorem MR.twoR {w0 W W' : World} {base : Nat} {rs : List Rw} {bx : List Bk} {g1 g2 : Nat} {t1 t2 : TypeId} {c1 c2 : Array Value} (h : MR w0 W base rs bx) (hb : Below W.heap.size W W') (h1 : W.heap.size ≤ g1) (G1 : Blk W' g1 t1 c1) (h2 : W.heap.size ≤ g2) (G2 : Blk W' g2 t2 c2) (hne : g1 ≠ g2) :
    MR w0 W' base rs ((g1, t1, c1) :: (g2, t2, c2) :: bx) := by
  have k := h.alloc h2 hb G2
  refine ⟨k.pre, k.below, k.low, k.rows, k.ap, fun b hb2 => ?_, List.pairwise_cons.2 ⟨fun b hb2 => ?_, k.nd⟩⟩
  · rcases List.mem_cons.1 hb2 with rfl | hb2
    · exact ⟨G1, Nat.le_trans h.low h1, fun r hr e2 => by have := ((h.rows r hr).lt _ e2).2; dsimp only at this; omega⟩
    · exact k.box b hb2
  · rcases List.mem_cons.1 hb2 with rfl | hb2
    · exact hne
    · have := (h.box b hb2).1.lt
      show g1 ≠ b.1
      omega
end Go.Proofs.YtihmbcnccdiecaaDoor
