/- The walks of three laws of layer 6 (mac): sealed bytes. -/
import Derived.Test.YtbkaeoaepmeceaaMacLawsA
namespace Go.Proofs.Ytbkaeoaepmeceaa
open Go.ChangeShapes Go.WideShapes Go.ChangeAt Go.RowKit
set_option linter.unusedVariables false

theorem openB_le (k n : BitVec 64) (h s : List (BitVec 8)) : (openB k n h s).1.length ≤ s.length := by
  unfold openB
  split
  · simp
  · split
    · simp only [crypt_length, List.length_take]; omega
    · simp
end Go.Proofs.Ytbkaeoaepmeceaa
