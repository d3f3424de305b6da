/- Part of the proofs of the laws of pairing. -/
import Derived.Test.YtihmbcnccdiecaaDoorA2
import Derived.Test.YtihmbcnccdiecaaDoorCACKS
namespace Go.Proofs.YtihmbcnccdiecaaDoor
set_option maxRecDepth 100000
set_option linter.unusedVariables false
set_option linter.unusedSimpArgs false
theorem user_eight {p : Pr} {a now : Int} (h : p.phase = 8) : (userR p a now).p.phase = 8 := by
  unfold userR; rw [if_pos (.inl (by omega))]; exact h
theorem enc_eight {p : Pr} {now : Int} (h : p.phase = 8) : (encR p now).p.phase = 8 := by
  unfold encR; rw [if_pos (.inl (by omega))]; exact h
theorem handle_eight {p : Pr} {d : Sec} {n : Int} (h : p.phase = 8) : (handleR p d n).p.phase = 8 := by
  unfold handleR; rw [if_pos (.inr h)]; exact h
end Go.Proofs.YtihmbcnccdiecaaDoor
