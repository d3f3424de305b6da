/- Part of the proofs of the laws of pairing. -/
import Derived.Test.YtihmbcnccdiecaaDoorA2
import Derived.Test.YtihmbcnccdiecaaDoorCACKS
namespace Go.Proofs.YtihmbcnccdiecaaDoor
set_option linter.unusedVariables false
theorem shared_eq (a b : BitVec 32) : sharedK a (pubK b) = sharedK b (pubK a) := by
  unfold sharedK pubK
  have h : ∀ x y : Nat, powK (BitVec.ofNat 32 (powK 7 x)).toNat y = powK 7 (x * y) := by
    intro x y
    have hl := powK_lt 7 x
    have hg : gp = 2147483647 := rfl
    rw [BitVec.toNat_ofNat, Nat.mod_eq_of_lt (by omega)]
    unfold powK
    rw [← Nat.pow_mod, ← Nat.pow_mul]
  rw [h, h, Nat.mul_comm]
end Go.Proofs.YtihmbcnccdiecaaDoor
namespace Go.Proofs.YtihmbcnccdiecaaDoor
set_option maxRecDepth 100000
set_option linter.unusedVariables false
set_option linter.unusedSimpArgs false
section
variable {l : List Chg} {common : Int} {a b : Cfg} {K0 K1 : BitVec 32} {bad : Prop} {x : Tk} {p0 p1 : Pr} {v : Vw} {V0 V1 : Vx} {s0 s1 s' : BitVec 32}
theorem Two.shared (T : Two a b K0 K1 bad) (hb : ¬ bad) : sharedK a.secret K0 = sharedK b.secret K1 := by
  obtain ⟨e0, e1⟩ := T.good hb
  rw [e0, e1, shared_eq]
end
end Go.Proofs.YtihmbcnccdiecaaDoor
namespace Go.Proofs.YtihmbcnccdiecaaDoor
set_option maxRecDepth 100000
set_option linter.unusedVariables false
set_option linter.unusedSimpArgs false
section
variable {l : List Chg} {common : Int} {a b : Cfg} {K0 K1 : BitVec 32} {bad : Prop} {x : Tk} {p0 p1 : Pr}
theorem ok_cases (hok : (playT a b l common).ok = true) : (newP a).2 = 0 ∧ (newP b).2 = 0 ∧ a.role = 0 ∧ b.role = 1 := by
  rcases play_cases a b l common with h | ⟨h1, h2, h3, h4, _⟩
  · rw [h] at hok; exact absurd hok (by decide)
  · exact ⟨h1, h2, h3, h4⟩
end
end Go.Proofs.YtihmbcnccdiecaaDoor
