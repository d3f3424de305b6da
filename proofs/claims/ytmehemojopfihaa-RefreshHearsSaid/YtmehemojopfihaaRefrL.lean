/- Hear of the reference (layer 52). -/
import Derived.Test.YtmehemojopfihaaRefrJ
import Derived.Test.YtmehemojopfihaaRefrH
import Derived.Test.YtmehemojopfihaaRefrL0
import Derived.Test.YtmehemojopfihaaRefrLa
import Derived.Test.YtmehemojopfihaaRefrLb
import Derived.Test.YtmehemojopfihaaRefrLc
namespace Go.Proofs.Ytmehemojopfihaa
set_option maxRecDepth 100000
open Go.ChangeShapes Go.WideShapes Go.ChangeAt Go.RowKit
set_option linter.unusedVariables false
set_option linter.unusedSimpArgs false

theorem r52_Hear (k : KS) (v : IV) (b : Bea) (ix now : Int) (w : World) (h0 : 0 ≤ v.since ∧ v.since ≤ 1099511627776) (h1 : 0 ≤ now ∧ now ≤ 1099511627776) :
    Calls Try.prog 49 #[.agg (ksA k), .agg (ivA v), .agg (beA b), .int .i64 ix, .int .i64 now] w fun e w' => e = .returned (.tuple #[.agg (ksA (hearK k v b ix now).1), .agg (ivA (hearK k v b ix now).2)]) ∧ Below w.heap.size w w' := by
  obtain ⟨ph, ⟨a1, a2, a3, a4, a5⟩, ⟨b1, b2, b3, b4, b5⟩⟩ := k
  obtain ⟨vi, vu, vs⟩ := v
  obtain ⟨br, bu, bi⟩ := b
  obtain ⟨ks, hks⟩ : ∃ z, recvK ⟨ph, ⟨a1, a2, a3, a4, a5⟩, ⟨b1, b2, b3, b4, b5⟩⟩ = z := ⟨_, rfl⟩
  by_cases hx : ix < 0
  · exact r52_Hear_neg ph a1 a2 a3 a4 a5 b1 b2 b3 b4 b5 vi vu vs br bu bi now ks ix w h0 h1 hks hx
  by_cases hy : (ks.length : Int) ≤ ix
  · exact r52_Hear_big ph a1 a2 a3 a4 a5 b1 b2 b3 b4 b5 vi vu vs br bu bi now ks ix w h0 h1 hks hy
  obtain ⟨i, rfl⟩ : ∃ i : Nat, ix = i := ⟨ix.toNat, by omega⟩
  have hi : i < ks.length := by omega
  by_cases h43 : (1 : Int) < ks.length
  · by_cases h44 : ks[i] = ⟨b1, b2, b3, b4, b5⟩
    · exact r52_Hear_b ph a1 a2 a3 a4 a5 b1 b2 b3 b4 b5 vi vu vs br bu bi now ks i w h0 h1 hks hi h43 h44
    · exact r52_Hear_c ph a1 a2 a3 a4 a5 b1 b2 b3 b4 b5 vi vu vs br bu bi now ks i w h0 h1 hks hi h43 h44
  · exact r52_Hear_a ph a1 a2 a3 a4 a5 b1 b2 b3 b4 b5 vi vu vs br bu bi now ks i w h0 h1 hks hi (by omega)
end Go.Proofs.Ytmehemojopfihaa
