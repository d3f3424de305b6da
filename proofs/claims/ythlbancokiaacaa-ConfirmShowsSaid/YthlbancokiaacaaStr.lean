/- Structs that came in: their leaves, and what an argument looks like. Printed by genstr.py. -/
import Derived.Test.YthlbancokiaacaaLeaf
namespace Go.Proofs.Ythlbancokiaacaa
open Go.ChangeShapes Go.WideShapes Go.ChangeAt Go.RowKit
set_option linter.unusedVariables false

def ls_adr : List TypeId := [3, 22]
theorem leaf_adr : LeafOf Try.prog 39 ls_adr := leaf_struct (P := Try.prog) [[3], [22]] Try.underlying39 (by kernel_rfl) ⟨leaf_one (by kernel_rfl), rfl, leaf_one (by kernel_rfl), rfl, trivial⟩
theorem adr_in {H : Type} {enc : TypeId × Value → H} {W w : World} {r : Reach} {b0 base : Nat} {sp : Nat → Bool} {held : Bool} {v : Value} {d : DataW H} {p : List MemPlace} (hv : Value.okWide Try.prog W r b0 39 v) (h : DataW.Trod enc Try.prog w base sp held 39 v d p) :
    ∃ (kind : Int) (bits : BitVec 64), v = .agg #[.int .i64 kind, .int .u64 (W64 bits)] ∧ (Lit.int .i64 kind).wf = true := by
  obtain ⟨cs, rfl, hl, hg⟩ := agg_in (okWide_struct Try.underlying39 hv) leaf_adr h
  match cs, hl with
  | [c0, c1], _ =>
    obtain ⟨n0, y0, h0⟩ := hg 0 _ _ rfl rfl
    obtain ⟨x0, rfl, w0⟩ := leaf_int (k := .i64) Try.underlying3 h0
    obtain ⟨n1, y1, h1⟩ := hg 1 _ _ rfl rfl
    obtain ⟨x1, rfl⟩ := leaf_u64 Try.underlying22 h1
    exact ⟨x0, x1, rfl, w0⟩
def ls_feat : List TypeId := [3, 4, 4, 4, 4, 4]
theorem leaf_feat : LeafOf Try.prog 43 ls_feat := leaf_struct (P := Try.prog) [[3], [4], [4], [4], [4], [4]] Try.underlying43 (by kernel_rfl) ⟨leaf_one (by kernel_rfl), rfl, leaf_one (by kernel_rfl), rfl, leaf_one (by kernel_rfl), rfl, leaf_one (by kernel_rfl), rfl, leaf_one (by kernel_rfl), rfl, leaf_one (by kernel_rfl), rfl, trivial⟩
theorem feat_in {H : Type} {enc : TypeId × Value → H} {W w : World} {r : Reach} {b0 base : Nat} {sp : Nat → Bool} {held : Bool} {v : Value} {d : DataW H} {p : List MemPlace} (hv : Value.okWide Try.prog W r b0 43 v) (h : DataW.Trod enc Try.prog w base sp held 43 v d p) :
    ∃ (io : Int) (oob : Bool) (bond : Bool) (mitm : Bool) (sid : Bool) (tid : Bool), v = .agg #[.int .i64 io, .bool oob, .bool bond, .bool mitm, .bool sid, .bool tid] ∧ (Lit.int .i64 io).wf = true := by
  obtain ⟨cs, rfl, hl, hg⟩ := agg_in (okWide_struct Try.underlying43 hv) leaf_feat h
  match cs, hl with
  | [c0, c1, c2, c3, c4, c5], _ =>
    obtain ⟨n0, y0, h0⟩ := hg 0 _ _ rfl rfl
    obtain ⟨x0, rfl, w0⟩ := leaf_int (k := .i64) Try.underlying3 h0
    obtain ⟨n1, y1, h1⟩ := hg 1 _ _ rfl rfl
    obtain ⟨x1, rfl⟩ := leaf_bool Try.underlying4 h1
    obtain ⟨n2, y2, h2⟩ := hg 2 _ _ rfl rfl
    obtain ⟨x2, rfl⟩ := leaf_bool Try.underlying4 h2
    obtain ⟨n3, y3, h3⟩ := hg 3 _ _ rfl rfl
    obtain ⟨x3, rfl⟩ := leaf_bool Try.underlying4 h3
    obtain ⟨n4, y4, h4⟩ := hg 4 _ _ rfl rfl
    obtain ⟨x4, rfl⟩ := leaf_bool Try.underlying4 h4
    obtain ⟨n5, y5, h5⟩ := hg 5 _ _ rfl rfl
    obtain ⟨x5, rfl⟩ := leaf_bool Try.underlying4 h5
    exact ⟨x0, x1, x2, x3, x4, x5, rfl, w0⟩
end Go.Proofs.Ythlbancokiaacaa
