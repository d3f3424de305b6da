/- Structs that came in: their leaves, and what an argument looks like. Printed by genstr.py. -/
import Derived.Test.YtbkaeoaepmeceaaLeaf
namespace Go.Proofs.Ytbkaeoaepmeceaa
set_option maxRecDepth 100000
open Go.ChangeShapes Go.WideShapes Go.ChangeAt Go.RowKit
set_option linter.unusedVariables false

def ls_seqid : List TypeId := [29, 30, 30]
theorem leaf_seqid : LeafOf Try.prog 35 ls_seqid := leaf_struct (P := Try.prog) [[29], [30], [30]] Try.underlying35 (by kernel_rfl) ⟨leaf_one (by kernel_rfl), rfl, leaf_one (by kernel_rfl), rfl, leaf_one (by kernel_rfl), rfl, trivial⟩
theorem seqid_in {H : Type} {enc : TypeId × Value → H} {W w : World} {r : Reach} {b0 base : Nat} {sp : Nat → Bool} {held : Bool} {v : Value} {d : DataW H} {p : List MemPlace} (hv : Value.okWide Try.prog W r b0 35 v) (h : DataW.Trod enc Try.prog w base sp held 35 v d p) :
    ∃ (src : BitVec 16) (iv : BitVec 32) (seq : BitVec 32), v = .agg #[.int .u16 (W16 src), .int .u32 (W32 iv), .int .u32 (W32 seq)] := by
  obtain ⟨cs, rfl, hl, hg⟩ := agg_in (okWide_struct Try.underlying35 hv) leaf_seqid h
  match cs, hl with
  | [c0, c1, c2], _ =>
    obtain ⟨n0, y0, h0⟩ := hg 0 _ _ rfl rfl
    obtain ⟨x0, rfl⟩ := leaf_u16 Try.underlying29 h0
    obtain ⟨n1, y1, h1⟩ := hg 1 _ _ rfl rfl
    obtain ⟨x1, rfl⟩ := leaf_u32 Try.underlying30 h1
    obtain ⟨n2, y2, h2⟩ := hg 2 _ _ rfl rfl
    obtain ⟨x2, rfl⟩ := leaf_u32 Try.underlying30 h2
    exact ⟨x0, x1, x2, rfl⟩
def ls_netkey : List TypeId := [23, 3, 23, 23, 23]
theorem leaf_netkey : LeafOf Try.prog 25 ls_netkey := leaf_struct (P := Try.prog) [[23], [3], [23], [23], [23]] Try.underlying25 (by kernel_rfl) ⟨leaf_one (by kernel_rfl), rfl, leaf_one (by kernel_rfl), rfl, leaf_one (by kernel_rfl), rfl, leaf_one (by kernel_rfl), rfl, leaf_one (by kernel_rfl), rfl, trivial⟩
theorem netkey_in {H : Type} {enc : TypeId × Value → H} {W w : World} {r : Reach} {b0 base : Nat} {sp : Nat → Bool} {held : Bool} {v : Value} {d : DataW H} {p : List MemPlace} (hv : Value.okWide Try.prog W r b0 25 v) (h : DataW.Trod enc Try.prog w base sp held 25 v d p) :
    ∃ (key : BitVec 64) (nid : Int) (enc : BitVec 64) (hide : BitVec 64) (bea : BitVec 64), v = .agg #[.int .u64 (W64 key), .int .i64 nid, .int .u64 (W64 enc), .int .u64 (W64 hide), .int .u64 (W64 bea)] ∧ (Lit.int .i64 nid).wf = true := by
  obtain ⟨cs, rfl, hl, hg⟩ := agg_in (okWide_struct Try.underlying25 hv) leaf_netkey h
  match cs, hl with
  | [c0, c1, c2, c3, c4], _ =>
    obtain ⟨n0, y0, h0⟩ := hg 0 _ _ rfl rfl
    obtain ⟨x0, rfl⟩ := leaf_u64 Try.underlying23 h0
    obtain ⟨n1, y1, h1⟩ := hg 1 _ _ rfl rfl
    obtain ⟨x1, rfl, w1⟩ := leaf_int (k := .i64) Try.underlying3 h1
    obtain ⟨n2, y2, h2⟩ := hg 2 _ _ rfl rfl
    obtain ⟨x2, rfl⟩ := leaf_u64 Try.underlying23 h2
    obtain ⟨n3, y3, h3⟩ := hg 3 _ _ rfl rfl
    obtain ⟨x3, rfl⟩ := leaf_u64 Try.underlying23 h3
    obtain ⟨n4, y4, h4⟩ := hg 4 _ _ rfl rfl
    obtain ⟨x4, rfl⟩ := leaf_u64 Try.underlying23 h4
    exact ⟨x0, x1, x2, x3, x4, rfl, w1⟩
def ls_netpdu : List TypeId := [30, 3, 4, 3, 30, 29, 29, 36]
theorem leaf_netpdu : LeafOf Try.prog 44 ls_netpdu := leaf_struct (P := Try.prog) [[30], [3], [4], [3], [30], [29], [29], [36]] Try.underlying44 (by kernel_rfl) ⟨leaf_one (by kernel_rfl), rfl, leaf_one (by kernel_rfl), rfl, leaf_one (by kernel_rfl), rfl, leaf_one (by kernel_rfl), rfl, leaf_one (by kernel_rfl), rfl, leaf_one (by kernel_rfl), rfl, leaf_one (by kernel_rfl), rfl, leaf_one (by kernel_rfl), rfl, trivial⟩
theorem netpdu_in {H : Type} {enc : TypeId × Value → H} {W w : World} {r : Reach} {b0 base : Nat} {sp : Nat → Bool} {held : Bool} {v : Value} {d : DataW H} {p : List MemPlace} (hv : Value.okWide Try.prog W r b0 44 v) (h : DataW.Trod enc Try.prog w base sp held 44 v d p) :
    ∃ (iv : BitVec 32) (nid : Int) (ctl : Bool) (ttl : Int) (seq : BitVec 32) (src : BitVec 16) (dst : BitVec 16) (payA : Option Addr) (payL payC : Nat), v = .agg #[.int .u32 (W32 iv), .int .i64 nid, .bool ctl, .int .i64 ttl, .int .u32 (W32 seq), .int .u16 (W16 src), .int .u16 (W16 dst), .slice payA payL payC] ∧ (Lit.int .i64 nid).wf = true ∧ (Lit.int .i64 ttl).wf = true ∧ (∃ dd pp, DataW.Trod enc Try.prog w base sp held 36 (.slice payA payL payC) dd pp) := by
  obtain ⟨cs, rfl, hl, hg⟩ := agg_in (okWide_struct Try.underlying44 hv) leaf_netpdu h
  match cs, hl with
  | [c0, c1, c2, c3, c4, c5, c6, c7], _ =>
    obtain ⟨n0, y0, h0⟩ := hg 0 _ _ rfl rfl
    obtain ⟨x0, rfl⟩ := leaf_u32 Try.underlying30 h0
    obtain ⟨n1, y1, h1⟩ := hg 1 _ _ rfl rfl
    obtain ⟨x1, rfl, w1⟩ := leaf_int (k := .i64) Try.underlying3 h1
    obtain ⟨n2, y2, h2⟩ := hg 2 _ _ rfl rfl
    obtain ⟨x2, rfl⟩ := leaf_bool Try.underlying4 h2
    obtain ⟨n3, y3, h3⟩ := hg 3 _ _ rfl rfl
    obtain ⟨x3, rfl, w3⟩ := leaf_int (k := .i64) Try.underlying3 h3
    obtain ⟨n4, y4, h4⟩ := hg 4 _ _ rfl rfl
    obtain ⟨x4, rfl⟩ := leaf_u32 Try.underlying30 h4
    obtain ⟨n5, y5, h5⟩ := hg 5 _ _ rfl rfl
    obtain ⟨x5, rfl⟩ := leaf_u16 Try.underlying29 h5
    obtain ⟨n6, y6, h6⟩ := hg 6 _ _ rfl rfl
    obtain ⟨x6, rfl⟩ := leaf_u16 Try.underlying29 h6
    obtain ⟨n7, y7, h7⟩ := hg 7 _ _ rfl rfl
    obtain ⟨x7, l7, k7, rfl⟩ := leaf_slice Try.underlying36 h7
    exact ⟨x0, x1, x2, x3, x4, x5, x6, x7, l7, k7, rfl, w1, w3, ⟨_, _, leaf_trod h7 rfl⟩⟩
def ls_h32 : List TypeId := [30, 30]
theorem leaf_h32 : LeafOf Try.prog 92 ls_h32 := leaf_array (P := Try.prog) [30] Try.underlying92 (leaf_one (by kernel_rfl)) (by kernel_rfl)
theorem h32_in {H : Type} {enc : TypeId × Value → H} {W w : World} {r : Reach} {b0 base : Nat} {sp : Nat → Bool} {held : Bool} {v : Value} {d : DataW H} {p : List MemPlace} (hv : Value.okWide Try.prog W r b0 92 v) (h : DataW.Trod enc Try.prog w base sp held 92 v d p) :
    ∃ (x0 : BitVec 32) (x1 : BitVec 32), v = .agg #[.int .u32 (W32 x0), .int .u32 (W32 x1)] := by
  obtain ⟨cs, rfl, hl, hg⟩ := agg_in (okWide_array Try.underlying92 hv) leaf_h32 h
  match cs, hl with
  | [c0, c1], _ =>
    obtain ⟨n0, y0, h0⟩ := hg 0 _ _ rfl rfl
    obtain ⟨x0, rfl⟩ := leaf_u32 Try.underlying30 h0
    obtain ⟨n1, y1, h1⟩ := hg 1 _ _ rfl rfl
    obtain ⟨x1, rfl⟩ := leaf_u32 Try.underlying30 h1
    exact ⟨x0, x1, rfl⟩
end Go.Proofs.Ytbkaeoaepmeceaa
