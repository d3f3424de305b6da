/- Slices of structs that came in, as lists of records. Printed by genrecs.py. -/
import Derived.Test.YtmehemojopfihaaStr
import Derived.Test.YtmehemojopfihaaRow
namespace Go.Proofs.Ytmehemojopfihaa
set_option maxRecDepth 100000
open Go.ChangeShapes Go.WideShapes Go.ChangeAt Go.RowKit
set_option linter.unusedVariables false

structure R_sent where
  up : Bool
  pdu_sn : Int
  pdu_nesn : Int
  pdu_md : Int
  pdu_packet_llid : Int
  pdu_packet_payA : Option Addr
  pdu_packet_payB : List (BitVec 8)
  pdu_packet_payC : Nat
def R_sent.cells (r : R_sent) : List Value := [.bool r.up, .int .i64 r.pdu_sn, .int .i64 r.pdu_nesn, .int .i64 r.pdu_md, .int .i64 r.pdu_packet_llid, .slice r.pdu_packet_payA r.pdu_packet_payB.length r.pdu_packet_payC]
theorem R_sent.len (r : R_sent) : r.cells.length = 6 := rfl
def R_sent.ok (w : World) (r : R_sent) : Prop := (Lit.int .i64 r.pdu_sn).wf = true ∧ (Lit.int .i64 r.pdu_nesn).wf = true ∧ (Lit.int .i64 r.pdu_md).wf = true ∧ (Lit.int .i64 r.pdu_packet_llid).wf = true ∧ (RdB w r.pdu_packet_payA r.pdu_packet_payB ∧ r.pdu_packet_payB.length ≤ r.pdu_packet_payC) ∧ True
theorem sent_rows_in {H : Type} {enc : TypeId × Value → H} {w : World} {base : Nat} {sp : Nat → Bool} {held : Bool} {a0 : Option Addr} {len0 cap0 : Nat} {d : DataW H} {ps : List MemPlace}
    (h : DataW.Trod enc Try.prog w base sp held 79 (.slice a0 len0 cap0) d ps) : ∃ rs : List R_sent, len0 = rs.length ∧ rs.length ≤ cap0 ∧ Rd w a0 (rs.flatMap R_sent.cells) ∧ ∀ r ∈ rs, r.ok w := by
  obtain ⟨css, hl, hc, hr, hcs⟩ := structs_in Try.underlying79 leaf_sent h
  obtain ⟨rs, rfl, hq⟩ := rows_as R_sent.cells (R_sent.ok w) css (fun cs hm => by
    obtain ⟨hl, hg⟩ := hcs cs hm
    match cs, hl with
    | [c0, c1, c2, c3, c4, c5], _ =>
      obtain ⟨n0, y0, h0⟩ := hg 0 _ _ rfl rfl
      obtain ⟨x0, rfl⟩ := leaf_bool Try.underlying4 h0
      obtain ⟨n1, y1, h1⟩ := hg 1 _ _ rfl rfl
      obtain ⟨x1, rfl, w1⟩ := leaf_int (k := .i64) Try.underlying3 h1
      obtain ⟨n2, y2, h2⟩ := hg 2 _ _ rfl rfl
      obtain ⟨x2, rfl, w2⟩ := leaf_int (k := .i64) Try.underlying3 h2
      obtain ⟨n3, y3, h3⟩ := hg 3 _ _ rfl rfl
      obtain ⟨x3, rfl, w3⟩ := leaf_int (k := .i64) Try.underlying3 h3
      obtain ⟨n4, y4, h4⟩ := hg 4 _ _ rfl rfl
      obtain ⟨x4, rfl, w4⟩ := leaf_int (k := .i64) Try.underlying3 h4
      obtain ⟨n5, y5, h5⟩ := hg 5 _ _ rfl rfl
      obtain ⟨x5, l5, k5, rfl⟩ := leaf_slice Try.underlying45 h5
      obtain ⟨b5, rfl, r5, w5⟩ := bytes_in Try.underlying45 Try.underlying5 (by kernel_rfl) (leaf_trod h5 rfl)
      exact ⟨⟨x0, x1, x2, x3, x4, x5, b5, k5⟩, rfl, ⟨w1, w2, w3, w4, ⟨r5, w5⟩, trivial⟩⟩)
  rw [List.length_map] at hl
  exact ⟨rs, hl.symm, by omega, hr, hq⟩
structure R_op52 where
  kind : Int
  number : Int
  key : BitVec 64
  bea_ref : Bool
  bea_upd : Bool
  bea_index : BitVec 32
  now : Int
def R_op52.cells (r : R_op52) : List Value := [.int .i64 r.kind, .int .i64 r.number, .int .u64 (W64 r.key), .bool r.bea_ref, .bool r.bea_upd, .int .u32 (W32 r.bea_index), .int .i64 r.now]
theorem R_op52.len (r : R_op52) : r.cells.length = 7 := rfl
def R_op52.ok (w : World) (r : R_op52) : Prop := (Lit.int .i64 r.kind).wf = true ∧ (Lit.int .i64 r.number).wf = true ∧ (Lit.int .i64 r.now).wf = true ∧ True
theorem op52_rows_in {H : Type} {enc : TypeId × Value → H} {w : World} {base : Nat} {sp : Nat → Bool} {held : Bool} {a0 : Option Addr} {len0 cap0 : Nat} {d : DataW H} {ps : List MemPlace}
    (h : DataW.Trod enc Try.prog w base sp held 75 (.slice a0 len0 cap0) d ps) : ∃ rs : List R_op52, len0 = rs.length ∧ rs.length ≤ cap0 ∧ Rd w a0 (rs.flatMap R_op52.cells) ∧ ∀ r ∈ rs, r.ok w := by
  obtain ⟨css, hl, hc, hr, hcs⟩ := structs_in Try.underlying75 leaf_op52 h
  obtain ⟨rs, rfl, hq⟩ := rows_as R_op52.cells (R_op52.ok w) css (fun cs hm => by
    obtain ⟨hl, hg⟩ := hcs cs hm
    match cs, hl with
    | [c0, c1, c2, c3, c4, c5, c6], _ =>
      obtain ⟨n0, y0, h0⟩ := hg 0 _ _ rfl rfl
      obtain ⟨x0, rfl, w0⟩ := leaf_int (k := .i64) Try.underlying3 h0
      obtain ⟨n1, y1, h1⟩ := hg 1 _ _ rfl rfl
      obtain ⟨x1, rfl, w1⟩ := leaf_int (k := .i64) Try.underlying3 h1
      obtain ⟨n2, y2, h2⟩ := hg 2 _ _ rfl rfl
      obtain ⟨x2, rfl⟩ := leaf_u64 Try.underlying23 h2
      obtain ⟨n3, y3, h3⟩ := hg 3 _ _ rfl rfl
      obtain ⟨x3, rfl⟩ := leaf_bool Try.underlying4 h3
      obtain ⟨n4, y4, h4⟩ := hg 4 _ _ rfl rfl
      obtain ⟨x4, rfl⟩ := leaf_bool Try.underlying4 h4
      obtain ⟨n5, y5, h5⟩ := hg 5 _ _ rfl rfl
      obtain ⟨x5, rfl⟩ := leaf_u32 Try.underlying57 h5
      obtain ⟨n6, y6, h6⟩ := hg 6 _ _ rfl rfl
      obtain ⟨x6, rfl, w6⟩ := leaf_int (k := .i64) Try.underlying3 h6
      exact ⟨⟨x0, x1, x2, x3, x4, x5, x6⟩, rfl, ⟨w0, w1, w6, trivial⟩⟩)
  rw [List.length_map] at hl
  exact ⟨rs, hl.symm, by omega, hr, hq⟩
structure R_netkey where
  key : BitVec 64
  nid : Int
  enc : BitVec 64
  hide : BitVec 64
  bea : BitVec 64
def R_netkey.cells (r : R_netkey) : List Value := [.int .u64 (W64 r.key), .int .i64 r.nid, .int .u64 (W64 r.enc), .int .u64 (W64 r.hide), .int .u64 (W64 r.bea)]
theorem R_netkey.len (r : R_netkey) : r.cells.length = 5 := rfl
def R_netkey.ok (w : World) (r : R_netkey) : Prop := (Lit.int .i64 r.nid).wf = true ∧ True
theorem netkey_rows_in {H : Type} {enc : TypeId × Value → H} {w : World} {base : Nat} {sp : Nat → Bool} {held : Bool} {a0 : Option Addr} {len0 cap0 : Nat} {d : DataW H} {ps : List MemPlace}
    (h : DataW.Trod enc Try.prog w base sp held 36 (.slice a0 len0 cap0) d ps) : ∃ rs : List R_netkey, len0 = rs.length ∧ rs.length ≤ cap0 ∧ Rd w a0 (rs.flatMap R_netkey.cells) ∧ ∀ r ∈ rs, r.ok w := by
  obtain ⟨css, hl, hc, hr, hcs⟩ := structs_in Try.underlying36 leaf_netkey h
  obtain ⟨rs, rfl, hq⟩ := rows_as R_netkey.cells (R_netkey.ok w) css (fun cs hm => by
    obtain ⟨hl, hg⟩ := hcs cs hm
    match cs, hl with
    | [c0, c1, c2, c3, c4], _ =>
      obtain ⟨n0, y0, h0⟩ := hg 0 _ _ rfl rfl
      obtain ⟨x0, rfl⟩ := leaf_u64 Try.underlying23 h0
      obtain ⟨n1, y1, h1⟩ := hg 1 _ _ rfl rfl
      obtain ⟨x1, rfl, w1⟩ := leaf_int (k := .i64) Try.underlying3 h1
      obtain ⟨n2, y2, h2⟩ := hg 2 _ _ rfl rfl
      obtain ⟨x2, rfl⟩ := leaf_u64 Try.underlying23 h2
      obtain ⟨n3, y3, h3⟩ := hg 3 _ _ rfl rfl
      obtain ⟨x3, rfl⟩ := leaf_u64 Try.underlying23 h3
      obtain ⟨n4, y4, h4⟩ := hg 4 _ _ rfl rfl
      obtain ⟨x4, rfl⟩ := leaf_u64 Try.underlying23 h4
      exact ⟨⟨x0, x1, x2, x3, x4⟩, rfl, ⟨w1, trivial⟩⟩)
  rw [List.length_map] at hl
  exact ⟨rs, hl.symm, by omega, hr, hq⟩
end Go.Proofs.Ytmehemojopfihaa
