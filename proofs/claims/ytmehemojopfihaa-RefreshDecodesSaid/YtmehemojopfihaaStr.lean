/- Structs that came in: their leaves, and what an argument looks like. Printed by genstr.py. -/
import Derived.Test.YtmehemojopfihaaLeaf
namespace Go.Proofs.Ytmehemojopfihaa
set_option maxRecDepth 100000
open Go.ChangeShapes Go.WideShapes Go.ChangeAt Go.RowKit
set_option linter.unusedVariables false

def ls_netkey : List TypeId := [23, 3, 23, 23, 23]
theorem leaf_netkey : LeafOf Try.prog 25 ls_netkey := leaf_struct (P := Try.prog) [[23], [3], [23], [23], [23]] Try.underlying25 (by kernel_rfl) ⟨leaf_one (by kernel_rfl), rfl, leaf_one (by kernel_rfl), rfl, leaf_one (by kernel_rfl), rfl, leaf_one (by kernel_rfl), rfl, leaf_one (by kernel_rfl), rfl, trivial⟩
theorem netkey_in {H : Type} {enc : TypeId × Value → H} {W w : World} {r : Reach} {b0 base : Nat} {sp : Nat → Bool} {held : Bool} {v : Value} {d : DataW H} {p : List MemPlace} (hv : Value.okWide Try.prog W r b0 25 v) (h : DataW.Trod enc Try.prog w base sp held 25 v d p) :
    ∃ (key : BitVec 64) (nid : Int) (enc : BitVec 64) (hide : BitVec 64) (bea : BitVec 64), v = .agg #[.int .u64 (W64 key), .int .i64 nid, .int .u64 (W64 enc), .int .u64 (W64 hide), .int .u64 (W64 bea)] ∧ (Lit.int .i64 nid).wf = true := by
  obtain ⟨cs, rfl, hl, hg⟩ := agg_in (okWide_struct Try.underlying25 hv) leaf_netkey h
  match cs, hl with
  | [c0, c1, c2, c3, c4], _ =>
    obtain ⟨n0, y0, h0⟩ := hg 0 _ _ rfl rfl
    obtain ⟨x0, rfl⟩ := leaf_u64 Try.underlying23 h0
    obtain ⟨n1, y1, h1⟩ := hg 1 _ _ rfl rfl
    obtain ⟨x1, rfl, w1⟩ := leaf_int (k := .i64) Try.underlying3 h1
    obtain ⟨n2, y2, h2⟩ := hg 2 _ _ rfl rfl
    obtain ⟨x2, rfl⟩ := leaf_u64 Try.underlying23 h2
    obtain ⟨n3, y3, h3⟩ := hg 3 _ _ rfl rfl
    obtain ⟨x3, rfl⟩ := leaf_u64 Try.underlying23 h3
    obtain ⟨n4, y4, h4⟩ := hg 4 _ _ rfl rfl
    obtain ⟨x4, rfl⟩ := leaf_u64 Try.underlying23 h4
    exact ⟨x0, x1, x2, x3, x4, rfl, w1⟩
def ls_keystate : List TypeId := [3, 23, 3, 23, 23, 23, 23, 3, 23, 23, 23]
theorem leaf_keystate : LeafOf Try.prog 27 ls_keystate := leaf_struct (P := Try.prog) [[3], ls_netkey, ls_netkey] Try.underlying27 (by kernel_rfl) ⟨leaf_one (by kernel_rfl), rfl, leaf_netkey, rfl, leaf_netkey, rfl, trivial⟩
theorem keystate_in {H : Type} {enc : TypeId × Value → H} {W w : World} {r : Reach} {b0 base : Nat} {sp : Nat → Bool} {held : Bool} {v : Value} {d : DataW H} {p : List MemPlace} (hv : Value.okWide Try.prog W r b0 27 v) (h : DataW.Trod enc Try.prog w base sp held 27 v d p) :
    ∃ (phase : Int) (old_key : BitVec 64) (old_nid : Int) (old_enc : BitVec 64) (old_hide : BitVec 64) (old_bea : BitVec 64) (new_key : BitVec 64) (new_nid : Int) (new_enc : BitVec 64) (new_hide : BitVec 64) (new_bea : BitVec 64), v = .agg #[.int .i64 phase, .int .u64 (W64 old_key), .int .i64 old_nid, .int .u64 (W64 old_enc), .int .u64 (W64 old_hide), .int .u64 (W64 old_bea), .int .u64 (W64 new_key), .int .i64 new_nid, .int .u64 (W64 new_enc), .int .u64 (W64 new_hide), .int .u64 (W64 new_bea)] ∧ (Lit.int .i64 phase).wf = true ∧ (Lit.int .i64 old_nid).wf = true ∧ (Lit.int .i64 new_nid).wf = true := by
  obtain ⟨cs, rfl, hl, hg⟩ := agg_in (okWide_struct Try.underlying27 hv) leaf_keystate h
  match cs, hl with
  | [c0, c1, c2, c3, c4, c5, c6, c7, c8, c9, c10], _ =>
    obtain ⟨n0, y0, h0⟩ := hg 0 _ _ rfl rfl
    obtain ⟨x0, rfl, w0⟩ := leaf_int (k := .i64) Try.underlying3 h0
    obtain ⟨n1, y1, h1⟩ := hg 1 _ _ rfl rfl
    obtain ⟨x1, rfl⟩ := leaf_u64 Try.underlying23 h1
    obtain ⟨n2, y2, h2⟩ := hg 2 _ _ rfl rfl
    obtain ⟨x2, rfl, w2⟩ := leaf_int (k := .i64) Try.underlying3 h2
    obtain ⟨n3, y3, h3⟩ := hg 3 _ _ rfl rfl
    obtain ⟨x3, rfl⟩ := leaf_u64 Try.underlying23 h3
    obtain ⟨n4, y4, h4⟩ := hg 4 _ _ rfl rfl
    obtain ⟨x4, rfl⟩ := leaf_u64 Try.underlying23 h4
    obtain ⟨n5, y5, h5⟩ := hg 5 _ _ rfl rfl
    obtain ⟨x5, rfl⟩ := leaf_u64 Try.underlying23 h5
    obtain ⟨n6, y6, h6⟩ := hg 6 _ _ rfl rfl
    obtain ⟨x6, rfl⟩ := leaf_u64 Try.underlying23 h6
    obtain ⟨n7, y7, h7⟩ := hg 7 _ _ rfl rfl
    obtain ⟨x7, rfl, w7⟩ := leaf_int (k := .i64) Try.underlying3 h7
    obtain ⟨n8, y8, h8⟩ := hg 8 _ _ rfl rfl
    obtain ⟨x8, rfl⟩ := leaf_u64 Try.underlying23 h8
    obtain ⟨n9, y9, h9⟩ := hg 9 _ _ rfl rfl
    obtain ⟨x9, rfl⟩ := leaf_u64 Try.underlying23 h9
    obtain ⟨n10, y10, h10⟩ := hg 10 _ _ rfl rfl
    obtain ⟨x10, rfl⟩ := leaf_u64 Try.underlying23 h10
    exact ⟨x0, x1, x2, x3, x4, x5, x6, x7, x8, x9, x10, rfl, w0, w2, w7⟩
def ls_ivstate : List TypeId := [57, 4, 3]
theorem leaf_ivstate : LeafOf Try.prog 59 ls_ivstate := leaf_struct (P := Try.prog) [[57], [4], [3]] Try.underlying59 (by kernel_rfl) ⟨leaf_one (by kernel_rfl), rfl, leaf_one (by kernel_rfl), rfl, leaf_one (by kernel_rfl), rfl, trivial⟩
theorem ivstate_in {H : Type} {enc : TypeId × Value → H} {W w : World} {r : Reach} {b0 base : Nat} {sp : Nat → Bool} {held : Bool} {v : Value} {d : DataW H} {p : List MemPlace} (hv : Value.okWide Try.prog W r b0 59 v) (h : DataW.Trod enc Try.prog w base sp held 59 v d p) :
    ∃ (index : BitVec 32) (upd : Bool) (since : Int), v = .agg #[.int .u32 (W32 index), .bool upd, .int .i64 since] ∧ (Lit.int .i64 since).wf = true := by
  obtain ⟨cs, rfl, hl, hg⟩ := agg_in (okWide_struct Try.underlying59 hv) leaf_ivstate h
  match cs, hl with
  | [c0, c1, c2], _ =>
    obtain ⟨n0, y0, h0⟩ := hg 0 _ _ rfl rfl
    obtain ⟨x0, rfl⟩ := leaf_u32 Try.underlying57 h0
    obtain ⟨n1, y1, h1⟩ := hg 1 _ _ rfl rfl
    obtain ⟨x1, rfl⟩ := leaf_bool Try.underlying4 h1
    obtain ⟨n2, y2, h2⟩ := hg 2 _ _ rfl rfl
    obtain ⟨x2, rfl, w2⟩ := leaf_int (k := .i64) Try.underlying3 h2
    exact ⟨x0, x1, x2, rfl, w2⟩
def ls_beacon : List TypeId := [4, 4, 57]
theorem leaf_beacon : LeafOf Try.prog 71 ls_beacon := leaf_struct (P := Try.prog) [[4], [4], [57]] Try.underlying71 (by kernel_rfl) ⟨leaf_one (by kernel_rfl), rfl, leaf_one (by kernel_rfl), rfl, leaf_one (by kernel_rfl), rfl, trivial⟩
theorem beacon_in {H : Type} {enc : TypeId × Value → H} {W w : World} {r : Reach} {b0 base : Nat} {sp : Nat → Bool} {held : Bool} {v : Value} {d : DataW H} {p : List MemPlace} (hv : Value.okWide Try.prog W r b0 71 v) (h : DataW.Trod enc Try.prog w base sp held 71 v d p) :
    ∃ (ref : Bool) (upd : Bool) (index : BitVec 32), v = .agg #[.bool ref, .bool upd, .int .u32 (W32 index)] := by
  obtain ⟨cs, rfl, hl, hg⟩ := agg_in (okWide_struct Try.underlying71 hv) leaf_beacon h
  match cs, hl with
  | [c0, c1, c2], _ =>
    obtain ⟨n0, y0, h0⟩ := hg 0 _ _ rfl rfl
    obtain ⟨x0, rfl⟩ := leaf_bool Try.underlying4 h0
    obtain ⟨n1, y1, h1⟩ := hg 1 _ _ rfl rfl
    obtain ⟨x1, rfl⟩ := leaf_bool Try.underlying4 h1
    obtain ⟨n2, y2, h2⟩ := hg 2 _ _ rfl rfl
    obtain ⟨x2, rfl⟩ := leaf_u32 Try.underlying57 h2
    exact ⟨x0, x1, x2, rfl⟩
def ls_session : List TypeId := [3, 23, 22, 4, 4, 22, 22]
theorem leaf_session : LeafOf Try.prog 40 ls_session := leaf_struct (P := Try.prog) [[3], [23], [22], [4], [4], [22], [22]] Try.underlying40 (by kernel_rfl) ⟨leaf_one (by kernel_rfl), rfl, leaf_one (by kernel_rfl), rfl, leaf_one (by kernel_rfl), rfl, leaf_one (by kernel_rfl), rfl, leaf_one (by kernel_rfl), rfl, leaf_one (by kernel_rfl), rfl, leaf_one (by kernel_rfl), rfl, trivial⟩
theorem session_in {H : Type} {enc : TypeId × Value → H} {W w : World} {r : Reach} {b0 base : Nat} {sp : Nat → Bool} {held : Bool} {v : Value} {d : DataW H} {p : List MemPlace} (hv : Value.okWide Try.prog W r b0 40 v) (h : DataW.Trod enc Try.prog w base sp held 40 v d p) :
    ∃ (role : Int) (key : BitVec 64) (salt : BitVec 64) (txon : Bool) (rxon : Bool) (tx : BitVec 64) (rx : BitVec 64), v = .agg #[.int .i64 role, .int .u64 (W64 key), .int .u64 (W64 salt), .bool txon, .bool rxon, .int .u64 (W64 tx), .int .u64 (W64 rx)] ∧ (Lit.int .i64 role).wf = true := by
  obtain ⟨cs, rfl, hl, hg⟩ := agg_in (okWide_struct Try.underlying40 hv) leaf_session h
  match cs, hl with
  | [c0, c1, c2, c3, c4, c5, c6], _ =>
    obtain ⟨n0, y0, h0⟩ := hg 0 _ _ rfl rfl
    obtain ⟨x0, rfl, w0⟩ := leaf_int (k := .i64) Try.underlying3 h0
    obtain ⟨n1, y1, h1⟩ := hg 1 _ _ rfl rfl
    obtain ⟨x1, rfl⟩ := leaf_u64 Try.underlying23 h1
    obtain ⟨n2, y2, h2⟩ := hg 2 _ _ rfl rfl
    obtain ⟨x2, rfl⟩ := leaf_u64 Try.underlying22 h2
    obtain ⟨n3, y3, h3⟩ := hg 3 _ _ rfl rfl
    obtain ⟨x3, rfl⟩ := leaf_bool Try.underlying4 h3
    obtain ⟨n4, y4, h4⟩ := hg 4 _ _ rfl rfl
    obtain ⟨x4, rfl⟩ := leaf_bool Try.underlying4 h4
    obtain ⟨n5, y5, h5⟩ := hg 5 _ _ rfl rfl
    obtain ⟨x5, rfl⟩ := leaf_u64 Try.underlying22 h5
    obtain ⟨n6, y6, h6⟩ := hg 6 _ _ rfl rfl
    obtain ⟨x6, rfl⟩ := leaf_u64 Try.underlying22 h6
    exact ⟨x0, x1, x2, x3, x4, x5, x6, rfl, w0⟩
def ls_packet : List TypeId := [3, 45]
theorem leaf_packet : LeafOf Try.prog 47 ls_packet := leaf_struct (P := Try.prog) [[3], [45]] Try.underlying47 (by kernel_rfl) ⟨leaf_one (by kernel_rfl), rfl, leaf_one (by kernel_rfl), rfl, trivial⟩
theorem packet_in {H : Type} {enc : TypeId × Value → H} {W w : World} {r : Reach} {b0 base : Nat} {sp : Nat → Bool} {held : Bool} {v : Value} {d : DataW H} {p : List MemPlace} (hv : Value.okWide Try.prog W r b0 47 v) (h : DataW.Trod enc Try.prog w base sp held 47 v d p) :
    ∃ (llid : Int) (payA : Option Addr) (payL payC : Nat), v = .agg #[.int .i64 llid, .slice payA payL payC] ∧ (Lit.int .i64 llid).wf = true ∧ (∃ dd pp, DataW.Trod enc Try.prog w base sp held 45 (.slice payA payL payC) dd pp) := by
  obtain ⟨cs, rfl, hl, hg⟩ := agg_in (okWide_struct Try.underlying47 hv) leaf_packet h
  match cs, hl with
  | [c0, c1], _ =>
    obtain ⟨n0, y0, h0⟩ := hg 0 _ _ rfl rfl
    obtain ⟨x0, rfl, w0⟩ := leaf_int (k := .i64) Try.underlying3 h0
    obtain ⟨n1, y1, h1⟩ := hg 1 _ _ rfl rfl
    obtain ⟨x1, l1, k1, rfl⟩ := leaf_slice Try.underlying45 h1
    exact ⟨x0, x1, l1, k1, rfl, w0, ⟨_, _, leaf_trod h1 rfl⟩⟩
def ls_datapdu : List TypeId := [3, 3, 3, 3, 45]
theorem leaf_datapdu : LeafOf Try.prog 49 ls_datapdu := leaf_struct (P := Try.prog) [[3], [3], [3], ls_packet] Try.underlying49 (by kernel_rfl) ⟨leaf_one (by kernel_rfl), rfl, leaf_one (by kernel_rfl), rfl, leaf_one (by kernel_rfl), rfl, leaf_packet, rfl, trivial⟩
theorem datapdu_in {H : Type} {enc : TypeId × Value → H} {W w : World} {r : Reach} {b0 base : Nat} {sp : Nat → Bool} {held : Bool} {v : Value} {d : DataW H} {p : List MemPlace} (hv : Value.okWide Try.prog W r b0 49 v) (h : DataW.Trod enc Try.prog w base sp held 49 v d p) :
    ∃ (sn : Int) (nesn : Int) (md : Int) (packet_llid : Int) (packet_payA : Option Addr) (packet_payL packet_payC : Nat), v = .agg #[.int .i64 sn, .int .i64 nesn, .int .i64 md, .int .i64 packet_llid, .slice packet_payA packet_payL packet_payC] ∧ (Lit.int .i64 sn).wf = true ∧ (Lit.int .i64 nesn).wf = true ∧ (Lit.int .i64 md).wf = true ∧ (Lit.int .i64 packet_llid).wf = true ∧ (∃ dd pp, DataW.Trod enc Try.prog w base sp held 45 (.slice packet_payA packet_payL packet_payC) dd pp) := by
  obtain ⟨cs, rfl, hl, hg⟩ := agg_in (okWide_struct Try.underlying49 hv) leaf_datapdu h
  match cs, hl with
  | [c0, c1, c2, c3, c4], _ =>
    obtain ⟨n0, y0, h0⟩ := hg 0 _ _ rfl rfl
    obtain ⟨x0, rfl, w0⟩ := leaf_int (k := .i64) Try.underlying3 h0
    obtain ⟨n1, y1, h1⟩ := hg 1 _ _ rfl rfl
    obtain ⟨x1, rfl, w1⟩ := leaf_int (k := .i64) Try.underlying3 h1
    obtain ⟨n2, y2, h2⟩ := hg 2 _ _ rfl rfl
    obtain ⟨x2, rfl, w2⟩ := leaf_int (k := .i64) Try.underlying3 h2
    obtain ⟨n3, y3, h3⟩ := hg 3 _ _ rfl rfl
    obtain ⟨x3, rfl, w3⟩ := leaf_int (k := .i64) Try.underlying3 h3
    obtain ⟨n4, y4, h4⟩ := hg 4 _ _ rfl rfl
    obtain ⟨x4, l4, k4, rfl⟩ := leaf_slice Try.underlying45 h4
    exact ⟨x0, x1, x2, x3, x4, l4, k4, rfl, w0, w1, w2, w3, ⟨_, _, leaf_trod h4 rfl⟩⟩
def ls_h64 : List TypeId := [22, 22]
theorem leaf_h64 : LeafOf Try.prog 41 ls_h64 := leaf_array (P := Try.prog) [22] Try.underlying41 (leaf_one (by kernel_rfl)) (by kernel_rfl)
theorem h64_in {H : Type} {enc : TypeId × Value → H} {W w : World} {r : Reach} {b0 base : Nat} {sp : Nat → Bool} {held : Bool} {v : Value} {d : DataW H} {p : List MemPlace} (hv : Value.okWide Try.prog W r b0 41 v) (h : DataW.Trod enc Try.prog w base sp held 41 v d p) :
    ∃ (x0 : BitVec 64) (x1 : BitVec 64), v = .agg #[.int .u64 (W64 x0), .int .u64 (W64 x1)] := by
  obtain ⟨cs, rfl, hl, hg⟩ := agg_in (okWide_array Try.underlying41 hv) leaf_h64 h
  match cs, hl with
  | [c0, c1], _ =>
    obtain ⟨n0, y0, h0⟩ := hg 0 _ _ rfl rfl
    obtain ⟨x0, rfl⟩ := leaf_u64 Try.underlying22 h0
    obtain ⟨n1, y1, h1⟩ := hg 1 _ _ rfl rfl
    obtain ⟨x1, rfl⟩ := leaf_u64 Try.underlying22 h1
    exact ⟨x0, x1, rfl⟩
def ls_h32 : List TypeId := [57, 57]
theorem leaf_h32 : LeafOf Try.prog 130 ls_h32 := leaf_array (P := Try.prog) [57] Try.underlying130 (leaf_one (by kernel_rfl)) (by kernel_rfl)
theorem h32_in {H : Type} {enc : TypeId × Value → H} {W w : World} {r : Reach} {b0 base : Nat} {sp : Nat → Bool} {held : Bool} {v : Value} {d : DataW H} {p : List MemPlace} (hv : Value.okWide Try.prog W r b0 130 v) (h : DataW.Trod enc Try.prog w base sp held 130 v d p) :
    ∃ (x0 : BitVec 32) (x1 : BitVec 32), v = .agg #[.int .u32 (W32 x0), .int .u32 (W32 x1)] := by
  obtain ⟨cs, rfl, hl, hg⟩ := agg_in (okWide_array Try.underlying130 hv) leaf_h32 h
  match cs, hl with
  | [c0, c1], _ =>
    obtain ⟨n0, y0, h0⟩ := hg 0 _ _ rfl rfl
    obtain ⟨x0, rfl⟩ := leaf_u32 Try.underlying57 h0
    obtain ⟨n1, y1, h1⟩ := hg 1 _ _ rfl rfl
    obtain ⟨x1, rfl⟩ := leaf_u32 Try.underlying57 h1
    exact ⟨x0, x1, rfl⟩
def ls_sent : List TypeId := [4, 3, 3, 3, 3, 45]
theorem leaf_sent : LeafOf Try.prog 84 ls_sent := leaf_struct (P := Try.prog) [[4], ls_datapdu] Try.underlying84 (by kernel_rfl) ⟨leaf_one (by kernel_rfl), rfl, leaf_datapdu, rfl, trivial⟩
theorem sent_in {H : Type} {enc : TypeId × Value → H} {W w : World} {r : Reach} {b0 base : Nat} {sp : Nat → Bool} {held : Bool} {v : Value} {d : DataW H} {p : List MemPlace} (hv : Value.okWide Try.prog W r b0 84 v) (h : DataW.Trod enc Try.prog w base sp held 84 v d p) :
    ∃ (up : Bool) (pdu_sn : Int) (pdu_nesn : Int) (pdu_md : Int) (pdu_packet_llid : Int) (pdu_packet_payA : Option Addr) (pdu_packet_payL pdu_packet_payC : Nat), v = .agg #[.bool up, .int .i64 pdu_sn, .int .i64 pdu_nesn, .int .i64 pdu_md, .int .i64 pdu_packet_llid, .slice pdu_packet_payA pdu_packet_payL pdu_packet_payC] ∧ (Lit.int .i64 pdu_sn).wf = true ∧ (Lit.int .i64 pdu_nesn).wf = true ∧ (Lit.int .i64 pdu_md).wf = true ∧ (Lit.int .i64 pdu_packet_llid).wf = true ∧ (∃ dd pp, DataW.Trod enc Try.prog w base sp held 45 (.slice pdu_packet_payA pdu_packet_payL pdu_packet_payC) dd pp) := by
  obtain ⟨cs, rfl, hl, hg⟩ := agg_in (okWide_struct Try.underlying84 hv) leaf_sent h
  match cs, hl with
  | [c0, c1, c2, c3, c4, c5], _ =>
    obtain ⟨n0, y0, h0⟩ := hg 0 _ _ rfl rfl
    obtain ⟨x0, rfl⟩ := leaf_bool Try.underlying4 h0
    obtain ⟨n1, y1, h1⟩ := hg 1 _ _ rfl rfl
    obtain ⟨x1, rfl, w1⟩ := leaf_int (k := .i64) Try.underlying3 h1
    obtain ⟨n2, y2, h2⟩ := hg 2 _ _ rfl rfl
    obtain ⟨x2, rfl, w2⟩ := leaf_int (k := .i64) Try.underlying3 h2
    obtain ⟨n3, y3, h3⟩ := hg 3 _ _ rfl rfl
    obtain ⟨x3, rfl, w3⟩ := leaf_int (k := .i64) Try.underlying3 h3
    obtain ⟨n4, y4, h4⟩ := hg 4 _ _ rfl rfl
    obtain ⟨x4, rfl, w4⟩ := leaf_int (k := .i64) Try.underlying3 h4
    obtain ⟨n5, y5, h5⟩ := hg 5 _ _ rfl rfl
    obtain ⟨x5, l5, k5, rfl⟩ := leaf_slice Try.underlying45 h5
    exact ⟨x0, x1, x2, x3, x4, x5, l5, k5, rfl, w1, w2, w3, w4, ⟨_, _, leaf_trod h5 rfl⟩⟩
def ls_op52 : List TypeId := [3, 3, 23, 4, 4, 57, 3]
theorem leaf_op52 : LeafOf Try.prog 77 ls_op52 := leaf_struct (P := Try.prog) [[3], [3], [23], ls_beacon, [3]] Try.underlying77 (by kernel_rfl) ⟨leaf_one (by kernel_rfl), rfl, leaf_one (by kernel_rfl), rfl, leaf_one (by kernel_rfl), rfl, leaf_beacon, rfl, leaf_one (by kernel_rfl), rfl, trivial⟩
theorem op52_in {H : Type} {enc : TypeId × Value → H} {W w : World} {r : Reach} {b0 base : Nat} {sp : Nat → Bool} {held : Bool} {v : Value} {d : DataW H} {p : List MemPlace} (hv : Value.okWide Try.prog W r b0 77 v) (h : DataW.Trod enc Try.prog w base sp held 77 v d p) :
    ∃ (kind : Int) (number : Int) (key : BitVec 64) (bea_ref : Bool) (bea_upd : Bool) (bea_index : BitVec 32) (now : Int), v = .agg #[.int .i64 kind, .int .i64 number, .int .u64 (W64 key), .bool bea_ref, .bool bea_upd, .int .u32 (W32 bea_index), .int .i64 now] ∧ (Lit.int .i64 kind).wf = true ∧ (Lit.int .i64 number).wf = true ∧ (Lit.int .i64 now).wf = true := by
  obtain ⟨cs, rfl, hl, hg⟩ := agg_in (okWide_struct Try.underlying77 hv) leaf_op52 h
  match cs, hl with
  | [c0, c1, c2, c3, c4, c5, c6], _ =>
    obtain ⟨n0, y0, h0⟩ := hg 0 _ _ rfl rfl
    obtain ⟨x0, rfl, w0⟩ := leaf_int (k := .i64) Try.underlying3 h0
    obtain ⟨n1, y1, h1⟩ := hg 1 _ _ rfl rfl
    obtain ⟨x1, rfl, w1⟩ := leaf_int (k := .i64) Try.underlying3 h1
    obtain ⟨n2, y2, h2⟩ := hg 2 _ _ rfl rfl
    obtain ⟨x2, rfl⟩ := leaf_u64 Try.underlying23 h2
    obtain ⟨n3, y3, h3⟩ := hg 3 _ _ rfl rfl
    obtain ⟨x3, rfl⟩ := leaf_bool Try.underlying4 h3
    obtain ⟨n4, y4, h4⟩ := hg 4 _ _ rfl rfl
    obtain ⟨x4, rfl⟩ := leaf_bool Try.underlying4 h4
    obtain ⟨n5, y5, h5⟩ := hg 5 _ _ rfl rfl
    obtain ⟨x5, rfl⟩ := leaf_u32 Try.underlying57 h5
    obtain ⟨n6, y6, h6⟩ := hg 6 _ _ rfl rfl
    obtain ⟨x6, rfl, w6⟩ := leaf_int (k := .i64) Try.underlying3 h6
    exact ⟨x0, x1, x2, x3, x4, x5, x6, rfl, w0, w1, w6⟩
def ls_talk : List TypeId := [23, 22, 22, 79]
theorem leaf_talk : LeafOf Try.prog 81 ls_talk := leaf_struct (P := Try.prog) [[23], ls_h64, [79]] Try.underlying81 (by kernel_rfl) ⟨leaf_one (by kernel_rfl), rfl, leaf_h64, rfl, leaf_one (by kernel_rfl), rfl, trivial⟩
theorem talk_in {H : Type} {enc : TypeId × Value → H} {W w : World} {r : Reach} {b0 base : Nat} {sp : Nat → Bool} {held : Bool} {v : Value} {d : DataW H} {p : List MemPlace} (hv : Value.okWide Try.prog W r b0 81 v) (h : DataW.Trod enc Try.prog w base sp held 81 v d p) :
    ∃ (key : BitVec 64) (h_x0 : BitVec 64) (h_x1 : BitVec 64) (pkA : Option Addr) (pkL pkC : Nat), v = .agg #[.int .u64 (W64 key), .int .u64 (W64 h_x0), .int .u64 (W64 h_x1), .slice pkA pkL pkC] ∧ (∃ dd pp, DataW.Trod enc Try.prog w base sp held 79 (.slice pkA pkL pkC) dd pp) := by
  obtain ⟨cs, rfl, hl, hg⟩ := agg_in (okWide_struct Try.underlying81 hv) leaf_talk h
  match cs, hl with
  | [c0, c1, c2, c3], _ =>
    obtain ⟨n0, y0, h0⟩ := hg 0 _ _ rfl rfl
    obtain ⟨x0, rfl⟩ := leaf_u64 Try.underlying23 h0
    obtain ⟨n1, y1, h1⟩ := hg 1 _ _ rfl rfl
    obtain ⟨x1, rfl⟩ := leaf_u64 Try.underlying22 h1
    obtain ⟨n2, y2, h2⟩ := hg 2 _ _ rfl rfl
    obtain ⟨x2, rfl⟩ := leaf_u64 Try.underlying22 h2
    obtain ⟨n3, y3, h3⟩ := hg 3 _ _ rfl rfl
    obtain ⟨x3, l3, k3, rfl⟩ := leaf_slice Try.underlying79 h3
    exact ⟨x0, x1, x2, x3, l3, k3, rfl, ⟨_, _, leaf_trod h3 rfl⟩⟩
end Go.Proofs.Ytmehemojopfihaa
