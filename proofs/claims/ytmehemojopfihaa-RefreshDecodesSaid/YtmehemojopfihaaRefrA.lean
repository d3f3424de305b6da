/- Contracts of the functions of layer 52 (refresh) and of its reference. -/
import Derived.Test.YtmehemojopfihaaMesh
import Derived.Test.YtmehemojopfihaaEqStr
import Derived.Test.YtmehemojopfihaaBlock
import Derived.Test.YtmehemojopfihaaRefrFn
namespace Go.Proofs.Ytmehemojopfihaa
set_option maxRecDepth 100000
open Go.ChangeShapes Go.WideShapes Go.ChangeAt Go.RowKit
set_option linter.unusedVariables false
set_option linter.unusedSimpArgs false

def ksA (k : KS) : Array Value := #[.int .i64 k.phase, .int .u64 (W64 k.old.key), .int .i64 k.old.nid, .int .u64 (W64 k.old.enc), .int .u64 (W64 k.old.hide), .int .u64 (W64 k.old.bea), .int .u64 (W64 k.new.key), .int .i64 k.new.nid, .int .u64 (W64 k.new.enc), .int .u64 (W64 k.new.hide), .int .u64 (W64 k.new.bea)]
def nkA (k : NK) : Array Value := #[.int .u64 (W64 k.key), .int .i64 k.nid, .int .u64 (W64 k.enc), .int .u64 (W64 k.hide), .int .u64 (W64 k.bea)]
def ivA (v : IV) : Array Value := #[.int .u32 (W32 v.index), .bool v.upd, .int .i64 v.since]
def beA (b : Bea) : Array Value := #[.bool b.ref, .bool b.upd, .int .u32 (W32 b.index)]
theorem w64_0 : W64 0#64 = 0 := rfl
theorem w32_0 : W32 0#32 = 0 := rfl
theorem w32b0 (x : BitVec 32) : (W32 x == 0) = (x == 0#32) := W32_beq x 0#32
theorem w32n0 (x : BitVec 32) : (W32 x != 0) = (x != 0#32) := W32_bne x 0#32
theorem w32bm (x : BitVec 32) : (W32 x == 4294967295) = (x == 4294967295#32) := W32_beq x 4294967295#32
theorem w32p (x : BitVec 32) : (0 < W32 x) = (x ≠ 0#32) := by
  apply propext
  constructor
  · intro h e; rw [e] at h; exact absurd h (by decide)
  · intro h; unfold W32; have : x.toNat ≠ 0 := fun e => h (BitVec.eq_of_toNat_eq e); omega
theorem inc0 (x : BitVec 32) : (x + 1#32 == 0#32) = (x == 4294967295#32) := by
  rw [Bool.eq_iff_iff, beq_iff_eq, beq_iff_eq]
  constructor
  · intro h; apply BitVec.eq_of_toNat_eq; have := congrArg BitVec.toNat h; simp at this ⊢; have := x.isLt; omega
  · intro h; rw [h]; rfl
theorem and1 (x : BitVec 32) : x % 2#32 = x &&& 1#32 := by
  apply BitVec.eq_of_toNat_eq
  rw [BitVec.toNat_umod, BitVec.toNat_and]
  exact (Nat.and_two_pow_sub_one_eq_mod x.toNat 1).symm
theorem w32np (x : BitVec 32) : (W32 x ≤ 0) = (x = 0#32) := by
  apply propext
  constructor
  · intro h; unfold W32 at h; apply BitVec.eq_of_toNat_eq; simp; omega
  · intro h; rw [h]; decide
def nksL (l : List NK) : List Value := l.flatMap fun k => (nkA k).toList

set_option maxHeartbeats 1000000 in
theorem rf_NewKey (k : KS) (key : BitVec 64) (w : World) :
    Calls Try.prog 15 #[.agg (ksA k), .int .u64 (W64 key)] w fun e w' => e = .returned (.tuple #[.agg (ksA (newKeyK k key).1), .int .i64 (newKeyK k key).2]) ∧ Below w.heap.size w w' := by
  obtain ⟨ph, ⟨a1, a2, a3, a4, a5⟩, ⟨b1, b2, b3, b4, b5⟩⟩ := k
  have D := Lib.hid (fun W => mesh_Derive key W)
  obtain ⟨r, hr⟩ : ∃ r, newKeyK ⟨ph, ⟨a1, a2, a3, a4, a5⟩, ⟨b1, b2, b3, b4, b5⟩⟩ key = r := ⟨_, rfl⟩
  rw [hr]
  have HR := Lib.hid hr
  clear hr
  unfold ksA
  dsimp only
  go_enter Try.func15, Try.ntmps15
  go_wp2_with (first
    | (go_at_call 46; refine (D.out _).mono ?_; rintro e w1 ⟨rfl, hb1⟩; have hX := box2 w 27 #[.int .i64 0, .int .u64 (W64 a1), .int .i64 a2, .int .u64 (W64 a3), .int .u64 (W64 a4), .int .u64 (W64 a5), .int .u64 (W64 b1), .int .i64 b2, .int .u64 (W64 b3), .int .u64 (W64 b4), .int .u64 (W64 b5)] 27 #[.int .i64 0, .int .u64 0, .int .i64 0, .int .u64 0, .int .u64 0, .int .u64 0, .int .u64 0, .int .i64 0, .int .u64 0, .int .u64 0, .int .u64 0]; have hA1 := hX.2.1.to hb1 hX.2.1.lt; have hB1 := hX.2.2.to hb1 hX.2.2.lt; have hb01 := hX.1.trans (hb1.mono hX.1.size); clear hb1 hX)
    | (go_at_call 46; refine (D.out _).mono ?_; rintro e w1 ⟨rfl, hb1⟩; have hX := box2 w 27 #[.int .i64 1, .int .u64 (W64 a1), .int .i64 a2, .int .u64 (W64 a3), .int .u64 (W64 a4), .int .u64 (W64 a5), .int .u64 (W64 b1), .int .i64 b2, .int .u64 (W64 b3), .int .u64 (W64 b4), .int .u64 (W64 b5)] 27 #[.int .i64 0, .int .u64 0, .int .i64 0, .int .u64 0, .int .u64 0, .int .u64 0, .int .u64 0, .int .i64 0, .int .u64 0, .int .u64 0, .int .u64 0]; have hA2 := hX.2.1.to hb1 hX.2.1.lt; have hB2 := hX.2.2.to hb1 hX.2.2.lt; have hb02 := hX.1.trans (hb1.mono hX.1.size); clear hb1 hX)
    | ((with_reducible refine wpList_st1 0 (.int .i64 1) #[.int .i64 1, .int .u64 (W64 a1), .int .i64 a2, .int .u64 (W64 a3), .int .u64 (W64 a4), .int .u64 (W64 a5), .int .u64 (W64 b1), .int .i64 b2, .int .u64 (W64 b3), .int .u64 (W64 b4), .int .u64 (W64 b5)] hA1 ?_ ?_ ?_ ?_ ?_ ?_ ?_ ?_); rfl; rfl; rfl; kernel_rfl; rfl; exact of_decide_eq_true rfl; rfl; intro w2 hA2 hU2; have hB2 := hU2.blk hB1 (by omega); have hb02 := hU2.below hb01 (by omega); clear hA1 hB1 hb01 hU2)
    | ((with_reducible refine wpList_st 6 #[.int .u64 (W64 key), .int .i64 (W64 (nidK key)), .int .u64 (W64 (encK key)), .int .u64 (W64 (hideK key)), .int .u64 (W64 (beaK key))] #[.int .i64 1, .int .u64 (W64 a1), .int .i64 a2, .int .u64 (W64 a3), .int .u64 (W64 a4), .int .u64 (W64 a5), .int .u64 (W64 key), .int .i64 (W64 (nidK key)), .int .u64 (W64 (encK key)), .int .u64 (W64 (hideK key)), .int .u64 (W64 (beaK key))] hA2 ?_ ?_ ?_ ?_ ?_ ?_ ?_); rfl; rfl; kernel_rfl; rfl; exact of_decide_eq_true rfl; rfl; intro w3 hA3 hU3; have hB3 := hU3.blk hB2 (by omega); have hb03 := hU3.below hb02 (by omega); clear hA2 hB2 hb02 hU3)
    | ((with_reducible refine wpList_ld 0 [.int .i64 1, .int .u64 (W64 a1), .int .i64 a2, .int .u64 (W64 a3), .int .u64 (W64 a4), .int .u64 (W64 a5), .int .u64 (W64 key), .int .i64 (W64 (nidK key)), .int .u64 (W64 (encK key)), .int .u64 (W64 (hideK key)), .int .u64 (W64 (beaK key))] hA3 ?_ ?_ Try.underlying27 ?_ ?_ ?_); rfl; rfl; rfl; kernel_rfl)
    | ((with_reducible refine wpList_st 0 #[.int .i64 1, .int .u64 (W64 a1), .int .i64 a2, .int .u64 (W64 a3), .int .u64 (W64 a4), .int .u64 (W64 a5), .int .u64 (W64 key), .int .i64 (W64 (nidK key)), .int .u64 (W64 (encK key)), .int .u64 (W64 (hideK key)), .int .u64 (W64 (beaK key))] #[.int .i64 1, .int .u64 (W64 a1), .int .i64 a2, .int .u64 (W64 a3), .int .u64 (W64 a4), .int .u64 (W64 a5), .int .u64 (W64 key), .int .i64 (W64 (nidK key)), .int .u64 (W64 (encK key)), .int .u64 (W64 (hideK key)), .int .u64 (W64 (beaK key))] hB3 ?_ ?_ ?_ ?_ ?_ ?_ ?_); rfl; rfl; kernel_rfl; rfl; exact of_decide_eq_true rfl; rfl; intro w4 hB4 hU4; have hb04 := hU4.below hb03 (by omega); clear hA3 hB3 hb03 hU4))
  all_goals
    first
    | (go_returns; refine ⟨?_, by go_grown⟩; rw [← HR.out]; simp_all [newKeyK, nkD, W64_beq, W64_bne, w32b0, w32n0, w32bm, w32p, w32np, inc0, W32_beq, W32_bne, w64_0, w32_0]; done)
    | (refine bodyPost_ret (results_ct rfl rfl (load_blk hB4 Try.underlying27 rfl (by kernel_rfl))) rfl ?_; refine ⟨?_, hb04⟩; rw [← HR.out]; simp_all [newKeyK, nkD, W64_beq, W64_bne, w32b0, w32n0, w32bm, w32p, w32np, inc0, W32_beq, W32_bne, w64_0, w32_0]; done)
set_option maxHeartbeats 1000000 in
theorem rf_Phase (k : KS) (ps : Int) (w : World) :
    Calls Try.prog 17 #[.agg (ksA k), .int .i64 ps] w fun e w' => e = .returned (.tuple #[.agg (ksA (phaseK k ps).1), .bool (phaseK k ps).2]) ∧ Below w.heap.size w w' := by
  obtain ⟨ph, ⟨a1, a2, a3, a4, a5⟩, ⟨b1, b2, b3, b4, b5⟩⟩ := k
  obtain ⟨r, hr⟩ : ∃ r, phaseK ⟨ph, ⟨a1, a2, a3, a4, a5⟩, ⟨b1, b2, b3, b4, b5⟩⟩ ps = r := ⟨_, rfl⟩
  rw [hr]
  have HR := Lib.hid hr
  clear hr
  unfold ksA
  dsimp only
  go_enter Try.func17, Try.ntmps17
  go_wp2
  all_goals
    go_returns
    refine ⟨?_, by go_grown⟩
    rw [← HR.out]
    simp_all [phaseK, nk0, W64_beq, W64_bne, w32b0, w32n0, w32bm, w32p, w32np, inc0, W32_beq, W32_bne, w64_0, w32_0]
    done
/-- What Receiving returns: rows of keys. -/
theorem rf_Receiving (k : KS) (w : World) :
    Calls Try.prog 23 #[.agg (ksA k)] w fun e w' => e = .returned (.slice (some ⟨w.heap.size + 1, 0, none⟩) (recvK k).length (recvK k).length) ∧ w' = (w.alloc (.cells (ksA k) 27)).alloc (.cells (nksL (recvK k)).toArray 25) := by
  obtain ⟨ph, ⟨a1, a2, a3, a4, a5⟩, ⟨b1, b2, b3, b4, b5⟩⟩ := k
  obtain ⟨r, hr⟩ : ∃ r, recvK ⟨ph, ⟨a1, a2, a3, a4, a5⟩, ⟨b1, b2, b3, b4, b5⟩⟩ = r := ⟨_, rfl⟩
  rw [hr]
  have HR := Lib.hid hr
  clear hr
  unfold ksA
  dsimp only
  go_enter Try.func23, Try.ntmps23
  go_wp2
  all_goals
    go_ret
    rw [← HR.out]
    simp_all [recvK, nksL, nkA]
    done
set_option maxHeartbeats 1000000 in
theorem r52_NewKey (k : KS) (key : BitVec 64) (w : World) :
    Calls Try.prog 16 #[.agg (ksA k), .int .u64 (W64 key)] w fun e w' => e = .returned (.tuple #[.agg (ksA (newKeyK k key).1), .int .i64 (newKeyK k key).2]) ∧ Below w.heap.size w w' := by
  obtain ⟨ph, ⟨a1, a2, a3, a4, a5⟩, ⟨b1, b2, b3, b4, b5⟩⟩ := k
  have D := Lib.hid (fun W => ref47_Derive key W)
  obtain ⟨r, hr⟩ : ∃ r, newKeyK ⟨ph, ⟨a1, a2, a3, a4, a5⟩, ⟨b1, b2, b3, b4, b5⟩⟩ key = r := ⟨_, rfl⟩
  rw [hr]
  have HR := Lib.hid hr
  clear hr
  unfold ksA
  dsimp only
  go_enter Try.func16, Try.ntmps16
  go_wp2_with (first
    | (go_at_call 58; refine (D.out _).mono ?_; rintro e w1 ⟨rfl, hb1⟩; have hX := box2 w 27 #[.int .i64 0, .int .u64 (W64 a1), .int .i64 a2, .int .u64 (W64 a3), .int .u64 (W64 a4), .int .u64 (W64 a5), .int .u64 (W64 b1), .int .i64 b2, .int .u64 (W64 b3), .int .u64 (W64 b4), .int .u64 (W64 b5)] 27 #[.int .i64 0, .int .u64 0, .int .i64 0, .int .u64 0, .int .u64 0, .int .u64 0, .int .u64 0, .int .i64 0, .int .u64 0, .int .u64 0, .int .u64 0]; have hA1 := hX.2.1.to hb1 hX.2.1.lt; have hB1 := hX.2.2.to hb1 hX.2.2.lt; have hb01 := hX.1.trans (hb1.mono hX.1.size); clear hb1 hX)
    | (go_at_call 58; refine (D.out _).mono ?_; rintro e w1 ⟨rfl, hb1⟩; have hX := box2 w 27 #[.int .i64 1, .int .u64 (W64 a1), .int .i64 a2, .int .u64 (W64 a3), .int .u64 (W64 a4), .int .u64 (W64 a5), .int .u64 (W64 b1), .int .i64 b2, .int .u64 (W64 b3), .int .u64 (W64 b4), .int .u64 (W64 b5)] 27 #[.int .i64 0, .int .u64 0, .int .i64 0, .int .u64 0, .int .u64 0, .int .u64 0, .int .u64 0, .int .i64 0, .int .u64 0, .int .u64 0, .int .u64 0]; have hA2 := hX.2.1.to hb1 hX.2.1.lt; have hB2 := hX.2.2.to hb1 hX.2.2.lt; have hb02 := hX.1.trans (hb1.mono hX.1.size); clear hb1 hX)
    | ((with_reducible refine wpList_st1 0 (.int .i64 1) #[.int .i64 1, .int .u64 (W64 a1), .int .i64 a2, .int .u64 (W64 a3), .int .u64 (W64 a4), .int .u64 (W64 a5), .int .u64 (W64 b1), .int .i64 b2, .int .u64 (W64 b3), .int .u64 (W64 b4), .int .u64 (W64 b5)] hA1 ?_ ?_ ?_ ?_ ?_ ?_ ?_ ?_); rfl; rfl; rfl; kernel_rfl; rfl; exact of_decide_eq_true rfl; rfl; intro w2 hA2 hU2; have hB2 := hU2.blk hB1 (by omega); have hb02 := hU2.below hb01 (by omega); clear hA1 hB1 hb01 hU2)
    | ((with_reducible refine wpList_st 6 #[.int .u64 (W64 key), .int .i64 (W64 (nidK key)), .int .u64 (W64 (encK key)), .int .u64 (W64 (hideK key)), .int .u64 (W64 (beaK key))] #[.int .i64 1, .int .u64 (W64 a1), .int .i64 a2, .int .u64 (W64 a3), .int .u64 (W64 a4), .int .u64 (W64 a5), .int .u64 (W64 key), .int .i64 (W64 (nidK key)), .int .u64 (W64 (encK key)), .int .u64 (W64 (hideK key)), .int .u64 (W64 (beaK key))] hA2 ?_ ?_ ?_ ?_ ?_ ?_ ?_); rfl; rfl; kernel_rfl; rfl; exact of_decide_eq_true rfl; rfl; intro w3 hA3 hU3; have hB3 := hU3.blk hB2 (by omega); have hb03 := hU3.below hb02 (by omega); clear hA2 hB2 hb02 hU3)
    | ((with_reducible refine wpList_ld 0 [.int .i64 1, .int .u64 (W64 a1), .int .i64 a2, .int .u64 (W64 a3), .int .u64 (W64 a4), .int .u64 (W64 a5), .int .u64 (W64 key), .int .i64 (W64 (nidK key)), .int .u64 (W64 (encK key)), .int .u64 (W64 (hideK key)), .int .u64 (W64 (beaK key))] hA3 ?_ ?_ Try.underlying27 ?_ ?_ ?_); rfl; rfl; rfl; kernel_rfl)
    | ((with_reducible refine wpList_st 0 #[.int .i64 1, .int .u64 (W64 a1), .int .i64 a2, .int .u64 (W64 a3), .int .u64 (W64 a4), .int .u64 (W64 a5), .int .u64 (W64 key), .int .i64 (W64 (nidK key)), .int .u64 (W64 (encK key)), .int .u64 (W64 (hideK key)), .int .u64 (W64 (beaK key))] #[.int .i64 1, .int .u64 (W64 a1), .int .i64 a2, .int .u64 (W64 a3), .int .u64 (W64 a4), .int .u64 (W64 a5), .int .u64 (W64 key), .int .i64 (W64 (nidK key)), .int .u64 (W64 (encK key)), .int .u64 (W64 (hideK key)), .int .u64 (W64 (beaK key))] hB3 ?_ ?_ ?_ ?_ ?_ ?_ ?_); rfl; rfl; kernel_rfl; rfl; exact of_decide_eq_true rfl; rfl; intro w4 hB4 hU4; have hb04 := hU4.below hb03 (by omega); clear hA3 hB3 hb03 hU4))
  all_goals
    first
    | (go_returns; refine ⟨?_, by go_grown⟩; rw [← HR.out]; simp_all [newKeyK, nkD, W64_beq, W64_bne, w32b0, w32n0, w32bm, w32p, w32np, inc0, W32_beq, W32_bne, w64_0, w32_0]; done)
    | (refine bodyPost_ret (results_ct rfl rfl (load_blk hB4 Try.underlying27 rfl (by kernel_rfl))) rfl ?_; refine ⟨?_, hb04⟩; rw [← HR.out]; simp_all [newKeyK, nkD, W64_beq, W64_bne, w32b0, w32n0, w32bm, w32p, w32np, inc0, W32_beq, W32_bne, w64_0, w32_0]; done)
set_option maxHeartbeats 1000000 in
theorem r52_Phase (k : KS) (ps : Int) (w : World) :
    Calls Try.prog 18 #[.agg (ksA k), .int .i64 ps] w fun e w' => e = .returned (.tuple #[.agg (ksA (phaseK k ps).1), .bool (phaseK k ps).2]) ∧ Below w.heap.size w w' := by
  obtain ⟨ph, ⟨a1, a2, a3, a4, a5⟩, ⟨b1, b2, b3, b4, b5⟩⟩ := k
  obtain ⟨r, hr⟩ : ∃ r, phaseK ⟨ph, ⟨a1, a2, a3, a4, a5⟩, ⟨b1, b2, b3, b4, b5⟩⟩ ps = r := ⟨_, rfl⟩
  rw [hr]
  have HR := Lib.hid hr
  clear hr
  unfold ksA
  dsimp only
  go_enter Try.func18, Try.ntmps18
  go_wp2
  all_goals
    go_returns
    refine ⟨?_, by go_grown⟩
    rw [← HR.out]
    simp_all [phaseK, nk0, W64_beq, W64_bne, w32b0, w32n0, w32bm, w32p, w32np, inc0, W32_beq, W32_bne, w64_0, w32_0]
    done
/-- What Receiving returns: rows of keys. -/
theorem r52_Receiving (k : KS) (w : World) :
    Calls Try.prog 24 #[.agg (ksA k)] w fun e w' => e = .returned (.slice (some ⟨w.heap.size + 1, 0, none⟩) (recvK k).length (recvK k).length) ∧ w' = (w.alloc (.cells (ksA k) 27)).alloc (.cells (nksL (recvK k)).toArray 25) := by
  obtain ⟨ph, ⟨a1, a2, a3, a4, a5⟩, ⟨b1, b2, b3, b4, b5⟩⟩ := k
  obtain ⟨r, hr⟩ : ∃ r, recvK ⟨ph, ⟨a1, a2, a3, a4, a5⟩, ⟨b1, b2, b3, b4, b5⟩⟩ = r := ⟨_, rfl⟩
  rw [hr]
  have HR := Lib.hid hr
  clear hr
  unfold ksA
  dsimp only
  go_enter Try.func24, Try.ntmps24
  go_wp2
  all_goals
    go_ret
    rw [← HR.out]
    simp_all [recvK, nksL, nkA]
    done
end Go.Proofs.Ytmehemojopfihaa
