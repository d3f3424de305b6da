/- Part of the proofs of the laws of pairing. -/
import Derived.Test.YtihmbcnccdiecaaGreatDoorBRs0
namespace Go.Proofs.YtihmbcnccdiecaaGreatDoor
set_option maxRecDepth 100000
set_option linter.unusedVariables false
set_option linter.unusedSimpArgs false
open Go.ChangeShapes Go.WideShapes Go.ChangeAt Go.RowKit
def pM (k : Int) : Int := if k = 1 ∨ k = 2 then 3 else if k = 11 ∨ k = 5 then 2 else if k = 12 then 5 else if k = 3 ∨ k = 4 ∨ k = 13 then 9 else if k = 8 then 16 else 0
def mV (p : Sec) : Sec :=
  if p.kind = 1 ∨ p.kind = 2 then { cL with kind := p.kind, feat := p.feat }
  else if p.kind = 11 then { cL with kind := p.kind, feat := { gH with bond := p.feat.bond, mitm := p.feat.mitm } }
  else if p.kind = 5 then { cL with kind := p.kind, reason := p.reason }
  else if p.kind = 12 then { cL with kind := p.kind, pub := p.pub }
  else if p.kind = 8 then { cL with kind := p.kind, idn := p.idn }
  else { cL with kind := p.kind, value := p.value }
theorem iS (d : Sec) : iZ d = if pM d.kind = 0 then none else some (mV d) := by
  unfold iZ pM mV
  (repeat' split) <;> first | rfl | omega | simp_all
theorem J1 (k : Int) (w : World) :
  Calls Tryz.prog 113 #[.int .i64 k] w (fun e w' => e = .returned (.int .i64 (pM k)) ∧ Below w.heap.size w w') := by
 obtain ⟨r, hr⟩ : ∃ r, pM k = r := ⟨_, rfl⟩
 rw [hr]
 have HR := Lib.hid hr
 clear hr
 go_enter Tryz.func113, Tryz.ntmps113
 have hB := Below.refl w.heap.size w
 by_cases J : (k : Int) = 1
 ·
  subst J
  go_wp2_with with_reducible refine so ?_
  go_returns
  obtain rfl : r = 3 := by rw [← HR.out]; simp [pM, ]
  exact ⟨rfl, hB⟩
 obtain ⟨a7, a8, q⟩ := fF J; clear J
 by_cases L : (k : Int) = 2
 ·
  subst L
  go_wp2_with with_reducible refine so ?_
  go_returns
  have q0 := q.out
  obtain rfl : r = 3 := by rw [← HR.out]; simp [pM, q0]
  exact ⟨rfl, hB⟩
 obtain ⟨a9, b0, z⟩ := fF L; clear L
 by_cases O : (k : Int) = 11
 ·
  subst O
  go_wp2_with with_reducible refine so ?_
  go_returns
  have q0 := q.out
  have q1 := z.out
  obtain rfl : r = 2 := by rw [← HR.out]; simp [pM, q0, q1]
  exact ⟨rfl, hB⟩
 obtain ⟨b1, b2, C⟩ := fF O; clear O
 by_cases U : (k : Int) = 5
 ·
  subst U
  go_wp2_with with_reducible refine so ?_
  go_returns
  have q0 := q.out
  have q1 := z.out
  have q2 := C.out
  obtain rfl : r = 2 := by rw [← HR.out]; simp [pM, q0, q1, q2]
  exact ⟨rfl, hB⟩
 obtain ⟨b3, b4, D⟩ := fF U; clear U
 by_cases Z : (k : Int) = 12
 ·
  subst Z
  go_wp2_with with_reducible refine so ?_
  go_returns
  have q0 := q.out
  have q1 := z.out
  have q2 := C.out
  have q3 := D.out
  obtain rfl : r = 5 := by rw [← HR.out]; simp [pM, q0, q1, q2, q3]
  exact ⟨rfl, hB⟩
 obtain ⟨b5, b6, F⟩ := fF Z; clear Z
 by_cases a0 : (k : Int) = 3
 ·
  subst a0
  go_wp2_with with_reducible refine so ?_
  go_returns
  have q0 := q.out
  have q1 := z.out
  have q2 := C.out
  have q3 := D.out
  have q4 := F.out
  obtain rfl : r = 9 := by rw [← HR.out]; simp [pM, q0, q1, q2, q3, q4]
  exact ⟨rfl, hB⟩
 obtain ⟨b7, b8, I⟩ := fF a0; clear a0
 by_cases a1 : (k : Int) = 4
 ·
  subst a1
  go_wp2_with with_reducible refine so ?_
  go_returns
  have q0 := q.out
  have q1 := z.out
  have q2 := C.out
  have q3 := D.out
  have q4 := F.out
  have q5 := I.out
  obtain rfl : r = 9 := by rw [← HR.out]; simp [pM, q0, q1, q2, q3, q4, q5]
  exact ⟨rfl, hB⟩
 obtain ⟨b9, c0, a2⟩ := fF a1; clear a1
 by_cases a3 : (k : Int) = 13
 ·
  subst a3
  go_wp2_with with_reducible refine so ?_
  go_returns
  have q0 := q.out
  have q1 := z.out
  have q2 := C.out
  have q3 := D.out
  have q4 := F.out
  have q5 := I.out
  have q6 := a2.out
  obtain rfl : r = 9 := by rw [← HR.out]; simp [pM, q0, q1, q2, q3, q4, q5, q6]
  exact ⟨rfl, hB⟩
 obtain ⟨c4, c5, a5⟩ := fF a3; clear a3
 by_cases a4 : (k : Int) = 8
 ·
  subst a4
  go_wp2_with with_reducible refine so ?_
  go_returns
  have q0 := q.out
  have q1 := z.out
  have q2 := C.out
  have q3 := D.out
  have q4 := F.out
  have q5 := I.out
  have q6 := a2.out
  have q7 := a5.out
  obtain rfl : r = 16 := by rw [← HR.out]; simp [pM, q0, q1, q2, q3, q4, q5, q6, q7]
  exact ⟨rfl, hB⟩
 obtain ⟨c6, c7, a6⟩ := fF a4; clear a4
 go_wp2_with with_reducible refine so ?_
 go_returns
 have q0 := q.out
 have q1 := z.out
 have q2 := C.out
 have q3 := D.out
 have q4 := F.out
 have q5 := I.out
 have q6 := a2.out
 have q7 := a5.out
 have q8 := a6.out
 obtain rfl : r = 0 := by rw [← HR.out]; simp [pM, q0, q1, q2, q3, q4, q5, q6, q7, q8]
 exact ⟨rfl, hB⟩
set_option maxHeartbeats 2000000 in
theorem F0 (d : Sec) (w : World) :
  Calls Tryz.prog 114 #[.agg (aI d).toArray] w (fun e w' => e = .returned (.agg (aI (mV d)).toArray) ∧ Below w.heap.size w w') := by
 obtain ⟨r, hr⟩ : ∃ r, mV d = r := ⟨_, rfl⟩
 rw [hr]
 have HR := Lib.hid hr
 clear hr
 go_enter Tryz.func114, Tryz.ntmps114
 have hB := Below.refl w.heap.size w
 go_wp2_with with_reducible refine so ?_
 refine bF (ty := 43) (cs := (aI d).toArray) (fun g => .pointer (some ⟨g, 0, none⟩)) rfl (by kernel_rfl) ?_
 intro d5 i4 e1 d6 d7 q
 have i5 : w.heap.size ≤ d5 := Nat.le_trans hB.size d6
 replace hB := hB.trans (d7.mono hB.size)
 clear d7 d6 e1
 go_wp2_with with_reducible refine so ?_
 refine bF (ty := 43) (cs := (aI cL).toArray) (fun g => .pointer (some ⟨g, 0, none⟩)) rfl (by kernel_rfl) ?_
 intro c0 i6 e2 c4 c5 z
 have i7 : d5 < c0 := Nat.lt_of_lt_of_le q.lt c4
 have i8 : w.heap.size ≤ c0 := Nat.le_trans hB.size c4
 replace q := q.to c5 q.lt
 replace hB := hB.trans (c5.mono hB.size)
 clear c5 c4 e2
 have e3 := q.c 0 (.int .i64 d.kind)
 go_wp2_with with_reducible refine so ?_
 refine bF (ty := 43) (cs := (aI cL).toArray) (fun g => .pointer (some ⟨g, 0, none⟩)) rfl (by kernel_rfl) ?_
 intro d8 i9 e4 c6 L d9
 clear e3
 have j0 : c0 < d8 := Nat.lt_of_lt_of_le z.lt c6
 have j1 : w.heap.size ≤ d8 := Nat.le_trans hB.size c6
 replace q := q.to L q.lt
 replace z := z.to L z.lt
 replace hB := hB.trans (L.mono hB.size)
 clear L c6 e4
 go_wp2_with with_reducible refine so ?_
 refine sv _ d9 ?_
 intro j2 C O
 replace q := O.blk q (by omega)
 replace z := O.blk z (by omega)
 replace hB := O.below hB (by omega)
 clear d9 O
 by_cases U : (d.kind : Int) = 1
 ·
  obtain ⟨e5, e6, D⟩ := fT U; clear U
  have e7 := q.c 0 (.int .i64 d.kind)
  go_wp2_with first | with_reducible refine so ?_ | with_reducible refine ld 1 [.int .i64 d.feat.io, .bool d.feat.oob, .bool d.feat.bond, .bool d.feat.mitm, .bool d.feat.sid, .bool d.feat.tid] q U23 ?_
  refine sw 1 _ #[.int .i64 d.kind, .int .i64 d.feat.io, .bool d.feat.oob, .bool d.feat.bond, .bool d.feat.mitm, .bool d.feat.sid, .bool d.feat.tid, .int .u32 0, .int .u64 0, .int .i64 0, .int .u64 0, .int .u64 0, .int .i64 0] C ?_
  intro j3 c7 Z
  clear e7
  replace q := Z.blk q (by omega)
  replace z := Z.blk z (by omega)
  replace hB := Z.below hB (by omega)
  clear C Z
  go_wp2_with first | with_reducible refine so ?_ | with_reducible refine ld 0 [.int .i64 d.kind, .int .i64 d.feat.io, .bool d.feat.oob, .bool d.feat.bond, .bool d.feat.mitm, .bool d.feat.sid, .bool d.feat.tid, .int .u32 0, .int .u64 0, .int .i64 0, .int .u64 0, .int .u64 0, .int .i64 0] c7 U43 ?_
  refine sv _ z ?_
  intro j4 e8 a0
  replace q := a0.blk q (by omega)
  replace c7 := a0.blk c7 (by omega)
  replace hB := a0.below hB (by omega)
  clear z a0
  go_wp2_with with_reducible refine so ?_
  refine rc1 e8 U43 ?_
  have q0 := D.out
  obtain rfl : r = ⟨d.kind, ⟨d.feat.io, d.feat.oob, d.feat.bond, d.feat.mitm, d.feat.sid, d.feat.tid⟩, 0#32, 0#64, ⟨⟨0, 0#64⟩, 0#64⟩, 0⟩ := by rw [← HR.out]; simp [mV, cL, gH, kE, lH, q0]
  exact ⟨rfl, hB⟩
 obtain ⟨e5, e6, D⟩ := fF U; clear U
 by_cases a1 : (d.kind : Int) = 2
 ·
  obtain ⟨e9, f0, F⟩ := fT a1; clear a1
  have f1 := q.c 0 (.int .i64 d.kind)
  go_wp2_with first | with_reducible refine so ?_ | with_reducible refine ld 1 [.int .i64 d.feat.io, .bool d.feat.oob, .bool d.feat.bond, .bool d.feat.mitm, .bool d.feat.sid, .bool d.feat.tid] q U23 ?_
  refine sw 1 _ #[.int .i64 d.kind, .int .i64 d.feat.io, .bool d.feat.oob, .bool d.feat.bond, .bool d.feat.mitm, .bool d.feat.sid, .bool d.feat.tid, .int .u32 0, .int .u64 0, .int .i64 0, .int .u64 0, .int .u64 0, .int .i64 0] C ?_
  intro j5 c8 a2
  clear f1
  replace q := a2.blk q (by omega)
  replace z := a2.blk z (by omega)
  replace hB := a2.below hB (by omega)
  clear C a2
  go_wp2_with first | with_reducible refine so ?_ | with_reducible refine ld 0 [.int .i64 d.kind, .int .i64 d.feat.io, .bool d.feat.oob, .bool d.feat.bond, .bool d.feat.mitm, .bool d.feat.sid, .bool d.feat.tid, .int .u32 0, .int .u64 0, .int .i64 0, .int .u64 0, .int .u64 0, .int .i64 0] c8 U43 ?_
  refine sv _ z ?_
  intro j6 f2 a3
  replace q := a3.blk q (by omega)
  replace c8 := a3.blk c8 (by omega)
  replace hB := a3.below hB (by omega)
  clear z a3
  go_wp2_with with_reducible refine so ?_
  refine rc1 f2 U43 ?_
  have q0 := D.out
  have q1 := F.out
  obtain rfl : r = ⟨d.kind, ⟨d.feat.io, d.feat.oob, d.feat.bond, d.feat.mitm, d.feat.sid, d.feat.tid⟩, 0#32, 0#64, ⟨⟨0, 0#64⟩, 0#64⟩, 0⟩ := by rw [← HR.out]; simp [mV, cL, gH, kE, lH, q0, q1]
  exact ⟨rfl, hB⟩
 obtain ⟨e9, f0, F⟩ := fF a1; clear a1
 by_cases a4 : (d.kind : Int) = 11
 ·
  obtain ⟨f3, f4, I⟩ := fT a4; clear a4
  have f5 := q.c 0 (.int .i64 d.kind)
  have f6 := q.c 3 (.bool d.feat.bond)
  go_wp2_with with_reducible refine so ?_
  refine sx 3 _ #[.int .i64 d.kind, .int .i64 0, .bool false, .bool d.feat.bond, .bool false, .bool false, .bool false, .int .u32 0, .int .u64 0, .int .i64 0, .int .u64 0, .int .u64 0, .int .i64 0] C ?_
  intro j7 e0 a5
  clear f5 f6
  replace q := a5.blk q (by omega)
  replace z := a5.blk z (by omega)
  replace hB := a5.below hB (by omega)
  clear C a5
  have f7 := q.c 4 (.bool d.feat.mitm)
  go_wp2_with with_reducible refine so ?_
  refine sx 4 _ #[.int .i64 d.kind, .int .i64 0, .bool false, .bool d.feat.bond, .bool d.feat.mitm, .bool false, .bool false, .int .u32 0, .int .u64 0, .int .i64 0, .int .u64 0, .int .u64 0, .int .i64 0] e0 ?_
  intro j8 c9 a6
  clear f7
  replace q := a6.blk q (by omega)
  replace z := a6.blk z (by omega)
  replace hB := a6.below hB (by omega)
  clear e0 a6
  go_wp2_with first | with_reducible refine so ?_ | with_reducible refine ld 0 [.int .i64 d.kind, .int .i64 0, .bool false, .bool d.feat.bond, .bool d.feat.mitm, .bool false, .bool false, .int .u32 0, .int .u64 0, .int .i64 0, .int .u64 0, .int .u64 0, .int .i64 0] c9 U43 ?_
  refine sv _ z ?_
  intro j9 f8 a7
  replace q := a7.blk q (by omega)
  replace c9 := a7.blk c9 (by omega)
  replace hB := a7.below hB (by omega)
  clear z a7
  go_wp2_with with_reducible refine so ?_
  refine rc1 f8 U43 ?_
  have q0 := D.out
  have q1 := F.out
  have q2 := I.out
  obtain rfl : r = ⟨d.kind, ⟨0, false, d.feat.bond, d.feat.mitm, false, false⟩, 0#32, 0#64, ⟨⟨0, 0#64⟩, 0#64⟩, 0⟩ := by rw [← HR.out]; simp [mV, cL, gH, kE, lH, q0, q1, q2]
  exact ⟨rfl, hB⟩
 obtain ⟨f3, f4, I⟩ := fF a4; clear a4
 by_cases a8 : (d.kind : Int) = 5
 ·
  obtain ⟨f9, g0, J⟩ := fT a8; clear a8
  have g3 := q.c 0 (.int .i64 d.kind)
  have g4 := q.c 12 (.int .i64 d.reason)
  go_wp2_with with_reducible refine so ?_
  refine sx 12 _ #[.int .i64 d.kind, .int .i64 0, .bool false, .bool false, .bool false, .bool false, .bool false, .int .u32 0, .int .u64 0, .int .i64 0, .int .u64 0, .int .u64 0, .int .i64 d.reason] C ?_
  intro k0 d0 a9
  clear g3 g4
  replace q := a9.blk q (by omega)
  replace z := a9.blk z (by omega)
  replace hB := a9.below hB (by omega)
  clear C a9
  go_wp2_with first | with_reducible refine so ?_ | with_reducible refine ld 0 [.int .i64 d.kind, .int .i64 0, .bool false, .bool false, .bool false, .bool false, .bool false, .int .u32 0, .int .u64 0, .int .i64 0, .int .u64 0, .int .u64 0, .int .i64 d.reason] d0 U43 ?_
  refine sv _ z ?_
  intro k1 g5 b0
  replace q := b0.blk q (by omega)
  replace d0 := b0.blk d0 (by omega)
  replace hB := b0.below hB (by omega)
  clear z b0
  go_wp2_with with_reducible refine so ?_
  refine rc1 g5 U43 ?_
  have q0 := D.out
  have q1 := F.out
  have q2 := I.out
  have q3 := J.out
  obtain rfl : r = ⟨d.kind, ⟨0, false, false, false, false, false⟩, 0#32, 0#64, ⟨⟨0, 0#64⟩, 0#64⟩, d.reason⟩ := by rw [← HR.out]; simp [mV, cL, gH, kE, lH, q0, q1, q2, q3]
  exact ⟨rfl, hB⟩
 obtain ⟨f9, g0, J⟩ := fF a8; clear a8
 by_cases b1 : (d.kind : Int) = 12
 ·
  obtain ⟨g6, g7, b2⟩ := fT b1; clear b1
  have g8 := q.c 0 (.int .i64 d.kind)
  have g9 := q.c 7 (.int .u32 (W32 d.pub))
  go_wp2_with with_reducible refine so ?_
  refine sx 7 _ #[.int .i64 d.kind, .int .i64 0, .bool false, .bool false, .bool false, .bool false, .bool false, .int .u32 (W32 d.pub), .int .u64 0, .int .i64 0, .int .u64 0, .int .u64 0, .int .i64 0] C ?_
  intro k2 d1 b3
  clear g8 g9
  replace q := b3.blk q (by omega)
  replace z := b3.blk z (by omega)
  replace hB := b3.below hB (by omega)
  clear C b3
  go_wp2_with first | with_reducible refine so ?_ | with_reducible refine ld 0 [.int .i64 d.kind, .int .i64 0, .bool false, .bool false, .bool false, .bool false, .bool false, .int .u32 (W32 d.pub), .int .u64 0, .int .i64 0, .int .u64 0, .int .u64 0, .int .i64 0] d1 U43 ?_
  refine sv _ z ?_
  intro k3 h6 b4
  replace q := b4.blk q (by omega)
  replace d1 := b4.blk d1 (by omega)
  replace hB := b4.below hB (by omega)
  clear z b4
  go_wp2_with with_reducible refine so ?_
  refine rc1 h6 U43 ?_
  have q0 := D.out
  have q1 := F.out
  have q2 := I.out
  have q3 := J.out
  have q4 := b2.out
  obtain rfl : r = ⟨d.kind, ⟨0, false, false, false, false, false⟩, d.pub, 0#64, ⟨⟨0, 0#64⟩, 0#64⟩, 0⟩ := by rw [← HR.out]; simp [mV, cL, gH, kE, lH, q0, q1, q2, q3, q4]
  exact ⟨rfl, hB⟩
 obtain ⟨g6, g7, b2⟩ := fF b1; clear b1
 by_cases b5 : (d.kind : Int) = 8
 ·
  obtain ⟨h7, h8, d2⟩ := fT b5; clear b5
  have h9 := q.c 0 (.int .i64 d.kind)
  go_wp2_with first | with_reducible refine so ?_ | with_reducible refine ld 9 [.int .i64 d.idn.adr.kind, .int .u64 (W64 d.idn.adr.bits), .int .u64 (W64 d.idn.irk)] q U29 ?_
  refine sw 9 _ #[.int .i64 d.kind, .int .i64 0, .bool false, .bool false, .bool false, .bool false, .bool false, .int .u32 0, .int .u64 0, .int .i64 d.idn.adr.kind, .int .u64 (W64 d.idn.adr.bits), .int .u64 (W64 d.idn.irk), .int .i64 0] C ?_
  intro k4 d3 b6
  clear h9
  replace q := b6.blk q (by omega)
  replace z := b6.blk z (by omega)
  replace hB := b6.below hB (by omega)
  clear C b6
  go_wp2_with first | with_reducible refine so ?_ | with_reducible refine ld 0 [.int .i64 d.kind, .int .i64 0, .bool false, .bool false, .bool false, .bool false, .bool false, .int .u32 0, .int .u64 0, .int .i64 d.idn.adr.kind, .int .u64 (W64 d.idn.adr.bits), .int .u64 (W64 d.idn.irk), .int .i64 0] d3 U43 ?_
  refine sv _ z ?_
  intro k5 i0 b7
  replace q := b7.blk q (by omega)
  replace d3 := b7.blk d3 (by omega)
  replace hB := b7.below hB (by omega)
  clear z b7
  go_wp2_with with_reducible refine so ?_
  refine rc1 i0 U43 ?_
  have q0 := D.out
  have q1 := F.out
  have q2 := I.out
  have q3 := J.out
  have q4 := b2.out
  have q5 := d2.out
  obtain rfl : r = ⟨d.kind, ⟨0, false, false, false, false, false⟩, 0#32, 0#64, ⟨⟨d.idn.adr.kind, d.idn.adr.bits⟩, d.idn.irk⟩, 0⟩ := by rw [← HR.out]; simp [mV, cL, gH, kE, lH, q0, q1, q2, q3, q4, q5]
  exact ⟨rfl, hB⟩
 obtain ⟨h7, h8, d2⟩ := fF b5; clear b5
 have i1 := q.c 0 (.int .i64 d.kind)
 have i2 := q.c 8 (.int .u64 (W64 d.value))
 go_wp2_with with_reducible refine so ?_
 refine sx 8 _ #[.int .i64 d.kind, .int .i64 0, .bool false, .bool false, .bool false, .bool false, .bool false, .int .u32 0, .int .u64 (W64 d.value), .int .i64 0, .int .u64 0, .int .u64 0, .int .i64 0] C ?_
 intro k6 d4 b8
 clear i1 i2
 replace q := b8.blk q (by omega)
 replace z := b8.blk z (by omega)
 replace hB := b8.below hB (by omega)
 clear C b8
 go_wp2_with first | with_reducible refine so ?_ | with_reducible refine ld 0 [.int .i64 d.kind, .int .i64 0, .bool false, .bool false, .bool false, .bool false, .bool false, .int .u32 0, .int .u64 (W64 d.value), .int .i64 0, .int .u64 0, .int .u64 0, .int .i64 0] d4 U43 ?_
 refine sv _ z ?_
 intro k7 i3 b9
 replace q := b9.blk q (by omega)
 replace d4 := b9.blk d4 (by omega)
 replace hB := b9.below hB (by omega)
 clear z b9
 go_wp2_with with_reducible refine so ?_
 refine rc1 i3 U43 ?_
 have q0 := D.out
 have q1 := F.out
 have q2 := I.out
 have q3 := J.out
 have q4 := b2.out
 have q5 := d2.out
 obtain rfl : r = ⟨d.kind, ⟨0, false, false, false, false, false⟩, 0#32, d.value, ⟨⟨0, 0#64⟩, 0#64⟩, 0⟩ := by rw [← HR.out]; simp [mV, cL, gH, kE, lH, q0, q1, q2, q3, q4, q5]
 exact ⟨rfl, hB⟩
set_option maxHeartbeats 2000000 in
theorem EP (d : Sec) (w : World) :
  Calls Tryz.prog 91 #[.agg (aI d).toArray] w (fun e w' => e = .returned (.int .i64 (gD d)) ∧ Below w.heap.size w w') := by
 obtain ⟨r, hr⟩ : ∃ r, gD d = r := ⟨_, rfl⟩
 rw [hr]
 have HR := Lib.hid hr
 clear hr
 obtain ⟨U, hu⟩ : ∃ x, mV d = x := ⟨_, rfl⟩
 have US := Lib.hid (fun W => F0 d W)
 rw [hu] at US
 have HU := Lib.hid hu
 clear hu
 go_enter Tryz.func91, Tryz.ntmps91
 have hB := Below.refl w.heap.size w
 go_wp2_with with_reducible refine so ?_
 refine bF (ty := 43) (cs := (aI d).toArray) (fun g => .pointer (some ⟨g, 0, none⟩)) rfl (by kernel_rfl) ?_
 intro b3 d9 b4 b1 b2 q
 have e0 : w.heap.size ≤ b3 := Nat.le_trans hB.size b1
 replace hB := hB.trans (b2.mono hB.size)
 clear b2 b1 b4
 have b5 := q.c 0 (.int .i64 d.kind)
 go_wp2_with with_reducible refine so ?_
 refine (J1 d.kind _).mono ?_; rintro e e1 ⟨rfl, a6⟩
 clear b5
 replace q := q.to a6 q.lt
 replace hB := hB.trans (a6.mono hB.size)
 clear a6
 by_cases O : ((pM d.kind) : Int) = 0
 ·
  obtain ⟨b6, b7, z⟩ := fT O; clear O
  go_wp2_with with_reducible refine so ?_
  go_returns
  have q0 := z.out
  obtain rfl : r = 12 := by rw [← HR.out]; have hu := HU.out; have hq := iS d; rw [hu] at hq; (first | rw [if_neg (by assumption)] at hq | rw [if_pos (by assumption)] at hq); unfold gD; rw [hq]; first | (simp [q0]; done) | (simp [show ¬ U = d from fun h => q1 h.symm]; done) | (rw [← q1]; simp [q0]; done)
  exact ⟨rfl, hB⟩
 obtain ⟨b6, b7, z⟩ := fF O; clear O
 by_cases I : d = U
 rotate_left
 ·
  have b8 : decide (d = U) = false := decide_eq_false I
  have C := Lib.hid I
  clear I
  go_wp2_with with_reducible refine so ?_
  have hst := aB (bB hB) (bK q)
  refine aD _ 4 hst ⟨hB.drew, q⟩ ?_
  clear hB q
  refine dA 0 0 (aI d) (fun W hS => hS.2) U43 hst ?_
  refine dA 1 0 (aI d) (fun W hS => hS.2) U43 hst ?_
  refine aF 2 rfl hst (fun W hS K hK => by clear hS; go_simp; exact cl (US.out _) hK) ?_
  refine aA 3 hst ?_
  refine aE (fun e2 hS => ?_)
  obtain ⟨hB, q⟩ := hS
  clear hst
  go_wp2_with with_reducible refine so ?_
  go_returns
  have q0 := z.out
  have q1 := C.out
  obtain rfl : r = 1 := by rw [← HR.out]; have hu := HU.out; have hq := iS d; rw [hu] at hq; (first | rw [if_neg (by assumption)] at hq | rw [if_pos (by assumption)] at hq); unfold gD; rw [hq]; first | (simp [q0, q1]; done) | (simp [show ¬ U = d from fun h => q1 h.symm]; done) | (rw [← q1]; simp [q0]; done)
  exact ⟨rfl, hB⟩
 have b8 : decide (d = U) = true := decide_eq_true I
 have C := Lib.hid I
 clear I
 go_wp2_with with_reducible refine so ?_
 have hst := aB (bB hB) (bK q)
 refine aD _ 4 hst ⟨hB.drew, q⟩ ?_
 clear hB q
 refine dA 0 0 (aI d) (fun W hS => hS.2) U43 hst ?_
 refine dA 1 0 (aI d) (fun W hS => hS.2) U43 hst ?_
 refine aF 2 rfl hst (fun W hS K hK => by clear hS; go_simp; exact cl (US.out _) hK) ?_
 refine aA 3 hst ?_
 refine aE (fun e3 hS => ?_)
 obtain ⟨hB, q⟩ := hS
 clear hst
 by_cases Z : (d.kind : Int) = 1
 ·
  obtain ⟨b9, c0, D⟩ := fT Z; clear Z
  have c4 := q.c 0 (.int .i64 d.kind)
  go_wp2_with first | with_reducible refine so ?_ | with_reducible refine ld 1 [.int .i64 d.feat.io, .bool d.feat.oob, .bool d.feat.bond, .bool d.feat.mitm, .bool d.feat.sid, .bool d.feat.tid] q U23 ?_
  refine (jB d.feat _).mono ?_; rintro e e4 ⟨rfl, a7⟩
  clear c4
  replace q := q.to a7 q.lt
  replace hB := hB.trans (a7.mono hB.size)
  clear a7
  go_wp2_with with_reducible refine so ?_
  go_returns
  have q0 := z.out
  have q1 := C.out
  have q2 := D.out
  obtain rfl : r = (bO d.feat) := by rw [← HR.out]; have hu := HU.out; have hq := iS d; rw [hu] at hq; (first | rw [if_neg (by assumption)] at hq | rw [if_pos (by assumption)] at hq); unfold gD; rw [hq]; first | (simp [q0, q1, q2]; done) | (simp [show ¬ U = d from fun h => q1 h.symm]; done) | (rw [← q1]; simp [q0, q2]; done)
  exact ⟨rfl, hB⟩
 obtain ⟨b9, c0, D⟩ := fF Z; clear Z
 by_cases a0 : (d.kind : Int) = 2
 ·
  obtain ⟨c5, c6, F⟩ := fT a0; clear a0
  have c7 := q.c 0 (.int .i64 d.kind)
  go_wp2_with first | with_reducible refine so ?_ | with_reducible refine ld 1 [.int .i64 d.feat.io, .bool d.feat.oob, .bool d.feat.bond, .bool d.feat.mitm, .bool d.feat.sid, .bool d.feat.tid] q U23 ?_
  refine (jB d.feat _).mono ?_; rintro e e5 ⟨rfl, a8⟩
  clear c7
  replace q := q.to a8 q.lt
  replace hB := hB.trans (a8.mono hB.size)
  clear a8
  go_wp2_with with_reducible refine so ?_
  go_returns
  have q0 := z.out
  have q1 := C.out
  have q2 := D.out
  have q3 := F.out
  obtain rfl : r = (bO d.feat) := by rw [← HR.out]; have hu := HU.out; have hq := iS d; rw [hu] at hq; (first | rw [if_neg (by assumption)] at hq | rw [if_pos (by assumption)] at hq); unfold gD; rw [hq]; first | (simp [q0, q1, q2, q3]; done) | (simp [show ¬ U = d from fun h => q1 h.symm]; done) | (rw [← q1]; simp [q0, q2, q3]; done)
  exact ⟨rfl, hB⟩
 obtain ⟨c5, c6, F⟩ := fF a0; clear a0
 by_cases a1 : (d.kind : Int) = 8
 ·
  obtain ⟨c8, c9, J⟩ := fT a1; clear a1
  have d0 := q.c 0 (.int .i64 d.kind)
  go_wp2_with first | with_reducible refine so ?_ | with_reducible refine ld 9 [.int .i64 d.idn.adr.kind, .int .u64 (W64 d.idn.adr.bits), .int .u64 (W64 d.idn.irk)] q U29 ?_
  refine (BD d.idn _).mono ?_; rintro e e6 ⟨rfl, a9⟩
  clear d0
  replace q := q.to a9 q.lt
  replace hB := hB.trans (a9.mono hB.size)
  clear a9
  go_wp2_with with_reducible refine so ?_
  go_returns
  have q0 := z.out
  have q1 := C.out
  have q2 := D.out
  have q3 := F.out
  have q4 := J.out
  obtain rfl : r = (iA d.idn) := by rw [← HR.out]; have hu := HU.out; have hq := iS d; rw [hu] at hq; (first | rw [if_neg (by assumption)] at hq | rw [if_pos (by assumption)] at hq); unfold gD; rw [hq]; first | (simp [q0, q1, q2, q3, q4]; done) | (simp [show ¬ U = d from fun h => q1 h.symm]; done) | (rw [← q1]; simp [q0, q2, q3, q4]; done)
  exact ⟨rfl, hB⟩
 obtain ⟨c8, c9, J⟩ := fF a1; clear a1
 by_cases a2 : (d.kind : Int) = 5
 rotate_left
 ·
  obtain ⟨d1, d2, L⟩ := fF a2; clear a2
  have e7 := q.c 0 (.int .i64 d.kind)
  go_wp2_with with_reducible refine so ?_
  go_returns
  have q0 := z.out
  have q1 := C.out
  have q2 := D.out
  have q3 := F.out
  have q4 := J.out
  have q5 := L.out
  obtain rfl : r = 0 := by rw [← HR.out]; have hu := HU.out; have hq := iS d; rw [hu] at hq; (first | rw [if_neg (by assumption)] at hq | rw [if_pos (by assumption)] at hq); unfold gD; rw [hq]; first | (simp [q0, q1, q2, q3, q4, q5]; done) | (simp [show ¬ U = d from fun h => q1 h.symm]; done) | (rw [← q1]; simp [q0, q2, q3, q4, q5]; done)
  exact ⟨rfl, hB⟩
 obtain ⟨d1, d2, L⟩ := fT a2; clear a2
 by_cases a3 : (d.reason : Int) < 1
 ·
  obtain ⟨d3, d4, d5, a4⟩ := lT a3; clear a3
  have e8 := q.c 0 (.int .i64 d.kind)
  have e9 := q.c 12 (.int .i64 d.reason)
  go_wp2_with with_reducible refine so ?_
  go_returns
  have q0 := z.out
  have q1 := C.out
  have q2 := D.out
  have q3 := F.out
  have q4 := J.out
  have q5 := L.out
  have q6 := a4.out
  obtain rfl : r = 5 := by rw [← HR.out]; have hu := HU.out; have hq := iS d; rw [hu] at hq; (first | rw [if_neg (by assumption)] at hq | rw [if_pos (by assumption)] at hq); unfold gD; rw [hq]; first | (simp [q0, q1, q2, q3, q4, q5, q6]; done) | (simp [show ¬ U = d from fun h => q1 h.symm]; done) | (rw [← q1]; simp [q0, q2, q3, q4, q5, q6]; done)
  exact ⟨rfl, hB⟩
 obtain ⟨d3, d4, d5, a4⟩ := lF a3; clear a3
 by_cases a5 : (255 : Int) < d.reason
 ·
  obtain ⟨d6, d7, d8, b0⟩ := lT a5; clear a5
  have f0 := q.c 0 (.int .i64 d.kind)
  have f1 := q.c 12 (.int .i64 d.reason)
  go_wp2_with with_reducible refine so ?_
  go_returns
  have q0 := z.out
  have q1 := C.out
  have q2 := D.out
  have q3 := F.out
  have q4 := J.out
  have q5 := L.out
  have q6 := a4.out
  have q7 := b0.out
  obtain rfl : r = 5 := by rw [← HR.out]; have hu := HU.out; have hq := iS d; rw [hu] at hq; (first | rw [if_neg (by assumption)] at hq | rw [if_pos (by assumption)] at hq); unfold gD; rw [hq]; first | (simp [q0, q1, q2, q3, q4, q5, q6, q7]; done) | (simp [show ¬ U = d from fun h => q1 h.symm]; done) | (rw [← q1]; simp [q0, q2, q3, q4, q5, q6, q7]; done)
  exact ⟨rfl, hB⟩
 obtain ⟨d6, d7, d8, b0⟩ := lF a5; clear a5
 have f2 := q.c 0 (.int .i64 d.kind)
 have f3 := q.c 12 (.int .i64 d.reason)
 go_wp2_with with_reducible refine so ?_
 go_returns
 have q0 := z.out
 have q1 := C.out
 have q2 := D.out
 have q3 := F.out
 have q4 := J.out
 have q5 := L.out
 have q6 := a4.out
 have q7 := b0.out
 obtain rfl : r = 0 := by rw [← HR.out]; have hu := HU.out; have hq := iS d; rw [hu] at hq; (first | rw [if_neg (by assumption)] at hq | rw [if_pos (by assumption)] at hq); unfold gD; rw [hq]; first | (simp [q0, q1, q2, q3, q4, q5, q6, q7]; done) | (simp [show ¬ U = d from fun h => q1 h.symm]; done) | (rw [← q1]; simp [q0, q2, q3, q4, q5, q6, q7]; done)
 exact ⟨rfl, hB⟩
theorem tU (s p : BitVec 32) (w : World) : Calls Tryz.prog 141 #[.int .u32 (W32 s), .int .u32 (W32 p)] w fun e w' => e = .returned (.int .u32 (W32 (dO s p))) ∧ Below w.heap.size w w' := by
 have H := Lib.hid (fun W => vD p s W)
 go_enter Tryz.func141, Tryz.ntmps141
 go_wp2_with fail
 refine (H.out _).mono ?_; rintro e w' ⟨rfl, hb⟩
 go_wp2
 go_ret
 exact ⟨rfl, hb⟩
end Go.Proofs.YtihmbcnccdiecaaGreatDoor
