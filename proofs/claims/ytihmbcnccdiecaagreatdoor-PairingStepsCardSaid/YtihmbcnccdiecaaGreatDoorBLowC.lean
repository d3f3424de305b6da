/- Part of the proofs of the laws of pairing. -/
import Derived.Test.YtihmbcnccdiecaaGreatDoorBLowB
namespace Go.Proofs.YtihmbcnccdiecaaGreatDoor
set_option maxRecDepth 100000
set_option linter.unusedVariables false
set_option linter.unusedSimpArgs false
open Go.ChangeShapes Go.WideShapes Go.ChangeAt Go.RowKit
def jZ (d : Sec) : Sec × Bool := ((iZ d).getD cL, (iZ d).isSome)
theorem gG {d U : Sec} {ok : Bool} (h : jZ d = (U, ok)) : iZ d = if ok then some U else none := by
  unfold jZ at h
  injection h with h1 h2
  cases hk : iZ d with
  | none => rw [hk] at h2; subst h2; rfl
  | some x => rw [hk] at h1 h2; subst h2; simp at h1; subst h1; rfl
set_option maxHeartbeats 2000000 in
theorem JD (d : Sec) (w : World) :
  Calls Tryz.prog 38 #[.agg (aI d).toArray] w (fun e w' => e = .returned (.tuple #[.agg (aI (jZ d).1).toArray, .bool (jZ d).2]) ∧ Below w.heap.size w w') := by
 obtain ⟨r, hr⟩ : ∃ r, jZ d = r := ⟨_, rfl⟩
 rw [hr]
 have HR := Lib.hid hr
 clear hr
 go_enter Tryz.func38, Tryz.ntmps38
 have hB := Below.refl w.heap.size w
 go_wp2_with with_reducible refine so ?_
 refine bF (ty := 43) (cs := (aI d).toArray) (fun g => .pointer (some ⟨g, 0, none⟩)) rfl (by kernel_rfl) ?_
 intro e7 k9 f2 e8 e9 q
 have l0 : w.heap.size ≤ e7 := Nat.le_trans hB.size e8
 replace hB := hB.trans (e9.mono hB.size)
 clear e9 e8 f2
 go_wp2_with with_reducible refine so ?_
 refine bF (ty := 43) (cs := (aI cL).toArray) (fun g => .pointer (some ⟨g, 0, none⟩)) rfl (by kernel_rfl) ?_
 intro d3 l1 f3 d4 d5 z
 have l2 : e7 < d3 := Nat.lt_of_lt_of_le q.lt d4
 have l3 : w.heap.size ≤ d3 := Nat.le_trans hB.size d4
 replace q := q.to d5 q.lt
 replace hB := hB.trans (d5.mono hB.size)
 clear d5 d4 f3
 have f4 := q.c 0 (.int .i64 d.kind)
 go_wp2_with with_reducible refine so ?_
 refine bF (ty := 43) (cs := (aI cL).toArray) (fun g => .pointer (some ⟨g, 0, none⟩)) rfl (by kernel_rfl) ?_
 intro f0 l4 f5 d6 Z f1
 clear f4
 have l5 : d3 < f0 := Nat.lt_of_lt_of_le z.lt d6
 have l6 : w.heap.size ≤ f0 := Nat.le_trans hB.size d6
 replace q := q.to Z q.lt
 replace z := z.to Z z.lt
 replace hB := hB.trans (Z.mono hB.size)
 clear Z d6 f5
 go_wp2_with with_reducible refine so ?_
 refine sv _ f1 ?_
 intro l7 C a0
 replace q := a0.blk q (by omega)
 replace z := a0.blk z (by omega)
 replace hB := a0.below hB (by omega)
 clear f1 a0
 by_cases a1 : (d.kind : Int) = 1
 ·
  obtain ⟨f6, f7, D⟩ := fT a1; clear a1
  have f8 := q.c 0 (.int .i64 d.kind)
  go_wp2_with first | with_reducible refine so ?_ | with_reducible refine ld 1 (bL d.feat) q U23 ?_
  refine sw 1 _ #[.int .i64 d.kind, .int .i64 d.feat.io, .bool d.feat.oob, .bool d.feat.bond, .bool d.feat.mitm, .bool d.feat.sid, .bool d.feat.tid, .int .u32 0, .int .u64 0, .int .i64 0, .int .u64 0, .int .u64 0, .int .i64 0] C ?_
  intro l8 d7 a2
  clear f8
  replace q := a2.blk q (by omega)
  replace z := a2.blk z (by omega)
  replace hB := a2.below hB (by omega)
  clear C a2
  go_wp2_with first | with_reducible refine so ?_ | with_reducible refine ld 0 [.int .i64 d.kind, .int .i64 d.feat.io, .bool d.feat.oob, .bool d.feat.bond, .bool d.feat.mitm, .bool d.feat.sid, .bool d.feat.tid, .int .u32 0, .int .u64 0, .int .i64 0, .int .u64 0, .int .u64 0, .int .i64 0] d7 U43 ?_
  refine sv _ z ?_
  intro l9 f9 a3
  replace q := a3.blk q (by omega)
  replace d7 := a3.blk d7 (by omega)
  replace hB := a3.below hB (by omega)
  clear z a3
  go_wp2_with with_reducible refine so ?_
  refine rc2 f9 U43 ?_
  have q0 := D.out
  obtain rfl : r = (⟨d.kind, ⟨d.feat.io, d.feat.oob, d.feat.bond, d.feat.mitm, d.feat.sid, d.feat.tid⟩, 0#32, 0#64, ⟨⟨0, 0#64⟩, 0#64⟩, 0⟩, true) := by rw [← HR.out]; simp [jZ, iZ, cL, gH, kE, lH, q0]
  exact ⟨rfl, hB⟩
 obtain ⟨f6, f7, D⟩ := fF a1; clear a1
 by_cases a4 : (d.kind : Int) = 2
 ·
  obtain ⟨g0, g3, F⟩ := fT a4; clear a4
  have g4 := q.c 0 (.int .i64 d.kind)
  go_wp2_with first | with_reducible refine so ?_ | with_reducible refine ld 1 (bL d.feat) q U23 ?_
  refine sw 1 _ #[.int .i64 d.kind, .int .i64 d.feat.io, .bool d.feat.oob, .bool d.feat.bond, .bool d.feat.mitm, .bool d.feat.sid, .bool d.feat.tid, .int .u32 0, .int .u64 0, .int .i64 0, .int .u64 0, .int .u64 0, .int .i64 0] C ?_
  intro m0 d8 a5
  clear g4
  replace q := a5.blk q (by omega)
  replace z := a5.blk z (by omega)
  replace hB := a5.below hB (by omega)
  clear C a5
  go_wp2_with first | with_reducible refine so ?_ | with_reducible refine ld 0 [.int .i64 d.kind, .int .i64 d.feat.io, .bool d.feat.oob, .bool d.feat.bond, .bool d.feat.mitm, .bool d.feat.sid, .bool d.feat.tid, .int .u32 0, .int .u64 0, .int .i64 0, .int .u64 0, .int .u64 0, .int .i64 0] d8 U43 ?_
  refine sv _ z ?_
  intro m1 g5 a6
  replace q := a6.blk q (by omega)
  replace d8 := a6.blk d8 (by omega)
  replace hB := a6.below hB (by omega)
  clear z a6
  go_wp2_with with_reducible refine so ?_
  refine rc2 g5 U43 ?_
  have q0 := D.out
  have q1 := F.out
  obtain rfl : r = (⟨d.kind, ⟨d.feat.io, d.feat.oob, d.feat.bond, d.feat.mitm, d.feat.sid, d.feat.tid⟩, 0#32, 0#64, ⟨⟨0, 0#64⟩, 0#64⟩, 0⟩, true) := by rw [← HR.out]; simp [jZ, iZ, cL, gH, kE, lH, q0, q1]
  exact ⟨rfl, hB⟩
 obtain ⟨g0, g3, F⟩ := fF a4; clear a4
 by_cases a7 : (d.kind : Int) = 11
 ·
  obtain ⟨g6, g7, I⟩ := fT a7; clear a7
  have g8 := q.c 0 (.int .i64 d.kind)
  have g9 := q.c 3 (.bool d.feat.bond)
  have h6 := q.c 4 (.bool d.feat.mitm)
  go_wp2_with with_reducible refine so ?_
  refine sw 1 _ #[.int .i64 d.kind, .int .i64 0, .bool false, .bool d.feat.bond, .bool d.feat.mitm, .bool false, .bool false, .int .u32 0, .int .u64 0, .int .i64 0, .int .u64 0, .int .u64 0, .int .i64 0] C ?_
  intro m2 d9 a8
  clear g8 g9 h6
  replace q := a8.blk q (by omega)
  replace z := a8.blk z (by omega)
  replace hB := a8.below hB (by omega)
  clear C a8
  go_wp2_with first | with_reducible refine so ?_ | with_reducible refine ld 0 [.int .i64 d.kind, .int .i64 0, .bool false, .bool d.feat.bond, .bool d.feat.mitm, .bool false, .bool false, .int .u32 0, .int .u64 0, .int .i64 0, .int .u64 0, .int .u64 0, .int .i64 0] d9 U43 ?_
  refine sv _ z ?_
  intro m3 h7 a9
  replace q := a9.blk q (by omega)
  replace d9 := a9.blk d9 (by omega)
  replace hB := a9.below hB (by omega)
  clear z a9
  go_wp2_with with_reducible refine so ?_
  refine rc2 h7 U43 ?_
  have q0 := D.out
  have q1 := F.out
  have q2 := I.out
  obtain rfl : r = (⟨d.kind, ⟨0, false, d.feat.bond, d.feat.mitm, false, false⟩, 0#32, 0#64, ⟨⟨0, 0#64⟩, 0#64⟩, 0⟩, true) := by rw [← HR.out]; simp [jZ, iZ, cL, gH, kE, lH, q0, q1, q2]
  exact ⟨rfl, hB⟩
 obtain ⟨g6, g7, I⟩ := fF a7; clear a7
 by_cases b0 : (d.kind : Int) = 12
 ·
  obtain ⟨h8, h9, J⟩ := fT b0; clear b0
  have i0 := q.c 0 (.int .i64 d.kind)
  have i1 := q.c 7 (.int .u32 (W32 d.pub))
  go_wp2_with with_reducible refine so ?_
  refine sx 7 _ #[.int .i64 d.kind, .int .i64 0, .bool false, .bool false, .bool false, .bool false, .bool false, .int .u32 (W32 d.pub), .int .u64 0, .int .i64 0, .int .u64 0, .int .u64 0, .int .i64 0] C ?_
  intro m4 e0 b1
  clear i0 i1
  replace q := b1.blk q (by omega)
  replace z := b1.blk z (by omega)
  replace hB := b1.below hB (by omega)
  clear C b1
  go_wp2_with first | with_reducible refine so ?_ | with_reducible refine ld 0 [.int .i64 d.kind, .int .i64 0, .bool false, .bool false, .bool false, .bool false, .bool false, .int .u32 (W32 d.pub), .int .u64 0, .int .i64 0, .int .u64 0, .int .u64 0, .int .i64 0] e0 U43 ?_
  refine sv _ z ?_
  intro m5 i2 b2
  replace q := b2.blk q (by omega)
  replace e0 := b2.blk e0 (by omega)
  replace hB := b2.below hB (by omega)
  clear z b2
  go_wp2_with with_reducible refine so ?_
  refine rc2 i2 U43 ?_
  have q0 := D.out
  have q1 := F.out
  have q2 := I.out
  have q3 := J.out
  obtain rfl : r = (⟨d.kind, ⟨0, false, false, false, false, false⟩, d.pub, 0#64, ⟨⟨0, 0#64⟩, 0#64⟩, 0⟩, true) := by rw [← HR.out]; simp [jZ, iZ, cL, gH, kE, lH, q0, q1, q2, q3]
  exact ⟨rfl, hB⟩
 obtain ⟨h8, h9, J⟩ := fF b0; clear b0
 by_cases b3 : (d.kind : Int) = 3
 ·
  obtain ⟨i3, i4, L⟩ := fT b3; clear b3
  have i5 := q.c 0 (.int .i64 d.kind)
  have i6 := q.c 8 (.int .u64 (W64 d.value))
  go_wp2_with with_reducible refine so ?_
  refine sx 8 _ #[.int .i64 d.kind, .int .i64 0, .bool false, .bool false, .bool false, .bool false, .bool false, .int .u32 0, .int .u64 (W64 d.value), .int .i64 0, .int .u64 0, .int .u64 0, .int .i64 0] C ?_
  intro m6 e1 b4
  clear i5 i6
  replace q := b4.blk q (by omega)
  replace z := b4.blk z (by omega)
  replace hB := b4.below hB (by omega)
  clear C b4
  go_wp2_with first | with_reducible refine so ?_ | with_reducible refine ld 0 [.int .i64 d.kind, .int .i64 0, .bool false, .bool false, .bool false, .bool false, .bool false, .int .u32 0, .int .u64 (W64 d.value), .int .i64 0, .int .u64 0, .int .u64 0, .int .i64 0] e1 U43 ?_
  refine sv _ z ?_
  intro m7 i7 b5
  replace q := b5.blk q (by omega)
  replace e1 := b5.blk e1 (by omega)
  replace hB := b5.below hB (by omega)
  clear z b5
  go_wp2_with with_reducible refine so ?_
  refine rc2 i7 U43 ?_
  have q0 := D.out
  have q1 := F.out
  have q2 := I.out
  have q3 := J.out
  have q4 := L.out
  obtain rfl : r = (⟨d.kind, ⟨0, false, false, false, false, false⟩, 0#32, d.value, ⟨⟨0, 0#64⟩, 0#64⟩, 0⟩, true) := by rw [← HR.out]; simp [jZ, iZ, cL, gH, kE, lH, q0, q1, q2, q3, q4]
  exact ⟨rfl, hB⟩
 obtain ⟨i3, i4, L⟩ := fF b3; clear b3
 by_cases b6 : (d.kind : Int) = 4
 ·
  obtain ⟨i8, i9, O⟩ := fT b6; clear b6
  have j0 := q.c 0 (.int .i64 d.kind)
  have j1 := q.c 8 (.int .u64 (W64 d.value))
  go_wp2_with with_reducible refine so ?_
  refine sx 8 _ #[.int .i64 d.kind, .int .i64 0, .bool false, .bool false, .bool false, .bool false, .bool false, .int .u32 0, .int .u64 (W64 d.value), .int .i64 0, .int .u64 0, .int .u64 0, .int .i64 0] C ?_
  intro m8 e2 b7
  clear j0 j1
  replace q := b7.blk q (by omega)
  replace z := b7.blk z (by omega)
  replace hB := b7.below hB (by omega)
  clear C b7
  go_wp2_with first | with_reducible refine so ?_ | with_reducible refine ld 0 [.int .i64 d.kind, .int .i64 0, .bool false, .bool false, .bool false, .bool false, .bool false, .int .u32 0, .int .u64 (W64 d.value), .int .i64 0, .int .u64 0, .int .u64 0, .int .i64 0] e2 U43 ?_
  refine sv _ z ?_
  intro m9 j2 b8
  replace q := b8.blk q (by omega)
  replace e2 := b8.blk e2 (by omega)
  replace hB := b8.below hB (by omega)
  clear z b8
  go_wp2_with with_reducible refine so ?_
  refine rc2 j2 U43 ?_
  have q0 := D.out
  have q1 := F.out
  have q2 := I.out
  have q3 := J.out
  have q4 := L.out
  have q5 := O.out
  obtain rfl : r = (⟨d.kind, ⟨0, false, false, false, false, false⟩, 0#32, d.value, ⟨⟨0, 0#64⟩, 0#64⟩, 0⟩, true) := by rw [← HR.out]; simp [jZ, iZ, cL, gH, kE, lH, q0, q1, q2, q3, q4, q5]
  exact ⟨rfl, hB⟩
 obtain ⟨i8, i9, O⟩ := fF b6; clear b6
 by_cases b9 : (d.kind : Int) = 13
 ·
  obtain ⟨j3, j4, U⟩ := fT b9; clear b9
  have j5 := q.c 0 (.int .i64 d.kind)
  have j6 := q.c 8 (.int .u64 (W64 d.value))
  go_wp2_with with_reducible refine so ?_
  refine sx 8 _ #[.int .i64 d.kind, .int .i64 0, .bool false, .bool false, .bool false, .bool false, .bool false, .int .u32 0, .int .u64 (W64 d.value), .int .i64 0, .int .u64 0, .int .u64 0, .int .i64 0] C ?_
  intro n0 e3 c0
  clear j5 j6
  replace q := c0.blk q (by omega)
  replace z := c0.blk z (by omega)
  replace hB := c0.below hB (by omega)
  clear C c0
  go_wp2_with first | with_reducible refine so ?_ | with_reducible refine ld 0 [.int .i64 d.kind, .int .i64 0, .bool false, .bool false, .bool false, .bool false, .bool false, .int .u32 0, .int .u64 (W64 d.value), .int .i64 0, .int .u64 0, .int .u64 0, .int .i64 0] e3 U43 ?_
  refine sv _ z ?_
  intro n1 j7 c4
  replace q := c4.blk q (by omega)
  replace e3 := c4.blk e3 (by omega)
  replace hB := c4.below hB (by omega)
  clear z c4
  go_wp2_with with_reducible refine so ?_
  refine rc2 j7 U43 ?_
  have q0 := D.out
  have q1 := F.out
  have q2 := I.out
  have q3 := J.out
  have q4 := L.out
  have q5 := O.out
  have q6 := U.out
  obtain rfl : r = (⟨d.kind, ⟨0, false, false, false, false, false⟩, 0#32, d.value, ⟨⟨0, 0#64⟩, 0#64⟩, 0⟩, true) := by rw [← HR.out]; simp [jZ, iZ, cL, gH, kE, lH, q0, q1, q2, q3, q4, q5, q6]
  exact ⟨rfl, hB⟩
 obtain ⟨j3, j4, U⟩ := fF b9; clear b9
 by_cases c5 : (d.kind : Int) = 8
 ·
  obtain ⟨j8, j9, c6⟩ := fT c5; clear c5
  have k0 := q.c 0 (.int .i64 d.kind)
  go_wp2_with first | with_reducible refine so ?_ | with_reducible refine ld 9 (I0 d.idn) q U29 ?_
  refine sw 9 _ #[.int .i64 d.kind, .int .i64 0, .bool false, .bool false, .bool false, .bool false, .bool false, .int .u32 0, .int .u64 0, .int .i64 d.idn.adr.kind, .int .u64 (W64 d.idn.adr.bits), .int .u64 (W64 d.idn.irk), .int .i64 0] C ?_
  intro n2 e4 c7
  clear k0
  replace q := c7.blk q (by omega)
  replace z := c7.blk z (by omega)
  replace hB := c7.below hB (by omega)
  clear C c7
  go_wp2_with first | with_reducible refine so ?_ | with_reducible refine ld 0 [.int .i64 d.kind, .int .i64 0, .bool false, .bool false, .bool false, .bool false, .bool false, .int .u32 0, .int .u64 0, .int .i64 d.idn.adr.kind, .int .u64 (W64 d.idn.adr.bits), .int .u64 (W64 d.idn.irk), .int .i64 0] e4 U43 ?_
  refine sv _ z ?_
  intro n3 k1 c8
  replace q := c8.blk q (by omega)
  replace e4 := c8.blk e4 (by omega)
  replace hB := c8.below hB (by omega)
  clear z c8
  go_wp2_with with_reducible refine so ?_
  refine rc2 k1 U43 ?_
  have q0 := D.out
  have q1 := F.out
  have q2 := I.out
  have q3 := J.out
  have q4 := L.out
  have q5 := O.out
  have q6 := U.out
  have q7 := c6.out
  obtain rfl : r = (⟨d.kind, ⟨0, false, false, false, false, false⟩, 0#32, 0#64, ⟨⟨d.idn.adr.kind, d.idn.adr.bits⟩, d.idn.irk⟩, 0⟩, true) := by rw [← HR.out]; simp [jZ, iZ, cL, gH, kE, lH, q0, q1, q2, q3, q4, q5, q6, q7]
  exact ⟨rfl, hB⟩
 obtain ⟨j8, j9, c6⟩ := fF c5; clear c5
 by_cases c9 : (d.kind : Int) = 5
 rotate_left
 ·
  obtain ⟨k2, k3, e5⟩ := fF c9; clear c9
  have k4 := q.c 0 (.int .i64 d.kind)
  go_wp2_with with_reducible refine so ?_
  refine sv _ z ?_
  intro n4 k5 d0
  clear k4
  replace q := d0.blk q (by omega)
  replace C := d0.blk C (by omega)
  replace hB := d0.below hB (by omega)
  clear z d0
  go_wp2_with with_reducible refine so ?_
  refine rc2 k5 U43 ?_
  have q0 := D.out
  have q1 := F.out
  have q2 := I.out
  have q3 := J.out
  have q4 := L.out
  have q5 := O.out
  have q6 := U.out
  have q7 := c6.out
  have q8 := e5.out
  obtain rfl : r = (⟨0, ⟨0, false, false, false, false, false⟩, 0#32, 0#64, ⟨⟨0, 0#64⟩, 0#64⟩, 0⟩, false) := by rw [← HR.out]; simp [jZ, iZ, cL, gH, kE, lH, q0, q1, q2, q3, q4, q5, q6, q7, q8]
  exact ⟨rfl, hB⟩
 obtain ⟨k2, k3, e5⟩ := fT c9; clear c9
 have k6 := q.c 0 (.int .i64 d.kind)
 have k7 := q.c 12 (.int .i64 d.reason)
 go_wp2_with with_reducible refine so ?_
 refine sx 12 _ #[.int .i64 d.kind, .int .i64 0, .bool false, .bool false, .bool false, .bool false, .bool false, .int .u32 0, .int .u64 0, .int .i64 0, .int .u64 0, .int .u64 0, .int .i64 d.reason] C ?_
 intro n5 e6 d1
 clear k6 k7
 replace q := d1.blk q (by omega)
 replace z := d1.blk z (by omega)
 replace hB := d1.below hB (by omega)
 clear C d1
 go_wp2_with first | with_reducible refine so ?_ | with_reducible refine ld 0 [.int .i64 d.kind, .int .i64 0, .bool false, .bool false, .bool false, .bool false, .bool false, .int .u32 0, .int .u64 0, .int .i64 0, .int .u64 0, .int .u64 0, .int .i64 d.reason] e6 U43 ?_
 refine sv _ z ?_
 intro n6 k8 d2
 replace q := d2.blk q (by omega)
 replace e6 := d2.blk e6 (by omega)
 replace hB := d2.below hB (by omega)
 clear z d2
 go_wp2_with with_reducible refine so ?_
 refine rc2 k8 U43 ?_
 have q0 := D.out
 have q1 := F.out
 have q2 := I.out
 have q3 := J.out
 have q4 := L.out
 have q5 := O.out
 have q6 := U.out
 have q7 := c6.out
 have q8 := e5.out
 obtain rfl : r = (⟨d.kind, ⟨0, false, false, false, false, false⟩, 0#32, 0#64, ⟨⟨0, 0#64⟩, 0#64⟩, d.reason⟩, true) := by rw [← HR.out]; simp [jZ, iZ, cL, gH, kE, lH, q0, q1, q2, q3, q4, q5, q6, q7, q8]
 exact ⟨rfl, hB⟩
set_option maxHeartbeats 2000000 in
theorem jM (d : Sec) (w : World) (HL : bW w) :
  Calls Tryz.prog 16 #[.agg (aI d).toArray] w (fun e w' => e = .returned (.int .i64 (gD d)) ∧ Below w.heap.size w w') := by
 obtain ⟨r, hr⟩ : ∃ r, gD d = r := ⟨_, rfl⟩
 rw [hr]
 have HR := Lib.hid hr
 clear hr
 obtain ⟨⟨U, ok⟩, hu⟩ : ∃ x, jZ d = x := ⟨_, rfl⟩
 have US := Lib.hid (fun W => JD d W)
 rw [hu] at US
 dsimp only at US
 have HU := Lib.hid hu
 clear hu
 have HZ := HL.lt
 go_enter Tryz.func16, Tryz.ntmps16
 have hB := Below.refl w.heap.size w
 go_wp2_with with_reducible refine so ?_
 refine bF (ty := 43) (cs := (aI d).toArray) (fun g => .pointer (some ⟨g, 0, none⟩)) rfl (by kernel_rfl) ?_
 intro c0 f3 c7 c4 b6 q
 have f4 : w.heap.size ≤ c0 := Nat.le_trans hB.size c4
 replace HL := bW.to HL b6
 replace hB := hB.trans (b6.mono hB.size)
 clear b6 c4 c7
 go_wp2_with first | with_reducible refine so ?_ | with_reducible refine ld 0 (aI d) q U43 ?_
 refine (US.out _).mono ?_; rintro e f5 ⟨rfl, a2⟩
 replace q := q.to a2 q.lt
 replace HL := bW.to HL a2
 replace hB := hB.trans (a2.mono hB.size)
 clear a2
 go_wp2_with with_reducible refine so ?_
 refine bF (ty := 43) (cs := (aI cL).toArray) (fun g => .pointer (some ⟨g, 0, none⟩)) rfl (by kernel_rfl) ?_
 intro c5 f6 c8 b7 a3 c6
 have f7 : c0 < c5 := Nat.lt_of_lt_of_le q.lt b7
 have f8 : w.heap.size ≤ c5 := Nat.le_trans hB.size b7
 replace q := q.to a3 q.lt
 replace HL := bW.to HL a3
 replace hB := hB.trans (a3.mono hB.size)
 clear a3 b7 c8
 go_wp2_with with_reducible refine so ?_
 refine sv _ c6 ?_
 intro f9 z a4
 replace q := a4.blk q (by omega)
 replace HL := bW.upd HL a4 (by omega)
 replace hB := a4.below hB (by omega)
 clear c6 a4
 cases ok
 case false =>
  go_wp2_with with_reducible refine so ?_
  go_returns
  obtain rfl : r = 12 := by rw [← HR.out]; have hu := HU.out; simp [gD, iA, gG hu, ] <;> rfl
  exact ⟨rfl, hB⟩
 case true =>
  by_cases J : U = d
  rotate_left
  ·
   have c9 : decide (U = d) = false := decide_eq_false J
   have C := Lib.hid J
   clear J
   go_wp2_with first | with_reducible refine so ?_ | with_reducible refine ld 0 (aI U) z U43 ?_ | with_reducible refine ld 0 (aI d) q U43 ?_
   go_returns
   have q0 := C.out
   obtain rfl : r = 1 := by rw [← HR.out]; have hu := HU.out; simp [gD, iA, gG hu, q0] <;> rfl
   exact ⟨rfl, hB⟩
  have c9 : decide (U = d) = true := decide_eq_true J
  have C := Lib.hid J
  clear J
  by_cases a5 : (d.kind : Int) = 1
  ·
   obtain ⟨d0, d1, D⟩ := fT a5; clear a5
   have d2 := q.c 0 (.int .i64 d.kind)
   go_wp2_with first | with_reducible refine so ?_ | with_reducible refine ld 0 (aI U) z U43 ?_ | with_reducible refine ld 0 (aI d) q U43 ?_ | with_reducible refine ld 1 (bL d.feat) q U23 ?_
   refine (iT d.feat _).mono ?_; rintro e g0 ⟨rfl, L⟩
   clear d2
   replace q := q.to L q.lt
   replace z := z.to L z.lt
   replace HL := bW.to HL L
   replace hB := hB.trans (L.mono hB.size)
   clear L
   go_wp2_with with_reducible refine so ?_
   go_returns
   have q0 := C.out
   have q1 := D.out
   obtain rfl : r = bO d.feat := by rw [← HR.out]; have hu := HU.out; simp [gD, iA, gG hu, q0, q1] <;> rfl
   exact ⟨rfl, hB⟩
  obtain ⟨d0, d1, D⟩ := fF a5; clear a5
  by_cases a6 : (d.kind : Int) = 2
  ·
   obtain ⟨d3, d4, F⟩ := fT a6; clear a6
   have d5 := q.c 0 (.int .i64 d.kind)
   go_wp2_with first | with_reducible refine so ?_ | with_reducible refine ld 0 (aI U) z U43 ?_ | with_reducible refine ld 0 (aI d) q U43 ?_ | with_reducible refine ld 1 (bL d.feat) q U23 ?_
   refine (iT d.feat _).mono ?_; rintro e g3 ⟨rfl, O⟩
   clear d5
   replace q := q.to O q.lt
   replace z := z.to O z.lt
   replace HL := bW.to HL O
   replace hB := hB.trans (O.mono hB.size)
   clear O
   go_wp2_with with_reducible refine so ?_
   go_returns
   have q0 := C.out
   have q1 := D.out
   have q2 := F.out
   obtain rfl : r = bO d.feat := by rw [← HR.out]; have hu := HU.out; simp [gD, iA, gG hu, q0, q1, q2] <;> rfl
   exact ⟨rfl, hB⟩
  obtain ⟨d3, d4, F⟩ := fF a6; clear a6
  by_cases a7 : (d.kind : Int) = 8
  rotate_left
  ·
   obtain ⟨d6, d7, I⟩ := fF a7; clear a7
   by_cases a8 : (d.kind : Int) = 5
   rotate_left
   ·
    obtain ⟨d8, d9, Z⟩ := fF a8; clear a8
    have g4 := q.c 0 (.int .i64 d.kind)
    go_wp2_with first | with_reducible refine so ?_ | with_reducible refine ld 0 (aI U) z U43 ?_ | with_reducible refine ld 0 (aI d) q U43 ?_
    go_returns
    have q0 := C.out
    have q1 := D.out
    have q2 := F.out
    have q3 := I.out
    have q4 := Z.out
    obtain rfl : r = 0 := by rw [← HR.out]; have hu := HU.out; simp [gD, iA, gG hu, q0, q1, q2, q3, q4] <;> rfl
    exact ⟨rfl, hB⟩
   obtain ⟨d8, d9, Z⟩ := fT a8; clear a8
   by_cases a9 : (d.reason : Int) < 1
   ·
    obtain ⟨e0, e1, e2, b0⟩ := lT a9; clear a9
    have g5 := q.c 0 (.int .i64 d.kind)
    have g6 := q.c 12 (.int .i64 d.reason)
    go_wp2_with first | with_reducible refine so ?_ | with_reducible refine ld 0 (aI U) z U43 ?_ | with_reducible refine ld 0 (aI d) q U43 ?_
    go_returns
    have q0 := C.out
    have q1 := D.out
    have q2 := F.out
    have q3 := I.out
    have q4 := Z.out
    have q5 := b0.out
    obtain rfl : r = 5 := by rw [← HR.out]; have hu := HU.out; simp [gD, iA, gG hu, q0, q1, q2, q3, q4, q5] <;> rfl
    exact ⟨rfl, hB⟩
   obtain ⟨e0, e1, e2, b0⟩ := lF a9; clear a9
   by_cases b1 : (255 : Int) < d.reason
   ·
    obtain ⟨e3, e4, e5, b8⟩ := lT b1; clear b1
    have g7 := q.c 0 (.int .i64 d.kind)
    have g8 := q.c 12 (.int .i64 d.reason)
    go_wp2_with first | with_reducible refine so ?_ | with_reducible refine ld 0 (aI U) z U43 ?_ | with_reducible refine ld 0 (aI d) q U43 ?_
    go_returns
    have q0 := C.out
    have q1 := D.out
    have q2 := F.out
    have q3 := I.out
    have q4 := Z.out
    have q5 := b0.out
    have q6 := b8.out
    obtain rfl : r = 5 := by rw [← HR.out]; have hu := HU.out; simp [gD, iA, gG hu, q0, q1, q2, q3, q4, q5, q6] <;> rfl
    exact ⟨rfl, hB⟩
   obtain ⟨e3, e4, e5, b8⟩ := lF b1; clear b1
   have g9 := q.c 0 (.int .i64 d.kind)
   have h6 := q.c 12 (.int .i64 d.reason)
   go_wp2_with first | with_reducible refine so ?_ | with_reducible refine ld 0 (aI U) z U43 ?_ | with_reducible refine ld 0 (aI d) q U43 ?_
   go_returns
   have q0 := C.out
   have q1 := D.out
   have q2 := F.out
   have q3 := I.out
   have q4 := Z.out
   have q5 := b0.out
   have q6 := b8.out
   obtain rfl : r = 0 := by rw [← HR.out]; have hu := HU.out; simp [gD, iA, gG hu, q0, q1, q2, q3, q4, q5, q6] <;> rfl
   exact ⟨rfl, hB⟩
  obtain ⟨d6, d7, I⟩ := fT a7; clear a7
  have e6 := q.c 0 (.int .i64 d.kind)
  go_wp2_with first | with_reducible refine so ?_ | with_reducible refine ld 0 (aI U) z U43 ?_ | with_reducible refine ld 0 (aI d) q U43 ?_ | with_reducible refine ld 9 (nR d.idn.adr) q U26 ?_
  refine (nL d.idn.adr _ HL).mono ?_; rintro e h7 ⟨rfl, a0⟩
  clear e6
  replace q := q.to a0 q.lt
  replace z := z.to a0 z.lt
  replace HL := bW.to HL a0
  replace hB := hB.trans (a0.mono hB.size)
  clear a0
  by_cases b2 : (eW d.idn.adr : Int) = 0
  rotate_left
  ·
   obtain ⟨e7, e8, a1⟩ := fF b2; clear b2
   go_wp2_with with_reducible refine so ?_
   go_returns
   have q0 := C.out
   have q1 := D.out
   have q2 := F.out
   have q3 := I.out
   have q4 := a1.out
   obtain rfl : r = eW d.idn.adr := by rw [← HR.out]; have hu := HU.out; simp [gD, iA, gG hu, q0, q1, q2, q3, q4] <;> rfl
   exact ⟨rfl, hB⟩
  obtain ⟨e7, e8, a1⟩ := fT b2; clear b2
  by_cases b3 : (d.idn.adr.kind : Int) = 1
  ·
   obtain ⟨e9, f0, b4⟩ := fT b3; clear b3
   have h8 := q.c 9 (.int .i64 d.idn.adr.kind)
   go_wp2_with with_reducible refine so ?_
   go_returns
   have q0 := C.out
   have q1 := D.out
   have q2 := F.out
   have q3 := I.out
   have q4 := a1.out
   have q5 := b4.out
   obtain rfl : r = 0 := by rw [← HR.out]; have hu := HU.out; simp [gD, iA, gG hu, q0, q1, q2, q3, q4, q5] <;> rfl
   exact ⟨rfl, hB⟩
  obtain ⟨e9, f0, b4⟩ := fF b3; clear b3
  by_cases b5 : (d.idn.adr.kind : Int) = 2
  ·
   obtain ⟨f1, f2, b9⟩ := fT b5; clear b5
   have h9 := q.c 9 (.int .i64 d.idn.adr.kind)
   go_wp2_with with_reducible refine so ?_
   go_returns
   have q0 := C.out
   have q1 := D.out
   have q2 := F.out
   have q3 := I.out
   have q4 := a1.out
   have q5 := b4.out
   have q6 := b9.out
   obtain rfl : r = 0 := by rw [← HR.out]; have hu := HU.out; simp [gD, iA, gG hu, q0, q1, q2, q3, q4, q5, q6] <;> rfl
   exact ⟨rfl, hB⟩
  obtain ⟨f1, f2, b9⟩ := fF b5; clear b5
  have i0 := q.c 9 (.int .i64 d.idn.adr.kind)
  go_wp2_with with_reducible refine so ?_
  go_returns
  have q0 := C.out
  have q1 := D.out
  have q2 := F.out
  have q3 := I.out
  have q4 := a1.out
  have q5 := b4.out
  have q6 := b9.out
  obtain rfl : r = 1 := by rw [← HR.out]; have hu := HU.out; simp [gD, iA, gG hu, q0, q1, q2, q3, q4, q5, q6] <;> rfl
  exact ⟨rfl, hB⟩
end Go.Proofs.YtihmbcnccdiecaaGreatDoor
