/- Part of the proofs of the laws of pairing. -/
import Derived.Test.YtihmbcnccdiecaaGreatDoorBRfA
import Derived.Test.YtihmbcnccdiecaaGreatDoorBSdN
namespace Go.Proofs.YtihmbcnccdiecaaGreatDoor
set_option maxRecDepth 100000
set_option linter.unusedVariables false
set_option linter.unusedSimpArgs false
open Go.ChangeShapes Go.WideShapes Go.ChangeAt Go.RowKit
set_option maxHeartbeats 4000000 in
theorem H4 (c : Cfg) (w : World) :
  Calls Tryz.prog 6 #[.agg (cT c).toArray] w (fun e w' => e = .returned (.tuple #[.agg (prL (cP c).1).toArray, .int .i64 (cP c).2]) ∧ Below w.heap.size w w') := by
 obtain ⟨r, hr⟩ : ∃ r, cP c = r := ⟨_, rfl⟩
 rw [hr]
 have HR := Lib.hid hr
 clear hr
 go_enter Tryz.func6, Tryz.ntmps6
 have hB := Below.refl w.heap.size w
 go_wp2_with with_reducible refine sb ?_
 refine bF (ty := 34) (cs := (cT c).toArray) (fun g => .pointer (some ⟨g, 0, none⟩)) rfl (by kernel_rfl) ?_
 intro f7 n3 g5 f8 f9 q
 have n4 : w.heap.size ≤ f7 := Nat.le_trans hB.size f8
 replace hB := hB.trans (f9.mono hB.size)
 clear f9 f8 g5
 go_wp2_with with_reducible refine sb ?_
 refine bF (ty := 37) (cs := (prL pr0).toArray) (fun g => .pointer (some ⟨g, 0, none⟩)) rfl (by kernel_rfl) ?_
 intro g0 n5 g6 d4 d5 z
 have n6 : f7 < g0 := Nat.lt_of_lt_of_le q.lt d4
 have n7 : w.heap.size ≤ g0 := Nat.le_trans hB.size d4
 replace q := q.to d5 q.lt
 replace hB := hB.trans (d5.mono hB.size)
 clear d5 d4 g6
 by_cases a7 : (c.role : Int) = 0
 ·
  obtain ⟨g7, g8, C⟩ := fT a7; clear a7
  have g9 := q.c 0 (.int .i64 c.role)
  go_wp2_with first | with_reducible refine sb ?_ | with_reducible refine ld 1 [.int .i64 c.feat.io, .bool c.feat.oob, .bool c.feat.bond, .bool c.feat.mitm, .bool c.feat.sid, .bool c.feat.tid] q U23 ?_
  refine (jB c.feat _).mono ?_; rintro e n8 ⟨rfl, a8⟩
  clear g9
  replace q := q.to a8 q.lt
  replace z := z.to a8 z.lt
  replace hB := hB.trans (a8.mono hB.size)
  clear a8
  by_cases a9 : (bO c.feat : Int) = 0
  rotate_left
  ·
   obtain ⟨h6, h7, F⟩ := fF a9; clear a9
   go_wp2_with with_reducible refine sb ?_
   unfold bA
   refine aN [] (prL pr0).toArray (by first | rfl | (simp only [List.map_toArray, List.map_cons, List.map_nil]; done) | (simp only [List.map_toArray, List.map_cons, List.map_nil]; rfl)) (by kernel_rfl) ?_
   go_wp2_with with_reducible refine sb ?_
   refine sv _ z ?_
   intro n9 h8 d6
   replace q := d6.blk q (by omega)
   replace hB := d6.below hB (by omega)
   clear z d6
   go_wp2_with with_reducible refine sb ?_
   refine rc2 h8 U37 ?_
   have q0 := C.out
   have q1 := F.out
   obtain rfl : r = (pr0, bO c.feat) := by rw [← HR.out]; (unfold cP; rw [if_neg (fun hh => hh.1 q0), if_pos q1]; all_goals rfl)
   exact ⟨rfl, hB⟩
  obtain ⟨h6, h7, F⟩ := fT a9; clear a9
  go_wp2_with first | with_reducible refine sb ?_ | with_reducible refine ld 7 [.int .i64 c.own.kind, .int .u64 (W64 c.own.bits)] q U26 ?_
  refine (lK c.own _).mono ?_; rintro e o0 ⟨rfl, b0⟩
  replace q := q.to b0 q.lt
  replace z := z.to b0 z.lt
  replace hB := hB.trans (b0.mono hB.size)
  clear b0
  by_cases b1 : (eW c.own : Int) = 0
  rotate_left
  ·
   obtain ⟨h9, i0, J⟩ := fF b1; clear b1
   go_wp2_with with_reducible refine sb ?_
   unfold bA
   refine aN [] (prL pr0).toArray (by first | rfl | (simp only [List.map_toArray, List.map_cons, List.map_nil]; done) | (simp only [List.map_toArray, List.map_cons, List.map_nil]; rfl)) (by kernel_rfl) ?_
   go_wp2_with with_reducible refine sb ?_
   refine sv _ z ?_
   intro o1 i1 d7
   replace q := d7.blk q (by omega)
   replace hB := d7.below hB (by omega)
   clear z d7
   go_wp2_with with_reducible refine sb ?_
   refine rc2 i1 U37 ?_
   have q0 := C.out
   have q1 := F.out
   have q2 := J.out
   obtain rfl : r = (pr0, eW c.own) := by rw [← HR.out]; (unfold cP; rw [if_neg (fun hh => hh.1 q0), if_neg (fun hh => hh q1), if_pos q2]; all_goals rfl)
   exact ⟨rfl, hB⟩
  obtain ⟨h9, i0, J⟩ := fT b1; clear b1
  go_wp2_with first | with_reducible refine sb ?_ | with_reducible refine ld 9 [.int .i64 c.peer.kind, .int .u64 (W64 c.peer.bits)] q U26 ?_
  refine (lK c.peer _).mono ?_; rintro e o2 ⟨rfl, b2⟩
  replace q := q.to b2 q.lt
  replace z := z.to b2 z.lt
  replace hB := hB.trans (b2.mono hB.size)
  clear b2
  by_cases b3 : (eW c.peer : Int) = 0
  rotate_left
  ·
   obtain ⟨i2, i3, O⟩ := fF b3; clear b3
   go_wp2_with with_reducible refine sb ?_
   unfold bA
   refine aN [] (prL pr0).toArray (by first | rfl | (simp only [List.map_toArray, List.map_cons, List.map_nil]; done) | (simp only [List.map_toArray, List.map_cons, List.map_nil]; rfl)) (by kernel_rfl) ?_
   go_wp2_with with_reducible refine sb ?_
   refine sv _ z ?_
   intro o3 i4 d8
   replace q := d8.blk q (by omega)
   replace hB := d8.below hB (by omega)
   clear z d8
   go_wp2_with with_reducible refine sb ?_
   refine rc2 i4 U37 ?_
   have q0 := C.out
   have q1 := F.out
   have q2 := J.out
   have q3 := O.out
   obtain rfl : r = (pr0, eW c.peer) := by rw [← HR.out]; (unfold cP; rw [if_neg (fun hh => hh.1 q0), if_neg (fun hh => hh q1), if_neg (fun hh => hh q2), if_pos q3]; all_goals rfl)
   exact ⟨rfl, hB⟩
  obtain ⟨i2, i3, O⟩ := fT b3; clear b3
  by_cases U : c.secret < 1#32
  ·
   have i5 : decide ((W32 c.secret : Int) < 1) = true := decide_eq_true (show W32 c.secret < W32 (1#32) by rw [iD]; exact U)
   have i6 : decide ((1 : Int) ≤ W32 c.secret) = false := decide_eq_false (fun hh => absurd (show W32 (1#32) ≤ W32 c.secret from hh) (by rw [iG]; exact BitVec.not_le.2 U))
   have a3 := Lib.hid U
   clear U
   have i7 := q.c 14 (.int .u32 (W32 c.secret))
   go_wp2_with with_reducible refine sb ?_
   unfold bA
   refine aN [] (prL pr0).toArray (by first | rfl | (simp only [List.map_toArray, List.map_cons, List.map_nil]; done) | (simp only [List.map_toArray, List.map_cons, List.map_nil]; rfl)) (by kernel_rfl) ?_
   clear i7
   go_wp2_with with_reducible refine sb ?_
   refine sv _ z ?_
   intro o4 i8 d9
   replace q := d9.blk q (by omega)
   replace hB := d9.below hB (by omega)
   clear z d9
   go_wp2_with with_reducible refine sb ?_
   refine rc2 i8 U37 ?_
   have q0 := C.out
   have q1 := F.out
   have q2 := J.out
   have q3 := O.out
   have q4 := a3.out
   obtain rfl : r = (pr0, 5) := by rw [← HR.out]; (unfold cP; rw [if_neg (fun hh => hh.1 q0), if_neg (fun hh => hh q1), if_neg (fun hh => hh q2), if_neg (fun hh => hh q3), if_pos (.inl q4)]; all_goals rfl)
   exact ⟨rfl, hB⟩
  have i5 : decide ((W32 c.secret : Int) < 1) = false := decide_eq_false (fun hh => U (by have h2 : W32 c.secret < W32 (1#32) := hh; rw [iD] at h2; exact h2))
  have i6 : decide ((1 : Int) ≤ W32 c.secret) = true := decide_eq_true (show W32 (1#32) ≤ W32 c.secret by rw [iG]; exact BitVec.not_lt.1 U)
  have a3 := Lib.hid U
  clear U
  by_cases Z : 2147483645#32 < c.secret
  ·
   have i9 : decide ((2147483645 : Int) < W32 c.secret) = true := decide_eq_true (show W32 (2147483645#32) < W32 c.secret by rw [iD]; exact Z)
   have j0 : decide ((W32 c.secret : Int) ≤ 2147483645) = false := decide_eq_false (fun hh => absurd (show W32 c.secret ≤ W32 (2147483645#32) from hh) (by rw [iG]; exact BitVec.not_le.2 Z))
   have a5 := Lib.hid Z
   clear Z
   have j1 := q.c 14 (.int .u32 (W32 c.secret))
   go_wp2_with with_reducible refine sb ?_
   unfold bA
   refine aN [] (prL pr0).toArray (by first | rfl | (simp only [List.map_toArray, List.map_cons, List.map_nil]; done) | (simp only [List.map_toArray, List.map_cons, List.map_nil]; rfl)) (by kernel_rfl) ?_
   clear j1
   go_wp2_with with_reducible refine sb ?_
   refine sv _ z ?_
   intro o5 j2 e0
   replace q := e0.blk q (by omega)
   replace hB := e0.below hB (by omega)
   clear z e0
   go_wp2_with with_reducible refine sb ?_
   refine rc2 j2 U37 ?_
   have q0 := C.out
   have q1 := F.out
   have q2 := J.out
   have q3 := O.out
   have q4 := a3.out
   have q5 := a5.out
   obtain rfl : r = (pr0, 5) := by rw [← HR.out]; (unfold cP; rw [if_neg (fun hh => hh.1 q0), if_neg (fun hh => hh q1), if_neg (fun hh => hh q2), if_neg (fun hh => hh q3), if_pos (.inr q5)]; all_goals rfl)
   exact ⟨rfl, hB⟩
  have i9 : decide ((2147483645 : Int) < W32 c.secret) = false := decide_eq_false (fun hh => Z (by have h2 : W32 (2147483645#32) < W32 c.secret := hh; rw [iD] at h2; exact h2))
  have j0 : decide ((W32 c.secret : Int) ≤ 2147483645) = true := decide_eq_true (show W32 c.secret ≤ W32 (2147483645#32) by rw [iG]; exact BitVec.not_lt.1 Z)
  have a5 := Lib.hid Z
  clear Z
  have j3 := q.c 14 (.int .u32 (W32 c.secret))
  go_wp2_with with_reducible refine sb ?_
  refine (pC c.secret _).mono ?_; rintro e o6 ⟨rfl, b4⟩
  clear j3
  replace q := q.to b4 q.lt
  replace z := z.to b4 z.lt
  replace hB := hB.trans (b4.mono hB.size)
  clear b4
  go_wp2_with with_reducible refine sb ?_
  refine (qW ((cJ c.secret)) _).mono ?_; rintro e o7 ⟨rfl, b5⟩
  replace q := q.to b5 q.lt
  replace z := z.to b5 z.lt
  replace hB := hB.trans (b5.mono hB.size)
  clear b5
  rcases b6 : fB ((cJ c.secret)) with _ | _
  ·
   go_wp2_with with_reducible refine sb ?_
   unfold bA
   refine aN [] (prL pr0).toArray (by first | rfl | (simp only [List.map_toArray, List.map_cons, List.map_nil]; done) | (simp only [List.map_toArray, List.map_cons, List.map_nil]; rfl)) (by kernel_rfl) ?_
   go_wp2_with with_reducible refine sb ?_
   refine sv _ z ?_
   intro o8 j4 e1
   replace q := e1.blk q (by omega)
   replace hB := e1.below hB (by omega)
   clear z e1
   go_wp2_with with_reducible refine sb ?_
   refine rc2 j4 U37 ?_
   have q0 := C.out
   have q1 := F.out
   have q2 := J.out
   have q3 := O.out
   have q4 := a3.out
   have q5 := a5.out
   obtain rfl : r = (pr0, 1) := by rw [← HR.out]; (unfold cP; rw [if_neg (fun hh => hh.1 q0), if_neg (fun hh => hh q1), if_neg (fun hh => hh q2), if_neg (fun hh => hh q3), if_neg (fun hh => hh.elim q4 q5), if_pos b6]; all_goals rfl)
   exact ⟨rfl, hB⟩
  rcases g3 : c.feat.sid with _ | _
  ·
   have j5 := q.c 5 (.bool c.feat.sid)
   go_wp2_with first | with_reducible refine sb ?_ | with_reducible refine ld 0 (cT c) q U34 ?_
   unfold bA
   refine aN [(0, .agg (cT c).toArray), (13, .int .i64 (-1))] (prL { pr0 with cfg := c, passkey := -1 }).toArray (by first | rfl | (simp only [List.map_toArray, List.map_cons, List.map_nil]; done) | (simp only [List.map_toArray, List.map_cons, List.map_nil]; rfl)) (by kernel_rfl) ?_
   clear j5
   go_wp2_with with_reducible refine sb ?_
   refine sv _ z ?_
   intro o9 j6 e2
   replace q := e2.blk q (by omega)
   replace hB := e2.below hB (by omega)
   clear z e2
   go_wp2_with with_reducible refine sb ?_
   refine rc2 j6 U37 ?_
   have q0 := C.out
   have q1 := F.out
   have q2 := J.out
   have q3 := O.out
   have q4 := a3.out
   have q5 := a5.out
   obtain rfl : r = (({ pr0 with cfg := c, passkey := -1 }), 0) := by rw [← HR.out]; (unfold cP; rw [if_neg (fun hh => hh.1 q0), if_neg (fun hh => hh q1), if_neg (fun hh => hh q2), if_neg (fun hh => hh q3), if_neg (fun hh => hh.elim q4 q5), if_neg (by rw [b6]; decide), if_neg (fun hh => absurd (Eq.trans (Eq.symm g3) hh.1) (by decide))]; all_goals rfl)
   exact ⟨rfl, hB⟩
  have j7 := q.c 5 (.bool c.feat.sid)
  go_wp2_with first | with_reducible refine sb ?_ | with_reducible refine ld 11 [.int .i64 c.idn.adr.kind, .int .u64 (W64 c.idn.adr.bits), .int .u64 (W64 c.idn.irk)] q U29 ?_
  refine (BD c.idn _).mono ?_; rintro e p0 ⟨rfl, b7⟩
  clear j7
  replace q := q.to b7 q.lt
  replace z := z.to b7 z.lt
  replace hB := hB.trans (b7.mono hB.size)
  clear b7
  by_cases b8 : (iA c.idn : Int) = 0
  ·
   obtain ⟨j8, j9, e3⟩ := fT b8; clear b8
   go_wp2_with first | with_reducible refine sb ?_ | with_reducible refine ld 0 (cT c) q U34 ?_
   unfold bA
   refine aN [(0, .agg (cT c).toArray), (13, .int .i64 (-1))] (prL { pr0 with cfg := c, passkey := -1 }).toArray (by first | rfl | (simp only [List.map_toArray, List.map_cons, List.map_nil]; done) | (simp only [List.map_toArray, List.map_cons, List.map_nil]; rfl)) (by kernel_rfl) ?_
   go_wp2_with with_reducible refine sb ?_
   refine sv _ z ?_
   intro p4 k0 e4
   replace q := e4.blk q (by omega)
   replace hB := e4.below hB (by omega)
   clear z e4
   go_wp2_with with_reducible refine sb ?_
   refine rc2 k0 U37 ?_
   have q0 := C.out
   have q1 := F.out
   have q2 := J.out
   have q3 := O.out
   have q4 := a3.out
   have q5 := a5.out
   have q8 := e3.out
   obtain rfl : r = (({ pr0 with cfg := c, passkey := -1 }), 0) := by rw [← HR.out]; (unfold cP; rw [if_neg (fun hh => hh.1 q0), if_neg (fun hh => hh q1), if_neg (fun hh => hh q2), if_neg (fun hh => hh q3), if_neg (fun hh => hh.elim q4 q5), if_neg (by rw [b6]; decide), if_neg (fun hh => hh.2 q8)]; all_goals rfl)
   exact ⟨rfl, hB⟩
  obtain ⟨j8, j9, e3⟩ := fF b8; clear b8
  go_wp2_with with_reducible refine sb ?_
  unfold bA
  refine aN [] (prL pr0).toArray (by first | rfl | (simp only [List.map_toArray, List.map_cons, List.map_nil]; done) | (simp only [List.map_toArray, List.map_cons, List.map_nil]; rfl)) (by kernel_rfl) ?_
  go_wp2_with with_reducible refine sb ?_
  refine sv _ z ?_
  intro p5 k1 e5
  replace q := e5.blk q (by omega)
  replace hB := e5.below hB (by omega)
  clear z e5
  go_wp2_with with_reducible refine sb ?_
  refine rc2 k1 U37 ?_
  have q0 := C.out
  have q1 := F.out
  have q2 := J.out
  have q3 := O.out
  have q4 := a3.out
  have q5 := a5.out
  have q8 := e3.out
  obtain rfl : r = (pr0, iA c.idn) := by rw [← HR.out]; (unfold cP; rw [if_neg (fun hh => hh.1 q0), if_neg (fun hh => hh q1), if_neg (fun hh => hh q2), if_neg (fun hh => hh q3), if_neg (fun hh => hh.elim q4 q5), if_neg (by rw [b6]; decide), if_pos ⟨g3, q8⟩]; all_goals rfl)
  exact ⟨rfl, hB⟩
 obtain ⟨g7, g8, C⟩ := fF a7; clear a7
 by_cases b9 : (c.role : Int) = 1
 rotate_left
 ·
  obtain ⟨k2, k3, D⟩ := fF b9; clear b9
  have k4 := q.c 0 (.int .i64 c.role)
  go_wp2_with with_reducible refine sb ?_
  unfold bA
  refine aN [] (prL pr0).toArray (by first | rfl | (simp only [List.map_toArray, List.map_cons, List.map_nil]; done) | (simp only [List.map_toArray, List.map_cons, List.map_nil]; rfl)) (by kernel_rfl) ?_
  clear k4
  go_wp2_with with_reducible refine sb ?_
  refine sv _ z ?_
  intro p6 k5 e6
  replace q := e6.blk q (by omega)
  replace hB := e6.below hB (by omega)
  clear z e6
  go_wp2_with with_reducible refine sb ?_
  refine rc2 k5 U37 ?_
  have q0 := C.out
  have q1 := D.out
  obtain rfl : r = (pr0, 5) := by rw [← HR.out]; (unfold cP; rw [if_pos ⟨q0, q1⟩]; all_goals rfl)
  exact ⟨rfl, hB⟩
 obtain ⟨k2, k3, D⟩ := fT b9; clear b9
 have k6 := q.c 0 (.int .i64 c.role)
 go_wp2_with first | with_reducible refine sb ?_ | with_reducible refine ld 1 [.int .i64 c.feat.io, .bool c.feat.oob, .bool c.feat.bond, .bool c.feat.mitm, .bool c.feat.sid, .bool c.feat.tid] q U23 ?_
 refine (jB c.feat _).mono ?_; rintro e p7 ⟨rfl, c0⟩
 clear k6
 replace q := q.to c0 q.lt
 replace z := z.to c0 z.lt
 replace hB := hB.trans (c0.mono hB.size)
 clear c0
 by_cases c4 : (bO c.feat : Int) = 0
 rotate_left
 ·
  obtain ⟨k7, k8, I⟩ := fF c4; clear c4
  go_wp2_with with_reducible refine sb ?_
  unfold bA
  refine aN [] (prL pr0).toArray (by first | rfl | (simp only [List.map_toArray, List.map_cons, List.map_nil]; done) | (simp only [List.map_toArray, List.map_cons, List.map_nil]; rfl)) (by kernel_rfl) ?_
  go_wp2_with with_reducible refine sb ?_
  refine sv _ z ?_
  intro p8 k9 e7
  replace q := e7.blk q (by omega)
  replace hB := e7.below hB (by omega)
  clear z e7
  go_wp2_with with_reducible refine sb ?_
  refine rc2 k9 U37 ?_
  have q0 := C.out
  have q1 := D.out
  have q2 := I.out
  obtain rfl : r = (pr0, bO c.feat) := by rw [← HR.out]; (unfold cP; rw [if_neg (fun hh => hh.2 q1), if_pos q2]; all_goals rfl)
  exact ⟨rfl, hB⟩
 obtain ⟨k7, k8, I⟩ := fT c4; clear c4
 go_wp2_with first | with_reducible refine sb ?_ | with_reducible refine ld 7 [.int .i64 c.own.kind, .int .u64 (W64 c.own.bits)] q U26 ?_
 refine (lK c.own _).mono ?_; rintro e p9 ⟨rfl, c5⟩
 replace q := q.to c5 q.lt
 replace z := z.to c5 z.lt
 replace hB := hB.trans (c5.mono hB.size)
 clear c5
 by_cases c6 : (eW c.own : Int) = 0
 rotate_left
 ·
  obtain ⟨l0, l1, L⟩ := fF c6; clear c6
  go_wp2_with with_reducible refine sb ?_
  unfold bA
  refine aN [] (prL pr0).toArray (by first | rfl | (simp only [List.map_toArray, List.map_cons, List.map_nil]; done) | (simp only [List.map_toArray, List.map_cons, List.map_nil]; rfl)) (by kernel_rfl) ?_
  go_wp2_with with_reducible refine sb ?_
  refine sv _ z ?_
  intro q7 l2 e8
  replace q := e8.blk q (by omega)
  replace hB := e8.below hB (by omega)
  clear z e8
  go_wp2_with with_reducible refine sb ?_
  refine rc2 l2 U37 ?_
  have q0 := C.out
  have q1 := D.out
  have q2 := I.out
  have q3 := L.out
  obtain rfl : r = (pr0, eW c.own) := by rw [← HR.out]; (unfold cP; rw [if_neg (fun hh => hh.2 q1), if_neg (fun hh => hh q2), if_pos q3]; all_goals rfl)
  exact ⟨rfl, hB⟩
 obtain ⟨l0, l1, L⟩ := fT c6; clear c6
 go_wp2_with first | with_reducible refine sb ?_ | with_reducible refine ld 9 [.int .i64 c.peer.kind, .int .u64 (W64 c.peer.bits)] q U26 ?_
 refine (lK c.peer _).mono ?_; rintro e r0 ⟨rfl, c7⟩
 replace q := q.to c7 q.lt
 replace z := z.to c7 z.lt
 replace hB := hB.trans (c7.mono hB.size)
 clear c7
 by_cases c8 : (eW c.peer : Int) = 0
 rotate_left
 ·
  obtain ⟨l3, l4, a0⟩ := fF c8; clear c8
  go_wp2_with with_reducible refine sb ?_
  unfold bA
  refine aN [] (prL pr0).toArray (by first | rfl | (simp only [List.map_toArray, List.map_cons, List.map_nil]; done) | (simp only [List.map_toArray, List.map_cons, List.map_nil]; rfl)) (by kernel_rfl) ?_
  go_wp2_with with_reducible refine sb ?_
  refine sv _ z ?_
  intro r1 l5 e9
  replace q := e9.blk q (by omega)
  replace hB := e9.below hB (by omega)
  clear z e9
  go_wp2_with with_reducible refine sb ?_
  refine rc2 l5 U37 ?_
  have q0 := C.out
  have q1 := D.out
  have q2 := I.out
  have q3 := L.out
  have q4 := a0.out
  obtain rfl : r = (pr0, eW c.peer) := by rw [← HR.out]; (unfold cP; rw [if_neg (fun hh => hh.2 q1), if_neg (fun hh => hh q2), if_neg (fun hh => hh q3), if_pos q4]; all_goals rfl)
  exact ⟨rfl, hB⟩
 obtain ⟨l3, l4, a0⟩ := fT c8; clear c8
 by_cases a1 : c.secret < 1#32
 ·
  have l6 : decide ((W32 c.secret : Int) < 1) = true := decide_eq_true (show W32 c.secret < W32 (1#32) by rw [iD]; exact a1)
  have l7 : decide ((1 : Int) ≤ W32 c.secret) = false := decide_eq_false (fun hh => absurd (show W32 (1#32) ≤ W32 c.secret from hh) (by rw [iG]; exact BitVec.not_le.2 a1))
  have a4 := Lib.hid a1
  clear a1
  have l8 := q.c 14 (.int .u32 (W32 c.secret))
  go_wp2_with with_reducible refine sb ?_
  unfold bA
  refine aN [] (prL pr0).toArray (by first | rfl | (simp only [List.map_toArray, List.map_cons, List.map_nil]; done) | (simp only [List.map_toArray, List.map_cons, List.map_nil]; rfl)) (by kernel_rfl) ?_
  clear l8
  go_wp2_with with_reducible refine sb ?_
  refine sv _ z ?_
  intro r2 l9 f0
  replace q := f0.blk q (by omega)
  replace hB := f0.below hB (by omega)
  clear z f0
  go_wp2_with with_reducible refine sb ?_
  refine rc2 l9 U37 ?_
  have q0 := C.out
  have q1 := D.out
  have q2 := I.out
  have q3 := L.out
  have q4 := a0.out
  have q5 := a4.out
  obtain rfl : r = (pr0, 5) := by rw [← HR.out]; (unfold cP; rw [if_neg (fun hh => hh.2 q1), if_neg (fun hh => hh q2), if_neg (fun hh => hh q3), if_neg (fun hh => hh q4), if_pos (.inl q5)]; all_goals rfl)
  exact ⟨rfl, hB⟩
 have l6 : decide ((W32 c.secret : Int) < 1) = false := decide_eq_false (fun hh => a1 (by have h2 : W32 c.secret < W32 (1#32) := hh; rw [iD] at h2; exact h2))
 have l7 : decide ((1 : Int) ≤ W32 c.secret) = true := decide_eq_true (show W32 (1#32) ≤ W32 c.secret by rw [iG]; exact BitVec.not_lt.1 a1)
 have a4 := Lib.hid a1
 clear a1
 by_cases a2 : 2147483645#32 < c.secret
 ·
  have m0 : decide ((2147483645 : Int) < W32 c.secret) = true := decide_eq_true (show W32 (2147483645#32) < W32 c.secret by rw [iD]; exact a2)
  have m1 : decide ((W32 c.secret : Int) ≤ 2147483645) = false := decide_eq_false (fun hh => absurd (show W32 c.secret ≤ W32 (2147483645#32) from hh) (by rw [iG]; exact BitVec.not_le.2 a2))
  have a6 := Lib.hid a2
  clear a2
  have m2 := q.c 14 (.int .u32 (W32 c.secret))
  go_wp2_with with_reducible refine sb ?_
  unfold bA
  refine aN [] (prL pr0).toArray (by first | rfl | (simp only [List.map_toArray, List.map_cons, List.map_nil]; done) | (simp only [List.map_toArray, List.map_cons, List.map_nil]; rfl)) (by kernel_rfl) ?_
  clear m2
  go_wp2_with with_reducible refine sb ?_
  refine sv _ z ?_
  intro r3 m3 f1
  replace q := f1.blk q (by omega)
  replace hB := f1.below hB (by omega)
  clear z f1
  go_wp2_with with_reducible refine sb ?_
  refine rc2 m3 U37 ?_
  have q0 := C.out
  have q1 := D.out
  have q2 := I.out
  have q3 := L.out
  have q4 := a0.out
  have q5 := a4.out
  have q6 := a6.out
  obtain rfl : r = (pr0, 5) := by rw [← HR.out]; (unfold cP; rw [if_neg (fun hh => hh.2 q1), if_neg (fun hh => hh q2), if_neg (fun hh => hh q3), if_neg (fun hh => hh q4), if_pos (.inr q6)]; all_goals rfl)
  exact ⟨rfl, hB⟩
 have m0 : decide ((2147483645 : Int) < W32 c.secret) = false := decide_eq_false (fun hh => a2 (by have h2 : W32 (2147483645#32) < W32 c.secret := hh; rw [iD] at h2; exact h2))
 have m1 : decide ((W32 c.secret : Int) ≤ 2147483645) = true := decide_eq_true (show W32 c.secret ≤ W32 (2147483645#32) by rw [iG]; exact BitVec.not_lt.1 a2)
 have a6 := Lib.hid a2
 clear a2
 have m4 := q.c 14 (.int .u32 (W32 c.secret))
 go_wp2_with with_reducible refine sb ?_
 refine (pC c.secret _).mono ?_; rintro e r4 ⟨rfl, c9⟩
 clear m4
 replace q := q.to c9 q.lt
 replace z := z.to c9 z.lt
 replace hB := hB.trans (c9.mono hB.size)
 clear c9
 go_wp2_with with_reducible refine sb ?_
 refine (qW ((cJ c.secret)) _).mono ?_; rintro e r5 ⟨rfl, d0⟩
 replace q := q.to d0 q.lt
 replace z := z.to d0 z.lt
 replace hB := hB.trans (d0.mono hB.size)
 clear d0
 rcases d1 : fB ((cJ c.secret)) with _ | _
 ·
  go_wp2_with with_reducible refine sb ?_
  unfold bA
  refine aN [] (prL pr0).toArray (by first | rfl | (simp only [List.map_toArray, List.map_cons, List.map_nil]; done) | (simp only [List.map_toArray, List.map_cons, List.map_nil]; rfl)) (by kernel_rfl) ?_
  go_wp2_with with_reducible refine sb ?_
  refine sv _ z ?_
  intro r6 m5 f2
  replace q := f2.blk q (by omega)
  replace hB := f2.below hB (by omega)
  clear z f2
  go_wp2_with with_reducible refine sb ?_
  refine rc2 m5 U37 ?_
  have q0 := C.out
  have q1 := D.out
  have q2 := I.out
  have q3 := L.out
  have q4 := a0.out
  have q5 := a4.out
  have q6 := a6.out
  obtain rfl : r = (pr0, 1) := by rw [← HR.out]; (unfold cP; rw [if_neg (fun hh => hh.2 q1), if_neg (fun hh => hh q2), if_neg (fun hh => hh q3), if_neg (fun hh => hh q4), if_neg (fun hh => hh.elim q5 q6), if_pos d1]; all_goals rfl)
  exact ⟨rfl, hB⟩
 rcases g4 : c.feat.sid with _ | _
 ·
  have m6 := q.c 5 (.bool c.feat.sid)
  go_wp2_with first | with_reducible refine sb ?_ | with_reducible refine ld 0 (cT c) q U34 ?_
  unfold bA
  refine aN [(0, .agg (cT c).toArray), (13, .int .i64 (-1))] (prL { pr0 with cfg := c, passkey := -1 }).toArray (by first | rfl | (simp only [List.map_toArray, List.map_cons, List.map_nil]; done) | (simp only [List.map_toArray, List.map_cons, List.map_nil]; rfl)) (by kernel_rfl) ?_
  clear m6
  go_wp2_with with_reducible refine sb ?_
  refine sv _ z ?_
  intro r7 m7 f3
  replace q := f3.blk q (by omega)
  replace hB := f3.below hB (by omega)
  clear z f3
  go_wp2_with with_reducible refine sb ?_
  refine rc2 m7 U37 ?_
  have q0 := C.out
  have q1 := D.out
  have q2 := I.out
  have q3 := L.out
  have q4 := a0.out
  have q5 := a4.out
  have q6 := a6.out
  obtain rfl : r = (({ pr0 with cfg := c, passkey := -1 }), 0) := by rw [← HR.out]; (unfold cP; rw [if_neg (fun hh => hh.2 q1), if_neg (fun hh => hh q2), if_neg (fun hh => hh q3), if_neg (fun hh => hh q4), if_neg (fun hh => hh.elim q5 q6), if_neg (by rw [d1]; decide), if_neg (fun hh => absurd (Eq.trans (Eq.symm g4) hh.1) (by decide))]; all_goals rfl)
  exact ⟨rfl, hB⟩
 have m8 := q.c 5 (.bool c.feat.sid)
 go_wp2_with first | with_reducible refine sb ?_ | with_reducible refine ld 11 [.int .i64 c.idn.adr.kind, .int .u64 (W64 c.idn.adr.bits), .int .u64 (W64 c.idn.irk)] q U29 ?_
 refine (BD c.idn _).mono ?_; rintro e r8 ⟨rfl, d2⟩
 clear m8
 replace q := q.to d2 q.lt
 replace z := z.to d2 z.lt
 replace hB := hB.trans (d2.mono hB.size)
 clear d2
 by_cases d3 : (iA c.idn : Int) = 0
 ·
  obtain ⟨m9, n0, f4⟩ := fT d3; clear d3
  go_wp2_with first | with_reducible refine sb ?_ | with_reducible refine ld 0 (cT c) q U34 ?_
  unfold bA
  refine aN [(0, .agg (cT c).toArray), (13, .int .i64 (-1))] (prL { pr0 with cfg := c, passkey := -1 }).toArray (by first | rfl | (simp only [List.map_toArray, List.map_cons, List.map_nil]; done) | (simp only [List.map_toArray, List.map_cons, List.map_nil]; rfl)) (by kernel_rfl) ?_
  go_wp2_with with_reducible refine sb ?_
  refine sv _ z ?_
  intro r9 n1 f5
  replace q := f5.blk q (by omega)
  replace hB := f5.below hB (by omega)
  clear z f5
  go_wp2_with with_reducible refine sb ?_
  refine rc2 n1 U37 ?_
  have q0 := C.out
  have q1 := D.out
  have q2 := I.out
  have q3 := L.out
  have q4 := a0.out
  have q5 := a4.out
  have q6 := a6.out
  have q9 := f4.out
  obtain rfl : r = (({ pr0 with cfg := c, passkey := -1 }), 0) := by rw [← HR.out]; (unfold cP; rw [if_neg (fun hh => hh.2 q1), if_neg (fun hh => hh q2), if_neg (fun hh => hh q3), if_neg (fun hh => hh q4), if_neg (fun hh => hh.elim q5 q6), if_neg (by rw [d1]; decide), if_neg (fun hh => hh.2 q9)]; all_goals rfl)
  exact ⟨rfl, hB⟩
 obtain ⟨m9, n0, f4⟩ := fF d3; clear d3
 go_wp2_with with_reducible refine sb ?_
 unfold bA
 refine aN [] (prL pr0).toArray (by first | rfl | (simp only [List.map_toArray, List.map_cons, List.map_nil]; done) | (simp only [List.map_toArray, List.map_cons, List.map_nil]; rfl)) (by kernel_rfl) ?_
 go_wp2_with with_reducible refine sb ?_
 refine sv _ z ?_
 intro s0 n2 f6
 replace q := f6.blk q (by omega)
 replace hB := f6.below hB (by omega)
 clear z f6
 go_wp2_with with_reducible refine sb ?_
 refine rc2 n2 U37 ?_
 have q0 := C.out
 have q1 := D.out
 have q2 := I.out
 have q3 := L.out
 have q4 := a0.out
 have q5 := a4.out
 have q6 := a6.out
 have q9 := f4.out
 obtain rfl : r = (pr0, iA c.idn) := by rw [← HR.out]; (unfold cP; rw [if_neg (fun hh => hh.2 q1), if_neg (fun hh => hh q2), if_neg (fun hh => hh q3), if_neg (fun hh => hh q4), if_neg (fun hh => hh.elim q5 q6), if_neg (by rw [d1]; decide), if_pos ⟨g4, q9⟩]; all_goals rfl)
 exact ⟨rfl, hB⟩
end Go.Proofs.YtihmbcnccdiecaaGreatDoor
