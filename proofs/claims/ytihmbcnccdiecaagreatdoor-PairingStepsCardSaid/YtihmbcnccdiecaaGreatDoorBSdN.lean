/- Part of the proofs of the laws of pairing. -/
import Derived.Test.YtihmbcnccdiecaaGreatDoorBSdG
namespace Go.Proofs.YtihmbcnccdiecaaGreatDoor
set_option maxRecDepth 100000
set_option linter.unusedVariables false
set_option linter.unusedSimpArgs false
open Go.ChangeShapes Go.WideShapes Go.ChangeAt Go.RowKit
theorem JT (i : Idn) : gD ⟨8, ⟨0, false, false, false, false, false⟩, 0#32, 0#64, i, 0⟩ = iA i := by simp [gD, iZ, cL, gH, kE, lH]
theorem tR (i : Idn) (w : World) (HL : bW w) : Calls Tryz.prog 16 #[.agg (aI ⟨8, ⟨0, false, false, false, false, false⟩, 0#32, 0#64, i, 0⟩).toArray] w fun e w' => e = .returned (.int .i64 (iA i)) ∧ Below w.heap.size w w' := by
  have h := jM ⟨8, ⟨0, false, false, false, false, false⟩, 0#32, 0#64, i, 0⟩ w HL
  rw [JT] at h
  exact h
set_option maxHeartbeats 4000000 in
theorem BI (c : Cfg) (w : World) (HL : bW w) :
  Calls Tryz.prog 5 #[.agg (cT c).toArray] w (fun e w' => e = .returned (.tuple #[.agg (prL (cP c).1).toArray, .int .i64 (cP c).2]) ∧ Below w.heap.size w w') := by
 obtain ⟨r, hr⟩ : ∃ r, cP c = r := ⟨_, rfl⟩
 rw [hr]
 have HR := Lib.hid hr
 clear hr
 have HZ := HL.lt
 go_enter Tryz.func5, Tryz.ntmps5
 have hB := Below.refl w.heap.size w
 go_wp2_with with_reducible refine sb ?_
 refine bF (ty := 34) (cs := (cT c).toArray) (fun g => .pointer (some ⟨g, 0, none⟩)) rfl (by kernel_rfl) ?_
 intro a5 n9 f7 f4 f0 q
 have o0 : w.heap.size ≤ a5 := Nat.le_trans hB.size f4
 replace HL := bW.to HL f0
 replace hB := hB.trans (f0.mono hB.size)
 clear f0 f4 f7
 go_wp2_with with_reducible refine sb ?_
 refine bF (ty := 37) (cs := (prL pr0).toArray) (fun g => .pointer (some ⟨g, 0, none⟩)) rfl (by kernel_rfl) ?_
 intro a6 o1 f8 f1 d6 z
 have o2 : a5 < a6 := Nat.lt_of_lt_of_le q.lt f1
 have o3 : w.heap.size ≤ a6 := Nat.le_trans hB.size f1
 replace q := q.to d6 q.lt
 replace HL := bW.to HL d6
 replace hB := hB.trans (d6.mono hB.size)
 clear d6 f1 f8
 by_cases d7 : (c.role : Int) = 0
 ·
  obtain ⟨f9, g0, C⟩ := fT d7; clear d7
  have g3 := q.c 0 (.int .i64 c.role)
  go_wp2_with with_reducible refine sb ?_
  clear g3
  have hst : aO fun W => Below w.heap.size w W ∧ Blk W a5 34 (cT c).toArray ∧ Blk W a6 37 (prL pr0).toArray ∧ bW W := aB (aJ _ _ (Nat.le_refl _)) (aB (aW _ _ _) (aB (aW _ _ _) (rV)))
  refine aD _ 12 hst ⟨hB.drew, q, z, (HL.to (Below.refl _ _).drew)⟩ ?_
  clear hB q z HL
  refine aA 0 hst ?_
  refine dA 1 1 (bL c.feat) (fun W hS => hS.2.1) U23 hst ?_
  refine aA 3 hst ?_
  refine dA 4 7 [.int .i64 c.own.kind, .int .u64 (W64 c.own.bits)] (fun W hS => hS.2.1) U26 hst ?_
  refine aA 6 hst ?_
  refine dA 7 9 [.int .i64 c.peer.kind, .int .u64 (W64 c.peer.bits)] (fun W hS => hS.2.1) U26 hst ?_
  refine aA 11 hst ?_
  refine aF 2 rfl hst (fun W hS K hK => by clear hS; go_simp; exact cl (iT c.feat _) hK) ?_
  refine aF 5 rfl hst (fun W hS K hK => by go_simp; exact cl (nL c.own _ hS.2.2.2) hK) ?_
  refine aF 8 rfl hst (fun W hS K hK => by go_simp; exact cl (nL c.peer _ hS.2.2.2) hK) ?_
  refine eH 9 hst rfl ?_; intro W hS K hK
  have l3_9_g_1 : a5 < W.heap.size := hS.2.1.lt
  have l3_9_g_8 : a6 < W.heap.size := hS.2.2.1.lt
  have n3_9a : w.heap.size ≤ W.heap.size := hS.1.size
  clear hS
  go_simp
  refine hK.out (fun W' => Blk W' W.heap.size 38 #[.int .i64 (bO c.feat), .int .i64 (eW c.own), .int .i64 (eW c.peer)]) _ _ (aW _ _ _) ((Below.refl _ _).alloc (Nat.le_refl _) _) (Blk.new _ _ _) (fun hst => ?_)
  clear hK K
  try simp only [nrm]
  generalize W.heap.size = g3_9 at hst l3_9_g_1 l3_9_g_8 n3_9a ⊢
  clear W
  refine aA 10 hst ?_
  refine aE (fun o4 hS => ?_)
  obtain ⟨⟨hB, q, z, HL⟩, G3_9⟩ := hS
  clear hst
  go_wp2_with with_reducible refine sb ?_
  refine wp_loop_rounds 4 ?_
  rw [rounds_succ]
  by_cases d8 : (bO c.feat : Int) = 0
  rotate_left
  ·
   obtain ⟨g4, g5, F⟩ := fF d8; clear d8
   have g6 := G3_9.c 0 (.int .i64 (bO c.feat))
   go_wp2_with with_reducible refine sb ?_
   unfold bA
   refine aN [] (prL pr0).toArray (by first | rfl | (simp only [List.map_toArray, List.map_cons, List.map_nil]; done) | (simp only [List.map_toArray, List.map_cons, List.map_nil]; rfl)) (by kernel_rfl) ?_
   clear g6
   go_wp2_with with_reducible refine sb ?_
   refine sv _ z ?_
   intro o5 g7 b5
   replace q := b5.blk q (by omega)
   replace G3_9 := b5.blk G3_9 (by omega)
   replace HL := bW.upd HL b5 (by omega)
   replace hB := b5.below hB (by omega)
   clear z b5
   go_wp2_with with_reducible refine sb ?_
   refine rc2 g7 U37 ?_
   have q0 := C.out
   have q1 := F.out
   obtain rfl : r = (pr0, bO c.feat) := by rw [← HR.out]; (unfold cP; rw [if_neg (fun hh => hh.1 q0), if_pos q1]; all_goals rfl)
   exact ⟨rfl, hB⟩
  obtain ⟨g4, g5, F⟩ := fT d8; clear d8
  have g8 := G3_9.c 0 (.int .i64 (bO c.feat))
  go_wp2_with with_reducible refine sb ?_
  clear g8
  rw [rounds_succ]
  by_cases d9 : (eW c.own : Int) = 0
  rotate_left
  ·
   obtain ⟨g9, h6, J⟩ := fF d9; clear d9
   have h7 := G3_9.c 1 (.int .i64 (eW c.own))
   go_wp2_with with_reducible refine sb ?_
   unfold bA
   refine aN [] (prL pr0).toArray (by first | rfl | (simp only [List.map_toArray, List.map_cons, List.map_nil]; done) | (simp only [List.map_toArray, List.map_cons, List.map_nil]; rfl)) (by kernel_rfl) ?_
   clear h7
   go_wp2_with with_reducible refine sb ?_
   refine sv _ z ?_
   intro o6 h8 b6
   replace q := b6.blk q (by omega)
   replace G3_9 := b6.blk G3_9 (by omega)
   replace HL := bW.upd HL b6 (by omega)
   replace hB := b6.below hB (by omega)
   clear z b6
   go_wp2_with with_reducible refine sb ?_
   refine rc2 h8 U37 ?_
   have q0 := C.out
   have q1 := F.out
   have q2 := J.out
   obtain rfl : r = (pr0, eW c.own) := by rw [← HR.out]; (unfold cP; rw [if_neg (fun hh => hh.1 q0), if_neg (fun hh => hh q1), if_pos q2]; all_goals rfl)
   exact ⟨rfl, hB⟩
  obtain ⟨g9, h6, J⟩ := fT d9; clear d9
  have h9 := G3_9.c 1 (.int .i64 (eW c.own))
  go_wp2_with with_reducible refine sb ?_
  clear h9
  rw [rounds_succ]
  by_cases e0 : (eW c.peer : Int) = 0
  rotate_left
  ·
   obtain ⟨i0, i1, O⟩ := fF e0; clear e0
   have i2 := G3_9.c 2 (.int .i64 (eW c.peer))
   go_wp2_with with_reducible refine sb ?_
   unfold bA
   refine aN [] (prL pr0).toArray (by first | rfl | (simp only [List.map_toArray, List.map_cons, List.map_nil]; done) | (simp only [List.map_toArray, List.map_cons, List.map_nil]; rfl)) (by kernel_rfl) ?_
   clear i2
   go_wp2_with with_reducible refine sb ?_
   refine sv _ z ?_
   intro o7 i3 b7
   replace q := b7.blk q (by omega)
   replace G3_9 := b7.blk G3_9 (by omega)
   replace HL := bW.upd HL b7 (by omega)
   replace hB := b7.below hB (by omega)
   clear z b7
   go_wp2_with with_reducible refine sb ?_
   refine rc2 i3 U37 ?_
   have q0 := C.out
   have q1 := F.out
   have q2 := J.out
   have q3 := O.out
   obtain rfl : r = (pr0, eW c.peer) := by rw [← HR.out]; (unfold cP; rw [if_neg (fun hh => hh.1 q0), if_neg (fun hh => hh q1), if_neg (fun hh => hh q2), if_pos q3]; all_goals rfl)
   exact ⟨rfl, hB⟩
  obtain ⟨i0, i1, O⟩ := fT e0; clear e0
  have i4 := G3_9.c 2 (.int .i64 (eW c.peer))
  go_wp2_with with_reducible refine sb ?_
  clear i4
  rw [rounds_succ]
  by_cases U : c.secret < 1#32
  ·
   have i5 : decide ((W32 c.secret : Int) < 1) = true := decide_eq_true (show W32 c.secret < W32 (1#32) by rw [iD]; exact U)
   have i6 : decide ((1 : Int) ≤ W32 c.secret) = false := decide_eq_false (fun hh => absurd (show W32 (1#32) ≤ W32 c.secret from hh) (by rw [iG]; exact BitVec.not_le.2 U))
   have a3 := Lib.hid U
   clear U
   have i7 := q.c 14 (.int .u32 (W32 c.secret))
   go_wp2_with with_reducible refine sb ?_
   unfold bA
   refine aN [] (prL pr0).toArray (by first | rfl | (simp only [List.map_toArray, List.map_cons, List.map_nil]; done) | (simp only [List.map_toArray, List.map_cons, List.map_nil]; rfl)) (by kernel_rfl) ?_
   clear i7
   go_wp2_with with_reducible refine sb ?_
   refine sv _ z ?_
   intro o8 i8 b8
   replace q := b8.blk q (by omega)
   replace G3_9 := b8.blk G3_9 (by omega)
   replace HL := bW.upd HL b8 (by omega)
   replace hB := b8.below hB (by omega)
   clear z b8
   go_wp2_with with_reducible refine sb ?_
   refine rc2 i8 U37 ?_
   have q0 := C.out
   have q1 := F.out
   have q2 := J.out
   have q3 := O.out
   have q4 := a3.out
   obtain rfl : r = (pr0, 5) := by rw [← HR.out]; (unfold cP; rw [if_neg (fun hh => hh.1 q0), if_neg (fun hh => hh q1), if_neg (fun hh => hh q2), if_neg (fun hh => hh q3), if_pos (.inl q4)]; all_goals rfl)
   exact ⟨rfl, hB⟩
  have i5 : decide ((W32 c.secret : Int) < 1) = false := decide_eq_false (fun hh => U (by have h2 : W32 c.secret < W32 (1#32) := hh; rw [iD] at h2; exact h2))
  have i6 : decide ((1 : Int) ≤ W32 c.secret) = true := decide_eq_true (show W32 (1#32) ≤ W32 c.secret by rw [iG]; exact BitVec.not_lt.1 U)
  have a3 := Lib.hid U
  clear U
  by_cases Z : 2147483645#32 < c.secret
  ·
   have i9 : decide ((2147483645 : Int) < W32 c.secret) = true := decide_eq_true (show W32 (2147483645#32) < W32 c.secret by rw [iD]; exact Z)
   have j0 : decide ((W32 c.secret : Int) ≤ 2147483645) = false := decide_eq_false (fun hh => absurd (show W32 c.secret ≤ W32 (2147483645#32) from hh) (by rw [iG]; exact BitVec.not_le.2 Z))
   have a7 := Lib.hid Z
   clear Z
   have j1 := q.c 14 (.int .u32 (W32 c.secret))
   go_wp2_with with_reducible refine sb ?_
   unfold bA
   refine aN [] (prL pr0).toArray (by first | rfl | (simp only [List.map_toArray, List.map_cons, List.map_nil]; done) | (simp only [List.map_toArray, List.map_cons, List.map_nil]; rfl)) (by kernel_rfl) ?_
   clear j1
   go_wp2_with with_reducible refine sb ?_
   refine sv _ z ?_
   intro o9 j2 b9
   replace q := b9.blk q (by omega)
   replace G3_9 := b9.blk G3_9 (by omega)
   replace HL := bW.upd HL b9 (by omega)
   replace hB := b9.below hB (by omega)
   clear z b9
   go_wp2_with with_reducible refine sb ?_
   refine rc2 j2 U37 ?_
   have q0 := C.out
   have q1 := F.out
   have q2 := J.out
   have q3 := O.out
   have q4 := a3.out
   have q5 := a7.out
   obtain rfl : r = (pr0, 5) := by rw [← HR.out]; (unfold cP; rw [if_neg (fun hh => hh.1 q0), if_neg (fun hh => hh q1), if_neg (fun hh => hh q2), if_neg (fun hh => hh q3), if_pos (.inr q5)]; all_goals rfl)
   exact ⟨rfl, hB⟩
  have i9 : decide ((2147483645 : Int) < W32 c.secret) = false := decide_eq_false (fun hh => Z (by have h2 : W32 (2147483645#32) < W32 c.secret := hh; rw [iD] at h2; exact h2))
  have j0 : decide ((W32 c.secret : Int) ≤ 2147483645) = true := decide_eq_true (show W32 c.secret ≤ W32 (2147483645#32) by rw [iG]; exact BitVec.not_lt.1 Z)
  have a7 := Lib.hid Z
  clear Z
  have j3 := q.c 14 (.int .u32 (W32 c.secret))
  go_wp2_with with_reducible refine sb ?_
  refine (rC c.secret _).mono ?_; rintro e p0 ⟨rfl, a8⟩
  clear j3
  replace q := q.to a8 q.lt
  replace z := z.to a8 z.lt
  replace G3_9 := G3_9.to a8 G3_9.lt
  replace HL := bW.to HL a8
  replace hB := hB.trans (a8.mono hB.size)
  clear a8
  go_wp2_with with_reducible refine sb ?_
  refine (tD ((cJ c.secret)) _).mono ?_; rintro e p4 ⟨rfl, a9⟩
  replace q := q.to a9 q.lt
  replace z := z.to a9 z.lt
  replace G3_9 := G3_9.to a9 G3_9.lt
  replace HL := bW.to HL a9
  replace hB := hB.trans (a9.mono hB.size)
  clear a9
  rcases e1 : fB ((cJ c.secret)) with _ | _
  ·
   go_wp2_with with_reducible refine sb ?_
   unfold bA
   refine aN [] (prL pr0).toArray (by first | rfl | (simp only [List.map_toArray, List.map_cons, List.map_nil]; done) | (simp only [List.map_toArray, List.map_cons, List.map_nil]; rfl)) (by kernel_rfl) ?_
   go_wp2_with with_reducible refine sb ?_
   refine sv _ z ?_
   intro p5 j4 c0
   replace q := c0.blk q (by omega)
   replace G3_9 := c0.blk G3_9 (by omega)
   replace HL := bW.upd HL c0 (by omega)
   replace hB := c0.below hB (by omega)
   clear z c0
   go_wp2_with with_reducible refine sb ?_
   refine rc2 j4 U37 ?_
   have q0 := C.out
   have q1 := F.out
   have q2 := J.out
   have q3 := O.out
   have q4 := a3.out
   have q5 := a7.out
   obtain rfl : r = (pr0, 1) := by rw [← HR.out]; (unfold cP; rw [if_neg (fun hh => hh.1 q0), if_neg (fun hh => hh q1), if_neg (fun hh => hh q2), if_neg (fun hh => hh q3), if_neg (fun hh => hh.elim q4 q5), if_pos e1]; all_goals rfl)
   exact ⟨rfl, hB⟩
  rcases f5 : c.feat.sid with _ | _
  ·
   have j5 := q.c 5 (.bool c.feat.sid)
   go_wp2_with first | with_reducible refine sb ?_ | with_reducible refine ld 0 (cT c) q U34 ?_
   unfold bA
   refine aN [(0, .agg (cT c).toArray), (13, .int .i64 (-1))] (prL { pr0 with cfg := c, passkey := -1 }).toArray (by first | rfl | (simp only [List.map_toArray, List.map_cons, List.map_nil]; done) | (simp only [List.map_toArray, List.map_cons, List.map_nil]; rfl)) (by kernel_rfl) ?_
   clear j5
   go_wp2_with with_reducible refine sb ?_
   refine sv _ z ?_
   intro p6 j6 c4
   replace q := c4.blk q (by omega)
   replace G3_9 := c4.blk G3_9 (by omega)
   replace HL := bW.upd HL c4 (by omega)
   replace hB := c4.below hB (by omega)
   clear z c4
   go_wp2_with with_reducible refine sb ?_
   refine rc2 j6 U37 ?_
   have q0 := C.out
   have q1 := F.out
   have q2 := J.out
   have q3 := O.out
   have q4 := a3.out
   have q5 := a7.out
   obtain rfl : r = (({ pr0 with cfg := c, passkey := -1 }), 0) := by rw [← HR.out]; (unfold cP; rw [if_neg (fun hh => hh.1 q0), if_neg (fun hh => hh q1), if_neg (fun hh => hh q2), if_neg (fun hh => hh q3), if_neg (fun hh => hh.elim q4 q5), if_neg (by rw [e1]; decide), if_neg (fun hh => absurd (Eq.trans (Eq.symm f5) hh.1) (by decide))]; all_goals rfl)
   exact ⟨rfl, hB⟩
  have j7 := q.c 5 (.bool c.feat.sid)
  go_wp2_with first | with_reducible refine sb ?_ | with_reducible refine ld 11 [.int .i64 c.idn.adr.kind, .int .u64 (W64 c.idn.adr.bits), .int .u64 (W64 c.idn.irk)] q U29 ?_
  unfold bA
  refine aN [(0, .int .i64 8), (4, .agg (I0 c.idn).toArray)] (aI ⟨8, ⟨0, false, false, false, false, false⟩, 0#32, 0#64, c.idn, 0⟩).toArray (by first | rfl | (simp only [List.map_toArray, List.map_cons, List.map_nil]; done) | (simp only [List.map_toArray, List.map_cons, List.map_nil]; rfl)) (by kernel_rfl) ?_
  clear j7
  go_wp2_with with_reducible refine sb ?_
  refine (tR c.idn _ HL).mono ?_; rintro e p7 ⟨rfl, b0⟩
  replace q := q.to b0 q.lt
  replace z := z.to b0 z.lt
  replace G3_9 := G3_9.to b0 G3_9.lt
  replace HL := bW.to HL b0
  replace hB := hB.trans (b0.mono hB.size)
  clear b0
  by_cases e2 : (iA c.idn : Int) = 0
  ·
   obtain ⟨j8, j9, f2⟩ := fT e2; clear e2
   go_wp2_with first | with_reducible refine sb ?_ | with_reducible refine ld 0 (cT c) q U34 ?_
   unfold bA
   refine aN [(0, .agg (cT c).toArray), (13, .int .i64 (-1))] (prL { pr0 with cfg := c, passkey := -1 }).toArray (by first | rfl | (simp only [List.map_toArray, List.map_cons, List.map_nil]; done) | (simp only [List.map_toArray, List.map_cons, List.map_nil]; rfl)) (by kernel_rfl) ?_
   go_wp2_with with_reducible refine sb ?_
   refine sv _ z ?_
   intro p8 k0 c5
   replace q := c5.blk q (by omega)
   replace G3_9 := c5.blk G3_9 (by omega)
   replace HL := bW.upd HL c5 (by omega)
   replace hB := c5.below hB (by omega)
   clear z c5
   go_wp2_with with_reducible refine sb ?_
   refine rc2 k0 U37 ?_
   have q0 := C.out
   have q1 := F.out
   have q2 := J.out
   have q3 := O.out
   have q4 := a3.out
   have q5 := a7.out
   have q8 := f2.out
   obtain rfl : r = (({ pr0 with cfg := c, passkey := -1 }), 0) := by rw [← HR.out]; (unfold cP; rw [if_neg (fun hh => hh.1 q0), if_neg (fun hh => hh q1), if_neg (fun hh => hh q2), if_neg (fun hh => hh q3), if_neg (fun hh => hh.elim q4 q5), if_neg (by rw [e1]; decide), if_neg (fun hh => hh.2 q8)]; all_goals rfl)
   exact ⟨rfl, hB⟩
  obtain ⟨j8, j9, f2⟩ := fF e2; clear e2
  go_wp2_with with_reducible refine sb ?_
  unfold bA
  refine aN [] (prL pr0).toArray (by first | rfl | (simp only [List.map_toArray, List.map_cons, List.map_nil]; done) | (simp only [List.map_toArray, List.map_cons, List.map_nil]; rfl)) (by kernel_rfl) ?_
  go_wp2_with with_reducible refine sb ?_
  refine sv _ z ?_
  intro p9 k1 c6
  replace q := c6.blk q (by omega)
  replace G3_9 := c6.blk G3_9 (by omega)
  replace HL := bW.upd HL c6 (by omega)
  replace hB := c6.below hB (by omega)
  clear z c6
  go_wp2_with with_reducible refine sb ?_
  refine rc2 k1 U37 ?_
  have q0 := C.out
  have q1 := F.out
  have q2 := J.out
  have q3 := O.out
  have q4 := a3.out
  have q5 := a7.out
  have q8 := f2.out
  obtain rfl : r = (pr0, iA c.idn) := by rw [← HR.out]; (unfold cP; rw [if_neg (fun hh => hh.1 q0), if_neg (fun hh => hh q1), if_neg (fun hh => hh q2), if_neg (fun hh => hh q3), if_neg (fun hh => hh.elim q4 q5), if_neg (by rw [e1]; decide), if_pos ⟨f5, q8⟩]; all_goals rfl)
  exact ⟨rfl, hB⟩
 obtain ⟨f9, g0, C⟩ := fF d7; clear d7
 by_cases e3 : (c.role : Int) = 1
 rotate_left
 ·
  obtain ⟨k2, k3, D⟩ := fF e3; clear e3
  have k4 := q.c 0 (.int .i64 c.role)
  go_wp2_with with_reducible refine sb ?_
  unfold bA
  refine aN [] (prL pr0).toArray (by first | rfl | (simp only [List.map_toArray, List.map_cons, List.map_nil]; done) | (simp only [List.map_toArray, List.map_cons, List.map_nil]; rfl)) (by kernel_rfl) ?_
  clear k4
  go_wp2_with with_reducible refine sb ?_
  refine sv _ z ?_
  intro q7 k5 e4
  replace q := e4.blk q (by omega)
  replace HL := bW.upd HL e4 (by omega)
  replace hB := e4.below hB (by omega)
  clear z e4
  go_wp2_with with_reducible refine sb ?_
  refine rc2 k5 U37 ?_
  have q0 := C.out
  have q1 := D.out
  obtain rfl : r = (pr0, 5) := by rw [← HR.out]; (unfold cP; rw [if_pos ⟨q0, q1⟩]; all_goals rfl)
  exact ⟨rfl, hB⟩
 obtain ⟨k2, k3, D⟩ := fT e3; clear e3
 have k6 := q.c 0 (.int .i64 c.role)
 go_wp2_with with_reducible refine sb ?_
 clear k6
 have hst : aO fun W => Below w.heap.size w W ∧ Blk W a5 34 (cT c).toArray ∧ Blk W a6 37 (prL pr0).toArray ∧ bW W := aB (aJ _ _ (Nat.le_refl _)) (aB (aW _ _ _) (aB (aW _ _ _) (rV)))
 refine aD _ 12 hst ⟨hB.drew, q, z, (HL.to (Below.refl _ _).drew)⟩ ?_
 clear hB q z HL
 refine aA 0 hst ?_
 refine dA 1 1 (bL c.feat) (fun W hS => hS.2.1) U23 hst ?_
 refine aA 3 hst ?_
 refine dA 4 7 [.int .i64 c.own.kind, .int .u64 (W64 c.own.bits)] (fun W hS => hS.2.1) U26 hst ?_
 refine aA 6 hst ?_
 refine dA 7 9 [.int .i64 c.peer.kind, .int .u64 (W64 c.peer.bits)] (fun W hS => hS.2.1) U26 hst ?_
 refine aA 11 hst ?_
 refine aF 2 rfl hst (fun W hS K hK => by clear hS; go_simp; exact cl (iT c.feat _) hK) ?_
 refine aF 5 rfl hst (fun W hS K hK => by go_simp; exact cl (nL c.own _ hS.2.2.2) hK) ?_
 refine aF 8 rfl hst (fun W hS K hK => by go_simp; exact cl (nL c.peer _ hS.2.2.2) hK) ?_
 refine eH 9 hst rfl ?_; intro W hS K hK
 have l3_9_g_1 : a5 < W.heap.size := hS.2.1.lt
 have l3_9_g_8 : a6 < W.heap.size := hS.2.2.1.lt
 have n3_9a : w.heap.size ≤ W.heap.size := hS.1.size
 clear hS
 go_simp
 refine hK.out (fun W' => Blk W' W.heap.size 38 #[.int .i64 (bO c.feat), .int .i64 (eW c.own), .int .i64 (eW c.peer)]) _ _ (aW _ _ _) ((Below.refl _ _).alloc (Nat.le_refl _) _) (Blk.new _ _ _) (fun hst => ?_)
 clear hK K
 try simp only [nrm]
 generalize W.heap.size = g3_9 at hst l3_9_g_1 l3_9_g_8 n3_9a ⊢
 clear W
 refine aA 10 hst ?_
 refine aE (fun r0 hS => ?_)
 obtain ⟨⟨hB, q, z, HL⟩, G3_9⟩ := hS
 clear hst
 go_wp2_with with_reducible refine sb ?_
 refine wp_loop_rounds 4 ?_
 rw [rounds_succ]
 by_cases e5 : (bO c.feat : Int) = 0
 rotate_left
 ·
  obtain ⟨k7, k8, I⟩ := fF e5; clear e5
  have k9 := G3_9.c 0 (.int .i64 (bO c.feat))
  go_wp2_with with_reducible refine sb ?_
  unfold bA
  refine aN [] (prL pr0).toArray (by first | rfl | (simp only [List.map_toArray, List.map_cons, List.map_nil]; done) | (simp only [List.map_toArray, List.map_cons, List.map_nil]; rfl)) (by kernel_rfl) ?_
  clear k9
  go_wp2_with with_reducible refine sb ?_
  refine sv _ z ?_
  intro r1 l0 c7
  replace q := c7.blk q (by omega)
  replace G3_9 := c7.blk G3_9 (by omega)
  replace HL := bW.upd HL c7 (by omega)
  replace hB := c7.below hB (by omega)
  clear z c7
  go_wp2_with with_reducible refine sb ?_
  refine rc2 l0 U37 ?_
  have q0 := C.out
  have q1 := D.out
  have q2 := I.out
  obtain rfl : r = (pr0, bO c.feat) := by rw [← HR.out]; (unfold cP; rw [if_neg (fun hh => hh.2 q1), if_pos q2]; all_goals rfl)
  exact ⟨rfl, hB⟩
 obtain ⟨k7, k8, I⟩ := fT e5; clear e5
 have l1 := G3_9.c 0 (.int .i64 (bO c.feat))
 go_wp2_with with_reducible refine sb ?_
 clear l1
 rw [rounds_succ]
 by_cases e6 : (eW c.own : Int) = 0
 rotate_left
 ·
  obtain ⟨l2, l3, L⟩ := fF e6; clear e6
  have l4 := G3_9.c 1 (.int .i64 (eW c.own))
  go_wp2_with with_reducible refine sb ?_
  unfold bA
  refine aN [] (prL pr0).toArray (by first | rfl | (simp only [List.map_toArray, List.map_cons, List.map_nil]; done) | (simp only [List.map_toArray, List.map_cons, List.map_nil]; rfl)) (by kernel_rfl) ?_
  clear l4
  go_wp2_with with_reducible refine sb ?_
  refine sv _ z ?_
  intro r2 l5 c8
  replace q := c8.blk q (by omega)
  replace G3_9 := c8.blk G3_9 (by omega)
  replace HL := bW.upd HL c8 (by omega)
  replace hB := c8.below hB (by omega)
  clear z c8
  go_wp2_with with_reducible refine sb ?_
  refine rc2 l5 U37 ?_
  have q0 := C.out
  have q1 := D.out
  have q2 := I.out
  have q3 := L.out
  obtain rfl : r = (pr0, eW c.own) := by rw [← HR.out]; (unfold cP; rw [if_neg (fun hh => hh.2 q1), if_neg (fun hh => hh q2), if_pos q3]; all_goals rfl)
  exact ⟨rfl, hB⟩
 obtain ⟨l2, l3, L⟩ := fT e6; clear e6
 have l6 := G3_9.c 1 (.int .i64 (eW c.own))
 go_wp2_with with_reducible refine sb ?_
 clear l6
 rw [rounds_succ]
 by_cases e7 : (eW c.peer : Int) = 0
 rotate_left
 ·
  obtain ⟨l7, l8, a0⟩ := fF e7; clear e7
  have l9 := G3_9.c 2 (.int .i64 (eW c.peer))
  go_wp2_with with_reducible refine sb ?_
  unfold bA
  refine aN [] (prL pr0).toArray (by first | rfl | (simp only [List.map_toArray, List.map_cons, List.map_nil]; done) | (simp only [List.map_toArray, List.map_cons, List.map_nil]; rfl)) (by kernel_rfl) ?_
  clear l9
  go_wp2_with with_reducible refine sb ?_
  refine sv _ z ?_
  intro r3 m0 c9
  replace q := c9.blk q (by omega)
  replace G3_9 := c9.blk G3_9 (by omega)
  replace HL := bW.upd HL c9 (by omega)
  replace hB := c9.below hB (by omega)
  clear z c9
  go_wp2_with with_reducible refine sb ?_
  refine rc2 m0 U37 ?_
  have q0 := C.out
  have q1 := D.out
  have q2 := I.out
  have q3 := L.out
  have q4 := a0.out
  obtain rfl : r = (pr0, eW c.peer) := by rw [← HR.out]; (unfold cP; rw [if_neg (fun hh => hh.2 q1), if_neg (fun hh => hh q2), if_neg (fun hh => hh q3), if_pos q4]; all_goals rfl)
  exact ⟨rfl, hB⟩
 obtain ⟨l7, l8, a0⟩ := fT e7; clear e7
 have m1 := G3_9.c 2 (.int .i64 (eW c.peer))
 go_wp2_with with_reducible refine sb ?_
 clear m1
 rw [rounds_succ]
 by_cases a1 : c.secret < 1#32
 ·
  have m2 : decide ((W32 c.secret : Int) < 1) = true := decide_eq_true (show W32 c.secret < W32 (1#32) by rw [iD]; exact a1)
  have m3 : decide ((1 : Int) ≤ W32 c.secret) = false := decide_eq_false (fun hh => absurd (show W32 (1#32) ≤ W32 c.secret from hh) (by rw [iG]; exact BitVec.not_le.2 a1))
  have a4 := Lib.hid a1
  clear a1
  have m4 := q.c 14 (.int .u32 (W32 c.secret))
  go_wp2_with with_reducible refine sb ?_
  unfold bA
  refine aN [] (prL pr0).toArray (by first | rfl | (simp only [List.map_toArray, List.map_cons, List.map_nil]; done) | (simp only [List.map_toArray, List.map_cons, List.map_nil]; rfl)) (by kernel_rfl) ?_
  clear m4
  go_wp2_with with_reducible refine sb ?_
  refine sv _ z ?_
  intro r4 m5 d0
  replace q := d0.blk q (by omega)
  replace G3_9 := d0.blk G3_9 (by omega)
  replace HL := bW.upd HL d0 (by omega)
  replace hB := d0.below hB (by omega)
  clear z d0
  go_wp2_with with_reducible refine sb ?_
  refine rc2 m5 U37 ?_
  have q0 := C.out
  have q1 := D.out
  have q2 := I.out
  have q3 := L.out
  have q4 := a0.out
  have q5 := a4.out
  obtain rfl : r = (pr0, 5) := by rw [← HR.out]; (unfold cP; rw [if_neg (fun hh => hh.2 q1), if_neg (fun hh => hh q2), if_neg (fun hh => hh q3), if_neg (fun hh => hh q4), if_pos (.inl q5)]; all_goals rfl)
  exact ⟨rfl, hB⟩
 have m2 : decide ((W32 c.secret : Int) < 1) = false := decide_eq_false (fun hh => a1 (by have h2 : W32 c.secret < W32 (1#32) := hh; rw [iD] at h2; exact h2))
 have m3 : decide ((1 : Int) ≤ W32 c.secret) = true := decide_eq_true (show W32 (1#32) ≤ W32 c.secret by rw [iG]; exact BitVec.not_lt.1 a1)
 have a4 := Lib.hid a1
 clear a1
 by_cases a2 : 2147483645#32 < c.secret
 ·
  have m6 : decide ((2147483645 : Int) < W32 c.secret) = true := decide_eq_true (show W32 (2147483645#32) < W32 c.secret by rw [iD]; exact a2)
  have m7 : decide ((W32 c.secret : Int) ≤ 2147483645) = false := decide_eq_false (fun hh => absurd (show W32 c.secret ≤ W32 (2147483645#32) from hh) (by rw [iG]; exact BitVec.not_le.2 a2))
  have b1 := Lib.hid a2
  clear a2
  have m8 := q.c 14 (.int .u32 (W32 c.secret))
  go_wp2_with with_reducible refine sb ?_
  unfold bA
  refine aN [] (prL pr0).toArray (by first | rfl | (simp only [List.map_toArray, List.map_cons, List.map_nil]; done) | (simp only [List.map_toArray, List.map_cons, List.map_nil]; rfl)) (by kernel_rfl) ?_
  clear m8
  go_wp2_with with_reducible refine sb ?_
  refine sv _ z ?_
  intro r5 m9 d1
  replace q := d1.blk q (by omega)
  replace G3_9 := d1.blk G3_9 (by omega)
  replace HL := bW.upd HL d1 (by omega)
  replace hB := d1.below hB (by omega)
  clear z d1
  go_wp2_with with_reducible refine sb ?_
  refine rc2 m9 U37 ?_
  have q0 := C.out
  have q1 := D.out
  have q2 := I.out
  have q3 := L.out
  have q4 := a0.out
  have q5 := a4.out
  have q6 := b1.out
  obtain rfl : r = (pr0, 5) := by rw [← HR.out]; (unfold cP; rw [if_neg (fun hh => hh.2 q1), if_neg (fun hh => hh q2), if_neg (fun hh => hh q3), if_neg (fun hh => hh q4), if_pos (.inr q6)]; all_goals rfl)
  exact ⟨rfl, hB⟩
 have m6 : decide ((2147483645 : Int) < W32 c.secret) = false := decide_eq_false (fun hh => a2 (by have h2 : W32 (2147483645#32) < W32 c.secret := hh; rw [iD] at h2; exact h2))
 have m7 : decide ((W32 c.secret : Int) ≤ 2147483645) = true := decide_eq_true (show W32 c.secret ≤ W32 (2147483645#32) by rw [iG]; exact BitVec.not_lt.1 a2)
 have b1 := Lib.hid a2
 clear a2
 have n0 := q.c 14 (.int .u32 (W32 c.secret))
 go_wp2_with with_reducible refine sb ?_
 refine (rC c.secret _).mono ?_; rintro e r6 ⟨rfl, b2⟩
 clear n0
 replace q := q.to b2 q.lt
 replace z := z.to b2 z.lt
 replace G3_9 := G3_9.to b2 G3_9.lt
 replace HL := bW.to HL b2
 replace hB := hB.trans (b2.mono hB.size)
 clear b2
 go_wp2_with with_reducible refine sb ?_
 refine (tD ((cJ c.secret)) _).mono ?_; rintro e r7 ⟨rfl, b3⟩
 replace q := q.to b3 q.lt
 replace z := z.to b3 z.lt
 replace G3_9 := G3_9.to b3 G3_9.lt
 replace HL := bW.to HL b3
 replace hB := hB.trans (b3.mono hB.size)
 clear b3
 rcases e8 : fB ((cJ c.secret)) with _ | _
 ·
  go_wp2_with with_reducible refine sb ?_
  unfold bA
  refine aN [] (prL pr0).toArray (by first | rfl | (simp only [List.map_toArray, List.map_cons, List.map_nil]; done) | (simp only [List.map_toArray, List.map_cons, List.map_nil]; rfl)) (by kernel_rfl) ?_
  go_wp2_with with_reducible refine sb ?_
  refine sv _ z ?_
  intro r8 n1 d2
  replace q := d2.blk q (by omega)
  replace G3_9 := d2.blk G3_9 (by omega)
  replace HL := bW.upd HL d2 (by omega)
  replace hB := d2.below hB (by omega)
  clear z d2
  go_wp2_with with_reducible refine sb ?_
  refine rc2 n1 U37 ?_
  have q0 := C.out
  have q1 := D.out
  have q2 := I.out
  have q3 := L.out
  have q4 := a0.out
  have q5 := a4.out
  have q6 := b1.out
  obtain rfl : r = (pr0, 1) := by rw [← HR.out]; (unfold cP; rw [if_neg (fun hh => hh.2 q1), if_neg (fun hh => hh q2), if_neg (fun hh => hh q3), if_neg (fun hh => hh q4), if_neg (fun hh => hh.elim q5 q6), if_pos e8]; all_goals rfl)
  exact ⟨rfl, hB⟩
 rcases f6 : c.feat.sid with _ | _
 ·
  have n2 := q.c 5 (.bool c.feat.sid)
  go_wp2_with first | with_reducible refine sb ?_ | with_reducible refine ld 0 (cT c) q U34 ?_
  unfold bA
  refine aN [(0, .agg (cT c).toArray), (13, .int .i64 (-1))] (prL { pr0 with cfg := c, passkey := -1 }).toArray (by first | rfl | (simp only [List.map_toArray, List.map_cons, List.map_nil]; done) | (simp only [List.map_toArray, List.map_cons, List.map_nil]; rfl)) (by kernel_rfl) ?_
  clear n2
  go_wp2_with with_reducible refine sb ?_
  refine sv _ z ?_
  intro r9 n3 d3
  replace q := d3.blk q (by omega)
  replace G3_9 := d3.blk G3_9 (by omega)
  replace HL := bW.upd HL d3 (by omega)
  replace hB := d3.below hB (by omega)
  clear z d3
  go_wp2_with with_reducible refine sb ?_
  refine rc2 n3 U37 ?_
  have q0 := C.out
  have q1 := D.out
  have q2 := I.out
  have q3 := L.out
  have q4 := a0.out
  have q5 := a4.out
  have q6 := b1.out
  obtain rfl : r = (({ pr0 with cfg := c, passkey := -1 }), 0) := by rw [← HR.out]; (unfold cP; rw [if_neg (fun hh => hh.2 q1), if_neg (fun hh => hh q2), if_neg (fun hh => hh q3), if_neg (fun hh => hh q4), if_neg (fun hh => hh.elim q5 q6), if_neg (by rw [e8]; decide), if_neg (fun hh => absurd (Eq.trans (Eq.symm f6) hh.1) (by decide))]; all_goals rfl)
  exact ⟨rfl, hB⟩
 have n4 := q.c 5 (.bool c.feat.sid)
 go_wp2_with first | with_reducible refine sb ?_ | with_reducible refine ld 11 [.int .i64 c.idn.adr.kind, .int .u64 (W64 c.idn.adr.bits), .int .u64 (W64 c.idn.irk)] q U29 ?_
 unfold bA
 refine aN [(0, .int .i64 8), (4, .agg (I0 c.idn).toArray)] (aI ⟨8, ⟨0, false, false, false, false, false⟩, 0#32, 0#64, c.idn, 0⟩).toArray (by first | rfl | (simp only [List.map_toArray, List.map_cons, List.map_nil]; done) | (simp only [List.map_toArray, List.map_cons, List.map_nil]; rfl)) (by kernel_rfl) ?_
 clear n4
 go_wp2_with with_reducible refine sb ?_
 refine (tR c.idn _ HL).mono ?_; rintro e s0 ⟨rfl, b4⟩
 replace q := q.to b4 q.lt
 replace z := z.to b4 z.lt
 replace G3_9 := G3_9.to b4 G3_9.lt
 replace HL := bW.to HL b4
 replace hB := hB.trans (b4.mono hB.size)
 clear b4
 by_cases e9 : (iA c.idn : Int) = 0
 ·
  obtain ⟨n5, n6, f3⟩ := fT e9; clear e9
  go_wp2_with first | with_reducible refine sb ?_ | with_reducible refine ld 0 (cT c) q U34 ?_
  unfold bA
  refine aN [(0, .agg (cT c).toArray), (13, .int .i64 (-1))] (prL { pr0 with cfg := c, passkey := -1 }).toArray (by first | rfl | (simp only [List.map_toArray, List.map_cons, List.map_nil]; done) | (simp only [List.map_toArray, List.map_cons, List.map_nil]; rfl)) (by kernel_rfl) ?_
  go_wp2_with with_reducible refine sb ?_
  refine sv _ z ?_
  intro s1 n7 d4
  replace q := d4.blk q (by omega)
  replace G3_9 := d4.blk G3_9 (by omega)
  replace HL := bW.upd HL d4 (by omega)
  replace hB := d4.below hB (by omega)
  clear z d4
  go_wp2_with with_reducible refine sb ?_
  refine rc2 n7 U37 ?_
  have q0 := C.out
  have q1 := D.out
  have q2 := I.out
  have q3 := L.out
  have q4 := a0.out
  have q5 := a4.out
  have q6 := b1.out
  have q9 := f3.out
  obtain rfl : r = (({ pr0 with cfg := c, passkey := -1 }), 0) := by rw [← HR.out]; (unfold cP; rw [if_neg (fun hh => hh.2 q1), if_neg (fun hh => hh q2), if_neg (fun hh => hh q3), if_neg (fun hh => hh q4), if_neg (fun hh => hh.elim q5 q6), if_neg (by rw [e8]; decide), if_neg (fun hh => hh.2 q9)]; all_goals rfl)
  exact ⟨rfl, hB⟩
 obtain ⟨n5, n6, f3⟩ := fF e9; clear e9
 go_wp2_with with_reducible refine sb ?_
 unfold bA
 refine aN [] (prL pr0).toArray (by first | rfl | (simp only [List.map_toArray, List.map_cons, List.map_nil]; done) | (simp only [List.map_toArray, List.map_cons, List.map_nil]; rfl)) (by kernel_rfl) ?_
 go_wp2_with with_reducible refine sb ?_
 refine sv _ z ?_
 intro s2 n8 d5
 replace q := d5.blk q (by omega)
 replace G3_9 := d5.blk G3_9 (by omega)
 replace HL := bW.upd HL d5 (by omega)
 replace hB := d5.below hB (by omega)
 clear z d5
 go_wp2_with with_reducible refine sb ?_
 refine rc2 n8 U37 ?_
 have q0 := C.out
 have q1 := D.out
 have q2 := I.out
 have q3 := L.out
 have q4 := a0.out
 have q5 := a4.out
 have q6 := b1.out
 have q9 := f3.out
 obtain rfl : r = (pr0, iA c.idn) := by rw [← HR.out]; (unfold cP; rw [if_neg (fun hh => hh.2 q1), if_neg (fun hh => hh q2), if_neg (fun hh => hh q3), if_neg (fun hh => hh q4), if_neg (fun hh => hh.elim q5 q6), if_neg (by rw [e8]; decide), if_pos ⟨f6, q9⟩]; all_goals rfl)
 exact ⟨rfl, hB⟩
end Go.Proofs.YtihmbcnccdiecaaGreatDoor
