/- Part of the proofs of the laws of pairing. -/
import Derived.Test.YtihmbcnccdiecaaGreatDoorBRsB
namespace Go.Proofs.YtihmbcnccdiecaaGreatDoor
set_option maxRecDepth 100000
set_option linter.unusedVariables false
set_option linter.unusedSimpArgs false
open Go.ChangeShapes Go.WideShapes Go.ChangeAt Go.RowKit
set_option maxHeartbeats 2000000 in
theorem AI (base : Nat) (p : Pr) (d : Sec) (now : Int) (bx : List Bk) (w : World) (HM : Mem w w base [] [] (.slice none 0 0) (.slice none 0 0) bx) :
  Calls Tryz.prog 120 #[.agg (prL p).toArray, .agg (aI d).toArray, .int .i64 now] w (fun e w' => gJ w w' base (cW p d now) bx e) := by
 go_enter Tryz.func120, Tryz.ntmps120
 go_wp2_with with_reducible refine sy ?_
 refine HM.nw (ty := 37) (cs := (prL p).toArray) ?_; clear HM; intro g3 g4 HM
 go_wp2_with with_reducible refine sy ?_
 refine HM.nw (ty := 43) (cs := (aI d).toArray) ?_; clear HM; intro g5 g6 HM
 go_wp2_with with_reducible refine sy ?_
 refine HM.nw (ty := 106) (cs := (stL fY (.slice none 0 0) (.slice none 0 0)).toArray) ?_; clear HM; intro g7 g8 HM
 go_wp2_with first | with_reducible refine sy ?_ | with_reducible refine lw HM.b2 U37 ?_
 refine bt HM.to (fW p now _ HM.laid) ?_; clear HM; intro g9 HM
 go_wp2_with with_reducible refine sy ?_
 refine HM.nw (ty := 106) (cs := (stL fY (.slice none 0 0) (.slice none 0 0)).toArray) ?_; clear HM; intro h6 h7 HM
 go_wp2_with with_reducible refine sy ?_
 refine yv HM.b0 HM.s0 ?_; clear HM; intro h8 HM
 go_wp2_with first | with_reducible refine sy ?_ | with_reducible refine lw HM.b3 U37 ?_
 refine bt HM.to (cB p _ (aP p) rfl) ?_; clear HM; intro h9 HM
 rcases i0 : (aP p) with _ | _
 rotate_left
 ·
  go_wp2_with first | with_reducible refine sy ?_ | with_reducible refine lw HM.b3 U37 ?_
  refine bt HM.to (cB p _ (aP p) rfl) ?_; clear HM; intro i1 HM
  go_wp2_with first | with_reducible refine sy ?_ | with_reducible refine lw HM.b3 U37 ?_
  refine bs HM (bY _ p 7 now _ _ HM.here) ?_; clear HM; intro i2 i3 i4 i5 i6 HM
  go_wp2_with with_reducible refine sy ?_
  refine yv HM.b1 HM.s1 ?_; clear HM; intro i7 HM
  go_wp2_with with_reducible refine sy ?_
  refine rc1 HM.b1 aQ ?_
  exact stE (by unfold cW; exact es8) HM.drop.drop.drop.drop
 have a3 := HM.b3.c 21 (.int .i64 p.method)
 go_wp2_with with_reducible refine sy ?_
 refine bt HM.to (mK _ _ (aU p.method) rfl) ?_; clear HM; intro i8 HM; clear a3
 rcases i9 : (aU p.method) with _ | _
 ·
  go_wp2_with first | with_reducible refine sy ?_ | with_reducible refine lw HM.b3 U37 ?_
  refine bt HM.to (cB p _ (aP p) rfl) ?_; clear HM; intro j0 HM
  by_cases F : (p.method : Int) = 2
  rotate_left
  ·
   obtain ⟨a4, a5, z⟩ := fF F; clear F
   have a6 := HM.b3.c 21 (.int .i64 p.method)
   go_wp2_with first | with_reducible refine sy ?_ | with_reducible refine lw HM.b3 U37 ?_
   refine bs HM (bY _ p 7 now _ _ HM.here) ?_; clear HM; intro j1 j2 j3 j4 j5 HM; clear a6
   go_wp2_with with_reducible refine sy ?_
   refine yv HM.b1 HM.s1 ?_; clear HM; intro j6 HM
   go_wp2_with with_reducible refine sy ?_
   refine rc1 HM.b1 aQ ?_
   have q2 := z.out
   exact stE (by unfold cW; exact es8) HM.drop.drop.drop.drop
  obtain ⟨a4, a5, z⟩ := fT F; clear F
  by_cases I : (d.kind : Int) = 13
  rotate_left
  ·
   obtain ⟨a7, a8, J⟩ := fF I; clear I
   have a9 := HM.b3.c 21 (.int .i64 p.method)
   have b4 := HM.b2.c 0 (.int .i64 d.kind)
   go_wp2_with first | with_reducible refine sy ?_ | with_reducible refine lw HM.b3 U37 ?_
   refine bs HM (bY _ p 7 now _ _ HM.here) ?_; clear HM; intro j7 j8 j9 k0 k1 HM; clear a9 b4
   go_wp2_with with_reducible refine sy ?_
   refine yv HM.b1 HM.s1 ?_; clear HM; intro k2 HM
   go_wp2_with with_reducible refine sy ?_
   refine rc1 HM.b1 aQ ?_
   have q2 := z.out
   have q3 := J.out
   exact stE (by unfold cW; exact es8) HM.drop.drop.drop.drop
  obtain ⟨a7, a8, J⟩ := fT I; clear I
  rcases k3 : p.haveIn with _ | _
  ·
   have b5 := HM.b3.c 21 (.int .i64 p.method)
   have b6 := HM.b2.c 0 (.int .i64 d.kind)
   have b7 := HM.b3.c 50 (.bool p.haveIn)
   have b8 := HM.b2.c 8 (.int .u64 (W64 d.value))
   go_wp2_with with_reducible refine sy ?_
   refine yk 49 (stL ((aC p now).put_checkIn d.value) (.slice none 0 0) (.slice none 0 0)).toArray HM.b0 HM.s0 ?_; clear HM; intro k4 HM; clear b5 b6 b7 b8
   go_wp2_with with_reducible refine sy ?_
   refine yk 50 (stL (((aC p now).put_checkIn d.value).put_haveIn true) (.slice none 0 0) (.slice none 0 0)).toArray HM.b0 HM.s0 ?_; clear HM; intro k5 HM
   go_wp2_with first | with_reducible refine sy ?_ | with_reducible refine lw HM.b0 aQ ?_
   refine yv HM.b1 HM.s1 ?_; clear HM; intro k6 HM
   go_wp2_with with_reducible refine sy ?_
   refine rc1 HM.b1 aQ ?_
   have q2 := z.out
   have q3 := J.out
   exact stE (by unfold cW; exact es8) HM.drop.drop.drop.drop
  have b9 := HM.b3.c 21 (.int .i64 p.method)
  have c0 := HM.b2.c 0 (.int .i64 d.kind)
  have c4 := HM.b3.c 50 (.bool p.haveIn)
  go_wp2_with first | with_reducible refine sy ?_ | with_reducible refine lw HM.b3 U37 ?_
  refine bs HM (bY _ p 7 now _ _ HM.here) ?_; clear HM; intro k7 k8 k9 l0 l1 HM; clear b9 c0 c4
  go_wp2_with with_reducible refine sy ?_
  refine yv HM.b1 HM.s1 ?_; clear HM; intro l2 HM
  go_wp2_with with_reducible refine sy ?_
  refine rc1 HM.b1 aQ ?_
  have q2 := z.out
  have q3 := J.out
  exact stE (by unfold cW; exact es8) HM.drop.drop.drop.drop
 by_cases L : (d.kind : Int) = 3
 rotate_left
 ·
  obtain ⟨c5, c6, q⟩ := fF L; clear L
  have c7 := HM.b2.c 0 (.int .i64 d.kind)
  go_wp2_with first | with_reducible refine sy ?_ | with_reducible refine lw HM.b3 U37 ?_
  refine bt HM.to (cB p _ (aP p) rfl) ?_; clear HM; intro l3 HM; clear c7
  by_cases O : (p.method : Int) = 2
  rotate_left
  ·
   obtain ⟨c8, c9, C⟩ := fF O; clear O
   have d0 := HM.b3.c 21 (.int .i64 p.method)
   go_wp2_with first | with_reducible refine sy ?_ | with_reducible refine lw HM.b3 U37 ?_
   refine bs HM (bY _ p 7 now _ _ HM.here) ?_; clear HM; intro l4 l5 l6 l7 l8 HM; clear d0
   go_wp2_with with_reducible refine sy ?_
   refine yv HM.b1 HM.s1 ?_; clear HM; intro l9 HM
   go_wp2_with with_reducible refine sy ?_
   refine rc1 HM.b1 aQ ?_
   have q2 := q.out
   have q3 := C.out
   exact stE (by unfold cW; exact es8) HM.drop.drop.drop.drop
  obtain ⟨c8, c9, C⟩ := fT O; clear O
  by_cases U : (d.kind : Int) = 13
  rotate_left
  ·
   obtain ⟨d1, d2, Z⟩ := fF U; clear U
   have d3 := HM.b3.c 21 (.int .i64 p.method)
   have d4 := HM.b2.c 0 (.int .i64 d.kind)
   go_wp2_with first | with_reducible refine sy ?_ | with_reducible refine lw HM.b3 U37 ?_
   refine bs HM (bY _ p 7 now _ _ HM.here) ?_; clear HM; intro m0 m1 m2 m3 m4 HM; clear d3 d4
   go_wp2_with with_reducible refine sy ?_
   refine yv HM.b1 HM.s1 ?_; clear HM; intro m5 HM
   go_wp2_with with_reducible refine sy ?_
   refine rc1 HM.b1 aQ ?_
   have q2 := q.out
   have q3 := C.out
   have q4 := Z.out
   exact stE (by unfold cW; exact es8) HM.drop.drop.drop.drop
  obtain ⟨d1, d2, Z⟩ := fT U; clear U
  rcases m6 : p.haveIn with _ | _
  ·
   have d5 := HM.b3.c 21 (.int .i64 p.method)
   have d6 := HM.b2.c 0 (.int .i64 d.kind)
   have d7 := HM.b3.c 50 (.bool p.haveIn)
   have d8 := HM.b2.c 8 (.int .u64 (W64 d.value))
   go_wp2_with with_reducible refine sy ?_
   refine yk 49 (stL ((aC p now).put_checkIn d.value) (.slice none 0 0) (.slice none 0 0)).toArray HM.b0 HM.s0 ?_; clear HM; intro m7 HM; clear d5 d6 d7 d8
   go_wp2_with with_reducible refine sy ?_
   refine yk 50 (stL (((aC p now).put_checkIn d.value).put_haveIn true) (.slice none 0 0) (.slice none 0 0)).toArray HM.b0 HM.s0 ?_; clear HM; intro m8 HM
   go_wp2_with first | with_reducible refine sy ?_ | with_reducible refine lw HM.b0 aQ ?_
   refine yv HM.b1 HM.s1 ?_; clear HM; intro m9 HM
   go_wp2_with with_reducible refine sy ?_
   refine rc1 HM.b1 aQ ?_
   have q2 := q.out
   have q3 := C.out
   have q4 := Z.out
   exact stE (by unfold cW; exact es8) HM.drop.drop.drop.drop
  have d9 := HM.b3.c 21 (.int .i64 p.method)
  have e0 := HM.b2.c 0 (.int .i64 d.kind)
  have e1 := HM.b3.c 50 (.bool p.haveIn)
  go_wp2_with first | with_reducible refine sy ?_ | with_reducible refine lw HM.b3 U37 ?_
  refine bs HM (bY _ p 7 now _ _ HM.here) ?_; clear HM; intro n0 n1 n2 n3 n4 HM; clear d9 e0 e1
  go_wp2_with with_reducible refine sy ?_
  refine yv HM.b1 HM.s1 ?_; clear HM; intro n5 HM
  go_wp2_with with_reducible refine sy ?_
  refine rc1 HM.b1 aQ ?_
  have q2 := q.out
  have q3 := C.out
  have q4 := Z.out
  exact stE (by unfold cW; exact es8) HM.drop.drop.drop.drop
 obtain ⟨c5, c6, q⟩ := fT L; clear L
 rcases n6 : p.have_ with _ | _
 ·
  have e2 := HM.b2.c 0 (.int .i64 d.kind)
  have e3 := HM.b3.c 45 (.bool p.have_)
  have e4 := HM.b2.c 8 (.int .u64 (W64 d.value))
  go_wp2_with with_reducible refine sy ?_
  refine yk 44 (stL ((aC p now).put_commit d.value) (.slice none 0 0) (.slice none 0 0)).toArray HM.b0 HM.s0 ?_; clear HM; intro n7 HM; clear e2 e3 e4
  go_wp2_with with_reducible refine sy ?_
  refine yk 45 (stL (((aC p now).put_commit d.value).put_have_ true) (.slice none 0 0) (.slice none 0 0)).toArray HM.b0 HM.s0 ?_; clear HM; intro n8 HM
  go_wp2_with first | with_reducible refine sy ?_ | with_reducible refine lw HM.b0 aQ ?_
  refine yv HM.b1 HM.s1 ?_; clear HM; intro n9 HM
  go_wp2_with with_reducible refine sy ?_
  refine rc1 HM.b1 aQ ?_
  have q2 := q.out
  exact stE (by unfold cW; exact es8) HM.drop.drop.drop.drop
 have e5 := HM.b2.c 0 (.int .i64 d.kind)
 have e6 := HM.b3.c 45 (.bool p.have_)
 go_wp2_with first | with_reducible refine sy ?_ | with_reducible refine lw HM.b3 U37 ?_
 refine bt HM.to (cB p _ (aP p) rfl) ?_; clear HM; intro o0 HM; clear e5 e6
 by_cases a0 : (p.method : Int) = 2
 rotate_left
 ·
  obtain ⟨e7, e8, D⟩ := fF a0; clear a0
  have e9 := HM.b3.c 21 (.int .i64 p.method)
  go_wp2_with first | with_reducible refine sy ?_ | with_reducible refine lw HM.b3 U37 ?_
  refine bs HM (bY _ p 7 now _ _ HM.here) ?_; clear HM; intro o1 o2 o3 o4 o5 HM; clear e9
  go_wp2_with with_reducible refine sy ?_
  refine yv HM.b1 HM.s1 ?_; clear HM; intro o6 HM
  go_wp2_with with_reducible refine sy ?_
  refine rc1 HM.b1 aQ ?_
  have q2 := q.out
  have q4 := D.out
  exact stE (by unfold cW; exact es8) HM.drop.drop.drop.drop
 obtain ⟨e7, e8, D⟩ := fT a0; clear a0
 by_cases a1 : (d.kind : Int) = 13
 rotate_left
 ·
  obtain ⟨f0, f1, a2⟩ := fF a1; clear a1
  have f2 := HM.b3.c 21 (.int .i64 p.method)
  have f3 := HM.b2.c 0 (.int .i64 d.kind)
  go_wp2_with first | with_reducible refine sy ?_ | with_reducible refine lw HM.b3 U37 ?_
  refine bs HM (bY _ p 7 now _ _ HM.here) ?_; clear HM; intro o7 o8 o9 p0 p4 HM; clear f2 f3
  go_wp2_with with_reducible refine sy ?_
  refine yv HM.b1 HM.s1 ?_; clear HM; intro p5 HM
  go_wp2_with with_reducible refine sy ?_
  refine rc1 HM.b1 aQ ?_
  have q2 := q.out
  have q4 := D.out
  have q5 := a2.out
  exact stE (by unfold cW; exact es8) HM.drop.drop.drop.drop
 obtain ⟨f0, f1, a2⟩ := fT a1; clear a1
 rcases p6 : p.haveIn with _ | _
 ·
  have f4 := HM.b3.c 21 (.int .i64 p.method)
  have f5 := HM.b2.c 0 (.int .i64 d.kind)
  have f6 := HM.b3.c 50 (.bool p.haveIn)
  have f7 := HM.b2.c 8 (.int .u64 (W64 d.value))
  go_wp2_with with_reducible refine sy ?_
  refine yk 49 (stL ((aC p now).put_checkIn d.value) (.slice none 0 0) (.slice none 0 0)).toArray HM.b0 HM.s0 ?_; clear HM; intro p7 HM; clear f4 f5 f6 f7
  go_wp2_with with_reducible refine sy ?_
  refine yk 50 (stL (((aC p now).put_checkIn d.value).put_haveIn true) (.slice none 0 0) (.slice none 0 0)).toArray HM.b0 HM.s0 ?_; clear HM; intro p8 HM
  go_wp2_with first | with_reducible refine sy ?_ | with_reducible refine lw HM.b0 aQ ?_
  refine yv HM.b1 HM.s1 ?_; clear HM; intro p9 HM
  go_wp2_with with_reducible refine sy ?_
  refine rc1 HM.b1 aQ ?_
  have q2 := q.out
  have q4 := D.out
  have q5 := a2.out
  exact stE (by unfold cW; exact es8) HM.drop.drop.drop.drop
 have f8 := HM.b3.c 21 (.int .i64 p.method)
 have f9 := HM.b2.c 0 (.int .i64 d.kind)
 have g0 := HM.b3.c 50 (.bool p.haveIn)
 go_wp2_with first | with_reducible refine sy ?_ | with_reducible refine lw HM.b3 U37 ?_
 refine bs HM (bY _ p 7 now _ _ HM.here) ?_; clear HM; intro q0 q1 q6 q7 q8 HM; clear f8 f9 g0
 go_wp2_with with_reducible refine sy ?_
 refine yv HM.b1 HM.s1 ?_; clear HM; intro q9 HM
 go_wp2_with with_reducible refine sy ?_
 refine rc1 HM.b1 aQ ?_
 have q2 := q.out
 have q4 := D.out
 have q5 := a2.out
 exact stE (by unfold cW; exact es8) HM.drop.drop.drop.drop
end Go.Proofs.YtihmbcnccdiecaaGreatDoor
