/- Part of the proofs of the laws of pairing. -/
import Derived.Test.YtihmbcnccdiecaaGreatDoorBRsG
import Derived.Test.YtihmbcnccdiecaaGreatDoorBRsH
import Derived.Test.YtihmbcnccdiecaaGreatDoorBSdF
namespace Go.Proofs.YtihmbcnccdiecaaGreatDoor
set_option maxRecDepth 100000
set_option linter.unusedVariables false
set_option linter.unusedSimpArgs false
open Go.ChangeShapes Go.WideShapes Go.ChangeAt Go.RowKit
set_option maxHeartbeats 2000000 in
theorem D7 (base : Nat) (p : Pr) (d : Sec) (now : Int) (bx : List Bk) (w : World) (HM : Mem w w base [] [] (.slice none 0 0) (.slice none 0 0) bx) (hq : aU p.method = true → 0 ≤ p.passkey ∧ p.passkey ≤ 999999) (h0 : 0 ≤ p.round) (h1 : p.round ≤ 64) (h2 : p.round ≤ 60) :
  Calls Tryz.prog 118 #[.agg (prL p).toArray, .agg (aI d).toArray, .int .i64 now] w (fun e w' => gJ w w' base (dI p d now) bx e) := by
 have ew := FR p.round h0 h2
 have h0p : 0 ≤ p.round + 1 := by omega
 have h1p : p.round + 1 ≤ 64 := by omega
 go_enter Tryz.func118, Tryz.ntmps118
 go_wp2_with with_reducible refine sy ?_
 refine HM.nw (ty := 37) (cs := (prL p).toArray) ?_; clear HM; intro g3 g4 HM
 go_wp2_with with_reducible refine sy ?_
 refine HM.nw (ty := 43) (cs := (aI d).toArray) ?_; clear HM; intro g5 g6 HM
 go_wp2_with with_reducible refine sy ?_
 refine HM.nw (ty := 106) (cs := (stL fY (.slice none 0 0) (.slice none 0 0)).toArray) ?_; clear HM; intro g7 g8 HM
 go_wp2_with first | with_reducible refine sy ?_ | with_reducible refine lw HM.b2 U37 ?_
 refine bt HM.to (fW p now _ HM.laid) ?_; clear HM; intro g9 HM
 go_wp2_with with_reducible refine sy ?_
 refine HM.nw (ty := 106) (cs := (stL fY (.slice none 0 0) (.slice none 0 0)).toArray) ?_; clear HM; intro h6 h7 HM
 go_wp2_with with_reducible refine sy ?_
 refine yv HM.b0 HM.s0 ?_; clear HM; intro h8 HM
 by_cases D : (d.kind : Int) = 3
 rotate_left
 ·
  obtain ⟨a3, a4, q⟩ := fF D; clear D
  by_cases F : (d.kind : Int) = 4
  rotate_left
  ·
   obtain ⟨a5, a6, z⟩ := fF F; clear F
   have a7 := HM.b2.c 0 (.int .i64 d.kind)
   go_wp2_with first | with_reducible refine sy ?_ | with_reducible refine lw HM.b3 U37 ?_
   refine bs HM (bY _ p 7 now _ _ HM.here) ?_; clear HM; intro h9 i0 i1 i2 i3 HM; clear a7
   go_wp2_with with_reducible refine sy ?_
   refine yv HM.b1 HM.s1 ?_; clear HM; intro i4 HM
   go_wp2_with with_reducible refine sy ?_
   refine rc1 HM.b1 aQ ?_
   have q0 := q.out
   have q1 := z.out
   exact stE (by unfold dI; exact es8) HM.drop.drop.drop.drop
  obtain ⟨a5, a6, z⟩ := fT F; clear F
  rcases i5 : p.have_ with _ | _
  ·
   have a8 := HM.b2.c 0 (.int .i64 d.kind)
   have a9 := HM.b3.c 45 (.bool p.have_)
   go_wp2_with first | with_reducible refine sy ?_ | with_reducible refine lw HM.b3 U37 ?_
   refine bs HM (bY _ p 7 now _ _ HM.here) ?_; clear HM; intro i6 i7 i8 i9 j0 HM; clear a8 a9
   go_wp2_with with_reducible refine sy ?_
   refine yv HM.b1 HM.s1 ?_; clear HM; intro j1 HM
   go_wp2_with with_reducible refine sy ?_
   refine rc1 HM.b1 aQ ?_
   have q0 := q.out
   have q1 := z.out
   exact stE (by unfold dI; exact es8) HM.drop.drop.drop.drop
  have b4 := HM.b2.c 0 (.int .i64 d.kind)
  have b5 := HM.b3.c 45 (.bool p.have_)
  have b6 := HM.b2.c 8 (.int .u64 (W64 d.value))
  go_wp2_with first | with_reducible refine sy ?_ | with_reducible refine lw HM.b3 U37 ?_
  refine bt HM.to (pQ p d.value _ hq (by first | exact h0 | exact h0p) (by first | exact h1 | exact h1p) (gN p d.value) rfl) ?_; clear HM; intro j2 HM; clear b4 b5 b6
  rcases j3 : (gN p d.value) with _ | _
  ·
   go_wp2_with first | with_reducible refine sy ?_ | with_reducible refine lw HM.b3 U37 ?_
   refine bs HM (bY _ p 4 now _ _ HM.here) ?_; clear HM; intro j4 j5 j6 j7 j8 HM
   go_wp2_with with_reducible refine sy ?_
   refine yv HM.b1 HM.s1 ?_; clear HM; intro j9 HM
   go_wp2_with with_reducible refine sy ?_
   refine rc1 HM.b1 aQ ?_
   have q0 := q.out
   have q1 := z.out
   exact stE (by unfold dI; exact es8) HM.drop.drop.drop.drop
  have b7 := HM.b2.c 8 (.int .u64 (W64 d.value))
  go_wp2_with first | with_reducible refine sy ?_ | with_reducible refine lw HM.b0 aQ ?_
  refine bs HM (oC _ (aC p now) _ _ _ _ d.value _ _ HM.here) ?_; clear HM; intro b8 b9 c0 c4 k0 HM; clear b7
  go_wp2_with with_reducible refine sy ?_
  refine yv HM.b0 HM.s0 ?_; clear HM; intro k1 HM
  have c5 := HM.b0.c 47 (.int .i64 p.round)
  go_wp2_with with_reducible refine sy ?_
  refine yk 47 (stL ((cS (aC p now) d.value).put_round ((p.round + 1))) (.slice b8 ((cS (aC p now) d.value).out.length) b9) (.slice c0 ((cS (aC p now) d.value).ev.length) c4)).toArray HM.b0 HM.s0 ?_; clear HM; intro k2 HM; clear c5
  go_wp2_with first | with_reducible refine sy ?_ | with_reducible refine lw HM.b3 U37 ?_
  refine bt HM.to (cB p _ (aP p) rfl) ?_; clear HM; intro k3 HM
  rcases k4 : (aP p) with _ | _
  ·
   have c6 := HM.b3.c 42 (.int .u64 (W64 p.nonce))
   go_wp2_with first | with_reducible refine sy ?_ | with_reducible refine lw HM.b0 aQ ?_
   refine bs HM (jJ _ ((cS (aC p now) d.value).put_round ((p.round + 1))) _ _ _ _ 4 p.nonce _ _ HM.here ln9) ?_; clear HM; intro k5 k6 k7 k8 k9 HM; clear c6
   go_wp2_with with_reducible refine sy ?_
   refine yv HM.b0 HM.s0 ?_; clear HM; intro l0 HM
   by_cases I : ((p.round + 1) : Int) = 20
   ·
    obtain ⟨c7, c8, Z⟩ := fT I; clear I
    have c9 := HM.b0.c 47 (.int .i64 ((p.round + 1)))
    go_wp2_with first | with_reducible refine sy ?_ | with_reducible refine lw HM.b0 aQ ?_
    refine bs HM (hF _ (dQ ((cS (aC p now) d.value).put_round ((p.round + 1))) 4 p.nonce) _ _ _ _ _ _ HM.here ln9) ?_; clear HM; intro l1 l2 l3 l4 l5 HM; clear c9
    go_wp2_with with_reducible refine sy ?_
    refine yv HM.b1 HM.s1 ?_; clear HM; intro l6 HM
    go_wp2_with with_reducible refine sy ?_
    refine rc1 HM.b1 aQ ?_
    have q0 := q.out
    have q1 := z.out
    have q5 := Z.out
    exact stE (by unfold dI; exact es8) HM.drop.drop.drop.drop
   obtain ⟨c7, c8, Z⟩ := fF I; clear I
   have d0 := HM.b0.c 47 (.int .i64 ((p.round + 1)))
   go_wp2_with first | with_reducible refine sy ?_ | with_reducible refine lw HM.b3 U37 ?_
   refine bt HM.to (cB p _ (aP p) rfl) ?_; clear HM; intro l7 HM; clear d0
   go_wp2_with first | with_reducible refine sy ?_ | with_reducible refine lw HM.b0 aQ ?_
   refine yv HM.b1 HM.s1 ?_; clear HM; intro l8 HM
   go_wp2_with with_reducible refine sy ?_
   refine rc1 HM.b1 aQ ?_
   have q0 := q.out
   have q1 := z.out
   have q5 := Z.out
   exact stE (by unfold dI; exact es8) HM.drop.drop.drop.drop
  by_cases J : ((p.round + 1) : Int) = 20
  ·
   obtain ⟨d1, d2, a0⟩ := fT J; clear J
   have d3 := HM.b0.c 47 (.int .i64 ((p.round + 1)))
   go_wp2_with first | with_reducible refine sy ?_ | with_reducible refine lw HM.b0 aQ ?_
   refine bs HM (hF _ ((cS (aC p now) d.value).put_round ((p.round + 1))) _ _ _ _ _ _ HM.here ln9) ?_; clear HM; intro l9 m0 m1 m2 m3 HM; clear d3
   go_wp2_with with_reducible refine sy ?_
   refine yv HM.b1 HM.s1 ?_; clear HM; intro m4 HM
   go_wp2_with with_reducible refine sy ?_
   refine rc1 HM.b1 aQ ?_
   have q0 := q.out
   have q1 := z.out
   have q5 := a0.out
   exact stE (by unfold dI; exact es8) HM.drop.drop.drop.drop
  obtain ⟨d1, d2, a0⟩ := fF J; clear J
  have d4 := HM.b0.c 47 (.int .i64 ((p.round + 1)))
  go_wp2_with first | with_reducible refine sy ?_ | with_reducible refine lw HM.b3 U37 ?_
  refine bt HM.to (cB p _ (aP p) rfl) ?_; clear HM; intro m5 HM; clear d4
  go_wp2_with first | with_reducible refine sy ?_ | with_reducible refine lw HM.b0 aQ ?_
  refine bs HM (jE _ ((cS (aC p now) d.value).put_round ((p.round + 1))) _ _ _ _ _ _ HM.here ln9 hq (by first | exact h0 | exact h0p) (by first | exact h1 | exact h1p)) ?_; clear HM; intro m6 m7 m8 m9 n0 HM
  go_wp2_with with_reducible refine sy ?_
  refine yv HM.b0 HM.s0 ?_; clear HM; intro n1 HM
  go_wp2_with first | with_reducible refine sy ?_ | with_reducible refine lw HM.b0 aQ ?_
  refine yv HM.b1 HM.s1 ?_; clear HM; intro n2 HM
  go_wp2_with with_reducible refine sy ?_
  refine rc1 HM.b1 aQ ?_
  have q0 := q.out
  have q1 := z.out
  have q5 := a0.out
  exact stE (by unfold dI; exact es8) HM.drop.drop.drop.drop
 obtain ⟨a3, a4, q⟩ := fT D; clear D
 rcases n3 : p.have_ with _ | _
 ·
  have d5 := HM.b2.c 0 (.int .i64 d.kind)
  have d6 := HM.b3.c 45 (.bool p.have_)
  have d7 := HM.b2.c 8 (.int .u64 (W64 d.value))
  go_wp2_with with_reducible refine sy ?_
  refine yk 44 (stL ((aC p now).put_commit d.value) (.slice none 0 0) (.slice none 0 0)).toArray HM.b0 HM.s0 ?_; clear HM; intro n4 HM; clear d5 d6 d7
  go_wp2_with with_reducible refine sy ?_
  refine yk 45 (stL (((aC p now).put_commit d.value).put_have_ true) (.slice none 0 0) (.slice none 0 0)).toArray HM.b0 HM.s0 ?_; clear HM; intro n5 HM
  go_wp2_with first | with_reducible refine sy ?_ | with_reducible refine lw HM.b3 U37 ?_
  refine bt HM.to (cB p _ (aP p) rfl) ?_; clear HM; intro n6 HM
  rcases n7 : (aP p) with _ | _
  ·
   go_wp2_with first | with_reducible refine sy ?_ | with_reducible refine lw HM.b0 aQ ?_
   refine bs HM (jE _ (((aC p now).put_commit d.value).put_have_ true) _ _ _ _ _ _ HM.here ln9 hq (by first | exact h0 | exact h0p) (by first | exact h1 | exact h1p)) ?_; clear HM; intro n8 n9 o0 o1 o2 HM
   go_wp2_with with_reducible refine sy ?_
   refine yv HM.b1 HM.s1 ?_; clear HM; intro o3 HM
   go_wp2_with with_reducible refine sy ?_
   refine rc1 HM.b1 aQ ?_
   have q0 := q.out
   exact stE (by unfold dI; exact es8) HM.drop.drop.drop.drop
  have d8 := HM.b3.c 42 (.int .u64 (W64 p.nonce))
  go_wp2_with first | with_reducible refine sy ?_ | with_reducible refine lw HM.b0 aQ ?_
  refine bs HM (jJ _ (((aC p now).put_commit d.value).put_have_ true) _ _ _ _ 4 p.nonce _ _ HM.here ln9) ?_; clear HM; intro o4 o5 o6 o7 o8 HM; clear d8
  go_wp2_with with_reducible refine sy ?_
  refine yv HM.b1 HM.s1 ?_; clear HM; intro o9 HM
  go_wp2_with with_reducible refine sy ?_
  refine rc1 HM.b1 aQ ?_
  have q0 := q.out
  exact stE (by unfold dI; exact es8) HM.drop.drop.drop.drop
 by_cases L : (d.kind : Int) = 4
 rotate_left
 ·
  obtain ⟨d9, e0, C⟩ := fF L; clear L
  have e1 := HM.b2.c 0 (.int .i64 d.kind)
  have e2 := HM.b3.c 45 (.bool p.have_)
  go_wp2_with first | with_reducible refine sy ?_ | with_reducible refine lw HM.b3 U37 ?_
  refine bs HM (bY _ p 7 now _ _ HM.here) ?_; clear HM; intro p0 p4 p5 p6 p7 HM; clear e1 e2
  go_wp2_with with_reducible refine sy ?_
  refine yv HM.b1 HM.s1 ?_; clear HM; intro p8 HM
  go_wp2_with with_reducible refine sy ?_
  refine rc1 HM.b1 aQ ?_
  have q0 := q.out
  have q2 := C.out
  exact stE (by unfold dI; exact es8) HM.drop.drop.drop.drop
 obtain ⟨d9, e0, C⟩ := fT L; clear L
 have e3 := HM.b2.c 0 (.int .i64 d.kind)
 have e4 := HM.b3.c 45 (.bool p.have_)
 have e5 := HM.b2.c 8 (.int .u64 (W64 d.value))
 go_wp2_with first | with_reducible refine sy ?_ | with_reducible refine lw HM.b3 U37 ?_
 refine bt HM.to (pQ p d.value _ hq (by first | exact h0 | exact h0p) (by first | exact h1 | exact h1p) (gN p d.value) rfl) ?_; clear HM; intro p9 HM; clear e3 e4 e5
 rcases q3 : (gN p d.value) with _ | _
 ·
  go_wp2_with first | with_reducible refine sy ?_ | with_reducible refine lw HM.b3 U37 ?_
  refine bs HM (bY _ p 4 now _ _ HM.here) ?_; clear HM; intro q4 q6 q7 q8 q9 HM
  go_wp2_with with_reducible refine sy ?_
  refine yv HM.b1 HM.s1 ?_; clear HM; intro r0 HM
  go_wp2_with with_reducible refine sy ?_
  refine rc1 HM.b1 aQ ?_
  have q0 := q.out
  have q2 := C.out
  exact stE (by unfold dI; exact es8) HM.drop.drop.drop.drop
 have e6 := HM.b2.c 8 (.int .u64 (W64 d.value))
 go_wp2_with first | with_reducible refine sy ?_ | with_reducible refine lw HM.b0 aQ ?_
 refine bs HM (oC _ (aC p now) _ _ _ _ d.value _ _ HM.here) ?_; clear HM; intro e7 e8 e9 f0 r1 HM; clear e6
 go_wp2_with with_reducible refine sy ?_
 refine yv HM.b0 HM.s0 ?_; clear HM; intro r2 HM
 have f1 := HM.b0.c 47 (.int .i64 p.round)
 go_wp2_with with_reducible refine sy ?_
 refine yk 47 (stL ((cS (aC p now) d.value).put_round ((p.round + 1))) (.slice e7 ((cS (aC p now) d.value).out.length) e8) (.slice e9 ((cS (aC p now) d.value).ev.length) f0)).toArray HM.b0 HM.s0 ?_; clear HM; intro r3 HM; clear f1
 go_wp2_with first | with_reducible refine sy ?_ | with_reducible refine lw HM.b3 U37 ?_
 refine bt HM.to (cB p _ (aP p) rfl) ?_; clear HM; intro r4 HM
 rcases r5 : (aP p) with _ | _
 ·
  have f2 := HM.b3.c 42 (.int .u64 (W64 p.nonce))
  go_wp2_with first | with_reducible refine sy ?_ | with_reducible refine lw HM.b0 aQ ?_
  refine bs HM (jJ _ ((cS (aC p now) d.value).put_round ((p.round + 1))) _ _ _ _ 4 p.nonce _ _ HM.here ln9) ?_; clear HM; intro r6 r7 r8 r9 s2 HM; clear f2
  go_wp2_with with_reducible refine sy ?_
  refine yv HM.b0 HM.s0 ?_; clear HM; intro s3 HM
  by_cases O : ((p.round + 1) : Int) = 20
  ·
   obtain ⟨f3, f4, a1⟩ := fT O; clear O
   have f5 := HM.b0.c 47 (.int .i64 ((p.round + 1)))
   go_wp2_with first | with_reducible refine sy ?_ | with_reducible refine lw HM.b0 aQ ?_
   refine bs HM (hF _ (dQ ((cS (aC p now) d.value).put_round ((p.round + 1))) 4 p.nonce) _ _ _ _ _ _ HM.here ln9) ?_; clear HM; intro s4 s5 s6 s7 s8 HM; clear f5
   go_wp2_with with_reducible refine sy ?_
   refine yv HM.b1 HM.s1 ?_; clear HM; intro s9 HM
   go_wp2_with with_reducible refine sy ?_
   refine rc1 HM.b1 aQ ?_
   have q0 := q.out
   have q2 := C.out
   have q5 := a1.out
   exact stE (by unfold dI; exact es8) HM.drop.drop.drop.drop
  obtain ⟨f3, f4, a1⟩ := fF O; clear O
  have f6 := HM.b0.c 47 (.int .i64 ((p.round + 1)))
  go_wp2_with first | with_reducible refine sy ?_ | with_reducible refine lw HM.b3 U37 ?_
  refine bt HM.to (cB p _ (aP p) rfl) ?_; clear HM; intro t0 HM; clear f6
  go_wp2_with first | with_reducible refine sy ?_ | with_reducible refine lw HM.b0 aQ ?_
  refine yv HM.b1 HM.s1 ?_; clear HM; intro t4 HM
  go_wp2_with with_reducible refine sy ?_
  refine rc1 HM.b1 aQ ?_
  have q0 := q.out
  have q2 := C.out
  have q5 := a1.out
  exact stE (by unfold dI; exact es8) HM.drop.drop.drop.drop
 by_cases U : ((p.round + 1) : Int) = 20
 ·
  obtain ⟨f7, f8, a2⟩ := fT U; clear U
  have f9 := HM.b0.c 47 (.int .i64 ((p.round + 1)))
  go_wp2_with first | with_reducible refine sy ?_ | with_reducible refine lw HM.b0 aQ ?_
  refine bs HM (hF _ ((cS (aC p now) d.value).put_round ((p.round + 1))) _ _ _ _ _ _ HM.here ln9) ?_; clear HM; intro t5 t6 t7 t8 t9 HM; clear f9
  go_wp2_with with_reducible refine sy ?_
  refine yv HM.b1 HM.s1 ?_; clear HM; intro u0 HM
  go_wp2_with with_reducible refine sy ?_
  refine rc1 HM.b1 aQ ?_
  have q0 := q.out
  have q2 := C.out
  have q5 := a2.out
  exact stE (by unfold dI; exact es8) HM.drop.drop.drop.drop
 obtain ⟨f7, f8, a2⟩ := fF U; clear U
 have g0 := HM.b0.c 47 (.int .i64 ((p.round + 1)))
 go_wp2_with first | with_reducible refine sy ?_ | with_reducible refine lw HM.b3 U37 ?_
 refine bt HM.to (cB p _ (aP p) rfl) ?_; clear HM; intro u4 HM; clear g0
 go_wp2_with first | with_reducible refine sy ?_ | with_reducible refine lw HM.b0 aQ ?_
 refine bs HM (jE _ ((cS (aC p now) d.value).put_round ((p.round + 1))) _ _ _ _ _ _ HM.here ln9 hq (by first | exact h0 | exact h0p) (by first | exact h1 | exact h1p)) ?_; clear HM; intro u5 u6 u7 u8 u9 HM
 go_wp2_with with_reducible refine sy ?_
 refine yv HM.b0 HM.s0 ?_; clear HM; intro v0 HM
 go_wp2_with first | with_reducible refine sy ?_ | with_reducible refine lw HM.b0 aQ ?_
 refine yv HM.b1 HM.s1 ?_; clear HM; intro v1 HM
 go_wp2_with with_reducible refine sy ?_
 refine rc1 HM.b1 aQ ?_
 have q0 := q.out
 have q2 := C.out
 have q5 := a2.out
 exact stE (by unfold dI; exact es8) HM.drop.drop.drop.drop
end Go.Proofs.YtihmbcnccdiecaaGreatDoor
