/- Part of the proofs of the laws of pairing. -/
import Derived.Test.YtihmbcnccdiecaaGreatDoorBRsG
import Derived.Test.YtihmbcnccdiecaaGreatDoorBRsH
import Derived.Test.YtihmbcnccdiecaaGreatDoorBSdF
namespace Go.Proofs.YtihmbcnccdiecaaGreatDoor
set_option maxRecDepth 100000
set_option linter.unusedVariables false
set_option linter.unusedSimpArgs false
open Go.ChangeShapes Go.WideShapes Go.ChangeAt Go.RowKit
set_option maxHeartbeats 2000000 in
theorem ER (base : Nat) (p : Pr) (d : Sec) (now : Int) (bx : List Bk) (w : World) (HM : Mem w w base [] [] (.slice none 0 0) (.slice none 0 0) bx) (hq : aU p.method = true → 0 ≤ p.passkey ∧ p.passkey ≤ 999999) (h0 : 0 ≤ p.round) (h1 : p.round ≤ 64) :
  Calls Tryz.prog 119 #[.agg (prL p).toArray, .agg (aI d).toArray, .int .i64 now] w (fun e w' => gJ w w' base (dU p d now) bx e) := by
 go_enter Tryz.func119, Tryz.ntmps119
 go_wp2_with with_reducible refine sy ?_
 refine HM.nw (ty := 37) (cs := (prL p).toArray) ?_; clear HM; intro d5 d6 HM
 go_wp2_with with_reducible refine sy ?_
 refine HM.nw (ty := 43) (cs := (aI d).toArray) ?_; clear HM; intro d7 d8 HM
 go_wp2_with with_reducible refine sy ?_
 refine HM.nw (ty := 106) (cs := (stL fY (.slice none 0 0) (.slice none 0 0)).toArray) ?_; clear HM; intro d9 e0 HM
 go_wp2_with first | with_reducible refine sy ?_ | with_reducible refine lw HM.b2 U37 ?_
 refine bt HM.to (fW p now _ HM.laid) ?_; clear HM; intro e1 HM
 go_wp2_with with_reducible refine sy ?_
 refine HM.nw (ty := 106) (cs := (stL fY (.slice none 0 0) (.slice none 0 0)).toArray) ?_; clear HM; intro e2 e3 HM
 go_wp2_with with_reducible refine sy ?_
 refine yv HM.b0 HM.s0 ?_; clear HM; intro e4 HM
 go_wp2_with first | with_reducible refine sy ?_ | with_reducible refine lw HM.b3 U37 ?_
 refine bt HM.to (cB p _ (aP p) rfl) ?_; clear HM; intro e5 HM
 rcases e6 : (aP p) with _ | _
 ·
  by_cases C : (d.kind : Int) = 4
  ·
   obtain ⟨O, U, L⟩ := fT C; clear C
   have Z := HM.b2.c 0 (.int .i64 d.kind)
   have a0 := HM.b2.c 8 (.int .u64 (W64 d.value))
   go_wp2_with with_reducible refine sy ?_
   refine yk 43 (stL ((aC p now).put_other d.value) (.slice none 0 0) (.slice none 0 0)).toArray HM.b0 HM.s0 ?_; clear HM; intro e7 HM; clear Z a0
   have a1 := HM.b3.c 42 (.int .u64 (W64 p.nonce))
   go_wp2_with first | with_reducible refine sy ?_ | with_reducible refine lw HM.b0 aQ ?_
   refine bs HM (jJ _ ((aC p now).put_other d.value) _ _ _ _ 4 p.nonce _ _ HM.here ln9) ?_; clear HM; intro e8 e9 f0 f1 f2 HM; clear a1
   go_wp2_with with_reducible refine sy ?_
   refine bs HM (sZ _ (dQ ((aC p now).put_other d.value) 4 p.nonce) _ _ _ _ _ _ HM.here ln9 ln9) ?_; clear HM; intro f3 f4 f5 f6 f7 HM
   go_wp2_with with_reducible refine sy ?_
   refine yv HM.b1 HM.s1 ?_; clear HM; intro f8 HM
   go_wp2_with with_reducible refine sy ?_
   refine rc1 HM.b1 aQ ?_
   have q1 := L.out
   exact stE (by unfold dU; exact es8) HM.drop.drop.drop.drop
  obtain ⟨O, U, L⟩ := fF C; clear C
  have a2 := HM.b2.c 0 (.int .i64 d.kind)
  go_wp2_with first | with_reducible refine sy ?_ | with_reducible refine lw HM.b3 U37 ?_
  refine bt HM.to (cB p _ (aP p) rfl) ?_; clear HM; intro f9 HM; clear a2
  go_wp2_with first | with_reducible refine sy ?_ | with_reducible refine lw HM.b3 U37 ?_
  refine bt HM.to (cB p _ (aP p) rfl) ?_; clear HM; intro g0 HM
  go_wp2_with first | with_reducible refine sy ?_ | with_reducible refine lw HM.b3 U37 ?_
  refine bs HM (bY _ p 7 now _ _ HM.here) ?_; clear HM; intro g3 g4 g5 g6 g7 HM
  go_wp2_with with_reducible refine sy ?_
  refine yv HM.b1 HM.s1 ?_; clear HM; intro g8 HM
  go_wp2_with with_reducible refine sy ?_
  refine rc1 HM.b1 aQ ?_
  have q1 := L.out
  exact stE (by unfold dU; exact es8) HM.drop.drop.drop.drop
 go_wp2_with first | with_reducible refine sy ?_ | with_reducible refine lw HM.b3 U37 ?_
 refine bt HM.to (cB p _ (aP p) rfl) ?_; clear HM; intro g9 HM
 by_cases D : (d.kind : Int) = 3
 rotate_left
 ·
  obtain ⟨a3, a4, q⟩ := fF D; clear D
  have a5 := HM.b2.c 0 (.int .i64 d.kind)
  go_wp2_with first | with_reducible refine sy ?_ | with_reducible refine lw HM.b3 U37 ?_
  refine bt HM.to (cB p _ (aP p) rfl) ?_; clear HM; intro h6 HM; clear a5
  by_cases F : (d.kind : Int) = 4
  rotate_left
  ·
   obtain ⟨a6, a7, z⟩ := fF F; clear F
   have a8 := HM.b2.c 0 (.int .i64 d.kind)
   go_wp2_with first | with_reducible refine sy ?_ | with_reducible refine lw HM.b3 U37 ?_
   refine bs HM (bY _ p 7 now _ _ HM.here) ?_; clear HM; intro h7 h8 h9 i0 i1 HM; clear a8
   go_wp2_with with_reducible refine sy ?_
   refine yv HM.b1 HM.s1 ?_; clear HM; intro i2 HM
   go_wp2_with with_reducible refine sy ?_
   refine rc1 HM.b1 aQ ?_
   have q1 := q.out
   have q2 := z.out
   exact stE (by unfold dU; exact es8) HM.drop.drop.drop.drop
  obtain ⟨a6, a7, z⟩ := fT F; clear F
  rcases i3 : p.have_ with _ | _
  ·
   have a9 := HM.b2.c 0 (.int .i64 d.kind)
   have b4 := HM.b3.c 45 (.bool p.have_)
   go_wp2_with first | with_reducible refine sy ?_ | with_reducible refine lw HM.b3 U37 ?_
   refine bs HM (bY _ p 7 now _ _ HM.here) ?_; clear HM; intro i4 i5 i6 i7 i8 HM; clear a9 b4
   go_wp2_with with_reducible refine sy ?_
   refine yv HM.b1 HM.s1 ?_; clear HM; intro i9 HM
   go_wp2_with with_reducible refine sy ?_
   refine rc1 HM.b1 aQ ?_
   have q1 := q.out
   have q2 := z.out
   exact stE (by unfold dU; exact es8) HM.drop.drop.drop.drop
  have b5 := HM.b2.c 0 (.int .i64 d.kind)
  have b6 := HM.b3.c 45 (.bool p.have_)
  have b7 := HM.b2.c 8 (.int .u64 (W64 d.value))
  go_wp2_with first | with_reducible refine sy ?_ | with_reducible refine lw HM.b3 U37 ?_
  refine bt HM.to (pQ p d.value _ hq h0 h1 (gN p d.value) rfl) ?_; clear HM; intro j0 HM; clear b5 b6 b7
  rcases j1 : (gN p d.value) with _ | _
  ·
   go_wp2_with first | with_reducible refine sy ?_ | with_reducible refine lw HM.b3 U37 ?_
   refine bs HM (bY _ p 4 now _ _ HM.here) ?_; clear HM; intro j2 j3 j4 j5 j6 HM
   go_wp2_with with_reducible refine sy ?_
   refine yv HM.b1 HM.s1 ?_; clear HM; intro j7 HM
   go_wp2_with with_reducible refine sy ?_
   refine rc1 HM.b1 aQ ?_
   have q1 := q.out
   have q2 := z.out
   exact stE (by unfold dU; exact es8) HM.drop.drop.drop.drop
  have b8 := HM.b2.c 8 (.int .u64 (W64 d.value))
  go_wp2_with first | with_reducible refine sy ?_ | with_reducible refine lw HM.b0 aQ ?_
  refine bs HM (oC _ (aC p now) _ _ _ _ d.value _ _ HM.here) ?_; clear HM; intro j8 j9 k0 k1 k2 HM; clear b8
  go_wp2_with with_reducible refine sy ?_
  refine bs HM (sZ _ (cS (aC p now) d.value) _ _ _ _ _ _ HM.here ln9 ln9) ?_; clear HM; intro k3 k4 k5 k6 k7 HM
  go_wp2_with with_reducible refine sy ?_
  refine yv HM.b1 HM.s1 ?_; clear HM; intro k8 HM
  go_wp2_with with_reducible refine sy ?_
  refine rc1 HM.b1 aQ ?_
  have q1 := q.out
  have q2 := z.out
  exact stE (by unfold dU; exact es8) HM.drop.drop.drop.drop
 obtain ⟨a3, a4, q⟩ := fT D; clear D
 rcases k9 : p.have_ with _ | _
 ·
  have b9 := HM.b2.c 0 (.int .i64 d.kind)
  have c0 := HM.b3.c 45 (.bool p.have_)
  have c4 := HM.b2.c 8 (.int .u64 (W64 d.value))
  go_wp2_with with_reducible refine sy ?_
  refine yk 44 (stL ((aC p now).put_commit d.value) (.slice none 0 0) (.slice none 0 0)).toArray HM.b0 HM.s0 ?_; clear HM; intro l0 HM; clear b9 c0 c4
  go_wp2_with with_reducible refine sy ?_
  refine yk 45 (stL (((aC p now).put_commit d.value).put_have_ true) (.slice none 0 0) (.slice none 0 0)).toArray HM.b0 HM.s0 ?_; clear HM; intro l1 HM
  go_wp2_with first | with_reducible refine sy ?_ | with_reducible refine lw HM.b0 aQ ?_
  refine bs HM (qF _ (((aC p now).put_commit d.value).put_have_ true) _ _ _ _ _ _ HM.here) ?_; clear HM; intro l2 l3 l4 l5 l6 HM
  go_wp2_with with_reducible refine sy ?_
  refine yv HM.b0 HM.s0 ?_; clear HM; intro l7 HM
  have c5 := HM.b0.c 42 (.int .u64 (W64 (eN p.cfg.seed p.drawn)))
  go_wp2_with first | with_reducible refine sy ?_ | with_reducible refine lw HM.b0 aQ ?_
  refine bs HM (jJ _ (cK (((aC p now).put_commit d.value).put_have_ true)) _ _ _ _ 4 ((eN p.cfg.seed p.drawn)) _ _ HM.here ln9) ?_; clear HM; intro l8 l9 m0 m1 m2 HM; clear c5
  go_wp2_with with_reducible refine sy ?_
  refine yv HM.b1 HM.s1 ?_; clear HM; intro m3 HM
  go_wp2_with with_reducible refine sy ?_
  refine rc1 HM.b1 aQ ?_
  have q1 := q.out
  exact stE (by unfold dU; exact es8) HM.drop.drop.drop.drop
 have c6 := HM.b2.c 0 (.int .i64 d.kind)
 have c7 := HM.b3.c 45 (.bool p.have_)
 go_wp2_with first | with_reducible refine sy ?_ | with_reducible refine lw HM.b3 U37 ?_
 refine bt HM.to (cB p _ (aP p) rfl) ?_; clear HM; intro m4 HM; clear c6 c7
 by_cases I : (d.kind : Int) = 4
 rotate_left
 ·
  obtain ⟨c8, c9, J⟩ := fF I; clear I
  have d0 := HM.b2.c 0 (.int .i64 d.kind)
  go_wp2_with first | with_reducible refine sy ?_ | with_reducible refine lw HM.b3 U37 ?_
  refine bs HM (bY _ p 7 now _ _ HM.here) ?_; clear HM; intro m5 m6 m7 m8 m9 HM; clear d0
  go_wp2_with with_reducible refine sy ?_
  refine yv HM.b1 HM.s1 ?_; clear HM; intro n0 HM
  go_wp2_with with_reducible refine sy ?_
  refine rc1 HM.b1 aQ ?_
  have q1 := q.out
  have q3 := J.out
  exact stE (by unfold dU; exact es8) HM.drop.drop.drop.drop
 obtain ⟨c8, c9, J⟩ := fT I; clear I
 have d1 := HM.b2.c 0 (.int .i64 d.kind)
 have d2 := HM.b3.c 45 (.bool p.have_)
 have d3 := HM.b2.c 8 (.int .u64 (W64 d.value))
 go_wp2_with first | with_reducible refine sy ?_ | with_reducible refine lw HM.b3 U37 ?_
 refine bt HM.to (pQ p d.value _ hq h0 h1 (gN p d.value) rfl) ?_; clear HM; intro n1 HM; clear d1 d2 d3
 rcases n2 : (gN p d.value) with _ | _
 ·
  go_wp2_with first | with_reducible refine sy ?_ | with_reducible refine lw HM.b3 U37 ?_
  refine bs HM (bY _ p 4 now _ _ HM.here) ?_; clear HM; intro n3 n4 n5 n6 n7 HM
  go_wp2_with with_reducible refine sy ?_
  refine yv HM.b1 HM.s1 ?_; clear HM; intro n8 HM
  go_wp2_with with_reducible refine sy ?_
  refine rc1 HM.b1 aQ ?_
  have q1 := q.out
  have q3 := J.out
  exact stE (by unfold dU; exact es8) HM.drop.drop.drop.drop
 have d4 := HM.b2.c 8 (.int .u64 (W64 d.value))
 go_wp2_with first | with_reducible refine sy ?_ | with_reducible refine lw HM.b0 aQ ?_
 refine bs HM (oC _ (aC p now) _ _ _ _ d.value _ _ HM.here) ?_; clear HM; intro n9 o0 o1 o2 o3 HM; clear d4
 go_wp2_with with_reducible refine sy ?_
 refine bs HM (sZ _ (cS (aC p now) d.value) _ _ _ _ _ _ HM.here ln9 ln9) ?_; clear HM; intro o4 o5 o6 o7 o8 HM
 go_wp2_with with_reducible refine sy ?_
 refine yv HM.b1 HM.s1 ?_; clear HM; intro o9 HM
 go_wp2_with with_reducible refine sy ?_
 refine rc1 HM.b1 aQ ?_
 have q1 := q.out
 have q3 := J.out
 exact stE (by unfold dU; exact es8) HM.drop.drop.drop.drop
set_option maxHeartbeats 2000000 in
theorem BG (base : Nat) (p : Pr) (d : Sec) (now : Int) (bx : List Bk) (w : World) (HM : Mem w w base [] [] (.slice none 0 0) (.slice none 0 0) bx) :
  Calls Tryz.prog 117 #[.agg (prL p).toArray, .agg (aI d).toArray, .int .i64 now] w (fun e w' => gJ w w' base (fP p d now) bx e) := by
 go_enter Tryz.func117, Tryz.ntmps117
 go_wp2_with with_reducible refine sy ?_
 refine HM.nw (ty := 37) (cs := (prL p).toArray) ?_; clear HM; intro O U HM
 go_wp2_with with_reducible refine sy ?_
 refine HM.nw (ty := 43) (cs := (aI d).toArray) ?_; clear HM; intro Z a0 HM
 go_wp2_with with_reducible refine sy ?_
 refine HM.nw (ty := 106) (cs := (stL fY (.slice none 0 0) (.slice none 0 0)).toArray) ?_; clear HM; intro a1 a2 HM
 by_cases q : (d.kind : Int) = 4
 rotate_left
 ·
  obtain ⟨C, D, z⟩ := fF q; clear q
  have F := HM.b1.c 0 (.int .i64 d.kind)
  go_wp2_with first | with_reducible refine sy ?_ | with_reducible refine lw HM.b2 U37 ?_
  refine bs HM (bY _ p 7 now _ _ HM.here) ?_; clear HM; intro a3 a4 a5 a6 a7 HM; clear F
  go_wp2_with with_reducible refine sy ?_
  refine yv HM.b0 HM.s0 ?_; clear HM; intro a8 HM
  go_wp2_with with_reducible refine sy ?_
  refine rc1 HM.b0 aQ ?_
  have q0 := z.out
  exact stE (by unfold fP; exact es8) HM.drop.drop.drop
 obtain ⟨C, D, z⟩ := fT q; clear q
 have I := HM.b1.c 0 (.int .i64 d.kind)
 go_wp2_with first | with_reducible refine sy ?_ | with_reducible refine lw HM.b2 U37 ?_
 refine bt HM.to (fW p now _ HM.laid) ?_; clear HM; intro a9 HM; clear I
 go_wp2_with with_reducible refine sy ?_
 refine HM.nw (ty := 106) (cs := (stL fY (.slice none 0 0) (.slice none 0 0)).toArray) ?_; clear HM; intro b4 b5 HM
 go_wp2_with with_reducible refine sy ?_
 refine yv HM.b0 HM.s0 ?_; clear HM; intro b6 HM
 have J := HM.b2.c 8 (.int .u64 (W64 d.value))
 go_wp2_with with_reducible refine sy ?_
 refine yk 43 (stL ((aC p now).put_other d.value) (.slice none 0 0) (.slice none 0 0)).toArray HM.b0 HM.s0 ?_; clear HM; intro b7 HM; clear J
 go_wp2_with first | with_reducible refine sy ?_ | with_reducible refine lw HM.b3 U37 ?_
 refine bt HM.to (cB p _ (aP p) rfl) ?_; clear HM; intro b8 HM
 rcases b9 : (aP p) with _ | _
 rotate_left
 ·
  go_wp2_with first | with_reducible refine sy ?_ | with_reducible refine lw HM.b0 aQ ?_
  refine bs HM (hF _ ((aC p now).put_other d.value) _ _ _ _ _ _ HM.here ln9) ?_; clear HM; intro c0 c4 c5 c6 c7 HM
  go_wp2_with with_reducible refine sy ?_
  refine yv HM.b1 HM.s1 ?_; clear HM; intro c8 HM
  go_wp2_with with_reducible refine sy ?_
  refine rc1 HM.b1 aQ ?_
  have q0 := z.out
  exact stE (by unfold fP; exact es8) HM.drop.drop.drop.drop
 go_wp2_with first | with_reducible refine sy ?_ | with_reducible refine lw HM.b0 aQ ?_
 refine bs HM (qF _ ((aC p now).put_other d.value) _ _ _ _ _ _ HM.here) ?_; clear HM; intro c9 d0 d1 d2 d3 HM
 go_wp2_with with_reducible refine sy ?_
 refine yv HM.b0 HM.s0 ?_; clear HM; intro d4 HM
 have L := HM.b0.c 42 (.int .u64 (W64 (eN p.cfg.seed p.drawn)))
 go_wp2_with first | with_reducible refine sy ?_ | with_reducible refine lw HM.b0 aQ ?_
 refine bs HM (jJ _ (cK ((aC p now).put_other d.value)) _ _ _ _ 4 ((eN p.cfg.seed p.drawn)) _ _ HM.here ln9) ?_; clear HM; intro d5 d6 d7 d8 d9 HM; clear L
 go_wp2_with with_reducible refine sy ?_
 refine yv HM.b0 HM.s0 ?_; clear HM; intro e0 HM
 go_wp2_with first | with_reducible refine sy ?_ | with_reducible refine lw HM.b0 aQ ?_
 refine bs HM (hF _ (dQ (cK ((aC p now).put_other d.value)) 4 ((eN p.cfg.seed p.drawn))) _ _ _ _ _ _ HM.here ln9) ?_; clear HM; intro e1 e2 e3 e4 e5 HM
 go_wp2_with with_reducible refine sy ?_
 refine yv HM.b1 HM.s1 ?_; clear HM; intro e6 HM
 go_wp2_with with_reducible refine sy ?_
 refine rc1 HM.b1 aQ ?_
 have q0 := z.out
 exact stE (by unfold fP; exact es8) HM.drop.drop.drop.drop
end Go.Proofs.YtihmbcnccdiecaaGreatDoor
