/- Part of the proofs of the laws of pairing. -/
import Derived.Test.YtihmbcnccdiecaaGreatDoorBRsD
import Derived.Test.YtihmbcnccdiecaaGreatDoorBRsE
import Derived.Test.YtihmbcnccdiecaaGreatDoorBRsI
import Derived.Test.YtihmbcnccdiecaaGreatDoorBRsJ
import Derived.Test.YtihmbcnccdiecaaGreatDoorBRsK
namespace Go.Proofs.YtihmbcnccdiecaaGreatDoor
set_option maxRecDepth 100000
set_option linter.unusedVariables false
set_option linter.unusedSimpArgs false
open Go.ChangeShapes Go.WideShapes Go.ChangeAt Go.RowKit
set_option maxHeartbeats 2000000 in
theorem GG (base : Nat) (p : Pr) (d : Sec) (now : Int) (bx : List Bk) (w : World) (HM : Mem w w base [] [] (.slice none 0 0) (.slice none 0 0) bx) (hq : p.phase = 3 → aU p.method = true → 0 ≤ p.passkey ∧ p.passkey ≤ 999999) (h0 : 0 ≤ p.round) (h1 : p.round ≤ 64) (h2 : p.round ≤ 60) :
  Calls Tryz.prog 92 #[.agg (prL p).toArray, .agg (aI d).toArray, .int .i64 now] w (fun e w' => gJ w w' base (eO p d now) bx e) := by
 go_enter Tryz.func92, Tryz.ntmps92
 go_wp2_with with_reducible refine sy ?_
 refine HM.nw (ty := 37) (cs := (prL p).toArray) ?_; clear HM; intro i1 i2 HM
 go_wp2_with with_reducible refine sy ?_
 refine HM.nw (ty := 43) (cs := (aI d).toArray) ?_; clear HM; intro b8 i3 HM
 go_wp2_with with_reducible refine sy ?_
 refine HM.nw (ty := 106) (cs := (stL fY (.slice none 0 0) (.slice none 0 0)).toArray) ?_; clear HM; intro i4 i5 HM
 by_cases J : (p.phase : Int) = 0
 ·
  obtain ⟨b9, c0, q⟩ := fT J; clear J
  have c4 := HM.b2.c 19 (.int .i64 p.phase)
  go_wp2_with first | with_reducible refine sy ?_ | with_reducible refine lw HM.b2 U37 ?_
  refine bt HM.to (cB p _ (aP p) rfl) ?_; clear HM; intro i6 HM; clear c4
  rcases i7 : (aP p) with _ | _
  ·
   go_wp2_with first | with_reducible refine sy ?_ | with_reducible refine lw HM.b2 U37 ?_
   refine bt HM.to (cB p _ (aP p) rfl) ?_; clear HM; intro i8 HM
   by_cases L : (d.kind : Int) = 1
   ·
    obtain ⟨c5, c6, a9⟩ := fT L; clear L
    have c7 := HM.b1.c 0 (.int .i64 d.kind)
    go_wp2_with first | with_reducible refine sy ?_ | with_reducible refine lw HM.b2 U37 ?_ | with_reducible refine ld 0 (aI d) HM.b1 U43 ?_
    refine bs HM (rO _ p d now _ _ HM.here) ?_; clear HM; intro i9 j0 j1 j2 j3 HM; clear c7
    go_wp2_with with_reducible refine sy ?_
    refine yv HM.b0 HM.s0 ?_; clear HM; intro j4 HM
    go_wp2_with with_reducible refine sy ?_
    refine rc1 HM.b0 aQ ?_
    have q0 := q.out
    have q2 := a9.out
    exact stE (by unfold eO; exact es8) HM.drop.drop.drop
   obtain ⟨c5, c6, a9⟩ := fF L; clear L
   have c8 := HM.b1.c 0 (.int .i64 d.kind)
   go_wp2_with first | with_reducible refine sy ?_ | with_reducible refine lw HM.b2 U37 ?_
   refine bs HM (bY _ p 7 now _ _ HM.here) ?_; clear HM; intro j5 j6 j7 j8 j9 HM; clear c8
   go_wp2_with with_reducible refine sy ?_
   refine yv HM.b0 HM.s0 ?_; clear HM; intro k0 HM
   go_wp2_with with_reducible refine sy ?_
   refine rc1 HM.b0 aQ ?_
   have q0 := q.out
   have q2 := a9.out
   exact stE (by unfold eO; exact es8) HM.drop.drop.drop
  by_cases O : (d.kind : Int) = 11
  ·
   obtain ⟨c9, d0, b3⟩ := fT O; clear O
   have d1 := HM.b1.c 0 (.int .i64 d.kind)
   go_wp2_with first | with_reducible refine sy ?_ | with_reducible refine lw HM.b2 U37 ?_
   unfold bA
   clear d1
   refine aN [(0, .agg (prL p).toArray)] (stL (mkS p [] []) (.slice none 0 0) (.slice none 0 0)).toArray (by simp only [List.map_toArray, List.map_cons, List.map_nil]; rfl) (by kernel_rfl) ?_
   go_wp2_with with_reducible refine sy ?_
   refine yv HM.b0 HM.s0 ?_; clear HM; intro k1 HM
   go_wp2_with with_reducible refine sy ?_
   refine rc1 HM.b0 aQ ?_
   have q0 := q.out
   have q2 := b3.out
   exact stE (by unfold eO; exact es8) HM.drop.drop.drop
  obtain ⟨c9, d0, b3⟩ := fF O; clear O
  have d2 := HM.b1.c 0 (.int .i64 d.kind)
  go_wp2_with first | with_reducible refine sy ?_ | with_reducible refine lw HM.b2 U37 ?_
  refine bt HM.to (cB p _ (aP p) rfl) ?_; clear HM; intro k2 HM; clear d2
  go_wp2_with first | with_reducible refine sy ?_ | with_reducible refine lw HM.b2 U37 ?_
  refine bs HM (bY _ p 7 now _ _ HM.here) ?_; clear HM; intro k3 k4 k5 k6 k7 HM
  go_wp2_with with_reducible refine sy ?_
  refine yv HM.b0 HM.s0 ?_; clear HM; intro k8 HM
  go_wp2_with with_reducible refine sy ?_
  refine rc1 HM.b0 aQ ?_
  have q0 := q.out
  have q2 := b3.out
  exact stE (by unfold eO; exact es8) HM.drop.drop.drop
 obtain ⟨b9, c0, q⟩ := fF J; clear J
 by_cases U : (p.phase : Int) = 1
 ·
  obtain ⟨d3, d4, z⟩ := fT U; clear U
  by_cases Z : (d.kind : Int) = 2
  ·
   obtain ⟨d5, d6, b4⟩ := fT Z; clear Z
   have d7 := HM.b2.c 19 (.int .i64 p.phase)
   have d8 := HM.b1.c 0 (.int .i64 d.kind)
   go_wp2_with first | with_reducible refine sy ?_ | with_reducible refine lw HM.b2 U37 ?_ | with_reducible refine ld 0 (aI d) HM.b1 U43 ?_
   refine bs HM (rO _ p d now _ _ HM.here) ?_; clear HM; intro k9 l0 l1 l2 l3 HM; clear d7 d8
   go_wp2_with with_reducible refine sy ?_
   refine yv HM.b0 HM.s0 ?_; clear HM; intro l4 HM
   go_wp2_with with_reducible refine sy ?_
   refine rc1 HM.b0 aQ ?_
   have q0 := q.out
   have q1 := z.out
   have q2 := b4.out
   exact stE (by unfold eO; exact es8) HM.drop.drop.drop
  obtain ⟨d5, d6, b4⟩ := fF Z; clear Z
  have d9 := HM.b2.c 19 (.int .i64 p.phase)
  have e0 := HM.b1.c 0 (.int .i64 d.kind)
  go_wp2_with first | with_reducible refine sy ?_ | with_reducible refine lw HM.b2 U37 ?_
  refine bs HM (bY _ p 7 now _ _ HM.here) ?_; clear HM; intro l5 l6 l7 l8 l9 HM; clear d9 e0
  go_wp2_with with_reducible refine sy ?_
  refine yv HM.b0 HM.s0 ?_; clear HM; intro m0 HM
  go_wp2_with with_reducible refine sy ?_
  refine rc1 HM.b0 aQ ?_
  have q0 := q.out
  have q1 := z.out
  have q2 := b4.out
  exact stE (by unfold eO; exact es8) HM.drop.drop.drop
 obtain ⟨d3, d4, z⟩ := fF U; clear U
 by_cases a0 : (p.phase : Int) = 2
 ·
  obtain ⟨e1, e2, C⟩ := fT a0; clear a0
  by_cases a1 : (d.kind : Int) = 12
  ·
   obtain ⟨e3, e4, b5⟩ := fT a1; clear a1
   have e5 := HM.b2.c 19 (.int .i64 p.phase)
   have e6 := HM.b1.c 0 (.int .i64 d.kind)
   go_wp2_with first | with_reducible refine sy ?_ | with_reducible refine lw HM.b2 U37 ?_ | with_reducible refine ld 0 (aI d) HM.b1 U43 ?_
   refine bs HM (EA _ p d now _ _ HM.here h0 h1) ?_; clear HM; intro m1 m2 m3 m4 m5 HM; clear e5 e6
   go_wp2_with with_reducible refine sy ?_
   refine yv HM.b0 HM.s0 ?_; clear HM; intro m6 HM
   go_wp2_with with_reducible refine sy ?_
   refine rc1 HM.b0 aQ ?_
   have q0 := q.out
   have q1 := z.out
   have q2 := C.out
   have q3 := b5.out
   exact stE (by unfold eO; exact es8) HM.drop.drop.drop
  obtain ⟨e3, e4, b5⟩ := fF a1; clear a1
  have e7 := HM.b2.c 19 (.int .i64 p.phase)
  have e8 := HM.b1.c 0 (.int .i64 d.kind)
  go_wp2_with first | with_reducible refine sy ?_ | with_reducible refine lw HM.b2 U37 ?_
  refine bs HM (bY _ p 7 now _ _ HM.here) ?_; clear HM; intro m7 m8 m9 n0 n1 HM; clear e7 e8
  go_wp2_with with_reducible refine sy ?_
  refine yv HM.b0 HM.s0 ?_; clear HM; intro n2 HM
  go_wp2_with with_reducible refine sy ?_
  refine rc1 HM.b0 aQ ?_
  have q0 := q.out
  have q1 := z.out
  have q2 := C.out
  have q3 := b5.out
  exact stE (by unfold eO; exact es8) HM.drop.drop.drop
 obtain ⟨e1, e2, C⟩ := fF a0; clear a0
 by_cases a2 : (p.phase : Int) = 3
 ·
  obtain ⟨e9, f0, D⟩ := fT a2; clear a2
  by_cases a3 : (p.method : Int) = 6
  ·
   obtain ⟨f1, f2, a4⟩ := fT a3; clear a3
   have f3 := HM.b2.c 19 (.int .i64 p.phase)
   have f4 := HM.b2.c 21 (.int .i64 p.method)
   go_wp2_with first | with_reducible refine sy ?_ | with_reducible refine lw HM.b2 U37 ?_ | with_reducible refine ld 0 (aI d) HM.b1 U43 ?_
   refine bs HM (BG _ p d now _ _ HM.here) ?_; clear HM; intro n3 n4 n5 n6 n7 HM; clear f3 f4
   go_wp2_with with_reducible refine sy ?_
   refine yv HM.b0 HM.s0 ?_; clear HM; intro n8 HM
   go_wp2_with with_reducible refine sy ?_
   refine rc1 HM.b0 aQ ?_
   have q0 := q.out
   have q1 := z.out
   have q2 := C.out
   have q3 := D.out
   have q4 := a4.out
   exact stE (by unfold eO; exact es8) HM.drop.drop.drop
  obtain ⟨f1, f2, a4⟩ := fF a3; clear a3
  have f5 := HM.b2.c 19 (.int .i64 p.phase)
  have f6 := HM.b2.c 21 (.int .i64 p.method)
  go_wp2_with with_reducible refine sy ?_
  refine bt HM.to (mK _ _ (aU p.method) rfl) ?_; clear HM; intro n9 HM; clear f5 f6
  rcases f7 : (aU p.method) with _ | _
  ·
   go_wp2_with first | with_reducible refine sy ?_ | with_reducible refine lw HM.b2 U37 ?_ | with_reducible refine ld 0 (aI d) HM.b1 U43 ?_
   refine bs HM (ER _ p d now _ _ HM.here (J9 f7) h0 h1) ?_; clear HM; intro o0 o1 o2 o3 o4 HM
   go_wp2_with with_reducible refine sy ?_
   refine yv HM.b0 HM.s0 ?_; clear HM; intro o5 HM
   go_wp2_with with_reducible refine sy ?_
   refine rc1 HM.b0 aQ ?_
   have q0 := q.out
   have q1 := z.out
   have q2 := C.out
   have q3 := D.out
   have q4 := a4.out
   exact stE (by unfold eO; exact es8) HM.drop.drop.drop
  go_wp2_with first | with_reducible refine sy ?_ | with_reducible refine lw HM.b2 U37 ?_ | with_reducible refine ld 0 (aI d) HM.b1 U43 ?_
  refine bs HM (D7 _ p d now _ _ HM.here (hq D.out) h0 h1 h2) ?_; clear HM; intro o6 o7 o8 o9 p0 HM
  go_wp2_with with_reducible refine sy ?_
  refine yv HM.b0 HM.s0 ?_; clear HM; intro p4 HM
  go_wp2_with with_reducible refine sy ?_
  refine rc1 HM.b0 aQ ?_
  have q0 := q.out
  have q1 := z.out
  have q2 := C.out
  have q3 := D.out
  have q4 := a4.out
  exact stE (by unfold eO; exact es8) HM.drop.drop.drop
 obtain ⟨e9, f0, D⟩ := fF a2; clear a2
 by_cases a5 : (p.phase : Int) = 4
 ·
  obtain ⟨f8, f9, F⟩ := fT a5; clear a5
  have g0 := HM.b2.c 19 (.int .i64 p.phase)
  go_wp2_with first | with_reducible refine sy ?_ | with_reducible refine lw HM.b2 U37 ?_ | with_reducible refine ld 0 (aI d) HM.b1 U43 ?_
  refine bs HM (AI _ p d now _ _ HM.here) ?_; clear HM; intro p5 p6 p7 p8 p9 HM; clear g0
  go_wp2_with with_reducible refine sy ?_
  refine yv HM.b0 HM.s0 ?_; clear HM; intro q7 HM
  go_wp2_with with_reducible refine sy ?_
  refine rc1 HM.b0 aQ ?_
  have q0 := q.out
  have q1 := z.out
  have q2 := C.out
  have q3 := D.out
  have q4 := F.out
  exact stE (by unfold eO; exact es8) HM.drop.drop.drop
 obtain ⟨f8, f9, F⟩ := fF a5; clear a5
 by_cases a6 : (p.phase : Int) = 5
 rotate_left
 ·
  obtain ⟨g3, g4, I⟩ := fF a6; clear a6
  by_cases a7 : (p.phase : Int) = 6
  ·
   obtain ⟨g5, g6, b6⟩ := fT a7; clear a7
   have g7 := HM.b2.c 19 (.int .i64 p.phase)
   go_wp2_with first | with_reducible refine sy ?_ | with_reducible refine lw HM.b2 U37 ?_ | with_reducible refine ld 0 (aI d) HM.b1 U43 ?_
   refine bs HM (xH _ p d now _ _ HM.here) ?_; clear HM; intro q8 q9 r0 r1 r2 HM; clear g7
   go_wp2_with with_reducible refine sy ?_
   refine yv HM.b0 HM.s0 ?_; clear HM; intro r3 HM
   go_wp2_with with_reducible refine sy ?_
   refine rc1 HM.b0 aQ ?_
   have q0 := q.out
   have q1 := z.out
   have q2 := C.out
   have q3 := D.out
   have q4 := F.out
   have q5 := I.out
   have q6 := b6.out
   exact stE (by unfold eO; exact es8) HM.drop.drop.drop
  obtain ⟨g5, g6, b6⟩ := fF a7; clear a7
  have g8 := HM.b2.c 19 (.int .i64 p.phase)
  go_wp2_with first | with_reducible refine sy ?_ | with_reducible refine lw HM.b2 U37 ?_
  refine bs HM (bY _ p 7 now _ _ HM.here) ?_; clear HM; intro r4 r5 r6 r7 r8 HM; clear g8
  go_wp2_with with_reducible refine sy ?_
  refine yv HM.b0 HM.s0 ?_; clear HM; intro r9 HM
  go_wp2_with with_reducible refine sy ?_
  refine rc1 HM.b0 aQ ?_
  have q0 := q.out
  have q1 := z.out
  have q2 := C.out
  have q3 := D.out
  have q4 := F.out
  have q5 := I.out
  have q6 := b6.out
  exact stE (by unfold eO; exact es8) HM.drop.drop.drop
 obtain ⟨g3, g4, I⟩ := fT a6; clear a6
 by_cases a8 : (d.kind : Int) = 13
 rotate_left
 ·
  obtain ⟨g9, h6, b7⟩ := fF a8; clear a8
  have h7 := HM.b2.c 19 (.int .i64 p.phase)
  have h8 := HM.b1.c 0 (.int .i64 d.kind)
  go_wp2_with first | with_reducible refine sy ?_ | with_reducible refine lw HM.b2 U37 ?_
  refine bs HM (bY _ p 7 now _ _ HM.here) ?_; clear HM; intro s1 s2 s3 s4 s5 HM; clear h7 h8
  go_wp2_with with_reducible refine sy ?_
  refine yv HM.b0 HM.s0 ?_; clear HM; intro s6 HM
  go_wp2_with with_reducible refine sy ?_
  refine rc1 HM.b0 aQ ?_
  have q0 := q.out
  have q1 := z.out
  have q2 := C.out
  have q3 := D.out
  have q4 := F.out
  have q5 := I.out
  have q6 := b7.out
  exact stE (by unfold eO; exact es8) HM.drop.drop.drop
 obtain ⟨g9, h6, b7⟩ := fT a8; clear a8
 have h9 := HM.b2.c 19 (.int .i64 p.phase)
 have i0 := HM.b1.c 0 (.int .i64 d.kind)
 go_wp2_with with_reducible refine sy ?_
 clear h9 i0
 try simp only [nrm]
 have hst := bM HM
 refine dN _ 7 hst HM.drew ⟨by kernel_rfl, by kernel_rfl, by kernel_rfl, by decide⟩ (fun hR => ?_)
 clear HM
 refine cV (v := .agg (prL p).toArray) 0 hR hst rfl (fun W hS K hK => aL rfl rfl (aX hS.b2 0 (prL p) rfl U37 rfl (by kernel_rfl)) (hK.out _ (Below.refl _ _))) ?_; simp only [nrm]
 refine cV (v := .agg (prL p).toArray) 1 hR hst rfl (fun W hS K hK => aL rfl rfl (aX hS.b2 0 (prL p) rfl U37 rfl (by kernel_rfl)) (hK.out _ (Below.refl _ _))) ?_; simp only [nrm]
 refine bT 2 hR hst ?_
 refine bT 4 hR hst ?_
 refine eB 5 rfl hR hst (fun W hS K hK => by have ld : W.cell? ⟨b8, 8, none⟩ = some (.int .u64 (W64 d.value)) := hS.b1.cell 8; clear hS; go_simp; exact hk hK) ?_
 refine bT 6 hR hst ?_
 refine eB 3 rfl hR hst (fun W hS K hK => by go_simp; exact cl (fW p now _ hS.laid) hK) ?_
 refine gC (fun s7 hS => ?_)
 have HM := hS
 clear hst
 dsimp only [List.drop]
 go_wp2_with with_reducible refine sy ?_
 refine bs HM (sS _ p (aC p now) _ _ _ _ d.value now _ _ HM.here ln9) ?_; clear HM; intro s8 s9 t0 t4 t5 HM
 go_wp2_with with_reducible refine sy ?_
 refine yv HM.b0 HM.s0 ?_; clear HM; intro t6 HM
 go_wp2_with with_reducible refine sy ?_
 refine rc1 HM.b0 aQ ?_
 have q0 := q.out
 have q1 := z.out
 have q2 := C.out
 have q3 := D.out
 have q4 := F.out
 have q5 := I.out
 have q6 := b7.out
 exact stE (by unfold eO; exact es8) HM.drop.drop.drop
end Go.Proofs.YtihmbcnccdiecaaGreatDoor
