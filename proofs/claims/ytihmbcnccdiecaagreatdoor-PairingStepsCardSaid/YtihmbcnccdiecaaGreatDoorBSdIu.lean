/- Part of the proofs of the laws of pairing. -/
import Derived.Test.YtihmbcnccdiecaaGreatDoorBSdG
namespace Go.Proofs.YtihmbcnccdiecaaGreatDoor
set_option maxRecDepth 100000
set_option linter.unusedVariables false
set_option linter.unusedSimpArgs false
open Go.ChangeShapes Go.WideShapes Go.ChangeAt Go.RowKit
set_option maxHeartbeats 4000000 in
theorem FW (p : Pr) (x : Int × Unit) (now : Int) (w : World) (HL : bW w) (r0 : 0 ≤ p.round) (r1 : p.round ≤ 60)  :
  Calls Tryz.prog 27 #[.agg (prL p).toArray, .int .i64 x.1, .int .i64 now] w (fun e w' => jF w w' (fU p x.1 now).1 (fU p x.1 now).2.1 (fU p x.1 now).2.2 e) := by
 obtain ⟨base, hbs⟩ : ∃ b, w.heap.size = b := ⟨_, rfl⟩
 have HM := Mem.start HL
 rw [hbs] at HM
 obtain ⟨S, hSd⟩ : ∃ S, aH p now = S := ⟨_, rfl⟩
 have hs0 : S.sent = [] := by rw [← hSd]; rfl
 have ht0 : S.told = [] := by rw [← hSd]; rfl
 have hw0 : S.was = S.p := by rw [← hSd]; rfl
 have ls : S.sent.length ≤ 10 := by rw [hs0]; decide
 have lt : S.told.length ≤ 10 := by rw [ht0]; decide
 have h0 : 0 ≤ S.p.round := by rw [← hSd]; exact r0
 have h1 : S.p.round ≤ 64 := by rw [← hSd]; show p.round ≤ 64; omega
 have h2 : S.p.round ≤ 60 := by rw [← hSd]; exact r1
 go_enter Tryz.func27, Tryz.ntmps27
 go_wp2_with with_reducible refine so ?_
 refine HM.nw (ty := 37) (cs := (prL p).toArray) ?_; clear HM; intro e4 e5 HM
 go_wp2_with with_reducible refine so ?_
 refine HM.nw (ty := 37) (cs := (prL pr0).toArray) ?_; clear HM; intro e6 e7 HM
 go_wp2_with first | with_reducible refine so ?_ | with_reducible refine lw HM.b1 U37 ?_
 refine (fD _ p now _ _ HM.here).mono ?_; rintro e e8 ⟨gs, rfl, a3⟩
 replace HM := HM.trans a3; clear a3
 rw [hSd] at HM
 rw [← hs0, ← ht0] at HM
 by_cases L : (S.p.phase : Int) = 4
 rotate_left
 ·
  obtain ⟨b3, b4, q⟩ := fF L; clear L
  have b5 := HM.b0.c 19 (.int .i64 S.p.phase)
  go_wp2_with with_reducible refine so ?_
  refine bt HM.trans (aR _ _ S _ _ _ _ HM.here) ?_; clear HM; intro e9 HM; clear b5
  go_wp2_with with_reducible refine so ?_
  refine yv HM.b1 HM.s1 ?_; clear HM; intro f0 HM
  go_wp2_with with_reducible refine so ?_
  refine rc3 HM.b1 U37 ?_
  have q0 := q.out
  exact pZ hSd (by unfold jP; exact es9) hbs HM
 obtain ⟨b3, b4, q⟩ := fT L; clear L
 have b6 := HM.b0.c 19 (.int .i64 S.p.phase)
 go_wp2_with with_reducible refine so ?_
 refine bt HM.to (eY _ _ _ _  _ HM.b0 (aU S.p.method) rfl) ?_; clear HM; intro f1 HM; clear b6
 rcases f2 : aU S.p.method with _ | _
 rotate_left
 ·
  by_cases O : (x.1 : Int) = -1
  ·
   obtain ⟨b7, b8, C⟩ := fT O; clear O
   go_wp2_with with_reducible refine so ?_
   refine bd HM (cI _ _ S 1 _ _ _ _ HM.here) ?_; clear HM; intro f3 f4 f5 HM
   go_wp2_with with_reducible refine so ?_
   refine bt HM.trans (aR _ _ (S.fail 1) _ _ _ _ HM.here) ?_; clear HM; intro f6 HM
   go_wp2_with with_reducible refine so ?_
   refine yv HM.b1 HM.s1 ?_; clear HM; intro f7 HM
   go_wp2_with with_reducible refine so ?_
   refine rc3 HM.b1 U37 ?_
   have q0 := q.out
   have q2 := C.out
   exact pZ hSd (by unfold jP; exact es9) hbs HM
  obtain ⟨b7, b8, C⟩ := fF O; clear O
  go_wp2_with with_reducible refine so ?_
  refine bt HM.to (eY _ _ _ _  _ HM.b0 (aU S.p.method) rfl) ?_; clear HM; intro f8 HM
  by_cases U : (x.1 : Int) < 0
  ·
   obtain ⟨b9, c0, c4, F⟩ := lT U; clear U
   go_wp2_with with_reducible refine so ?_
   refine bt HM.to (eY _ _ _ _  _ HM.b0 (aU S.p.method) rfl) ?_; clear HM; intro f9 HM
   go_wp2_with with_reducible refine so ?_
   refine bt HM.trans (aR _ _ S _ _ _ _ HM.here) ?_; clear HM; intro g0 HM
   go_wp2_with with_reducible refine so ?_
   refine yv HM.b1 HM.s1 ?_; clear HM; intro g3 HM
   go_wp2_with with_reducible refine so ?_
   refine rc3 HM.b1 U37 ?_
   have q0 := q.out
   have q2 := C.out
   have q3 := F.out
   exact pZ hSd (by unfold jP; exact es9) hbs HM
  obtain ⟨b9, c0, c4, F⟩ := lF U; clear U
  by_cases Z : (x.1 : Int) < 1000000
  rotate_left
  ·
   obtain ⟨c5, c6, c7, J⟩ := lF Z; clear Z
   go_wp2_with with_reducible refine so ?_
   refine bt HM.to (eY _ _ _ _  _ HM.b0 (aU S.p.method) rfl) ?_; clear HM; intro g4 HM
   go_wp2_with with_reducible refine so ?_
   refine bt HM.trans (aR _ _ S _ _ _ _ HM.here) ?_; clear HM; intro g5 HM
   go_wp2_with with_reducible refine so ?_
   refine yv HM.b1 HM.s1 ?_; clear HM; intro g6 HM
   go_wp2_with with_reducible refine so ?_
   refine rc3 HM.b1 U37 ?_
   have q0 := q.out
   have q2 := C.out
   have q3 := F.out
   have q4 := J.out
   exact pZ hSd (by unfold jP; exact es9) hbs HM
  obtain ⟨c5, c6, c7, J⟩ := lT Z; clear Z
  go_wp2_with with_reducible refine so ?_
  refine bd HM (eL _ _ S _ _ _ _ HM.here) ?_; clear HM; intro a4 a5 g7 HM
  go_wp2_with with_reducible refine so ?_
  refine yk 46 (sdL (S.accept.put_passkey x.1) a4 a5).toArray HM.b0 HM.s0 ?_; clear HM; intro g8 HM
  go_wp2_with with_reducible refine so ?_
  refine yk 19 (sdL ((S.accept.put_passkey x.1).put_phase 3) a4 a5).toArray HM.b0 HM.s0 ?_; clear HM; intro g9 HM
  go_wp2_with with_reducible refine so ?_
  refine bt HM.to (bQ _ _ _ _  _ HM.b0 S.first rfl) ?_; clear HM; intro h6 HM
  rcases h7 : S.first with _ | _
  rotate_left
  ·
   go_wp2_with with_reducible refine so ?_
   refine bd HM (jC _ _ ((S.accept.put_passkey x.1).put_phase 3) _ _ _ _ HM.here bV (by first | exact h0 | exact h0p) (by first | exact h1 | exact h1p)) ?_; clear HM; intro h8 h9 i0 HM
   go_wp2_with with_reducible refine so ?_
   refine bt HM.trans (aR _ _ (((S.accept.put_passkey x.1).put_phase 3).commit) _ _ _ _ HM.here) ?_; clear HM; intro i1 HM
   go_wp2_with with_reducible refine so ?_
   refine yv HM.b1 HM.s1 ?_; clear HM; intro i2 HM
   go_wp2_with with_reducible refine so ?_
   refine rc3 HM.b1 U37 ?_
   have q0 := q.out
   have q2 := C.out
   have q3 := F.out
   have q4 := J.out
   exact pZ hSd (by unfold jP; exact es9) hbs HM
  rcases i3 : S.p.have_ with _ | _
  ·
   have c8 := HM.b0.c 45 (.bool S.p.have_)
   go_wp2_with with_reducible refine so ?_
   refine bt HM.trans (aR _ _ ((S.accept.put_passkey x.1).put_phase 3) _ _ _ _ HM.here) ?_; clear HM; intro i4 HM; clear c8
   go_wp2_with with_reducible refine so ?_
   refine yv HM.b1 HM.s1 ?_; clear HM; intro i5 HM
   go_wp2_with with_reducible refine so ?_
   refine rc3 HM.b1 U37 ?_
   have q0 := q.out
   have q2 := C.out
   have q3 := F.out
   have q4 := J.out
   exact pZ hSd (by unfold jP; exact es9) hbs HM
  have c9 := HM.b0.c 45 (.bool S.p.have_)
  go_wp2_with with_reducible refine so ?_
  refine bd HM (jC _ _ ((S.accept.put_passkey x.1).put_phase 3) _ _ _ _ HM.here bV (by first | exact h0 | exact h0p) (by first | exact h1 | exact h1p)) ?_; clear HM; intro i6 i7 i8 HM; clear c9
  go_wp2_with with_reducible refine so ?_
  refine bt HM.trans (aR _ _ (((S.accept.put_passkey x.1).put_phase 3).commit) _ _ _ _ HM.here) ?_; clear HM; intro i9 HM
  go_wp2_with with_reducible refine so ?_
  refine yv HM.b1 HM.s1 ?_; clear HM; intro j0 HM
  go_wp2_with with_reducible refine so ?_
  refine rc3 HM.b1 U37 ?_
  have q0 := q.out
  have q2 := C.out
  have q3 := F.out
  have q4 := J.out
  exact pZ hSd (by unfold jP; exact es9) hbs HM
 go_wp2_with with_reducible refine so ?_
 refine bt HM.to (eY _ _ _ _  _ HM.b0 (aU S.p.method) rfl) ?_; clear HM; intro j1 HM
 go_wp2_with with_reducible refine so ?_
 refine bt HM.to (eY _ _ _ _  _ HM.b0 (aU S.p.method) rfl) ?_; clear HM; intro j2 HM
 by_cases a0 : (x.1 : Int) = 0
 ·
  obtain ⟨d0, d1, z⟩ := fT a0; clear a0
  go_wp2_with with_reducible refine so ?_
  refine bd HM (cI _ _ S 12 _ _ _ _ HM.here) ?_; clear HM; intro j3 j4 j5 HM
  go_wp2_with with_reducible refine so ?_
  refine bt HM.trans (aR _ _ (S.fail 12) _ _ _ _ HM.here) ?_; clear HM; intro j6 HM
  go_wp2_with with_reducible refine so ?_
  refine yv HM.b1 HM.s1 ?_; clear HM; intro j7 HM
  go_wp2_with with_reducible refine so ?_
  refine rc3 HM.b1 U37 ?_
  have q0 := q.out
  have q2 := z.out
  exact pZ hSd (by unfold jP; exact es9) hbs HM
 obtain ⟨d0, d1, z⟩ := fF a0; clear a0
 by_cases a1 : (x.1 : Int) = -1
 ·
  obtain ⟨d2, d3, D⟩ := fT a1; clear a1
  go_wp2_with with_reducible refine so ?_
  refine bd HM (cI _ _ S 12 _ _ _ _ HM.here) ?_; clear HM; intro j8 j9 k0 HM
  go_wp2_with with_reducible refine so ?_
  refine bt HM.trans (aR _ _ (S.fail 12) _ _ _ _ HM.here) ?_; clear HM; intro k1 HM
  go_wp2_with with_reducible refine so ?_
  refine yv HM.b1 HM.s1 ?_; clear HM; intro k2 HM
  go_wp2_with with_reducible refine so ?_
  refine rc3 HM.b1 U37 ?_
  have q0 := q.out
  have q2 := z.out
  have q3 := D.out
  exact pZ hSd (by unfold jP; exact es9) hbs HM
 obtain ⟨d2, d3, D⟩ := fF a1; clear a1
 by_cases a2 : (x.1 : Int) = 1
 rotate_left
 ·
  obtain ⟨d4, d5, I⟩ := fF a2; clear a2
  go_wp2_with with_reducible refine so ?_
  refine bt HM.trans (aR _ _ S _ _ _ _ HM.here) ?_; clear HM; intro k3 HM
  go_wp2_with with_reducible refine so ?_
  refine yv HM.b1 HM.s1 ?_; clear HM; intro k4 HM
  go_wp2_with with_reducible refine so ?_
  refine rc3 HM.b1 U37 ?_
  have q0 := q.out
  have q2 := z.out
  have q3 := D.out
  have q4 := I.out
  exact pZ hSd (by unfold jP; exact es9) hbs HM
 obtain ⟨d4, d5, I⟩ := fT a2; clear a2
 go_wp2_with with_reducible refine so ?_
 refine bd HM (eL _ _ S _ _ _ _ HM.here) ?_; clear HM; intro d6 d7 k5 HM
 go_wp2_with with_reducible refine so ?_
 refine yk 48 (sdL (S.accept.put_agreed true) d6 d7).toArray HM.b0 HM.s0 ?_; clear HM; intro k6 HM
 rcases a6 : S.first with _ | _
 ·
  go_wp2_with with_reducible refine so ?_
  refine bd HM (uH _ _ (S.accept.put_agreed true) _ _ _ _ HM.here bV a6) ?_; clear HM; intro a7 a8 k7 HM
  rcases k8 : S.p.haveIn with _ | _
  ·
   have d8 := HM.b0.c 50 (.bool S.p.haveIn)
   go_wp2_with with_reducible refine so ?_
   refine bt HM.trans (aR _ _ (((S.accept.put_agreed true).put_phase 5)) _ _ _ _ HM.here) ?_; clear HM; intro k9 HM; clear d8
   go_wp2_with with_reducible refine so ?_
   refine yv HM.b1 HM.s1 ?_; clear HM; intro l0 HM
   go_wp2_with with_reducible refine so ?_
   refine rc3 HM.b1 U37 ?_
   have q0 := q.out
   have q2 := z.out
   have q3 := D.out
   have q4 := I.out
   exact pZ hSd (by unfold jP; exact es9) hbs HM
  have d9 := HM.b0.c 50 (.bool S.p.haveIn)
  have e0 := HM.b0.c 49 (.int .u64 (W64 S.p.checkIn))
  go_wp2_with with_reducible refine so ?_
  refine yk 49 (sdL ((((S.accept.put_agreed true).put_phase 5)).put_checkIn (0#64)) a7 a8).toArray HM.b0 HM.s0 ?_; clear HM; intro l1 HM; clear d9 e0
  go_wp2_with with_reducible refine so ?_
  refine yk 50 (sdL (((((S.accept.put_agreed true).put_phase 5)).put_checkIn (0#64)).put_haveIn false) a7 a8).toArray HM.b0 HM.s0 ?_; clear HM; intro l2 HM
  go_wp2_with with_reducible refine so ?_
  refine bd HM (lY _ _ (((((S.accept.put_agreed true).put_phase 5)).put_checkIn (0#64)).put_haveIn false) ⟨13, ⟨0, false, false, false, false, false⟩, 0#32, S.p.checkIn, ⟨⟨0, 0#64⟩, 0#64⟩, 0⟩ _ _ _ _ HM.here bV bV ) ?_; clear HM; intro l3 l4 l5 HM
  go_wp2_with with_reducible refine so ?_
  refine bt HM.trans (aR _ _ (((((((S.accept.put_agreed true).put_phase 5)).put_checkIn (0#64)).put_haveIn false).checks ⟨13, ⟨0, false, false, false, false, false⟩, 0#32, S.p.checkIn, ⟨⟨0, 0#64⟩, 0#64⟩, 0⟩).1) _ _ _ _ HM.here) ?_; clear HM; intro l6 HM
  go_wp2_with with_reducible refine so ?_
  refine yv HM.b1 HM.s1 ?_; clear HM; intro l7 HM
  go_wp2_with with_reducible refine so ?_
  refine rc3 HM.b1 U37 ?_
  have q0 := q.out
  have q2 := z.out
  have q3 := D.out
  have q4 := I.out
  exact pZ hSd (by unfold jP; exact es9) hbs HM
 go_wp2_with with_reducible refine so ?_
 refine bd HM (uI _ _ (S.accept.put_agreed true) _ _ _ _ HM.here bV a6) ?_; clear HM; intro a9 b2 l8 HM
 rcases l9 : S.p.haveIn with _ | _
 ·
  have e1 := HM.b0.c 50 (.bool S.p.haveIn)
  go_wp2_with with_reducible refine so ?_
  refine bt HM.trans (aR _ _ ((((S.accept.put_agreed true).put_phase 5).send { cL with kind := 13, value := (S.accept.put_agreed true).check })) _ _ _ _ HM.here) ?_; clear HM; intro m0 HM; clear e1
  go_wp2_with with_reducible refine so ?_
  refine yv HM.b1 HM.s1 ?_; clear HM; intro m1 HM
  go_wp2_with with_reducible refine so ?_
  refine rc3 HM.b1 U37 ?_
  have q0 := q.out
  have q2 := z.out
  have q3 := D.out
  have q4 := I.out
  exact pZ hSd (by unfold jP; exact es9) hbs HM
 have e2 := HM.b0.c 50 (.bool S.p.haveIn)
 have e3 := HM.b0.c 49 (.int .u64 (W64 S.p.checkIn))
 go_wp2_with with_reducible refine so ?_
 refine yk 49 (sdL (((((S.accept.put_agreed true).put_phase 5).send { cL with kind := 13, value := (S.accept.put_agreed true).check })).put_checkIn (0#64)) a9 b2).toArray HM.b0 HM.s0 ?_; clear HM; intro m2 HM; clear e2 e3
 go_wp2_with with_reducible refine so ?_
 refine yk 50 (sdL ((((((S.accept.put_agreed true).put_phase 5).send { cL with kind := 13, value := (S.accept.put_agreed true).check })).put_checkIn (0#64)).put_haveIn false) a9 b2).toArray HM.b0 HM.s0 ?_; clear HM; intro m3 HM
 go_wp2_with with_reducible refine so ?_
 refine bd HM (lY _ _ ((((((S.accept.put_agreed true).put_phase 5).send { cL with kind := 13, value := (S.accept.put_agreed true).check })).put_checkIn (0#64)).put_haveIn false) ⟨13, ⟨0, false, false, false, false, false⟩, 0#32, S.p.checkIn, ⟨⟨0, 0#64⟩, 0#64⟩, 0⟩ _ _ _ _ HM.here bV bV ) ?_; clear HM; intro m4 m5 m6 HM
 go_wp2_with with_reducible refine so ?_
 refine bt HM.trans (aR _ _ ((((((((S.accept.put_agreed true).put_phase 5).send { cL with kind := 13, value := (S.accept.put_agreed true).check })).put_checkIn (0#64)).put_haveIn false).checks ⟨13, ⟨0, false, false, false, false, false⟩, 0#32, S.p.checkIn, ⟨⟨0, 0#64⟩, 0#64⟩, 0⟩).1) _ _ _ _ HM.here) ?_; clear HM; intro m7 HM
 go_wp2_with with_reducible refine so ?_
 refine yv HM.b1 HM.s1 ?_; clear HM; intro m8 HM
 go_wp2_with with_reducible refine so ?_
 refine rc3 HM.b1 U37 ?_
 have q0 := q.out
 have q2 := z.out
 have q3 := D.out
 have q4 := I.out
 exact pZ hSd (by unfold jP; exact es9) hbs HM
theorem C9 (p : Pr) (ans now : Int) (w : World) (HL : bW w) (r0 : 0 ≤ p.round) (r1 : p.round ≤ 60) :
    Calls Tryz.prog 27 #[.agg (prL p).toArray, .int .i64 ans, .int .i64 now] w (fun e w' => jF w w' (fU p ans now).1 (fU p ans now).2.1 (fU p ans now).2.2 e) := FW p (ans, ()) now w HL r0 r1
end Go.Proofs.YtihmbcnccdiecaaGreatDoor
