/- Part of the proofs of the laws of pairing. -/
import Derived.Test.YtihmbcnccdiecaaGreatDoorBSdG
namespace Go.Proofs.YtihmbcnccdiecaaGreatDoor
set_option maxRecDepth 100000
set_option linter.unusedVariables false
set_option linter.unusedSimpArgs false
open Go.ChangeShapes Go.WideShapes Go.ChangeAt Go.RowKit
set_option maxHeartbeats 4000000 in
theorem qH (p : Pr) (now : Int) (w : World) (HL : bW w) (r0 : 0 ≤ p.round) (r1 : p.round ≤ 60)  :
  Calls Tryz.prog 28 #[.agg (prL p).toArray, .int .i64 now] w (fun e w' => jF w w' (kD p now).1 (kD p now).2.1 (kD p now).2.2 e) := by
 obtain ⟨base, hbs⟩ : ∃ b, w.heap.size = b := ⟨_, rfl⟩
 have HM := Mem.start HL
 rw [hbs] at HM
 obtain ⟨S, hSd⟩ : ∃ S, aH p now = S := ⟨_, rfl⟩
 have hs0 : S.sent = [] := by rw [← hSd]; rfl
 have ht0 : S.told = [] := by rw [← hSd]; rfl
 have hw0 : S.was = S.p := by rw [← hSd]; rfl
 have ls : S.sent.length ≤ 900 := by rw [hs0]; decide
 have lt : S.told.length ≤ 900 := by rw [ht0]; decide
 have h0 : 0 ≤ S.p.round := by rw [← hSd]; exact r0
 have h1 : S.p.round ≤ 64 := by rw [← hSd]; show p.round ≤ 64; omega
 have h2 : S.p.round ≤ 60 := by rw [← hSd]; exact r1
 go_enter Tryz.func28, Tryz.ntmps28
 go_wp2_with with_reducible refine so ?_
 refine HM.nw (ty := 37) (cs := (prL p).toArray) ?_; clear HM; intro a3 a4 HM
 go_wp2_with with_reducible refine so ?_
 refine HM.nw (ty := 37) (cs := (prL pr0).toArray) ?_; clear HM; intro a5 a6 HM
 go_wp2_with first | with_reducible refine so ?_ | with_reducible refine lw HM.b1 U37 ?_
 refine (fD _ p now _ _ HM.here).mono ?_; rintro e a7 ⟨gs, rfl, C⟩
 replace HM := HM.trans C; clear C
 rw [hSd] at HM
 rw [← hs0, ← ht0] at HM
 by_cases z : (S.p.phase : Int) = 6
 rotate_left
 ·
  obtain ⟨I, J, q⟩ := fF z; clear z
  have L := HM.b0.c 19 (.int .i64 S.p.phase)
  go_wp2_with with_reducible refine so ?_
  refine bt HM.trans (aR _ _ S _ _ _ _ HM.here) ?_; clear HM; intro a8 HM; clear L
  go_wp2_with with_reducible refine so ?_
  refine yv HM.b1 HM.s1 ?_; clear HM; intro a9 HM
  go_wp2_with with_reducible refine so ?_
  refine rc3 HM.b1 U37 ?_
  have q0 := q.out
  exact wS hSd (by unfold rZ; exact es9) hbs HM
 obtain ⟨I, J, q⟩ := fT z; clear z
 rcases b2 : S.p.crypt with _ | _
 rotate_left
 ·
  have O := HM.b0.c 19 (.int .i64 S.p.phase)
  have U := HM.b0.c 51 (.bool S.p.crypt)
  go_wp2_with with_reducible refine so ?_
  refine bt HM.trans (aR _ _ S _ _ _ _ HM.here) ?_; clear HM; intro b3 HM; clear O U
  go_wp2_with with_reducible refine so ?_
  refine yv HM.b1 HM.s1 ?_; clear HM; intro b4 HM
  go_wp2_with with_reducible refine so ?_
  refine rc3 HM.b1 U37 ?_
  have q0 := q.out
  exact wS hSd (by unfold rZ; exact es9) hbs HM
 have Z := HM.b0.c 19 (.int .i64 S.p.phase)
 have a0 := HM.b0.c 51 (.bool S.p.crypt)
 go_wp2_with with_reducible refine so ?_
 refine bd HM (eL _ _ S _ _ _ _ HM.here) ?_; clear HM; intro a1 a2 b5 HM; clear Z a0
 go_wp2_with with_reducible refine so ?_
 refine yk 51 (sdL (S.accept.put_crypt true) a1 a2).toArray HM.b0 HM.s0 ?_; clear HM; intro b6 HM
 go_wp2_with with_reducible refine so ?_
 refine bt HM.to (iY _ _ _ _ _ HM.b0 (byR S (aT S.p.req S.p.res).1 (aT S.p.req S.p.res).2, byR S (aT S.p.req S.p.res).2 (aT S.p.req S.p.res).1) rfl) ?_; clear HM; intro b7 HM
 go_wp2_with with_reducible refine so ?_
 refine bt HM.to (bQ _ _ _ _  _ HM.b0 S.first rfl) ?_; clear HM; intro b8 HM
 rcases b9 : S.first with _ | _
 rotate_left
 ·
  rcases c0 : byR S (aT S.p.req S.p.res).2 (aT S.p.req S.p.res).1 with _ | _
  rotate_left
  ·
   go_wp2_with with_reducible refine so ?_
   refine bt HM.trans (aR _ _ (S.accept.put_crypt true) _ _ _ _ HM.here) ?_; clear HM; intro c4 HM
   go_wp2_with with_reducible refine so ?_
   refine yv HM.b1 HM.s1 ?_; clear HM; intro c5 HM
   go_wp2_with with_reducible refine so ?_
   refine rc3 HM.b1 U37 ?_
   have q0 := q.out
   exact wS hSd (by unfold rZ; exact es9) hbs HM
  rcases D : (byR S (aT S.p.req S.p.res).1 (aT S.p.req S.p.res).2) with _ | _
  ·
   go_wp2_with with_reducible refine so ?_
   refine bd HM (lG _ _ (S.accept.put_crypt true) _ _ _ _ HM.here bV D) ?_; clear HM; intro c6 c7 c8 HM
   go_wp2_with with_reducible refine so ?_
   refine bt HM.to (bQ _ _ _ _  _ HM.b0 S.first rfl) ?_; clear HM; intro c9 HM
   go_wp2_with with_reducible refine so ?_
   refine bd HM (jA _ _ ((S.accept.put_crypt true)) _ _ _ _ HM.here bV) ?_; clear HM; intro d0 d1 d2 HM
   go_wp2_with with_reducible refine so ?_
   refine bt HM.trans (aR _ _ (((S.accept.put_crypt true)).finish) _ _ _ _ HM.here) ?_; clear HM; intro d3 HM
   go_wp2_with with_reducible refine so ?_
   refine yv HM.b1 HM.s1 ?_; clear HM; intro d4 HM
   go_wp2_with with_reducible refine so ?_
   refine rc3 HM.b1 U37 ?_
   have q0 := q.out
   exact wS hSd (by unfold rZ; exact es9) hbs HM
  go_wp2_with with_reducible refine so ?_
  refine bd HM (lE _ _ (S.accept.put_crypt true) _ _ _ _ HM.here bV D) ?_; clear HM; intro d5 d6 d7 HM
  go_wp2_with with_reducible refine so ?_
  refine bt HM.to (bQ _ _ _ _  _ HM.b0 S.first rfl) ?_; clear HM; intro d8 HM
  go_wp2_with with_reducible refine so ?_
  refine bd HM (jA _ _ (((S.accept.put_crypt true).send { cL with kind := 8, idn := (S.accept.put_crypt true).p.cfg.idn })) _ _ _ _ HM.here bV) ?_; clear HM; intro d9 e0 e1 HM
  go_wp2_with with_reducible refine so ?_
  refine bt HM.trans (aR _ _ ((((S.accept.put_crypt true).send { cL with kind := 8, idn := (S.accept.put_crypt true).p.cfg.idn })).finish) _ _ _ _ HM.here) ?_; clear HM; intro e2 HM
  go_wp2_with with_reducible refine so ?_
  refine yv HM.b1 HM.s1 ?_; clear HM; intro e3 HM
  go_wp2_with with_reducible refine so ?_
  refine rc3 HM.b1 U37 ?_
  have q0 := q.out
  exact wS hSd (by unfold rZ; exact es9) hbs HM
 rcases F : (byR S (aT S.p.req S.p.res).1 (aT S.p.req S.p.res).2) with _ | _
 ·
  go_wp2_with with_reducible refine so ?_
  refine bd HM (lG _ _ (S.accept.put_crypt true) _ _ _ _ HM.here bV F) ?_; clear HM; intro e4 e5 e6 HM
  go_wp2_with with_reducible refine so ?_
  refine bt HM.to (bQ _ _ _ _  _ HM.b0 S.first rfl) ?_; clear HM; intro e7 HM
  rcases e8 : byR S (aT S.p.req S.p.res).2 (aT S.p.req S.p.res).1 with _ | _
  ·
   go_wp2_with with_reducible refine so ?_
   refine bd HM (jA _ _ ((S.accept.put_crypt true)) _ _ _ _ HM.here bV) ?_; clear HM; intro e9 f0 f1 HM
   go_wp2_with with_reducible refine so ?_
   refine bt HM.trans (aR _ _ (((S.accept.put_crypt true)).finish) _ _ _ _ HM.here) ?_; clear HM; intro f2 HM
   go_wp2_with with_reducible refine so ?_
   refine yv HM.b1 HM.s1 ?_; clear HM; intro f3 HM
   go_wp2_with with_reducible refine so ?_
   refine rc3 HM.b1 U37 ?_
   have q0 := q.out
   exact wS hSd (by unfold rZ; exact es9) hbs HM
  go_wp2_with with_reducible refine so ?_
  refine bt HM.trans (aR _ _ ((S.accept.put_crypt true)) _ _ _ _ HM.here) ?_; clear HM; intro f4 HM
  go_wp2_with with_reducible refine so ?_
  refine yv HM.b1 HM.s1 ?_; clear HM; intro f5 HM
  go_wp2_with with_reducible refine so ?_
  refine rc3 HM.b1 U37 ?_
  have q0 := q.out
  exact wS hSd (by unfold rZ; exact es9) hbs HM
 go_wp2_with with_reducible refine so ?_
 refine bd HM (lE _ _ (S.accept.put_crypt true) _ _ _ _ HM.here bV F) ?_; clear HM; intro f6 f7 f8 HM
 go_wp2_with with_reducible refine so ?_
 refine bt HM.to (bQ _ _ _ _  _ HM.b0 S.first rfl) ?_; clear HM; intro f9 HM
 rcases g0 : byR S (aT S.p.req S.p.res).2 (aT S.p.req S.p.res).1 with _ | _
 ·
  go_wp2_with with_reducible refine so ?_
  refine bd HM (jA _ _ (((S.accept.put_crypt true).send { cL with kind := 8, idn := (S.accept.put_crypt true).p.cfg.idn })) _ _ _ _ HM.here bV) ?_; clear HM; intro g3 g4 g5 HM
  go_wp2_with with_reducible refine so ?_
  refine bt HM.trans (aR _ _ ((((S.accept.put_crypt true).send { cL with kind := 8, idn := (S.accept.put_crypt true).p.cfg.idn })).finish) _ _ _ _ HM.here) ?_; clear HM; intro g6 HM
  go_wp2_with with_reducible refine so ?_
  refine yv HM.b1 HM.s1 ?_; clear HM; intro g7 HM
  go_wp2_with with_reducible refine so ?_
  refine rc3 HM.b1 U37 ?_
  have q0 := q.out
  exact wS hSd (by unfold rZ; exact es9) hbs HM
 go_wp2_with with_reducible refine so ?_
 refine bt HM.trans (aR _ _ (((S.accept.put_crypt true).send { cL with kind := 8, idn := (S.accept.put_crypt true).p.cfg.idn })) _ _ _ _ HM.here) ?_; clear HM; intro g8 HM
 go_wp2_with with_reducible refine so ?_
 refine yv HM.b1 HM.s1 ?_; clear HM; intro g9 HM
 go_wp2_with with_reducible refine so ?_
 refine rc3 HM.b1 U37 ?_
 have q0 := q.out
 exact wS hSd (by unfold rZ; exact es9) hbs HM
end Go.Proofs.YtihmbcnccdiecaaGreatDoor
