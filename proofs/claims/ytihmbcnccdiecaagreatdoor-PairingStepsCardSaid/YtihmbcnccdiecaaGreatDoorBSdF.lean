/- Part of the proofs of the laws of pairing. -/
import Derived.Test.YtihmbcnccdiecaaGreatDoorBSdE
namespace Go.Proofs.YtihmbcnccdiecaaGreatDoor
set_option maxRecDepth 100000
set_option linter.unusedVariables false
set_option linter.unusedSimpArgs false
open Go.ChangeShapes Go.WideShapes Go.ChangeAt Go.RowKit
set_option maxHeartbeats 4000000 in
theorem wW (base g : Nat) (S : Sd) (d : Sec) (v u : Value) (bx : List Bk) (w : World) (HM : Mem w w base S.sent S.told v u ((g, cQ, (sdL S v u).toArray) :: bx)) (ls : S.sent.length ≤ 920) (lt : S.told.length ≤ 920) (h0 : 0 ≤ S.p.round) (h1 : S.p.round ≤ 64) :
  Calls Tryz.prog 76 #[.pointer (some ⟨g, 0, none⟩), .agg (aI d).toArray] w (fun e w' => e = .returned (.bool (S.authFirst d).2) ∧ eA w w' base g ((S.authFirst d).1) bx) := by
 go_enter Tryz.func76, Tryz.ntmps76
 go_wp2_with with_reducible refine so ?_
 refine HM.nw1 (ty := 43) (cs := (aI d).toArray) ?_; clear HM; intro b6 b7 HM
 by_cases C : (d.kind : Int) = 3
 rotate_left
 ·
  obtain ⟨U, Z, q⟩ := fF C; clear C
  go_wp2_with first | with_reducible refine so ?_ | with_reducible refine ld 0 (aI d) HM.b1 U43 ?_
  refine bd HM (kI _ _ S d _ _ _ _ HM.here (fun hh => q.out hh.1)) ?_; clear HM; intro b8 b9 c0 HM
  by_cases D : (d.kind : Int) = 4
  rotate_left
  ·
   obtain ⟨a0, a1, z⟩ := fF D; clear D
   have c4 := HM.b1.c 0 (.int .i64 d.kind)
   go_wp2_with with_reducible refine so ?_
   go_returns
   have q0 := q.out
   have q1 := z.out
   exact sE2 (by unfold Sd.authFirst; exact es9) HM.drop1
  obtain ⟨a0, a1, z⟩ := fT D; clear D
  rcases c5 : S.p.have_ with _ | _
  ·
   have c6 := HM.b1.c 0 (.int .i64 d.kind)
   have c7 := HM.b0.c 45 (.bool S.p.have_)
   go_wp2_with with_reducible refine so ?_
   go_returns
   have q0 := q.out
   have q1 := z.out
   exact sE2 (by unfold Sd.authFirst; exact es9) HM.drop1
  rcases J : Sd.opens S d.value with _ | _
  ·
   have a2 := HM.b1.c 0 (.int .i64 d.kind)
   have a3 := HM.b0.c 45 (.bool S.p.have_)
   go_wp2_with first | with_reducible refine so ?_ | with_reducible refine ld 0 (aI d) HM.b1 U43 ?_
   refine bd HM (oP _ _ S d _ _ _ _ HM.here (by first | exact h0 | exact h0p) (by first | exact h1 | exact h1p) J) ?_; clear HM; intro c8 c9 d0 HM; clear a2 a3
   go_wp2_with with_reducible refine so ?_
   go_returns
   have q0 := q.out
   have q1 := z.out
   exact sE2 (by unfold Sd.authFirst; exact es9) HM.drop1
  have a4 := HM.b1.c 0 (.int .i64 d.kind)
  have a5 := HM.b0.c 45 (.bool S.p.have_)
  go_wp2_with first | with_reducible refine so ?_ | with_reducible refine ld 0 (aI d) HM.b1 U43 ?_
  refine bd HM (oT _ _ S d _ _ _ _ HM.here (by first | exact h0 | exact h0p) (by first | exact h1 | exact h1p) J) ?_; clear HM; intro d1 d2 d3 HM; clear a4 a5
  go_wp2_with with_reducible refine so ?_
  refine bd HM (mG _ _ ((((S.accept.put_have_ false).put_commit 0#64).put_other d.value)) _ _ _ _ HM.here bV bV) ?_; clear HM; intro d4 d5 d6 HM
  go_wp2_with with_reducible refine so ?_
  go_returns
  have q0 := q.out
  have q1 := z.out
  exact sE2 (by unfold Sd.authFirst; exact es9) HM.drop1
 obtain ⟨U, Z, q⟩ := fT C; clear C
 rcases L : S.p.have_ with _ | _
 ·
  go_wp2_with first | with_reducible refine so ?_ | with_reducible refine ld 0 (aI d) HM.b1 U43 ?_
  refine bd HM (qN _ _ S d _ _ _ _ HM.here q.out L) ?_; clear HM; intro d7 d8 d9 HM
  go_wp2_with with_reducible refine so ?_
  refine bd HM (pX _ _ (((S.accept.put_commit d.value).put_have_ true)) _ _ _ _ HM.here) ?_; clear HM; intro a6 a7 e0 HM
  go_wp2_with with_reducible refine so ?_
  refine yk 42 (sdL (((((S.accept.put_commit d.value).put_have_ true)).draw).put_nonce (eN S.p.cfg.seed S.p.drawn)) a6 a7).toArray HM.b0 HM.s0 ?_; clear HM; intro e1 HM
  go_wp2_with with_reducible refine so ?_
  refine bd HM (jD _ _ (((((S.accept.put_commit d.value).put_have_ true)).draw).put_nonce (eN S.p.cfg.seed S.p.drawn)) _ _ _ _ HM.here bV) ?_; clear HM; intro e2 e3 e4 HM
  go_wp2_with with_reducible refine so ?_
  go_returns
  have q0 := q.out
  exact sE2 (by unfold Sd.authFirst; exact es9) HM.drop1
 go_wp2_with first | with_reducible refine so ?_ | with_reducible refine ld 0 (aI d) HM.b1 U43 ?_
 refine bd HM (kI _ _ S d _ _ _ _ HM.here (fun hh => absurd ((L).symm.trans hh.2) (by decide))) ?_; clear HM; intro e5 e6 e7 HM
 by_cases F : (d.kind : Int) = 4
 rotate_left
 ·
  obtain ⟨a8, a9, I⟩ := fF F; clear F
  have e8 := HM.b1.c 0 (.int .i64 d.kind)
  go_wp2_with with_reducible refine so ?_
  go_returns
  have q0 := q.out
  have q2 := I.out
  exact sE2 (by unfold Sd.authFirst; exact es9) HM.drop1
 obtain ⟨a8, a9, I⟩ := fT F; clear F
 rcases O : Sd.opens S d.value with _ | _
 ·
  have b2 := HM.b1.c 0 (.int .i64 d.kind)
  have b3 := HM.b0.c 45 (.bool S.p.have_)
  go_wp2_with first | with_reducible refine so ?_ | with_reducible refine ld 0 (aI d) HM.b1 U43 ?_
  refine bd HM (oP _ _ S d _ _ _ _ HM.here (by first | exact h0 | exact h0p) (by first | exact h1 | exact h1p) O) ?_; clear HM; intro e9 f0 f1 HM; clear b2 b3
  go_wp2_with with_reducible refine so ?_
  go_returns
  have q0 := q.out
  have q2 := I.out
  exact sE2 (by unfold Sd.authFirst; exact es9) HM.drop1
 have b4 := HM.b1.c 0 (.int .i64 d.kind)
 have b5 := HM.b0.c 45 (.bool S.p.have_)
 go_wp2_with first | with_reducible refine so ?_ | with_reducible refine ld 0 (aI d) HM.b1 U43 ?_
 refine bd HM (oT _ _ S d _ _ _ _ HM.here (by first | exact h0 | exact h0p) (by first | exact h1 | exact h1p) O) ?_; clear HM; intro f2 f3 f4 HM; clear b4 b5
 go_wp2_with with_reducible refine so ?_
 refine bd HM (mG _ _ ((((S.accept.put_have_ false).put_commit 0#64).put_other d.value)) _ _ _ _ HM.here bV bV) ?_; clear HM; intro f5 f6 f7 HM
 go_wp2_with with_reducible refine so ?_
 go_returns
 have q0 := q.out
 have q2 := I.out
 exact sE2 (by unfold Sd.authFirst; exact es9) HM.drop1
set_option maxHeartbeats 4000000 in
theorem BZ (base g : Nat) (S : Sd) (d : Sec) (v u : Value) (bx : List Bk) (w : World) (HM : Mem w w base S.sent S.told v u ((g, cQ, (sdL S v u).toArray) :: bx)) (ls : S.sent.length ≤ 920) (lt : S.told.length ≤ 920) :
  Calls Tryz.prog 74 #[.pointer (some ⟨g, 0, none⟩), .agg (aI d).toArray] w (fun e w' => e = .returned (.bool (S.authOOB d).2) ∧ eA w w' base g ((S.authOOB d).1) bx) := by
 go_enter Tryz.func74, Tryz.ntmps74
 go_wp2_with with_reducible refine so ?_
 refine HM.nw1 (ty := 43) (cs := (aI d).toArray) ?_; clear HM; intro Z a0 HM
 by_cases q : (d.kind : Int) = 4
 rotate_left
 ·
  obtain ⟨C, D, z⟩ := fF q; clear q
  have a1 := HM.b1.c 0 (.int .i64 d.kind)
  go_wp2_with with_reducible refine so ?_
  go_returns
  have q0 := z.out
  exact sE2 (by unfold Sd.authOOB; exact es9) HM.drop1
 obtain ⟨C, D, z⟩ := fT q; clear q
 have F := HM.b1.c 0 (.int .i64 d.kind)
 go_wp2_with with_reducible refine so ?_
 refine bd HM (eL _ _ S _ _ _ _ HM.here) ?_; clear HM; intro I J a2 HM; clear F
 have L := HM.b1.c 8 (.int .u64 (W64 d.value))
 go_wp2_with with_reducible refine so ?_
 refine yk 43 (sdL (S.accept.put_other d.value) I J).toArray HM.b0 HM.s0 ?_; clear HM; intro a3 HM; clear L
 go_wp2_with with_reducible refine so ?_
 refine bt HM.to (bQ _ _ _ _  _ HM.b0 S.first rfl) ?_; clear HM; intro a4 HM
 rcases a5 : S.first with _ | _
 rotate_left
 ·
  go_wp2_with with_reducible refine so ?_
  refine bd HM (fN _ _ (S.accept.put_other d.value) _ _ _ _ HM.here bV) ?_; clear HM; intro a6 a7 a8 HM
  go_wp2_with with_reducible refine so ?_
  go_returns
  have q0 := z.out
  exact sE2 (by unfold Sd.authOOB; exact es9) HM.drop1
 go_wp2_with with_reducible refine so ?_
 refine bd HM (pX _ _ (S.accept.put_other d.value) _ _ _ _ HM.here) ?_; clear HM; intro O U a9 HM
 go_wp2_with with_reducible refine so ?_
 refine yk 42 (sdL (((S.accept.put_other d.value).draw).put_nonce (eN S.p.cfg.seed S.p.drawn)) O U).toArray HM.b0 HM.s0 ?_; clear HM; intro b2 HM
 go_wp2_with with_reducible refine so ?_
 refine bd HM (jD _ _ (((S.accept.put_other d.value).draw).put_nonce (eN S.p.cfg.seed S.p.drawn)) _ _ _ _ HM.here bV) ?_; clear HM; intro b3 b4 b5 HM
 go_wp2_with with_reducible refine so ?_
 refine bd HM (fN _ _ ((((S.accept.put_other d.value).draw).put_nonce (eN S.p.cfg.seed S.p.drawn)).random) _ _ _ _ HM.here bV) ?_; clear HM; intro b6 b7 b8 HM
 go_wp2_with with_reducible refine so ?_
 go_returns
 have q0 := z.out
 exact sE2 (by unfold Sd.authOOB; exact es9) HM.drop1
theorem FR (n : Int) (h0 : 0 ≤ n) (h1 : n ≤ 60) : IntKind.i64.wrap (n + 1) = n + 1 := IntWalk.i64_in _ (by omega)
set_option maxHeartbeats 4000000 in
theorem sL (base g : Nat) (S : Sd) (d : Sec) (v u : Value) (bx : List Bk) (w : World) (HM : Mem w w base S.sent S.told v u ((g, cQ, (sdL S v u).toArray) :: bx)) (ls : S.sent.length ≤ 920) (lt : S.told.length ≤ 920) (h0 : 0 ≤ S.p.round) (h1 : S.p.round ≤ 64) (h2 : S.p.round ≤ 60) :
  Calls Tryz.prog 75 #[.pointer (some ⟨g, 0, none⟩), .agg (aI d).toArray] w (fun e w' => e = .returned (.bool (S.authPasskey d).2) ∧ eA w w' base g ((S.authPasskey d).1) bx) := by
 have ew := FR S.p.round h0 h2
 have h0p : 0 ≤ S.p.round + 1 := by omega
 have h1p : S.p.round + 1 ≤ 64 := by omega
 go_enter Tryz.func75, Tryz.ntmps75
 go_wp2_with with_reducible refine so ?_
 refine HM.nw1 (ty := 43) (cs := (aI d).toArray) ?_; clear HM; intro g8 g9 HM
 by_cases U : (d.kind : Int) = 3
 rotate_left
 ·
  obtain ⟨a9, b2, J⟩ := fF U; clear U
  go_wp2_with first | with_reducible refine so ?_ | with_reducible refine ld 0 (aI d) HM.b1 U43 ?_
  refine bd HM (kI _ _ S d _ _ _ _ HM.here (fun hh => J.out hh.1)) ?_; clear HM; intro h6 h7 h8 HM
  by_cases Z : (d.kind : Int) = 4
  rotate_left
  ·
   obtain ⟨b3, b4, L⟩ := fF Z; clear Z
   have h9 := HM.b1.c 0 (.int .i64 d.kind)
   go_wp2_with with_reducible refine so ?_
   go_returns
   have q0 := J.out
   have q1 := L.out
   exact sE2 (by unfold Sd.authPasskey; exact es9) HM.drop1
  obtain ⟨b3, b4, L⟩ := fT Z; clear Z
  rcases D : S.p.have_ with _ | _
  ·
   have i0 := HM.b1.c 0 (.int .i64 d.kind)
   have i1 := HM.b0.c 45 (.bool S.p.have_)
   go_wp2_with with_reducible refine so ?_
   go_returns
   have q0 := J.out
   have q1 := L.out
   exact sE2 (by unfold Sd.authPasskey; exact es9) HM.drop1
  rcases q : Sd.opens S d.value with _ | _
  ·
   have b5 := HM.b1.c 0 (.int .i64 d.kind)
   have b6 := HM.b0.c 45 (.bool S.p.have_)
   go_wp2_with first | with_reducible refine so ?_ | with_reducible refine ld 0 (aI d) HM.b1 U43 ?_
   refine bd HM (oP _ _ S d _ _ _ _ HM.here (by first | exact h0 | exact h0p) (by first | exact h1 | exact h1p) q) ?_; clear HM; intro i2 i3 i4 HM; clear b5 b6
   go_wp2_with with_reducible refine so ?_
   go_returns
   have q0 := J.out
   have q1 := L.out
   exact sE2 (by unfold Sd.authPasskey; exact es9) HM.drop1
  have b7 := HM.b1.c 0 (.int .i64 d.kind)
  have b8 := HM.b0.c 45 (.bool S.p.have_)
  go_wp2_with first | with_reducible refine so ?_ | with_reducible refine ld 0 (aI d) HM.b1 U43 ?_
  refine bd HM (oT _ _ S d _ _ _ _ HM.here (by first | exact h0 | exact h0p) (by first | exact h1 | exact h1p) q) ?_; clear HM; intro b9 c0 i5 HM; clear b7 b8
  have c4 := HM.b0.c 47 (.int .i64 S.p.round)
  go_wp2_with with_reducible refine so ?_
  refine yk 47 (sdL (((((S.accept.put_have_ false).put_commit 0#64).put_other d.value)).put_round ((S.p.round + 1))) b9 c0).toArray HM.b0 HM.s0 ?_; clear HM; intro i6 HM; clear c4
  go_wp2_with with_reducible refine so ?_
  refine bt HM.to (bQ _ _ _ _  _ HM.b0 S.first rfl) ?_; clear HM; intro i7 HM
  rcases F : S.first with _ | _
  ·
   go_wp2_with with_reducible refine so ?_
   refine bd HM (jD _ _ (((((S.accept.put_have_ false).put_commit 0#64).put_other d.value)).put_round ((S.p.round + 1))) _ _ _ _ HM.here bV) ?_; clear HM; intro c5 c6 i8 HM
   by_cases a0 : ((S.p.round + 1) : Int) = 20
   ·
    obtain ⟨c7, c8, a5⟩ := fT a0; clear a0
    have c9 := HM.b0.c 47 (.int .i64 ((S.p.round + 1)))
    go_wp2_with with_reducible refine so ?_
    refine bd HM (fN _ _ ((((((S.accept.put_have_ false).put_commit 0#64).put_other d.value)).put_round ((S.p.round + 1))).random) _ _ _ _ HM.here bV) ?_; clear HM; intro d0 d1 i9 HM; clear c9
    go_wp2_with with_reducible refine so ?_
    go_returns
    have q0 := J.out
    have q1 := L.out
    have q5 := a5.out
    have es : S.authPasskey d = ((((((((S.accept.put_have_ false).put_commit 0#64).put_other d.value)).put_round ((S.p.round + 1))).random).toChecks), true) := by first | rfl | (unfold Sd.authPasskey; (try unfold Sd.take); (try unfold Sd.open_); (try unfold Sd.identity); (try dsimp only); (repeat' (split <;> (first | (exfalso; rename_i hh; first | exact absurd q0 hh | exact absurd hh q0 | exact absurd (q0.symm.trans hh) (by decide) | exact absurd q1 hh | exact absurd hh q1 | exact absurd (q1.symm.trans hh) (by decide) | exact absurd D hh | exact absurd hh D | exact absurd (D.symm.trans hh) (by decide) | exact absurd q hh | exact absurd hh q | exact absurd (q.symm.trans hh) (by decide) | exact absurd F hh | exact absurd hh F | exact absurd (F.symm.trans hh) (by decide) | exact absurd q5 hh | exact absurd hh q5 | exact absurd (q5.symm.trans hh) (by decide) | (simp [Sd.take, Sd.open_, q0, q1, D, q, F, q5] at hh; done)) | skip))); all_goals rfl) | (exfalso; omega) | (simp [Sd.authPasskey, Sd.take, Sd.open_, q0, q1, D, q, F, q5]; done) | (simp [Sd.authPasskey, Sd.take, Sd.open_, q0, q1, D, q, F, q5]; rfl)
    rw [es]
    exact ⟨rfl, d0, d1, HM.drop1⟩
   obtain ⟨c7, c8, a5⟩ := fF a0; clear a0
   have d2 := HM.b0.c 47 (.int .i64 ((S.p.round + 1)))
   go_wp2_with with_reducible refine so ?_
   refine bt HM.to (bQ _ _ _ _  _ HM.b0 S.first rfl) ?_; clear HM; intro j0 HM; clear d2
   go_wp2_with with_reducible refine so ?_
   go_returns
   have q0 := J.out
   have q1 := L.out
   have q5 := a5.out
   have es : S.authPasskey d = (((((((S.accept.put_have_ false).put_commit 0#64).put_other d.value)).put_round ((S.p.round + 1))).random), true) := by first | rfl | (unfold Sd.authPasskey; (try unfold Sd.take); (try unfold Sd.open_); (try unfold Sd.identity); (try dsimp only); (repeat' (split <;> (first | (exfalso; rename_i hh; first | exact absurd q0 hh | exact absurd hh q0 | exact absurd (q0.symm.trans hh) (by decide) | exact absurd q1 hh | exact absurd hh q1 | exact absurd (q1.symm.trans hh) (by decide) | exact absurd D hh | exact absurd hh D | exact absurd (D.symm.trans hh) (by decide) | exact absurd q hh | exact absurd hh q | exact absurd (q.symm.trans hh) (by decide) | exact absurd F hh | exact absurd hh F | exact absurd (F.symm.trans hh) (by decide) | exact absurd q5 hh | exact absurd hh q5 | exact absurd (q5.symm.trans hh) (by decide) | (simp [Sd.take, Sd.open_, q0, q1, D, q, F, q5] at hh; done)) | skip))); all_goals rfl) | (exfalso; omega) | (simp [Sd.authPasskey, Sd.take, Sd.open_, q0, q1, D, q, F, q5]; done) | (simp [Sd.authPasskey, Sd.take, Sd.open_, q0, q1, D, q, F, q5]; rfl)
   rw [es]
   exact ⟨rfl, c5, c6, HM.drop1⟩
  by_cases a1 : ((S.p.round + 1) : Int) = 20
  ·
   obtain ⟨d3, d4, a6⟩ := fT a1; clear a1
   have d5 := HM.b0.c 47 (.int .i64 ((S.p.round + 1)))
   go_wp2_with with_reducible refine so ?_
   refine bd HM (fN _ _ (((((S.accept.put_have_ false).put_commit 0#64).put_other d.value)).put_round ((S.p.round + 1))) _ _ _ _ HM.here bV) ?_; clear HM; intro d6 d7 j1 HM; clear d5
   go_wp2_with with_reducible refine so ?_
   go_returns
   have q0 := J.out
   have q1 := L.out
   have q5 := a6.out
   have es : S.authPasskey d = (((((((S.accept.put_have_ false).put_commit 0#64).put_other d.value)).put_round ((S.p.round + 1))).toChecks), true) := by first | rfl | (unfold Sd.authPasskey; (try unfold Sd.take); (try unfold Sd.open_); (try unfold Sd.identity); (try dsimp only); (repeat' (split <;> (first | (exfalso; rename_i hh; first | exact absurd q0 hh | exact absurd hh q0 | exact absurd (q0.symm.trans hh) (by decide) | exact absurd q1 hh | exact absurd hh q1 | exact absurd (q1.symm.trans hh) (by decide) | exact absurd D hh | exact absurd hh D | exact absurd (D.symm.trans hh) (by decide) | exact absurd q hh | exact absurd hh q | exact absurd (q.symm.trans hh) (by decide) | exact absurd F hh | exact absurd hh F | exact absurd (F.symm.trans hh) (by decide) | exact absurd q5 hh | exact absurd hh q5 | exact absurd (q5.symm.trans hh) (by decide) | (simp [Sd.take, Sd.open_, q0, q1, D, q, F, q5] at hh; done)) | skip))); all_goals rfl) | (exfalso; omega) | (simp [Sd.authPasskey, Sd.take, Sd.open_, q0, q1, D, q, F, q5]; done) | (simp [Sd.authPasskey, Sd.take, Sd.open_, q0, q1, D, q, F, q5]; rfl)
   rw [es]
   exact ⟨rfl, d6, d7, HM.drop1⟩
  obtain ⟨d3, d4, a6⟩ := fF a1; clear a1
  have d8 := HM.b0.c 47 (.int .i64 ((S.p.round + 1)))
  go_wp2_with with_reducible refine so ?_
  refine bt HM.to (bQ _ _ _ _  _ HM.b0 S.first rfl) ?_; clear HM; intro j2 HM; clear d8
  go_wp2_with with_reducible refine so ?_
  refine bd HM (jC _ _ (((((S.accept.put_have_ false).put_commit 0#64).put_other d.value)).put_round ((S.p.round + 1))) _ _ _ _ HM.here bV (by first | exact h0 | exact h0p) (by first | exact h1 | exact h1p)) ?_; clear HM; intro d9 e0 j3 HM
  go_wp2_with with_reducible refine so ?_
  go_returns
  have q0 := J.out
  have q1 := L.out
  have q5 := a6.out
  have es : S.authPasskey d = (((((((S.accept.put_have_ false).put_commit 0#64).put_other d.value)).put_round ((S.p.round + 1))).commit), true) := by first | rfl | (unfold Sd.authPasskey; (try unfold Sd.take); (try unfold Sd.open_); (try unfold Sd.identity); (try dsimp only); (repeat' (split <;> (first | (exfalso; rename_i hh; first | exact absurd q0 hh | exact absurd hh q0 | exact absurd (q0.symm.trans hh) (by decide) | exact absurd q1 hh | exact absurd hh q1 | exact absurd (q1.symm.trans hh) (by decide) | exact absurd D hh | exact absurd hh D | exact absurd (D.symm.trans hh) (by decide) | exact absurd q hh | exact absurd hh q | exact absurd (q.symm.trans hh) (by decide) | exact absurd F hh | exact absurd hh F | exact absurd (F.symm.trans hh) (by decide) | exact absurd q5 hh | exact absurd hh q5 | exact absurd (q5.symm.trans hh) (by decide) | (simp [Sd.take, Sd.open_, q0, q1, D, q, F, q5] at hh; done)) | skip))); all_goals rfl) | (exfalso; omega) | (simp [Sd.authPasskey, Sd.take, Sd.open_, q0, q1, D, q, F, q5]; done) | (simp [Sd.authPasskey, Sd.take, Sd.open_, q0, q1, D, q, F, q5]; rfl)
  rw [es]
  exact ⟨rfl, d9, e0, HM.drop1⟩
 obtain ⟨a9, b2, J⟩ := fT U; clear U
 rcases z : S.p.have_ with _ | _
 ·
  go_wp2_with first | with_reducible refine so ?_ | with_reducible refine ld 0 (aI d) HM.b1 U43 ?_
  refine bd HM (qN _ _ S d _ _ _ _ HM.here J.out z) ?_; clear HM; intro j4 j5 j6 HM
  go_wp2_with with_reducible refine so ?_
  refine bt HM.to (bQ _ _ _ _  _ HM.b0 S.first rfl) ?_; clear HM; intro j7 HM
  rcases j8 : S.first with _ | _
  ·
   go_wp2_with with_reducible refine so ?_
   refine bd HM (jC _ _ (((S.accept.put_commit d.value).put_have_ true)) _ _ _ _ HM.here bV (by first | exact h0 | exact h0p) (by first | exact h1 | exact h1p)) ?_; clear HM; intro j9 k0 k1 HM
   go_wp2_with with_reducible refine so ?_
   go_returns
   have q0 := J.out
   exact sE2 (by unfold Sd.authPasskey; exact es9) HM.drop1
  go_wp2_with with_reducible refine so ?_
  refine bd HM (jD _ _ (((S.accept.put_commit d.value).put_have_ true)) _ _ _ _ HM.here bV) ?_; clear HM; intro k2 k3 k4 HM
  go_wp2_with with_reducible refine so ?_
  go_returns
  have q0 := J.out
  exact sE2 (by unfold Sd.authPasskey; exact es9) HM.drop1
 go_wp2_with first | with_reducible refine so ?_ | with_reducible refine ld 0 (aI d) HM.b1 U43 ?_
 refine bd HM (kI _ _ S d _ _ _ _ HM.here (fun hh => absurd ((z).symm.trans hh.2) (by decide))) ?_; clear HM; intro k5 k6 k7 HM
 by_cases a2 : (d.kind : Int) = 4
 rotate_left
 ·
  obtain ⟨e1, e2, O⟩ := fF a2; clear a2
  have k8 := HM.b1.c 0 (.int .i64 d.kind)
  go_wp2_with with_reducible refine so ?_
  go_returns
  have q0 := J.out
  have q2 := O.out
  exact sE2 (by unfold Sd.authPasskey; exact es9) HM.drop1
 obtain ⟨e1, e2, O⟩ := fT a2; clear a2
 rcases C : Sd.opens S d.value with _ | _
 ·
  have e3 := HM.b1.c 0 (.int .i64 d.kind)
  have e4 := HM.b0.c 45 (.bool S.p.have_)
  go_wp2_with first | with_reducible refine so ?_ | with_reducible refine ld 0 (aI d) HM.b1 U43 ?_
  refine bd HM (oP _ _ S d _ _ _ _ HM.here (by first | exact h0 | exact h0p) (by first | exact h1 | exact h1p) C) ?_; clear HM; intro k9 l0 l1 HM; clear e3 e4
  go_wp2_with with_reducible refine so ?_
  go_returns
  have q0 := J.out
  have q2 := O.out
  exact sE2 (by unfold Sd.authPasskey; exact es9) HM.drop1
 have e5 := HM.b1.c 0 (.int .i64 d.kind)
 have e6 := HM.b0.c 45 (.bool S.p.have_)
 go_wp2_with first | with_reducible refine so ?_ | with_reducible refine ld 0 (aI d) HM.b1 U43 ?_
 refine bd HM (oT _ _ S d _ _ _ _ HM.here (by first | exact h0 | exact h0p) (by first | exact h1 | exact h1p) C) ?_; clear HM; intro e7 e8 l2 HM; clear e5 e6
 have e9 := HM.b0.c 47 (.int .i64 S.p.round)
 go_wp2_with with_reducible refine so ?_
 refine yk 47 (sdL (((((S.accept.put_have_ false).put_commit 0#64).put_other d.value)).put_round ((S.p.round + 1))) e7 e8).toArray HM.b0 HM.s0 ?_; clear HM; intro l3 HM; clear e9
 go_wp2_with with_reducible refine so ?_
 refine bt HM.to (bQ _ _ _ _  _ HM.b0 S.first rfl) ?_; clear HM; intro l4 HM
 rcases I : S.first with _ | _
 ·
  go_wp2_with with_reducible refine so ?_
  refine bd HM (jD _ _ (((((S.accept.put_have_ false).put_commit 0#64).put_other d.value)).put_round ((S.p.round + 1))) _ _ _ _ HM.here bV) ?_; clear HM; intro f0 f1 l5 HM
  by_cases a3 : ((S.p.round + 1) : Int) = 20
  ·
   obtain ⟨f2, f3, a7⟩ := fT a3; clear a3
   have f4 := HM.b0.c 47 (.int .i64 ((S.p.round + 1)))
   go_wp2_with with_reducible refine so ?_
   refine bd HM (fN _ _ ((((((S.accept.put_have_ false).put_commit 0#64).put_other d.value)).put_round ((S.p.round + 1))).random) _ _ _ _ HM.here bV) ?_; clear HM; intro f5 f6 l6 HM; clear f4
   go_wp2_with with_reducible refine so ?_
   go_returns
   have q0 := J.out
   have q2 := O.out
   have q5 := a7.out
   have es : S.authPasskey d = ((((((((S.accept.put_have_ false).put_commit 0#64).put_other d.value)).put_round ((S.p.round + 1))).random).toChecks), true) := by first | rfl | (unfold Sd.authPasskey; (try unfold Sd.take); (try unfold Sd.open_); (try unfold Sd.identity); (try dsimp only); (repeat' (split <;> (first | (exfalso; rename_i hh; first | exact absurd q0 hh | exact absurd hh q0 | exact absurd (q0.symm.trans hh) (by decide) | exact absurd z hh | exact absurd hh z | exact absurd (z.symm.trans hh) (by decide) | exact absurd q2 hh | exact absurd hh q2 | exact absurd (q2.symm.trans hh) (by decide) | exact absurd C hh | exact absurd hh C | exact absurd (C.symm.trans hh) (by decide) | exact absurd I hh | exact absurd hh I | exact absurd (I.symm.trans hh) (by decide) | exact absurd q5 hh | exact absurd hh q5 | exact absurd (q5.symm.trans hh) (by decide) | (simp [Sd.take, Sd.open_, q0, z, q2, C, I, q5] at hh; done)) | skip))); all_goals rfl) | (exfalso; omega) | (simp [Sd.authPasskey, Sd.take, Sd.open_, q0, z, q2, C, I, q5]; done) | (simp [Sd.authPasskey, Sd.take, Sd.open_, q0, z, q2, C, I, q5]; rfl)
   rw [es]
   exact ⟨rfl, f5, f6, HM.drop1⟩
  obtain ⟨f2, f3, a7⟩ := fF a3; clear a3
  have f7 := HM.b0.c 47 (.int .i64 ((S.p.round + 1)))
  go_wp2_with with_reducible refine so ?_
  refine bt HM.to (bQ _ _ _ _  _ HM.b0 S.first rfl) ?_; clear HM; intro l7 HM; clear f7
  go_wp2_with with_reducible refine so ?_
  go_returns
  have q0 := J.out
  have q2 := O.out
  have q5 := a7.out
  have es : S.authPasskey d = (((((((S.accept.put_have_ false).put_commit 0#64).put_other d.value)).put_round ((S.p.round + 1))).random), true) := by first | rfl | (unfold Sd.authPasskey; (try unfold Sd.take); (try unfold Sd.open_); (try unfold Sd.identity); (try dsimp only); (repeat' (split <;> (first | (exfalso; rename_i hh; first | exact absurd q0 hh | exact absurd hh q0 | exact absurd (q0.symm.trans hh) (by decide) | exact absurd z hh | exact absurd hh z | exact absurd (z.symm.trans hh) (by decide) | exact absurd q2 hh | exact absurd hh q2 | exact absurd (q2.symm.trans hh) (by decide) | exact absurd C hh | exact absurd hh C | exact absurd (C.symm.trans hh) (by decide) | exact absurd I hh | exact absurd hh I | exact absurd (I.symm.trans hh) (by decide) | exact absurd q5 hh | exact absurd hh q5 | exact absurd (q5.symm.trans hh) (by decide) | (simp [Sd.take, Sd.open_, q0, z, q2, C, I, q5] at hh; done)) | skip))); all_goals rfl) | (exfalso; omega) | (simp [Sd.authPasskey, Sd.take, Sd.open_, q0, z, q2, C, I, q5]; done) | (simp [Sd.authPasskey, Sd.take, Sd.open_, q0, z, q2, C, I, q5]; rfl)
  rw [es]
  exact ⟨rfl, f0, f1, HM.drop1⟩
 by_cases a4 : ((S.p.round + 1) : Int) = 20
 ·
  obtain ⟨f8, f9, a8⟩ := fT a4; clear a4
  have g0 := HM.b0.c 47 (.int .i64 ((S.p.round + 1)))
  go_wp2_with with_reducible refine so ?_
  refine bd HM (fN _ _ (((((S.accept.put_have_ false).put_commit 0#64).put_other d.value)).put_round ((S.p.round + 1))) _ _ _ _ HM.here bV) ?_; clear HM; intro g3 g4 l8 HM; clear g0
  go_wp2_with with_reducible refine so ?_
  go_returns
  have q0 := J.out
  have q2 := O.out
  have q5 := a8.out
  have es : S.authPasskey d = (((((((S.accept.put_have_ false).put_commit 0#64).put_other d.value)).put_round ((S.p.round + 1))).toChecks), true) := by first | rfl | (unfold Sd.authPasskey; (try unfold Sd.take); (try unfold Sd.open_); (try unfold Sd.identity); (try dsimp only); (repeat' (split <;> (first | (exfalso; rename_i hh; first | exact absurd q0 hh | exact absurd hh q0 | exact absurd (q0.symm.trans hh) (by decide) | exact absurd z hh | exact absurd hh z | exact absurd (z.symm.trans hh) (by decide) | exact absurd q2 hh | exact absurd hh q2 | exact absurd (q2.symm.trans hh) (by decide) | exact absurd C hh | exact absurd hh C | exact absurd (C.symm.trans hh) (by decide) | exact absurd I hh | exact absurd hh I | exact absurd (I.symm.trans hh) (by decide) | exact absurd q5 hh | exact absurd hh q5 | exact absurd (q5.symm.trans hh) (by decide) | (simp [Sd.take, Sd.open_, q0, z, q2, C, I, q5] at hh; done)) | skip))); all_goals rfl) | (exfalso; omega) | (simp [Sd.authPasskey, Sd.take, Sd.open_, q0, z, q2, C, I, q5]; done) | (simp [Sd.authPasskey, Sd.take, Sd.open_, q0, z, q2, C, I, q5]; rfl)
  rw [es]
  exact ⟨rfl, g3, g4, HM.drop1⟩
 obtain ⟨f8, f9, a8⟩ := fF a4; clear a4
 have g5 := HM.b0.c 47 (.int .i64 ((S.p.round + 1)))
 go_wp2_with with_reducible refine so ?_
 refine bt HM.to (bQ _ _ _ _  _ HM.b0 S.first rfl) ?_; clear HM; intro l9 HM; clear g5
 go_wp2_with with_reducible refine so ?_
 refine bd HM (jC _ _ (((((S.accept.put_have_ false).put_commit 0#64).put_other d.value)).put_round ((S.p.round + 1))) _ _ _ _ HM.here bV (by first | exact h0 | exact h0p) (by first | exact h1 | exact h1p)) ?_; clear HM; intro g6 g7 m0 HM
 go_wp2_with with_reducible refine so ?_
 go_returns
 have q0 := J.out
 have q2 := O.out
 have q5 := a8.out
 have es : S.authPasskey d = (((((((S.accept.put_have_ false).put_commit 0#64).put_other d.value)).put_round ((S.p.round + 1))).commit), true) := by first | rfl | (unfold Sd.authPasskey; (try unfold Sd.take); (try unfold Sd.open_); (try unfold Sd.identity); (try dsimp only); (repeat' (split <;> (first | (exfalso; rename_i hh; first | exact absurd q0 hh | exact absurd hh q0 | exact absurd (q0.symm.trans hh) (by decide) | exact absurd z hh | exact absurd hh z | exact absurd (z.symm.trans hh) (by decide) | exact absurd q2 hh | exact absurd hh q2 | exact absurd (q2.symm.trans hh) (by decide) | exact absurd C hh | exact absurd hh C | exact absurd (C.symm.trans hh) (by decide) | exact absurd I hh | exact absurd hh I | exact absurd (I.symm.trans hh) (by decide) | exact absurd q5 hh | exact absurd hh q5 | exact absurd (q5.symm.trans hh) (by decide) | (simp [Sd.take, Sd.open_, q0, z, q2, C, I, q5] at hh; done)) | skip))); all_goals rfl) | (exfalso; omega) | (simp [Sd.authPasskey, Sd.take, Sd.open_, q0, z, q2, C, I, q5]; done) | (simp [Sd.authPasskey, Sd.take, Sd.open_, q0, z, q2, C, I, q5]; rfl)
 rw [es]
 exact ⟨rfl, g6, g7, HM.drop1⟩
set_option maxHeartbeats 4000000 in
theorem sO (base g : Nat) (S : Sd) (d : Sec) (v u : Value) (bx : List Bk) (w : World) (HM : Mem w w base S.sent S.told v u ((g, cQ, (sdL S v u).toArray) :: bx)) (ls : S.sent.length ≤ 900) (lt : S.told.length ≤ 900) :
  Calls Tryz.prog 51 #[.pointer (some ⟨g, 0, none⟩), .agg (aI d).toArray] w (fun e w' => e = .returned (.bool (S.early d).2) ∧ eA w w' base g ((S.early d).1) bx) := by
 go_enter Tryz.func51, Tryz.ntmps51
 go_wp2_with with_reducible refine so ?_
 refine HM.nw1 (ty := 43) (cs := (aI d).toArray) ?_; clear HM; intro a3 a4 HM
 go_wp2_with with_reducible refine so ?_
 refine bt HM.to (bQ _ _ _ _  _ HM.b0 S.first rfl) ?_; clear HM; intro a5 HM
 rcases a6 : S.first with _ | _
 rotate_left
 ·
  go_wp2_with with_reducible refine so ?_
  go_returns
  exact sE2 (by unfold Sd.early; exact es9) HM.drop1
 go_wp2_with with_reducible refine so ?_
 refine bt HM.to (eY _ _ _ _  _ HM.b0 (aU S.p.method) rfl) ?_; clear HM; intro a7 HM
 rcases a8 : aU S.p.method with _ | _
 rotate_left
 ·
  by_cases z : (d.kind : Int) = 3
  rotate_left
  ·
   obtain ⟨L, O, q⟩ := fF z; clear z
   go_wp2_with first | with_reducible refine so ?_ | with_reducible refine ld 0 (aI d) HM.b1 U43 ?_
   refine bd HM (kI _ _ S d _ _ _ _ HM.here (fun hh => q.out hh.1)) ?_; clear HM; intro a9 b2 b3 HM
   go_wp2_with with_reducible refine so ?_
   go_returns
   have q2 := q.out
   exact sE2 (by unfold Sd.early; exact es9) HM.drop1
  obtain ⟨L, O, q⟩ := fT z; clear z
  rcases F : S.p.have_ with _ | _
  ·
   go_wp2_with first | with_reducible refine so ?_ | with_reducible refine ld 0 (aI d) HM.b1 U43 ?_
   refine bd HM (qN _ _ S d _ _ _ _ HM.here q.out F) ?_; clear HM; intro b4 b5 b6 HM
   go_wp2_with with_reducible refine so ?_
   go_returns
   have q2 := q.out
   exact sE2 (by unfold Sd.early; exact es9) HM.drop1
  go_wp2_with first | with_reducible refine so ?_ | with_reducible refine ld 0 (aI d) HM.b1 U43 ?_
  refine bd HM (kI _ _ S d _ _ _ _ HM.here (fun hh => absurd ((F).symm.trans hh.2) (by decide))) ?_; clear HM; intro b7 b8 b9 HM
  go_wp2_with with_reducible refine so ?_
  go_returns
  have q2 := q.out
  exact sE2 (by unfold Sd.early; exact es9) HM.drop1
 by_cases C : (d.kind : Int) = 13
 rotate_left
 ·
  obtain ⟨U, Z, D⟩ := fF C; clear C
  have c0 := HM.b1.c 0 (.int .i64 d.kind)
  go_wp2_with with_reducible refine so ?_
  go_returns
  have q2 := D.out
  exact sE2 (by unfold Sd.early; exact es9) HM.drop1
 obtain ⟨U, Z, D⟩ := fT C; clear C
 rcases c4 : S.p.haveIn with _ | _
 rotate_left
 ·
  have c5 := HM.b1.c 0 (.int .i64 d.kind)
  have c6 := HM.b0.c 50 (.bool S.p.haveIn)
  go_wp2_with with_reducible refine so ?_
  go_returns
  have q2 := D.out
  exact sE2 (by unfold Sd.early; exact es9) HM.drop1
 have a0 := HM.b1.c 0 (.int .i64 d.kind)
 have a1 := HM.b0.c 50 (.bool S.p.haveIn)
 go_wp2_with with_reducible refine so ?_
 refine bd HM (eL _ _ S _ _ _ _ HM.here) ?_; clear HM; intro I J c7 HM; clear a0 a1
 have a2 := HM.b1.c 8 (.int .u64 (W64 d.value))
 go_wp2_with with_reducible refine so ?_
 refine yk 49 (sdL (S.accept.put_checkIn d.value) I J).toArray HM.b0 HM.s0 ?_; clear HM; intro c8 HM; clear a2
 go_wp2_with with_reducible refine so ?_
 refine yk 50 (sdL ((S.accept.put_checkIn d.value).put_haveIn true) I J).toArray HM.b0 HM.s0 ?_; clear HM; intro c9 HM
 go_wp2_with with_reducible refine so ?_
 go_returns
 have q2 := D.out
 exact sE2 (by unfold Sd.early; exact es9) HM.drop1
set_option maxHeartbeats 4000000 in
theorem lY (base g : Nat) (S : Sd) (d : Sec) (v u : Value) (bx : List Bk) (w : World) (HM : Mem w w base S.sent S.told v u ((g, cQ, (sdL S v u).toArray) :: bx)) (ls : S.sent.length ≤ 900) (lt : S.told.length ≤ 900) :
  Calls Tryz.prog 52 #[.pointer (some ⟨g, 0, none⟩), .agg (aI d).toArray] w (fun e w' => e = .returned (.bool (S.checks d).2) ∧ eA w w' base g ((S.checks d).1) bx) := by
 go_enter Tryz.func52, Tryz.ntmps52
 go_wp2_with with_reducible refine so ?_
 refine HM.nw1 (ty := 43) (cs := (aI d).toArray) ?_; clear HM; intro a0 a1 HM
 by_cases z : (d.kind : Int) = 13
 rotate_left
 ·
  obtain ⟨J, L, q⟩ := fF z; clear z
  have a2 := HM.b1.c 0 (.int .i64 d.kind)
  go_wp2_with with_reducible refine so ?_
  go_returns
  have q0 := q.out
  exact sE2 (by unfold Sd.checks; exact es9) HM.drop1
 obtain ⟨J, L, q⟩ := fT z; clear z
 have O := HM.b1.c 0 (.int .i64 d.kind)
 go_wp2_with with_reducible refine so ?_
 refine bd HM (eL _ _ S _ _ _ _ HM.here) ?_; clear HM; intro F I a3 HM; clear O
 go_wp2_with with_reducible refine so ?_
 have hst := bM HM
 refine aD _ 5 hst (HM.drew) ?_
 clear HM
 refine aA 0 hst ?_
 refine bS 1 (.int .u64 (W64 d.value)) hst (fun W hS => hS.b1.cell 8) ?_
 refine aA 2 hst ?_
 refine aF 3 rfl hst (fun W hS K hK => by go_simp; exact cl (uE _ _ _ _  _ hS.b0 (Sd.otherCheck S.accept) rfl) hK) ?_
 refine aA 4 hst ?_
 refine aE (fun a4 hS => ?_)
 have HM := hS
 clear hst
 by_cases C : d.value = Sd.otherCheck S.accept
 rotate_left
 ·
  obtain ⟨U, Z, D⟩ := gF C; clear C
  go_wp2_with with_reducible refine so ?_
  refine bd HM (cI _ _ S.accept 11 _ _ _ _ HM.here) ?_; clear HM; intro a5 a6 a7 HM
  go_wp2_with with_reducible refine so ?_
  go_returns
  have q0 := q.out
  have q1 := D.out
  exact sE2 (by unfold Sd.checks; exact es9) HM.drop1
 obtain ⟨U, Z, D⟩ := gT C; clear C
 go_wp2_with first | with_reducible refine so ?_ | with_reducible refine ld 0 (cT S.p.cfg) HM.b0 U34 ?_
 refine HM.nw1 (ty := 34) (cs := (cT pN).toArray) ?_; clear HM; intro a8 a9 HM
 go_wp2_with with_reducible refine so ?_
 refine yv HM.b1 HM.s1 ?_; clear HM; intro b2 HM
 go_wp2_with with_reducible refine so ?_
 try simp only [nrm]
 have hst := bM HM
 refine dN _ 46 hst HM.drew ⟨by kernel_rfl, by kernel_rfl, by kernel_rfl, by decide⟩ (fun hR => ?_)
 clear HM
 refine bT 0 hR hst ?_
 refine bT 1 hR hst ?_
 refine bT 2 hR hst ?_
 refine bT 3 hR hst ?_
 refine bT 4 hR hst ?_
 refine eB 5 rfl hR hst (fun W hS K hK => by have ld : W.cell? ⟨g, 41, none⟩ = some (.int .u32 (W32 S.p.shared)) := hS.b0.cell 41; clear hS; go_simp; exact hk hK) ?_
 refine bT 6 hR hst ?_
 refine bT 7 hR hst ?_
 refine bT 8 hR hst ?_
 refine bT 9 hR hst ?_
 refine bT 10 hR hst ?_
 refine eB 11 rfl hR hst (fun W hS K hK => by have ld : W.cell? ⟨g, 42, none⟩ = some (.int .u64 (W64 S.p.nonce)) := hS.b0.cell 42; clear hS; go_simp; exact hk hK) ?_
 refine bT 12 hR hst ?_
 refine bT 13 hR hst ?_
 refine bT 14 hR hst ?_
 refine bT 15 hR hst ?_
 refine eB 16 rfl hR hst (fun W hS K hK => by have ld : W.cell? ⟨g, 43, none⟩ = some (.int .u64 (W64 S.p.other)) := hS.b0.cell 43; clear hS; go_simp; exact hk hK) ?_
 refine bT 18 hR hst ?_
 refine bT 19 hR hst ?_
 refine bT 20 hR hst ?_
 refine bT 21 hR hst ?_
 refine bT 22 hR hst ?_
 refine eB 23 rfl hR hst (fun W hS K hK => by have ld : W.cell? ⟨g, 43, none⟩ = some (.int .u64 (W64 S.p.other)) := hS.b0.cell 43; clear hS; go_simp; exact hk hK) ?_
 refine bT 24 hR hst ?_
 refine bT 25 hR hst ?_
 refine bT 26 hR hst ?_
 refine bT 27 hR hst ?_
 refine eB 28 rfl hR hst (fun W hS K hK => by have ld : W.cell? ⟨g, 42, none⟩ = some (.int .u64 (W64 S.p.nonce)) := hS.b0.cell 42; clear hS; go_simp; exact hk hK) ?_
 refine bT 30 hR hst ?_
 refine bT 31 hR hst ?_
 refine cV (v := .agg #[.int .i64 S.p.cfg.own.kind, .int .u64 (W64 S.p.cfg.own.bits)]) 32 hR hst rfl (fun W hS K hK => aL rfl rfl (aX hS.b1 7 [.int .i64 S.p.cfg.own.kind, .int .u64 (W64 S.p.cfg.own.bits)] rfl U26 rfl (by kernel_rfl)) (hK.out _ (Below.refl _ _))) ?_; simp only [nrm]
 refine bT 33 hR hst ?_
 refine cV (v := .agg #[.int .i64 S.p.cfg.peer.kind, .int .u64 (W64 S.p.cfg.peer.bits)]) 34 hR hst rfl (fun W hS K hK => aL rfl rfl (aX hS.b1 9 [.int .i64 S.p.cfg.peer.kind, .int .u64 (W64 S.p.cfg.peer.bits)] rfl U26 rfl (by kernel_rfl)) (hK.out _ (Below.refl _ _))) ?_; simp only [nrm]
 refine bT 36 hR hst ?_
 refine bT 37 hR hst ?_
 refine cV (v := .agg #[.int .i64 S.p.cfg.peer.kind, .int .u64 (W64 S.p.cfg.peer.bits)]) 38 hR hst rfl (fun W hS K hK => aL rfl rfl (aX hS.b1 9 [.int .i64 S.p.cfg.peer.kind, .int .u64 (W64 S.p.cfg.peer.bits)] rfl U26 rfl (by kernel_rfl)) (hK.out _ (Below.refl _ _))) ?_; simp only [nrm]
 refine bT 39 hR hst ?_
 refine cV (v := .agg #[.int .i64 S.p.cfg.own.kind, .int .u64 (W64 S.p.cfg.own.bits)]) 40 hR hst rfl (fun W hS K hK => aL rfl rfl (aX hS.b1 7 [.int .i64 S.p.cfg.own.kind, .int .u64 (W64 S.p.cfg.own.bits)] rfl U26 rfl (by kernel_rfl)) (hK.out _ (Below.refl _ _))) ?_; simp only [nrm]
 refine eB 17 rfl hR hst (fun W hS K hK => by go_simp; exact cl (hP _ _ _ _ S.p.nonce S.p.other _ hS.b0 (byR S S.p.nonce S.p.other) rfl) hK) ?_
 refine eB 29 rfl hR hst (fun W hS K hK => by go_simp; exact cl (hP _ _ _ _ S.p.other S.p.nonce _ hS.b0 (byR S S.p.other S.p.nonce) rfl) hK) ?_
 refine eB 35 rfl hR hst (fun W hS K hK => by go_simp; exact cl (oX _ _ _ _ S.p.cfg.own S.p.cfg.peer _ hS.b0 (byR S S.p.cfg.own S.p.cfg.peer) rfl) hK) ?_
 refine eB 41 rfl hR hst (fun W hS K hK => by go_simp; exact cl (oX _ _ _ _ S.p.cfg.peer S.p.cfg.own _ hS.b0 (byR S S.p.cfg.peer S.p.cfg.own) rfl) hK) ?_
 refine eB 42 rfl hR hst (fun W hS K hK => by clear hS; go_simp; exact cl (tO S.p.shared ((byR S S.p.nonce S.p.other)) ((byR S S.p.other S.p.nonce)) ((byR S S.p.cfg.own S.p.cfg.peer)) ((byR S S.p.cfg.peer S.p.cfg.own)) _) hK) ?_
 refine bT 43 hR hst ?_
 refine bT 44 hR hst ?_
 refine bT 45 hR hst ?_
 refine gC (fun b3 hS => ?_)
 have HM := hS
 clear hst
 dsimp only [List.drop]
 go_wp2_with with_reducible refine so ?_
 refine yk 52 (sdL (S.accept.put_ltk (mS S.p.shared ((byR S S.p.nonce S.p.other)) ((byR S S.p.other S.p.nonce)) ((byR S S.p.cfg.own S.p.cfg.peer)) ((byR S S.p.cfg.peer S.p.cfg.own)))) F I).toArray HM.b0 HM.s0 ?_; clear HM; intro b4 HM
 go_wp2_with with_reducible refine so ?_
 refine yk 19 (sdL ((S.accept.put_ltk (mS S.p.shared ((byR S S.p.nonce S.p.other)) ((byR S S.p.other S.p.nonce)) ((byR S S.p.cfg.own S.p.cfg.peer)) ((byR S S.p.cfg.peer S.p.cfg.own)))).put_phase 6) F I).toArray HM.b0 HM.s0 ?_; clear HM; intro b5 HM
 go_wp2_with with_reducible refine so ?_
 refine bt HM.to (bQ _ _ _ _  _ HM.b0 S.first rfl) ?_; clear HM; intro b6 HM
 rcases b7 : S.first with _ | _
 rotate_left
 ·
  go_wp2_with with_reducible refine so ?_
  go_returns
  have q0 := q.out
  have q1 := D.out
  exact sE2 (by unfold Sd.checks; exact es9) HM.drop1.drop1
 go_wp2_with with_reducible refine so ?_
 refine bt HM.to (xZ _ _ _ _  _ HM.b0 (Sd.check ((S.accept.put_ltk (mS S.p.shared ((byR S S.p.nonce S.p.other)) ((byR S S.p.other S.p.nonce)) ((byR S S.p.cfg.own S.p.cfg.peer)) ((byR S S.p.cfg.peer S.p.cfg.own)))).put_phase 6)) rfl) ?_; clear HM; intro b8 HM
 go_wp2_with with_reducible refine so ?_
 refine bd HM (iR _ _ ((S.accept.put_ltk (mS S.p.shared ((byR S S.p.nonce S.p.other)) ((byR S S.p.other S.p.nonce)) ((byR S S.p.cfg.own S.p.cfg.peer)) ((byR S S.p.cfg.peer S.p.cfg.own)))).put_phase 6) ⟨13, ⟨0, false, false, false, false, false⟩, 0#32, (Sd.check ((S.accept.put_ltk (mS S.p.shared ((byR S S.p.nonce S.p.other)) ((byR S S.p.other S.p.nonce)) ((byR S S.p.cfg.own S.p.cfg.peer)) ((byR S S.p.cfg.peer S.p.cfg.own)))).put_phase 6)), ⟨⟨0, 0#64⟩, 0#64⟩, 0⟩ _ _ _ _ HM.here bV) ?_; clear HM; intro b9 c0 c4 HM
 go_wp2_with with_reducible refine so ?_
 go_returns
 have q0 := q.out
 have q1 := D.out
 exact sE2 (by unfold Sd.checks; exact es9) HM.drop1.drop1
set_option maxHeartbeats 4000000 in
theorem vX (base g : Nat) (S : Sd) (d : Sec) (v u : Value) (bx : List Bk) (w : World) (HM : Mem w w base S.sent S.told v u ((g, cQ, (sdL S v u).toArray) :: bx)) (ls : S.sent.length ≤ 900) (lt : S.told.length ≤ 900) :
  Calls Tryz.prog 53 #[.pointer (some ⟨g, 0, none⟩), .agg (aI d).toArray] w (fun e w' => e = .returned (.bool (S.keys d).2) ∧ eA w w' base g ((S.keys d).1) bx) := by
 go_enter Tryz.func53, Tryz.ntmps53
 go_wp2_with with_reducible refine so ?_
 refine HM.nw1 (ty := 43) (cs := (aI d).toArray) ?_; clear HM; intro U Z HM
 go_wp2_with with_reducible refine so ?_
 refine bt HM.to (iY _ _ _ _ _ HM.b0 (byR S (aT S.p.req S.p.res).1 (aT S.p.req S.p.res).2, byR S (aT S.p.req S.p.res).2 (aT S.p.req S.p.res).1) rfl) ?_; clear HM; intro a0 HM
 by_cases z : (d.kind : Int) = 8
 rotate_left
 ·
  obtain ⟨D, F, q⟩ := fF z; clear z
  have a1 := HM.b1.c 0 (.int .i64 d.kind)
  go_wp2_with with_reducible refine so ?_
  go_returns
  have q0 := q.out
  exact sE2 (by unfold Sd.keys; exact es9) HM.drop1
 obtain ⟨D, F, q⟩ := fT z; clear z
 rcases a2 : S.p.crypt with _ | _
 ·
  have a3 := HM.b1.c 0 (.int .i64 d.kind)
  have a4 := HM.b0.c 51 (.bool S.p.crypt)
  go_wp2_with with_reducible refine so ?_
  go_returns
  have q0 := q.out
  exact sE2 (by unfold Sd.keys; exact es9) HM.drop1
 rcases a5 : byR S (aT S.p.req S.p.res).2 (aT S.p.req S.p.res).1 with _ | _
 ·
  have a6 := HM.b1.c 0 (.int .i64 d.kind)
  have a7 := HM.b0.c 51 (.bool S.p.crypt)
  go_wp2_with with_reducible refine so ?_
  go_returns
  have q0 := q.out
  exact sE2 (by unfold Sd.keys; exact es9) HM.drop1
 have I := HM.b1.c 0 (.int .i64 d.kind)
 have J := HM.b0.c 51 (.bool S.p.crypt)
 go_wp2_with with_reducible refine so ?_
 refine bd HM (eL _ _ S _ _ _ _ HM.here) ?_; clear HM; intro L O a8 HM; clear I J
 go_wp2_with first | with_reducible refine so ?_ | with_reducible refine ld 9 [.int .i64 d.idn.adr.kind, .int .u64 (W64 d.idn.adr.bits), .int .u64 (W64 d.idn.irk)] HM.b1 U29 ?_
 refine yp 53 (sdL (S.accept.put_idn d.idn) L O).toArray HM.b0 HM.s0 ?_; clear HM; intro a9 HM
 go_wp2_with with_reducible refine so ?_
 refine bt HM.to (bQ _ _ _ _  _ HM.b0 S.first rfl) ?_; clear HM; intro b2 HM
 rcases b3 : S.first with _ | _
 ·
  go_wp2_with with_reducible refine so ?_
  refine bd HM (jA _ _ (S.accept.put_idn d.idn) _ _ _ _ HM.here bV) ?_; clear HM; intro b4 b5 b6 HM
  go_wp2_with with_reducible refine so ?_
  go_returns
  have q0 := q.out
  exact sE2 (by unfold Sd.keys; exact es9) HM.drop1
 rcases C : (byR S (aT S.p.req S.p.res).1 (aT S.p.req S.p.res).2) with _ | _
 ·
  go_wp2_with with_reducible refine so ?_
  refine bd HM (lG _ _ (S.accept.put_idn d.idn) _ _ _ _ HM.here bV C) ?_; clear HM; intro b7 b8 b9 HM
  go_wp2_with with_reducible refine so ?_
  refine bd HM (jA _ _ ((S.accept.put_idn d.idn)) _ _ _ _ HM.here bV) ?_; clear HM; intro c0 c4 c5 HM
  go_wp2_with with_reducible refine so ?_
  go_returns
  have q0 := q.out
  exact sE2 (by unfold Sd.keys; exact es9) HM.drop1
 go_wp2_with with_reducible refine so ?_
 refine bd HM (lE _ _ (S.accept.put_idn d.idn) _ _ _ _ HM.here bV C) ?_; clear HM; intro c6 c7 c8 HM
 go_wp2_with with_reducible refine so ?_
 refine bd HM (jA _ _ (((S.accept.put_idn d.idn).send { cL with kind := 8, idn := (S.accept.put_idn d.idn).p.cfg.idn })) _ _ _ _ HM.here bV) ?_; clear HM; intro c9 d0 d1 HM
 go_wp2_with with_reducible refine so ?_
 go_returns
 have q0 := q.out
 exact sE2 (by unfold Sd.keys; exact es9) HM.drop1
set_option maxHeartbeats 4000000 in
theorem DM (base g : Nat) (S : Sd) (d : Sec) (v u : Value) (bx : List Bk) (w : World) (HM : Mem w w base S.sent S.told v u ((g, cQ, (sdL S v u).toArray) :: bx)) (ls : S.sent.length ≤ 900) (lt : S.told.length ≤ 900) :
  Calls Tryz.prog 47 #[.pointer (some ⟨g, 0, none⟩), .agg (aI d).toArray] w (fun e w' => e = .returned (.bool (S.idle d).2) ∧ eA w w' base g ((S.idle d).1) bx) := by
 go_enter Tryz.func47, Tryz.ntmps47
 go_wp2_with with_reducible refine so ?_
 refine HM.nw1 (ty := 43) (cs := (aI d).toArray) ?_; clear HM; intro C U HM
 go_wp2_with with_reducible refine so ?_
 refine bt HM.to (bQ _ _ _ _  _ HM.b0 S.first rfl) ?_; clear HM; intro Z HM
 rcases a0 : S.first with _ | _
 rotate_left
 ·
  go_wp2_with with_reducible refine so ?_
  go_returns
  exact sE2 (by unfold Sd.idle; exact es9) HM.drop1
 by_cases D : (d.kind : Int) = 1
 rotate_left
 ·
  obtain ⟨J, L, F⟩ := fF D; clear D
  have a1 := HM.b1.c 0 (.int .i64 d.kind)
  go_wp2_with with_reducible refine so ?_
  go_returns
  have q1 := F.out
  exact sE2 (by unfold Sd.idle; exact es9) HM.drop1
 obtain ⟨J, L, F⟩ := fT D; clear D
 have O := HM.b1.c 0 (.int .i64 d.kind)
 go_wp2_with with_reducible refine so ?_
 refine bd HM (eL _ _ S _ _ _ _ HM.here) ?_; clear HM; intro q z a2 HM; clear O
 go_wp2_with with_reducible refine so ?_
 try simp only [nrm]
 have hst := bM HM
 refine cY _ (fun W => ∃ x0 x1 x2, Mem w W base S.accept.sent S.accept.told q z ((g, 92, (sdL (((S.accept.put_peer x0).put_req x1).put_res x2) q z).toArray) :: (C, 43, (aI d).toArray) :: bx)) hst (fun W h => ⟨S.p.peer, S.p.req, S.p.res, h⟩) HM.drew 25 ?_
 clear HM
 refine aA 0 hst ?_ (h0 := fun _ h => ⟨S.p.peer, S.p.req, S.p.res, h⟩)
 refine aA 1 hst ?_ (h0 := fun _ h => ⟨S.p.peer, S.p.req, S.p.res, h⟩)
 refine aA 2 hst ?_ (h0 := fun _ h => ⟨S.p.peer, S.p.req, S.p.res, h⟩)
 refine aA 3 hst ?_ (h0 := fun _ h => ⟨S.p.peer, S.p.req, S.p.res, h⟩)
 refine bH (v := .agg (bL d.feat).toArray) 4 hst (fun _ h => ⟨S.p.peer, S.p.req, S.p.res, h⟩) rfl (fun W hS K hK => aL rfl rfl (aX hS.choose_spec.choose_spec.choose_spec.b1 1 (bL d.feat) rfl U23 rfl (by kernel_rfl)) (hK.out _ (Below.refl _ _))) ?_; simp only [nrm]
 refine aA 5 hst ?_ (h0 := fun _ h => ⟨S.p.peer, S.p.req, S.p.res, h⟩)
 refine bH (v := .agg (bL d.feat).toArray) 6 hst (fun _ h => ⟨S.p.peer, S.p.req, S.p.res, h⟩) rfl (fun W hS K hK => aL rfl rfl (aX hS.choose_spec.choose_spec.choose_spec.b1 1 (bL d.feat) rfl U23 rfl (by kernel_rfl)) (hK.out _ (Below.refl _ _))) ?_; simp only [nrm]
 refine aA 7 hst ?_ (h0 := fun _ h => ⟨S.p.peer, S.p.req, S.p.res, h⟩)
 refine aA 8 hst ?_ (h0 := fun _ h => ⟨S.p.peer, S.p.req, S.p.res, h⟩)
 refine aA 9 hst ?_ (h0 := fun _ h => ⟨S.p.peer, S.p.req, S.p.res, h⟩)
 refine aA 10 hst ?_ (h0 := fun _ h => ⟨S.p.peer, S.p.req, S.p.res, h⟩)
 refine aA 11 hst ?_ (h0 := fun _ h => ⟨S.p.peer, S.p.req, S.p.res, h⟩)
 refine bH (v := .agg (bL S.p.cfg.feat).toArray) 12 hst (fun _ h => ⟨S.p.peer, S.p.req, S.p.res, h⟩) rfl (fun W hS K hK => aL rfl rfl (aX hS.choose_spec.choose_spec.choose_spec.b0 1 (bL S.p.cfg.feat) rfl U23 rfl (by kernel_rfl)) (hK.out _ (Below.refl _ _))) ?_; simp only [nrm]
 refine aA 13 hst ?_ (h0 := fun _ h => ⟨S.p.peer, S.p.req, S.p.res, h⟩)
 refine aA 14 hst ?_ (h0 := fun _ h => ⟨S.p.peer, S.p.req, S.p.res, h⟩)
 refine aA 15 hst ?_ (h0 := fun _ h => ⟨S.p.peer, S.p.req, S.p.res, h⟩)
 refine dP (S' := fun W => Mem w W base S.accept.sent S.accept.told q z ((g, 92, (sdL (S.accept.put_peer d.feat) q z).toArray) :: (C, 43, (aI d).toArray) :: bx)) 16 (.agg (bL d.feat).toArray) rfl rfl rfl rfl (fun W hS => hS.hole 22 (bL d.feat).toArray (sdL (S.accept.put_peer d.feat) q z).toArray (by kernel_rfl) rfl (of_decide_eq_true rfl) (by kernel_rfl)) (bD _ _ _ _ _ _ _) (fun W h => ⟨d.feat, S.p.req, S.p.res, h⟩) ?_; simp only [nrm]
 clear hst
 have hst : aO fun W => Mem w W base S.accept.sent S.accept.told q z ((g, 92, (sdL (S.accept.put_peer d.feat) q z).toArray) :: (C, 43, (aI d).toArray) :: bx) := bD _ _ _ _ _ _ _
 refine aA 17 hst ?_ (h0 := fun _ h => ⟨d.feat, S.p.req, S.p.res, h⟩)
 refine aA 18 hst ?_ (h0 := fun _ h => ⟨d.feat, S.p.req, S.p.res, h⟩)
 refine aA 19 hst ?_ (h0 := fun _ h => ⟨d.feat, S.p.req, S.p.res, h⟩)
 refine dP (S' := fun W => Mem w W base S.accept.sent S.accept.told q z ((g, 92, (sdL ((S.accept.put_peer d.feat).put_req d.feat) q z).toArray) :: (C, 43, (aI d).toArray) :: bx)) 20 (.agg (bL d.feat).toArray) rfl rfl rfl rfl (fun W hS => hS.hole 28 (bL d.feat).toArray (sdL ((S.accept.put_peer d.feat).put_req d.feat) q z).toArray (by kernel_rfl) rfl (of_decide_eq_true rfl) (by kernel_rfl)) (bD _ _ _ _ _ _ _) (fun W h => ⟨d.feat, d.feat, S.p.res, h⟩) ?_; simp only [nrm]
 clear hst
 have hst : aO fun W => Mem w W base S.accept.sent S.accept.told q z ((g, 92, (sdL ((S.accept.put_peer d.feat).put_req d.feat) q z).toArray) :: (C, 43, (aI d).toArray) :: bx) := bD _ _ _ _ _ _ _
 refine aA 21 hst ?_ (h0 := fun _ h => ⟨d.feat, d.feat, S.p.res, h⟩)
 refine aA 22 hst ?_ (h0 := fun _ h => ⟨d.feat, d.feat, S.p.res, h⟩)
 refine aA 23 hst ?_ (h0 := fun _ h => ⟨d.feat, d.feat, S.p.res, h⟩)
 refine dP (S' := fun W => Mem w W base S.accept.sent S.accept.told q z ((g, 92, (sdL (((S.accept.put_peer d.feat).put_req d.feat).put_res S.p.cfg.feat) q z).toArray) :: (C, 43, (aI d).toArray) :: bx)) 24 (.agg (bL S.p.cfg.feat).toArray) rfl rfl rfl rfl (fun W hS => hS.hole 34 (bL S.p.cfg.feat).toArray (sdL (((S.accept.put_peer d.feat).put_req d.feat).put_res S.p.cfg.feat) q z).toArray (by kernel_rfl) rfl (of_decide_eq_true rfl) (by kernel_rfl)) (bD _ _ _ _ _ _ _) (fun W h => ⟨d.feat, d.feat, S.p.cfg.feat, h⟩) ?_; simp only [nrm]
 clear hst
 have hst : aO fun W => Mem w W base S.accept.sent S.accept.told q z ((g, 92, (sdL (((S.accept.put_peer d.feat).put_req d.feat).put_res S.p.cfg.feat) q z).toArray) :: (C, 43, (aI d).toArray) :: bx) := bD _ _ _ _ _ _ _
 refine aE (fun a3 hS => ?_)
 have HM := hS
 clear hst
 rcases I : cC d.feat S.p.cfg.feat with _ | _
 ·
  go_wp2_with with_reducible refine so ?_
  refine bd HM (rN _ _ (((S.accept.put_peer d.feat).put_req d.feat).put_res S.p.cfg.feat) _ _ _ _ HM.here I) ?_; clear HM; intro a4 a5 a6 HM
  go_wp2_with with_reducible refine so ?_
  go_returns
  have q1 := F.out
  exact sE2 (by unfold Sd.idle; exact es9) HM.drop1
 go_wp2_with with_reducible refine so ?_
 refine bd HM (rU _ _ (((S.accept.put_peer d.feat).put_req d.feat).put_res S.p.cfg.feat) _ _ _ _ HM.here I) ?_; clear HM; intro a7 a8 a9 HM
 go_wp2_with first | with_reducible refine so ?_ | with_reducible refine ld 1 [.int .i64 S.p.cfg.feat.io, .bool S.p.cfg.feat.oob, .bool S.p.cfg.feat.bond, .bool S.p.cfg.feat.mitm, .bool S.p.cfg.feat.sid, .bool S.p.cfg.feat.tid] HM.b0 U23 ?_
 refine bd HM (iR _ _ ((((((S.accept.put_peer d.feat).put_req d.feat).put_res S.p.cfg.feat).put_method (bC d.feat S.p.cfg.feat).1).put_phase 2)) ⟨2, ⟨S.p.cfg.feat.io, S.p.cfg.feat.oob, S.p.cfg.feat.bond, S.p.cfg.feat.mitm, S.p.cfg.feat.sid, S.p.cfg.feat.tid⟩, 0#32, 0#64, ⟨⟨0, 0#64⟩, 0#64⟩, 0⟩ _ _ _ _ HM.here bV) ?_; clear HM; intro b2 b3 b4 HM
 go_wp2_with with_reducible refine so ?_
 go_returns
 have q1 := F.out
 exact sE2 (by unfold Sd.idle; exact es9) HM.drop1
set_option maxHeartbeats 4000000 in
theorem nK (base g : Nat) (S : Sd) (d : Sec) (v u : Value) (bx : List Bk) (w : World) (HM : Mem w w base S.sent S.told v u ((g, cQ, (sdL S v u).toArray) :: bx)) (ls : S.sent.length ≤ 900) (lt : S.told.length ≤ 900) :
  Calls Tryz.prog 48 #[.pointer (some ⟨g, 0, none⟩), .agg (aI d).toArray] w (fun e w' => e = .returned (.bool (S.features d).2) ∧ eA w w' base g ((S.features d).1) bx) := by
 go_enter Tryz.func48, Tryz.ntmps48
 go_wp2_with with_reducible refine so ?_
 refine HM.nw1 (ty := 43) (cs := (aI d).toArray) ?_; clear HM; intro C U HM
 go_wp2_with with_reducible refine so ?_
 refine bt HM.to (bQ _ _ _ _  _ HM.b0 S.first rfl) ?_; clear HM; intro Z HM
 rcases a0 : S.first with _ | _
 ·
  go_wp2_with with_reducible refine so ?_
  go_returns
  exact sE2 (by unfold Sd.features; exact es9) HM.drop1
 by_cases D : (d.kind : Int) = 2
 rotate_left
 ·
  obtain ⟨J, L, F⟩ := fF D; clear D
  have a1 := HM.b1.c 0 (.int .i64 d.kind)
  go_wp2_with with_reducible refine so ?_
  go_returns
  have q1 := F.out
  exact sE2 (by unfold Sd.features; exact es9) HM.drop1
 obtain ⟨J, L, F⟩ := fT D; clear D
 have O := HM.b1.c 0 (.int .i64 d.kind)
 go_wp2_with with_reducible refine so ?_
 refine bd HM (eL _ _ S _ _ _ _ HM.here) ?_; clear HM; intro q z a2 HM; clear O
 go_wp2_with with_reducible refine so ?_
 try simp only [nrm]
 have hst := bM HM
 refine cY _ (fun W => ∃ x0 x1, Mem w W base S.accept.sent S.accept.told q z ((g, 92, (sdL ((S.accept.put_peer x0).put_res x1) q z).toArray) :: (C, 43, (aI d).toArray) :: bx)) hst (fun W h => ⟨S.p.peer, S.p.res, h⟩) HM.drew 14 ?_
 clear HM
 refine aA 0 hst ?_ (h0 := fun _ h => ⟨S.p.peer, S.p.res, h⟩)
 refine aA 1 hst ?_ (h0 := fun _ h => ⟨S.p.peer, S.p.res, h⟩)
 refine aA 2 hst ?_ (h0 := fun _ h => ⟨S.p.peer, S.p.res, h⟩)
 refine bH (v := .agg (bL d.feat).toArray) 3 hst (fun _ h => ⟨S.p.peer, S.p.res, h⟩) rfl (fun W hS K hK => aL rfl rfl (aX hS.choose_spec.choose_spec.b1 1 (bL d.feat) rfl U23 rfl (by kernel_rfl)) (hK.out _ (Below.refl _ _))) ?_; simp only [nrm]
 refine aA 4 hst ?_ (h0 := fun _ h => ⟨S.p.peer, S.p.res, h⟩)
 refine bH (v := .agg (bL d.feat).toArray) 5 hst (fun _ h => ⟨S.p.peer, S.p.res, h⟩) rfl (fun W hS K hK => aL rfl rfl (aX hS.choose_spec.choose_spec.b1 1 (bL d.feat) rfl U23 rfl (by kernel_rfl)) (hK.out _ (Below.refl _ _))) ?_; simp only [nrm]
 refine aA 6 hst ?_ (h0 := fun _ h => ⟨S.p.peer, S.p.res, h⟩)
 refine aA 7 hst ?_ (h0 := fun _ h => ⟨S.p.peer, S.p.res, h⟩)
 refine aA 8 hst ?_ (h0 := fun _ h => ⟨S.p.peer, S.p.res, h⟩)
 refine dP (S' := fun W => Mem w W base S.accept.sent S.accept.told q z ((g, 92, (sdL (S.accept.put_peer d.feat) q z).toArray) :: (C, 43, (aI d).toArray) :: bx)) 9 (.agg (bL d.feat).toArray) rfl rfl rfl rfl (fun W hS => hS.hole 22 (bL d.feat).toArray (sdL (S.accept.put_peer d.feat) q z).toArray (by kernel_rfl) rfl (of_decide_eq_true rfl) (by kernel_rfl)) (bD _ _ _ _ _ _ _) (fun W h => ⟨d.feat, S.p.res, h⟩) ?_; simp only [nrm]
 clear hst
 have hst : aO fun W => Mem w W base S.accept.sent S.accept.told q z ((g, 92, (sdL (S.accept.put_peer d.feat) q z).toArray) :: (C, 43, (aI d).toArray) :: bx) := bD _ _ _ _ _ _ _
 refine aA 10 hst ?_ (h0 := fun _ h => ⟨d.feat, S.p.res, h⟩)
 refine aA 11 hst ?_ (h0 := fun _ h => ⟨d.feat, S.p.res, h⟩)
 refine aA 12 hst ?_ (h0 := fun _ h => ⟨d.feat, S.p.res, h⟩)
 refine dP (S' := fun W => Mem w W base S.accept.sent S.accept.told q z ((g, 92, (sdL ((S.accept.put_peer d.feat).put_res d.feat) q z).toArray) :: (C, 43, (aI d).toArray) :: bx)) 13 (.agg (bL d.feat).toArray) rfl rfl rfl rfl (fun W hS => hS.hole 34 (bL d.feat).toArray (sdL ((S.accept.put_peer d.feat).put_res d.feat) q z).toArray (by kernel_rfl) rfl (of_decide_eq_true rfl) (by kernel_rfl)) (bD _ _ _ _ _ _ _) (fun W h => ⟨d.feat, d.feat, h⟩) ?_; simp only [nrm]
 clear hst
 have hst : aO fun W => Mem w W base S.accept.sent S.accept.told q z ((g, 92, (sdL ((S.accept.put_peer d.feat).put_res d.feat) q z).toArray) :: (C, 43, (aI d).toArray) :: bx) := bD _ _ _ _ _ _ _
 refine aE (fun a3 hS => ?_)
 have HM := hS
 clear hst
 rcases I : cC S.p.req d.feat with _ | _
 ·
  go_wp2_with with_reducible refine so ?_
  refine bd HM (rN _ _ ((S.accept.put_peer d.feat).put_res d.feat) _ _ _ _ HM.here I) ?_; clear HM; intro a4 a5 a6 HM
  go_wp2_with with_reducible refine so ?_
  go_returns
  have q1 := F.out
  exact sE2 (by unfold Sd.features; exact es9) HM.drop1
 go_wp2_with with_reducible refine so ?_
 refine bd HM (rU _ _ ((S.accept.put_peer d.feat).put_res d.feat) _ _ _ _ HM.here I) ?_; clear HM; intro a7 a8 a9 HM
 go_wp2_with with_reducible refine so ?_
 refine bt HM.to (nT _ _ _ _  _ HM.b0 (cJ S.p.cfg.secret) rfl) ?_; clear HM; intro b2 HM
 go_wp2_with with_reducible refine so ?_
 refine bd HM (iR _ _ (((((S.accept.put_peer d.feat).put_res d.feat).put_method (bC S.p.req d.feat).1).put_phase 2)) ⟨12, ⟨0, false, false, false, false, false⟩, (cJ S.p.cfg.secret), 0#64, ⟨⟨0, 0#64⟩, 0#64⟩, 0⟩ _ _ _ _ HM.here bV) ?_; clear HM; intro b3 b4 b5 HM
 go_wp2_with with_reducible refine so ?_
 go_returns
 have q1 := F.out
 exact sE2 (by unfold Sd.features; exact es9) HM.drop1
set_option maxHeartbeats 4000000 in
theorem vR (base g : Nat) (S : Sd) (d : Sec) (v u : Value) (bx : List Bk) (w : World) (HM : Mem w w base S.sent S.told v u ((g, cQ, (sdL S v u).toArray) :: bx)) (ls : S.sent.length ≤ 910) (lt : S.told.length ≤ 910) (h0 : 0 ≤ S.p.round) (h1 : S.p.round ≤ 64) (h2 : S.p.round ≤ 60) :
  Calls Tryz.prog 50 #[.pointer (some ⟨g, 0, none⟩), .agg (aI d).toArray] w (fun e w' => e = .returned (.bool (S.auth d).2) ∧ eA w w' base g ((S.auth d).1) bx) := by
 go_enter Tryz.func50, Tryz.ntmps50
 go_wp2_with with_reducible refine so ?_
 refine HM.nw1 (ty := 43) (cs := (aI d).toArray) ?_; clear HM; intro a3 a4 HM
 by_cases z : (S.p.method : Int) = 6
 ·
  obtain ⟨F, I, q⟩ := fT z; clear z
  have J := HM.b0.c 21 (.int .i64 S.p.method)
  go_wp2_with first | with_reducible refine so ?_ | with_reducible refine ld 0 (aI d) HM.b1 U43 ?_
  refine bd HM (BZ _ _ S d _ _ _ _ HM.here bV bV ) ?_; clear HM; intro a5 a6 a7 HM; clear J
  go_wp2_with with_reducible refine so ?_
  go_returns
  have q0 := q.out
  exact sE2 (by unfold Sd.auth; exact es9) HM.drop1
 obtain ⟨F, I, q⟩ := fF z; clear z
 have L := HM.b0.c 21 (.int .i64 S.p.method)
 go_wp2_with with_reducible refine so ?_
 refine bt HM.to (eY _ _ _ _  _ HM.b0 (aU S.p.method) rfl) ?_; clear HM; intro a8 HM; clear L
 rcases a9 : aU S.p.method with _ | _
 rotate_left
 ·
  go_wp2_with first | with_reducible refine so ?_ | with_reducible refine ld 0 (aI d) HM.b1 U43 ?_
  refine bd HM (sL _ _ S d _ _ _ _ HM.here bV bV (by first | exact h0 | exact h0p) (by first | exact h1 | exact h1p) h2) ?_; clear HM; intro b2 b3 b4 HM
  go_wp2_with with_reducible refine so ?_
  go_returns
  have q0 := q.out
  exact sE2 (by unfold Sd.auth; exact es9) HM.drop1
 go_wp2_with with_reducible refine so ?_
 refine bt HM.to (bQ _ _ _ _  _ HM.b0 S.first rfl) ?_; clear HM; intro b5 HM
 rcases b6 : S.first with _ | _
 rotate_left
 ·
  go_wp2_with first | with_reducible refine so ?_ | with_reducible refine ld 0 (aI d) HM.b1 U43 ?_
  refine bd HM (wW _ _ S d _ _ _ _ HM.here bV bV (by first | exact h0 | exact h0p) (by first | exact h1 | exact h1p)) ?_; clear HM; intro b7 b8 b9 HM
  go_wp2_with with_reducible refine so ?_
  go_returns
  have q0 := q.out
  exact sE2 (by unfold Sd.auth; exact es9) HM.drop1
 by_cases C : (d.kind : Int) = 4
 rotate_left
 ·
  obtain ⟨O, U, D⟩ := fF C; clear C
  have c0 := HM.b1.c 0 (.int .i64 d.kind)
  go_wp2_with with_reducible refine so ?_
  go_returns
  have q0 := q.out
  have q3 := D.out
  exact sE2 (by unfold Sd.auth; exact es9) HM.drop1
 obtain ⟨O, U, D⟩ := fT C; clear C
 have Z := HM.b1.c 0 (.int .i64 d.kind)
 go_wp2_with with_reducible refine so ?_
 refine bd HM (eL _ _ S _ _ _ _ HM.here) ?_; clear HM; intro a0 a1 c4 HM; clear Z
 have a2 := HM.b1.c 8 (.int .u64 (W64 d.value))
 go_wp2_with with_reducible refine so ?_
 refine yk 43 (sdL (S.accept.put_other d.value) a0 a1).toArray HM.b0 HM.s0 ?_; clear HM; intro c5 HM; clear a2
 go_wp2_with with_reducible refine so ?_
 refine bd HM (jD _ _ (S.accept.put_other d.value) _ _ _ _ HM.here bV) ?_; clear HM; intro c6 c7 c8 HM
 go_wp2_with with_reducible refine so ?_
 refine bd HM (mG _ _ ((S.accept.put_other d.value).random) _ _ _ _ HM.here bV bV) ?_; clear HM; intro c9 d0 d1 HM
 go_wp2_with with_reducible refine so ?_
 go_returns
 have q0 := q.out
 have q3 := D.out
 exact sE2 (by unfold Sd.auth; exact es9) HM.drop1
set_option maxHeartbeats 4000000 in
theorem qO (base g : Nat) (S : Sd) (d : Sec) (v u : Value) (bx : List Bk) (w : World) (HM : Mem w w base S.sent S.told v u ((g, cQ, (sdL S v u).toArray) :: bx)) (ls : S.sent.length ≤ 900) (lt : S.told.length ≤ 900) (h0 : 0 ≤ S.p.round) (h1 : S.p.round ≤ 64) :
  Calls Tryz.prog 49 #[.pointer (some ⟨g, 0, none⟩), .agg (aI d).toArray] w (fun e w' => e = .returned (.bool (S.public_ d).2) ∧ eA w w' base g ((S.public_ d).1) bx) := by
 go_enter Tryz.func49, Tryz.ntmps49
 go_wp2_with with_reducible refine so ?_
 refine HM.nw1 (ty := 43) (cs := (aI d).toArray) ?_; clear HM; intro a1 c4 HM
 by_cases U : (d.kind : Int) = 12
 rotate_left
 ·
  obtain ⟨a2, a3, F⟩ := fF U; clear U
  have c5 := HM.b1.c 0 (.int .i64 d.kind)
  go_wp2_with with_reducible refine so ?_
  go_returns
  have q0 := F.out
  exact sE2 (by unfold Sd.public_; exact es9) HM.drop1
 obtain ⟨a2, a3, F⟩ := fT U; clear U
 have a4 := HM.b1.c 0 (.int .i64 d.kind)
 go_wp2_with with_reducible refine so ?_
 refine bd HM (eL _ _ S _ _ _ _ HM.here) ?_; clear HM; intro L O c6 HM; clear a4
 go_wp2_with with_reducible refine so ?_
 try simp only [nrm]
 have hst := bM HM
 refine dN _ 9 hst HM.drew ⟨by kernel_rfl, by kernel_rfl, by kernel_rfl, by decide⟩ (fun hR => ?_)
 clear HM
 refine bT 0 hR hst ?_
 refine eB 1 rfl hR hst (fun W hS K hK => by have ld : W.cell? ⟨a1, 7, none⟩ = some (.int .u32 (W32 d.pub)) := hS.b1.cell 7; clear hS; go_simp; exact hk hK) ?_
 refine bT 2 hR hst ?_
 refine bT 3 hR hst ?_
 refine bT 4 hR hst ?_
 refine bT 5 hR hst ?_
 refine cV (v := .agg (cT S.p.cfg).toArray) 6 hR hst rfl (fun W hS K hK => aL rfl rfl (aX hS.b0 0 (cT S.p.cfg) rfl U34 rfl (by kernel_rfl)) (hK.out _ (Below.refl _ _))) ?_; simp only [nrm]
 refine JM 7 hst rfl ?_; intro W hS K hK
 have HN := (hS).alloc1 (Nat.le_refl _) ((Below.refl _ _).alloc (Nat.le_refl _) _) (Blk.new W 34 (cT pN).toArray)
 clear hS
 go_simp
 refine hK.out (fun W' => Mem w W' base S.accept.sent S.accept.told L O ((g, 92, (sdL S.accept L O).toArray) :: (W.heap.size, 34, (cT pN).toArray) :: (a1, 43, (aI d).toArray) :: bx)) _ _ (bD _ _ _ _ _ _ _) ((Below.refl _ _).alloc (Nat.le_refl _) _) HN (fun hst => ?_)
 clear hK K HN
 try simp only [nrm]
 generalize W.heap.size = g4_7 at hst ⊢
 clear W
 refine bT 8 hR hst ?_
 refine gC (fun c7 hS => ?_)
 obtain ⟨HM, HM⟩ := hS
 clear hst
 dsimp only [List.drop]
 go_wp2_with with_reducible refine so ?_
 refine yv HM.b1 HM.s1 ?_; clear HM; intro c8 HM
 go_wp2_with with_reducible refine so ?_
 refine bt HM.to (tD d.pub _) ?_; clear HM; intro c9 HM
 rcases q : fB d.pub with _ | _
 ·
  go_wp2_with with_reducible refine so ?_
  refine bd HM (cI _ _ S.accept 13 _ _ _ _ HM.here) ?_; clear HM; intro d0 d1 d2 HM
  go_wp2_with with_reducible refine so ?_
  go_returns
  have q0 := F.out
  exact sE2 (by unfold Sd.public_; exact es9) HM.drop1.drop1
 go_wp2_with with_reducible refine so ?_
 refine bt HM.to (nT _ _ _ _  _ HM.b0 (cJ S.p.cfg.secret) rfl) ?_; clear HM; intro d3 HM
 by_cases I : d.pub = cJ S.p.cfg.secret
 ·
  have a5 : ((W32 d.pub : Int) == W32 (cJ S.p.cfg.secret)) = true := by have this : (W32 d.pub == W32 (cJ S.p.cfg.secret)) = true := (by rw [mO]; simpa using I); exact this
  have a6 : ((W32 d.pub : Int) != W32 (cJ S.p.cfg.secret)) = false := by have this : (W32 d.pub != W32 (cJ S.p.cfg.secret)) = false := (by rw [sD]; simpa using I); exact this
  have J := Lib.hid I
  clear I
  go_wp2_with with_reducible refine so ?_
  refine bd HM (cI _ _ S.accept 13 _ _ _ _ HM.here) ?_; clear HM; intro d4 d5 d6 HM
  go_wp2_with with_reducible refine so ?_
  go_returns
  have q0 := F.out
  have q2 := J.out
  exact sE2 (by unfold Sd.public_; exact es9) HM.drop1.drop1
 have a5 : ((W32 d.pub : Int) == W32 (cJ S.p.cfg.secret)) = false := by have this : (W32 d.pub == W32 (cJ S.p.cfg.secret)) = false := (by rw [mO]; simpa using I); exact this
 have a6 : ((W32 d.pub : Int) != W32 (cJ S.p.cfg.secret)) = true := by have this : (W32 d.pub != W32 (cJ S.p.cfg.secret)) = true := (by rw [sD]; simpa using I); exact this
 have J := Lib.hid I
 clear I
 rcases z : S.p.cfg.feat.oob with _ | _
 ·
  go_wp2_with with_reducible refine so ?_
  have hst := bM HM
  refine aD _ 15 hst (HM.drew) ?_
  clear HM
  refine aA 0 hst ?_
  refine aA 1 hst ?_
  refine aF 2 rfl hst (fun W hS K hK => by have ld : W.cell? ⟨g4_7, 2, none⟩ = some (.bool S.p.cfg.feat.oob) := hS.b1.cell 2; clear hS; go_simp; exact hk hK) ?_
  refine aA 3 hst ?_
  refine aG 4 hst ?_
  refine aG 5 hst ?_
  refine aG 6 hst ?_
  refine aG 7 hst ?_
  refine aG 8 hst ?_
  refine aG 9 hst ?_
  refine aG 10 hst ?_
  refine aG 11 hst ?_
  refine aG 12 hst ?_
  refine aG 13 hst ?_
  refine aA 14 hst ?_
  refine aE (fun d7 hS => ?_)
  have HM := hS
  clear hst
  have a7 := HM.b1.c 14 (.int .u32 (W32 S.p.cfg.secret))
  go_wp2_with with_reducible refine so ?_
  refine bt HM.to (uP S.p.cfg.secret d.pub _) ?_; clear HM; intro d8 HM; clear a7
  go_wp2_with with_reducible refine so ?_
  refine yk 40 (sdL (S.accept.put_peerKey d.pub) L O).toArray HM.b0 HM.s0 ?_; clear HM; intro d9 HM
  go_wp2_with with_reducible refine so ?_
  refine yk 41 (sdL ((S.accept.put_peerKey d.pub).put_shared (dO S.p.cfg.secret d.pub)) L O).toArray HM.b0 HM.s0 ?_; clear HM; intro e0 HM
  go_wp2_with with_reducible refine so ?_
  refine bt HM.to (bQ _ _ _ _  _ HM.b0 S.first rfl) ?_; clear HM; intro e1 HM
  rcases C : S.first with _ | _
  rotate_left
  ·
   go_wp2_with with_reducible refine so ?_
   refine bd HM (qA _ _ ((S.accept.put_peerKey d.pub).put_shared (dO S.p.cfg.secret d.pub)) _ _ _ _ HM.here bV bV (by first | exact h0 | exact h0p) (by first | exact h1 | exact h1p)) ?_; clear HM; intro a8 a9 e2 HM
   go_wp2_with with_reducible refine so ?_
   go_returns
   have q0 := F.out
   have q2 := J.out
   have es : S.public_ d = ((((S.accept.put_peerKey d.pub).put_shared (dO S.p.cfg.secret d.pub)).begin_), true) := by first | rfl | (unfold Sd.public_; (try unfold Sd.take); (try unfold Sd.open_); (try unfold Sd.identity); (try dsimp only); (repeat' (split <;> (first | (exfalso; rename_i hh; first | exact absurd q0 hh | exact absurd hh q0 | exact absurd (q0.symm.trans hh) (by decide) | exact absurd q hh | exact absurd hh q | exact absurd (q.symm.trans hh) (by decide) | exact absurd q2 hh | exact absurd hh q2 | exact absurd (q2.symm.trans hh) (by decide) | exact absurd z hh | exact absurd hh z | exact absurd (z.symm.trans hh) (by decide) | exact absurd C hh | exact absurd hh C | exact absurd (C.symm.trans hh) (by decide) | (simp [Sd.keyed, Sd.setP, Sd.own, q0, q, q2, z, C] at hh; done)) | skip))); all_goals rfl) | (exfalso; omega) | (simp [Sd.public_, Sd.keyed, Sd.setP, Sd.own, q0, q, q2, z, C]; done) | (simp [Sd.public_, Sd.keyed, Sd.setP, Sd.own, q0, q, q2, z, C]; rfl)
   rw [es]
   exact ⟨rfl, a8, a9, HM.drop1.drop1⟩
  go_wp2_with with_reducible refine so ?_
  refine bt HM.to (nT _ _ _ _  _ HM.b0 (cJ S.p.cfg.secret) rfl) ?_; clear HM; intro e3 HM
  go_wp2_with with_reducible refine so ?_
  refine bd HM (iR _ _ ((S.accept.put_peerKey d.pub).put_shared (dO S.p.cfg.secret d.pub)) ⟨12, ⟨0, false, false, false, false, false⟩, (cJ S.p.cfg.secret), 0#64, ⟨⟨0, 0#64⟩, 0#64⟩, 0⟩ _ _ _ _ HM.here bV) ?_; clear HM; intro e4 e5 e6 HM
  go_wp2_with with_reducible refine so ?_
  refine bd HM (qA _ _ (((S.accept.put_peerKey d.pub).put_shared (dO S.p.cfg.secret d.pub)).send ⟨12, ⟨0, false, false, false, false, false⟩, (cJ S.p.cfg.secret), 0#64, ⟨⟨0, 0#64⟩, 0#64⟩, 0⟩) _ _ _ _ HM.here bV bV (by first | exact h0 | exact h0p) (by first | exact h1 | exact h1p)) ?_; clear HM; intro b2 b3 e7 HM
  go_wp2_with with_reducible refine so ?_
  go_returns
  have q0 := F.out
  have q2 := J.out
  have es : S.public_ d = (((((S.accept.put_peerKey d.pub).put_shared (dO S.p.cfg.secret d.pub)).send ⟨12, ⟨0, false, false, false, false, false⟩, (cJ S.p.cfg.secret), 0#64, ⟨⟨0, 0#64⟩, 0#64⟩, 0⟩).begin_), true) := by first | rfl | (unfold Sd.public_; (try unfold Sd.take); (try unfold Sd.open_); (try unfold Sd.identity); (try dsimp only); (repeat' (split <;> (first | (exfalso; rename_i hh; first | exact absurd q0 hh | exact absurd hh q0 | exact absurd (q0.symm.trans hh) (by decide) | exact absurd q hh | exact absurd hh q | exact absurd (q.symm.trans hh) (by decide) | exact absurd q2 hh | exact absurd hh q2 | exact absurd (q2.symm.trans hh) (by decide) | exact absurd z hh | exact absurd hh z | exact absurd (z.symm.trans hh) (by decide) | exact absurd C hh | exact absurd hh C | exact absurd (C.symm.trans hh) (by decide) | (simp [Sd.keyed, Sd.setP, Sd.own, q0, q, q2, z, C] at hh; done)) | skip))); all_goals rfl) | (exfalso; omega) | (simp [Sd.public_, Sd.keyed, Sd.setP, Sd.own, q0, q, q2, z, C]; done) | (simp [Sd.public_, Sd.keyed, Sd.setP, Sd.own, q0, q, q2, z, C]; rfl)
  rw [es]
  exact ⟨rfl, b2, b3, HM.drop1.drop1⟩
 go_wp2_with with_reducible refine so ?_
 have hst := bM HM
 refine aD _ 15 hst (HM.drew) ?_
 clear HM
 refine aA 0 hst ?_
 refine aA 1 hst ?_
 refine aF 2 rfl hst (fun W hS K hK => by have ld : W.cell? ⟨g4_7, 2, none⟩ = some (.bool S.p.cfg.feat.oob) := hS.b1.cell 2; clear hS; go_simp; exact hk hK) ?_
 refine aA 3 hst ?_
 refine aA 4 hst ?_
 refine aA 5 hst ?_
 refine bS 6 (.int .u64 (W64 S.p.cfg.oob.value)) hst (fun W hS => hS.b1.cell 17) ?_
 refine aA 7 hst ?_
 refine aA 8 hst ?_
 refine aA 9 hst ?_
 refine aA 10 hst ?_
 refine bS 11 (.int .u64 (W64 S.p.cfg.oob.random)) hst (fun W hS => hS.b1.cell 18) ?_
 refine aF 12 rfl hst (fun W hS K hK => by clear hS; go_simp; exact cl (nG d.pub d.pub S.p.cfg.oob.random (0#8) _) hK) ?_
 refine aA 13 hst ?_
 refine aA 14 hst ?_
 refine aE (fun e8 hS => ?_)
 have HM := hS
 clear hst
 by_cases Z : S.p.cfg.oob.value = eF d.pub d.pub S.p.cfg.oob.random (0#8)
 rotate_left
 ·
  obtain ⟨b4, b5, a0⟩ := gF Z; clear Z
  go_wp2_with with_reducible refine so ?_
  refine bd HM (cI _ _ S.accept 2 _ _ _ _ HM.here) ?_; clear HM; intro e9 f0 f1 HM
  go_wp2_with with_reducible refine so ?_
  go_returns
  have q0 := F.out
  have q2 := J.out
  have q4 := a0.out
  exact sE2 (by unfold Sd.public_; exact es9) HM.drop1.drop1
 obtain ⟨b4, b5, a0⟩ := gT Z; clear Z
 have b6 := HM.b1.c 14 (.int .u32 (W32 S.p.cfg.secret))
 go_wp2_with with_reducible refine so ?_
 refine bt HM.to (uP S.p.cfg.secret d.pub _) ?_; clear HM; intro f2 HM; clear b6
 go_wp2_with with_reducible refine so ?_
 refine yk 40 (sdL (S.accept.put_peerKey d.pub) L O).toArray HM.b0 HM.s0 ?_; clear HM; intro f3 HM
 go_wp2_with with_reducible refine so ?_
 refine yk 41 (sdL ((S.accept.put_peerKey d.pub).put_shared (dO S.p.cfg.secret d.pub)) L O).toArray HM.b0 HM.s0 ?_; clear HM; intro f4 HM
 go_wp2_with with_reducible refine so ?_
 refine bt HM.to (bQ _ _ _ _  _ HM.b0 S.first rfl) ?_; clear HM; intro f5 HM
 rcases D : S.first with _ | _
 rotate_left
 ·
  go_wp2_with with_reducible refine so ?_
  refine bd HM (qA _ _ ((S.accept.put_peerKey d.pub).put_shared (dO S.p.cfg.secret d.pub)) _ _ _ _ HM.here bV bV (by first | exact h0 | exact h0p) (by first | exact h1 | exact h1p)) ?_; clear HM; intro b7 b8 f6 HM
  go_wp2_with with_reducible refine so ?_
  go_returns
  have q0 := F.out
  have q2 := J.out
  have q4 := a0.out
  have es : S.public_ d = ((((S.accept.put_peerKey d.pub).put_shared (dO S.p.cfg.secret d.pub)).begin_), true) := by first | rfl | (unfold Sd.public_; (try unfold Sd.take); (try unfold Sd.open_); (try unfold Sd.identity); (try dsimp only); (repeat' (split <;> (first | (exfalso; rename_i hh; first | exact absurd q0 hh | exact absurd hh q0 | exact absurd (q0.symm.trans hh) (by decide) | exact absurd q hh | exact absurd hh q | exact absurd (q.symm.trans hh) (by decide) | exact absurd q2 hh | exact absurd hh q2 | exact absurd (q2.symm.trans hh) (by decide) | exact absurd z hh | exact absurd hh z | exact absurd (z.symm.trans hh) (by decide) | exact absurd q4 hh | exact absurd hh q4 | exact absurd (q4.symm.trans hh) (by decide) | exact absurd D hh | exact absurd hh D | exact absurd (D.symm.trans hh) (by decide) | (simp [Sd.keyed, Sd.setP, Sd.own, q0, q, q2, z, q4, D] at hh; done)) | skip))); all_goals rfl) | (exfalso; omega) | (simp [Sd.public_, Sd.keyed, Sd.setP, Sd.own, q0, q, q2, z, q4, D]; done) | (simp [Sd.public_, Sd.keyed, Sd.setP, Sd.own, q0, q, q2, z, q4, D]; rfl)
  rw [es]
  exact ⟨rfl, b7, b8, HM.drop1.drop1⟩
 go_wp2_with with_reducible refine so ?_
 refine bt HM.to (nT _ _ _ _  _ HM.b0 (cJ S.p.cfg.secret) rfl) ?_; clear HM; intro f7 HM
 go_wp2_with with_reducible refine so ?_
 refine bd HM (iR _ _ ((S.accept.put_peerKey d.pub).put_shared (dO S.p.cfg.secret d.pub)) ⟨12, ⟨0, false, false, false, false, false⟩, (cJ S.p.cfg.secret), 0#64, ⟨⟨0, 0#64⟩, 0#64⟩, 0⟩ _ _ _ _ HM.here bV) ?_; clear HM; intro f8 f9 g0 HM
 go_wp2_with with_reducible refine so ?_
 refine bd HM (qA _ _ (((S.accept.put_peerKey d.pub).put_shared (dO S.p.cfg.secret d.pub)).send ⟨12, ⟨0, false, false, false, false, false⟩, (cJ S.p.cfg.secret), 0#64, ⟨⟨0, 0#64⟩, 0#64⟩, 0⟩) _ _ _ _ HM.here bV bV (by first | exact h0 | exact h0p) (by first | exact h1 | exact h1p)) ?_; clear HM; intro b9 c0 g3 HM
 go_wp2_with with_reducible refine so ?_
 go_returns
 have q0 := F.out
 have q2 := J.out
 have q4 := a0.out
 have es : S.public_ d = (((((S.accept.put_peerKey d.pub).put_shared (dO S.p.cfg.secret d.pub)).send ⟨12, ⟨0, false, false, false, false, false⟩, (cJ S.p.cfg.secret), 0#64, ⟨⟨0, 0#64⟩, 0#64⟩, 0⟩).begin_), true) := by first | rfl | (unfold Sd.public_; (try unfold Sd.take); (try unfold Sd.open_); (try unfold Sd.identity); (try dsimp only); (repeat' (split <;> (first | (exfalso; rename_i hh; first | exact absurd q0 hh | exact absurd hh q0 | exact absurd (q0.symm.trans hh) (by decide) | exact absurd q hh | exact absurd hh q | exact absurd (q.symm.trans hh) (by decide) | exact absurd q2 hh | exact absurd hh q2 | exact absurd (q2.symm.trans hh) (by decide) | exact absurd z hh | exact absurd hh z | exact absurd (z.symm.trans hh) (by decide) | exact absurd q4 hh | exact absurd hh q4 | exact absurd (q4.symm.trans hh) (by decide) | exact absurd D hh | exact absurd hh D | exact absurd (D.symm.trans hh) (by decide) | (simp [Sd.keyed, Sd.setP, Sd.own, q0, q, q2, z, q4, D] at hh; done)) | skip))); all_goals rfl) | (exfalso; omega) | (simp [Sd.public_, Sd.keyed, Sd.setP, Sd.own, q0, q, q2, z, q4, D]; done) | (simp [Sd.public_, Sd.keyed, Sd.setP, Sd.own, q0, q, q2, z, q4, D]; rfl)
 rw [es]
 exact ⟨rfl, b9, c0, HM.drop1.drop1⟩
end Go.Proofs.YtihmbcnccdiecaaGreatDoor
