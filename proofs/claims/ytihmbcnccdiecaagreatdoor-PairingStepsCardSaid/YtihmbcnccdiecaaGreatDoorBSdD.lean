/- Part of the proofs of the laws of pairing. -/
import Derived.Test.YtihmbcnccdiecaaGreatDoorBLowC
import Derived.Test.YtihmbcnccdiecaaGreatDoorBSdC
namespace Go.Proofs.YtihmbcnccdiecaaGreatDoor
set_option maxRecDepth 100000
set_option linter.unusedVariables false
set_option linter.unusedSimpArgs false
open Go.ChangeShapes Go.WideShapes Go.ChangeAt Go.RowKit
theorem cI (base g : Nat) (S : Sd) (r : Int) (v u : Value) (bx : List Bk) (w : World) (HM : Mem w w base S.sent S.told v u ((g, cQ, (sdL S v u).toArray) :: bx)) :
  Calls Tryz.prog 54 #[.pointer (some ⟨g, 0, none⟩), .int .i64 r] w (fun e w' => e = .returned (.tuple #[]) ∧ eA w w' base g ((S.fail r)) bx) := by
 go_enter Tryz.func54, Tryz.ntmps54
 go_wp2_with with_reducible refine so ?_
 refine bd HM (nF _ _ S r _ _ _ _ HM.here) ?_; clear HM; intro C D F HM
 go_wp2_with with_reducible refine so ?_
 refine bd HM (iR _ _ (S.end_ r) ⟨5, ⟨0, false, false, false, false, false⟩, 0#32, 0#64, ⟨⟨0, 0#64⟩, 0#64⟩, r⟩ _ _ _ _ HM.here bV) ?_; clear HM; intro q z I HM
 go_wp2_with with_reducible refine so ?_
 go_end0
 exact ⟨rfl, q, z, HM⟩
theorem pX (base g : Nat) (S : Sd)  (v u : Value) (bx : List Bk) (w : World) (HM : Mem w w base S.sent S.told v u ((g, cQ, (sdL S v u).toArray) :: bx)) :
  Calls Tryz.prog 85 #[.pointer (some ⟨g, 0, none⟩)] w (fun e w' => e = .returned (.int .u64 (W64 S.drawV)) ∧ eA w w' base g S.draw bx) := by
 go_enter Tryz.func85, Tryz.ntmps85
 go_wp2_with with_reducible refine so ?_
 have hst := bM HM
 refine aD _ 13 hst (HM.drew) ?_
 clear HM
 refine aA 0 hst ?_
 refine aA 1 hst ?_
 refine aA 2 hst ?_
 refine aA 3 hst ?_
 refine aA 4 hst ?_
 refine bS 5 (.int .u64 (W64 S.p.cfg.seed)) hst (fun W hS => hS.b0.cell 15) ?_
 refine aA 6 hst ?_
 refine aA 7 hst ?_
 refine aA 8 hst ?_
 refine aA 9 hst ?_
 refine bS 10 (.int .i64 S.p.drawn) hst (fun W hS => hS.b0.cell 56) ?_
 refine aF 11 rfl hst (fun W hS K hK => by clear hS; go_simp; exact cl (FD S.p.cfg.seed S.p.drawn _) hK) ?_
 refine aA 12 hst ?_
 refine aE (fun z hS => ?_)
 have HM := hS
 clear hst
 have q := HM.b0.c 56 (.int .i64 S.p.drawn)
 go_wp2_with with_reducible refine so ?_
 refine yk 56 (sdL (S.put_drawn (F2 S.p.drawn)) v u).toArray HM.b0 HM.s0 ?_; clear HM; intro C HM; clear q
 go_wp2_with with_reducible refine so ?_
 go_returns
 exact ⟨rfl, v, u, HM⟩
theorem jC (base g : Nat) (S : Sd)  (v u : Value) (bx : List Bk) (w : World) (HM : Mem w w base S.sent S.told v u ((g, cQ, (sdL S v u).toArray) :: bx)) (ls : S.sent.length ≤ 990) (h0 : 0 ≤ S.p.round) (h1 : S.p.round ≤ 64) :
  Calls Tryz.prog 58 #[.pointer (some ⟨g, 0, none⟩)] w (fun e w' => e = .returned (.tuple #[]) ∧ eA w w' base g S.commit bx) := by
 go_enter Tryz.func58, Tryz.ntmps58
 go_wp2_with with_reducible refine so ?_
 refine bd HM (pX _ _ S _ _ _ _ HM.here) ?_; clear HM; intro q C I HM
 go_wp2_with with_reducible refine so ?_
 refine yk 42 (sdL (S.draw.put_nonce (eN S.p.cfg.seed S.p.drawn)) q C).toArray HM.b0 HM.s0 ?_; clear HM; intro J HM
 go_wp2_with with_reducible refine so ?_
 try simp only [nrm]
 have hst := bM HM
 refine dN _ 17 hst HM.drew ⟨by kernel_rfl, by kernel_rfl, by kernel_rfl, by decide⟩ (fun hR => ?_)
 clear HM
 refine bT 0 hR hst ?_
 refine bT 1 hR hst ?_
 refine bT 3 hR hst ?_
 refine bT 4 hR hst ?_
 refine bT 5 hR hst ?_
 refine bT 6 hR hst ?_
 refine eB 7 rfl hR hst (fun W hS K hK => by have ld : W.cell? ⟨g, 40, none⟩ = some (.int .u32 (W32 S.p.peerKey)) := hS.b0.cell 40; clear hS; go_simp; exact hk hK) ?_
 refine bT 8 hR hst ?_
 refine bT 9 hR hst ?_
 refine bT 10 hR hst ?_
 refine bT 11 hR hst ?_
 refine eB 12 rfl hR hst (fun W hS K hK => by have ld : W.cell? ⟨g, 42, none⟩ = some (.int .u64 (W64 (eN S.p.cfg.seed S.p.drawn))) := hS.b0.cell 42; clear hS; go_simp; exact hk hK) ?_
 refine bT 13 hR hst ?_
 refine eB 2 rfl hR hst (fun W hS K hK => by go_simp; exact cl (nT _ _ _ _  _ hS.b0 (cJ S.p.cfg.secret) rfl) hK) ?_
 refine eB 14 rfl hR hst (fun W hS K hK => by go_simp; exact cl (LU _ _ _ _  _ hS.b0 h0 h1 (Sd.z (S.draw.put_nonce (eN S.p.cfg.seed S.p.drawn))) rfl) hK) ?_
 refine eB 15 rfl hR hst (fun W hS K hK => by clear hS; go_simp; exact cl (nG ((cJ S.p.cfg.secret)) S.p.peerKey ((eN S.p.cfg.seed S.p.drawn)) ((Sd.z (S.draw.put_nonce (eN S.p.cfg.seed S.p.drawn)))) _) hK) ?_
 refine bT 16 hR hst ?_
 refine gC (fun L hS => ?_)
 have HM := hS
 clear hst
 dsimp only [List.drop]
 go_wp2_with with_reducible refine so ?_
 refine bd HM (iR _ _ (S.draw.put_nonce (eN S.p.cfg.seed S.p.drawn)) ⟨3, ⟨0, false, false, false, false, false⟩, 0#32, (eF ((cJ S.p.cfg.secret)) S.p.peerKey ((eN S.p.cfg.seed S.p.drawn)) ((Sd.z (S.draw.put_nonce (eN S.p.cfg.seed S.p.drawn))))), ⟨⟨0, 0#64⟩, 0#64⟩, 0⟩ _ _ _ _ HM.here bV) ?_; clear HM; intro D F O HM
 go_wp2_with with_reducible refine so ?_
 go_end0
 exact ⟨rfl, D, F, HM⟩
theorem jD (base g : Nat) (S : Sd)  (v u : Value) (bx : List Bk) (w : World) (HM : Mem w w base S.sent S.told v u ((g, cQ, (sdL S v u).toArray) :: bx)) (ls : S.sent.length ≤ 990) :
  Calls Tryz.prog 77 #[.pointer (some ⟨g, 0, none⟩)] w (fun e w' => e = .returned (.tuple #[]) ∧ eA w w' base g S.random bx) := by
 go_enter Tryz.func77, Tryz.ntmps77
 have q := HM.b0.c 42 (.int .u64 (W64 S.p.nonce))
 go_wp2_with with_reducible refine so ?_
 refine bd HM (iR _ _ S ⟨4, ⟨0, false, false, false, false, false⟩, 0#32, S.p.nonce, ⟨⟨0, 0#64⟩, 0#64⟩, 0⟩ _ _ _ _ HM.here bV) ?_; clear HM; intro z C D HM; clear q
 go_wp2_with with_reducible refine so ?_
 go_end0
 exact ⟨rfl, z, C, HM⟩
theorem fN (base g : Nat) (S : Sd)  (v u : Value) (bx : List Bk) (w : World) (HM : Mem w w base S.sent S.told v u ((g, cQ, (sdL S v u).toArray) :: bx)) (ls : S.sent.length ≤ 980) :
  Calls Tryz.prog 59 #[.pointer (some ⟨g, 0, none⟩)] w (fun e w' => e = .returned (.tuple #[]) ∧ eA w w' base g S.toChecks bx) := by
 go_enter Tryz.func59, Tryz.ntmps59
 go_wp2_with with_reducible refine so ?_
 refine yk 19 (sdL (S.put_phase 5) v u).toArray HM.b0 HM.s0 ?_; clear HM; intro q HM
 go_wp2_with with_reducible refine so ?_
 refine bt HM.to (bQ _ _ _ _  _ HM.b0 S.first rfl) ?_; clear HM; intro z HM
 rcases C : S.first with _ | _
 ·
  go_wp2_with with_reducible refine so ?_
  go_end0
  exact sE (by unfold Sd.toChecks; exact es9) HM
 go_wp2_with with_reducible refine so ?_
 refine bt HM.to (xZ _ _ _ _  _ HM.b0 (Sd.check (S.put_phase 5)) rfl) ?_; clear HM; intro D HM
 go_wp2_with with_reducible refine so ?_
 refine bd HM (iR _ _ (S.put_phase 5) ⟨13, ⟨0, false, false, false, false, false⟩, 0#32, (Sd.check (S.put_phase 5)), ⟨⟨0, 0#64⟩, 0#64⟩, 0⟩ _ _ _ _ HM.here bV) ?_; clear HM; intro F I J HM
 go_wp2_with with_reducible refine so ?_
 go_end0
 exact sE (by unfold Sd.toChecks; exact es9) HM
theorem mG (base g : Nat) (S : Sd)  (v u : Value) (bx : List Bk) (w : World) (HM : Mem w w base S.sent S.told v u ((g, cQ, (sdL S v u).toArray) :: bx)) (ls : S.sent.length ≤ 970) (lt : S.told.length ≤ 970) :
  Calls Tryz.prog 78 #[.pointer (some ⟨g, 0, none⟩)] w (fun e w' => e = .returned (.tuple #[]) ∧ eA w w' base g S.exchanged bx) := by
 go_enter Tryz.func78, Tryz.ntmps78
 by_cases q : (S.p.method : Int) = 1
 ·
  obtain ⟨C, D, z⟩ := fT q; clear q
  have F := HM.b0.c 21 (.int .i64 S.p.method)
  go_wp2_with with_reducible refine so ?_
  refine bd HM (fN _ _ S _ _ _ _ HM.here bV) ?_; clear HM; intro J L O HM; clear F
  go_wp2_with with_reducible refine so ?_
  (try simp only [Exit.inBlock, Exit.then])
  refine bodyPost_ret (results_none rfl _ _ _) rfl ?_
  have q0 := z.out
  exact sE (by unfold Sd.exchanged; exact es9) HM
 obtain ⟨C, D, z⟩ := fF q; clear q
 have I := HM.b0.c 21 (.int .i64 S.p.method)
 go_wp2_with with_reducible refine so ?_
 clear I
 have hst := bM HM
 refine aD _ 44 hst (HM.drew) ?_
 clear HM
 refine aA 0 hst ?_
 refine aA 1 hst ?_
 refine aA 3 hst ?_
 refine aA 4 hst ?_
 refine aA 5 hst ?_
 refine aA 6 hst ?_
 refine bS 7 (.int .u32 (W32 S.p.peerKey)) hst (fun W hS => hS.b0.cell 40) ?_
 refine aA 9 hst ?_
 refine aA 10 hst ?_
 refine aA 11 hst ?_
 refine aA 12 hst ?_
 refine aA 13 hst ?_
 refine bS 14 (.int .u32 (W32 S.p.peerKey)) hst (fun W hS => hS.b0.cell 40) ?_
 refine aA 15 hst ?_
 refine aA 18 hst ?_
 refine aA 19 hst ?_
 refine aA 20 hst ?_
 refine aA 21 hst ?_
 refine aA 22 hst ?_
 refine bS 23 (.int .u64 (W64 S.p.nonce)) hst (fun W hS => hS.b0.cell 42) ?_
 refine aA 24 hst ?_
 refine aA 25 hst ?_
 refine aA 26 hst ?_
 refine aA 27 hst ?_
 refine bS 28 (.int .u64 (W64 S.p.other)) hst (fun W hS => hS.b0.cell 43) ?_
 refine aA 30 hst ?_
 refine aA 31 hst ?_
 refine aA 32 hst ?_
 refine aA 33 hst ?_
 refine aA 34 hst ?_
 refine bS 35 (.int .u64 (W64 S.p.other)) hst (fun W hS => hS.b0.cell 43) ?_
 refine aA 36 hst ?_
 refine aA 37 hst ?_
 refine aA 38 hst ?_
 refine aA 39 hst ?_
 refine bS 40 (.int .u64 (W64 S.p.nonce)) hst (fun W hS => hS.b0.cell 42) ?_
 refine aF 2 rfl hst (fun W hS K hK => by go_simp; exact cl (nT _ _ _ _  _ hS.b0 (cJ S.p.cfg.secret) rfl) hK) ?_
 refine aF 8 rfl hst (fun W hS K hK => by go_simp; exact cl (lU _ _ _ _ ((cJ S.p.cfg.secret)) S.p.peerKey _ hS.b0 (byR S ((cJ S.p.cfg.secret)) S.p.peerKey) rfl) hK) ?_
 refine aF 16 rfl hst (fun W hS K hK => by go_simp; exact cl (nT _ _ _ _  _ hS.b0 (cJ S.p.cfg.secret) rfl) hK) ?_
 refine aF 17 rfl hst (fun W hS K hK => by go_simp; exact cl (lU _ _ _ _ S.p.peerKey ((cJ S.p.cfg.secret)) _ hS.b0 (byR S S.p.peerKey ((cJ S.p.cfg.secret))) rfl) hK) ?_
 refine aF 29 rfl hst (fun W hS K hK => by go_simp; exact cl (hP _ _ _ _ S.p.nonce S.p.other _ hS.b0 (byR S S.p.nonce S.p.other) rfl) hK) ?_
 refine aF 41 rfl hst (fun W hS K hK => by go_simp; exact cl (hP _ _ _ _ S.p.other S.p.nonce _ hS.b0 (byR S S.p.other S.p.nonce) rfl) hK) ?_
 refine aF 42 rfl hst (fun W hS K hK => by clear hS; go_simp; exact cl (zT ((byR S ((cJ S.p.cfg.secret)) S.p.peerKey)) ((byR S S.p.peerKey ((cJ S.p.cfg.secret)))) ((byR S S.p.nonce S.p.other)) ((byR S S.p.other S.p.nonce)) _) hK) ?_
 refine aA 43 hst ?_
 refine aE (fun U hS => ?_)
 have HM := hS
 clear hst
 go_wp2_with with_reducible refine so ?_
 refine yk 19 (sdL (S.put_phase 4) v u).toArray HM.b0 HM.s0 ?_; clear HM; intro Z HM
 go_wp2_with with_reducible refine so ?_
 refine bd HM (sF _ _ (S.put_phase 4) ⟨1, (((gO ((byR S ((cJ S.p.cfg.secret)) S.p.peerKey)) ((byR S S.p.peerKey ((cJ S.p.cfg.secret)))) ((byR S S.p.nonce S.p.other)) ((byR S S.p.other S.p.nonce))).toNat : Int)), 0#64, false, ⟨⟨0, 0#64⟩, 0#64⟩, 0⟩ _ _ _ _ HM.here bV) ?_; clear HM; intro a0 a1 a2 HM
 go_wp2_with with_reducible refine so ?_
 go_end0
 have q0 := z.out
 exact sE (by unfold Sd.exchanged; exact es9) HM
theorem jA (base g : Nat) (S : Sd)  (v u : Value) (bx : List Bk) (w : World) (HM : Mem w w base S.sent S.told v u ((g, cQ, (sdL S v u).toArray) :: bx)) (lt : S.told.length ≤ 990) :
  Calls Tryz.prog 62 #[.pointer (some ⟨g, 0, none⟩)] w (fun e w' => e = .returned (.tuple #[]) ∧ eA w w' base g S.finish bx) := by
 go_enter Tryz.func62, Tryz.ntmps62
 go_wp2_with with_reducible refine so ?_
 have hst := bM HM
 refine aD _ 16 hst (HM.drew) ?_
 clear HM
 refine aA 0 hst ?_
 refine aA 1 hst ?_
 refine aA 2 hst ?_
 refine aA 3 hst ?_
 refine dA 4 28 (bL S.p.req) (fun W hS => hS.b0) U23 hst ?_
 refine aA 5 hst ?_
 refine aA 6 hst ?_
 refine aA 7 hst ?_
 refine aA 8 hst ?_
 refine dA 9 34 (bL S.p.res) (fun W hS => hS.b0) U23 hst ?_
 refine aF 10 rfl hst (fun W hS K hK => by go_simp; exact cl (rB S.p.req S.p.res _ hS.laid) hK) ?_
 refine aA 11 hst ?_
 refine aA 12 hst ?_
 refine aA 13 hst ?_
 refine aA 14 hst ?_
 refine aA 15 hst ?_
 refine aE (fun C hS => ?_)
 have HM := hS
 clear hst
 go_wp2_with with_reducible refine so ?_
 refine yk 19 (sdL (S.put_phase 7) v u).toArray HM.b0 HM.s0 ?_; clear HM; intro D HM
 go_wp2_with with_reducible refine so ?_
 try simp only [nrm]
 have hst := bM HM
 refine dN _ 13 hst HM.drew ⟨by kernel_rfl, by kernel_rfl, by kernel_rfl, by decide⟩ (fun hR => ?_)
 clear HM
 refine bT 0 hR hst ?_
 refine bT 1 hR hst ?_
 refine bT 2 hR hst ?_
 refine bT 3 hR hst ?_
 refine bT 4 hR hst ?_
 refine eB 5 rfl hR hst (fun W hS K hK => by have ld : W.cell? ⟨g, 52, none⟩ = some (.int .u64 (W64 S.p.ltk)) := hS.b0.cell 52; clear hS; go_simp; exact hk hK) ?_
 refine bT 6 hR hst ?_
 refine bT 7 hR hst ?_
 refine bT 8 hR hst ?_
 refine bT 9 hR hst ?_
 refine bT 10 hR hst ?_
 refine cV (v := .agg #[.int .i64 S.p.idn.adr.kind, .int .u64 (W64 S.p.idn.adr.bits), .int .u64 (W64 S.p.idn.irk)]) 11 hR hst rfl (fun W hS K hK => aL rfl rfl (aX hS.b0 53 [.int .i64 S.p.idn.adr.kind, .int .u64 (W64 S.p.idn.adr.bits), .int .u64 (W64 S.p.idn.irk)] rfl U29 rfl (by kernel_rfl)) (hK.out _ (Below.refl _ _))) ?_; simp only [nrm]
 refine bT 12 hR hst ?_
 refine gC (fun F hS => ?_)
 have HM := hS
 clear hst
 dsimp only [List.drop]
 go_wp2_with with_reducible refine so ?_
 refine bd HM (sF _ _ (S.put_phase 7) ⟨3, 0, S.p.ltk, (bC S.p.req S.p.res).2, ⟨⟨S.p.idn.adr.kind, S.p.idn.adr.bits⟩, S.p.idn.irk⟩, 0⟩ _ _ _ _ HM.here bV) ?_; clear HM; intro q z I HM
 go_wp2_with with_reducible refine so ?_
 go_end0
 exact ⟨rfl, q, z, HM⟩
end Go.Proofs.YtihmbcnccdiecaaGreatDoor
