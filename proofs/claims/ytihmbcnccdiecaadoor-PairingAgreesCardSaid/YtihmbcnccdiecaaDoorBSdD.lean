/- Part of the proofs of the laws of pairing. -/
import Derived.Test.YtihmbcnccdiecaaDoorA2
import Derived.Test.YtihmbcnccdiecaaDoorBLowB
import Derived.Test.YtihmbcnccdiecaaDoorBLowC
import Derived.Test.YtihmbcnccdiecaaDoorBSdA
import Derived.Test.YtihmbcnccdiecaaDoorBSdB
import Derived.Test.YtihmbcnccdiecaaDoorBSdC
namespace Go.Proofs.YtihmbcnccdiecaaDoor
set_option maxRecDepth 100000
open Go.ChangeShapes Go.WideShapes Go.ChangeAt Go.RowKit
set_option linter.unusedVariables false
set_option linter.unusedSimpArgs false
theorem sd_fail (base g : Nat) (S : Sd) (r : Int) (v u : Value) (bx : List Bk) (w : World) (HM : Mem w w base S.sent S.told v u ((g, SideT, (sdL S v u).toArray) :: bx)) :
  Calls Tryd.prog 51 #[.pointer (some ⟨g, 0, none⟩), .int .i64 r] w (fun e w' => e = .returned (.tuple #[]) ∧ SideR w w' base g ((S.fail r)) bx) := by
 go_enter Tryd.func51, Tryd.ntmps51
 go_wp2_with (with_reducible refine so ?_)
 refine (sd_end _ _ S r _ _ _ _ HM.here).mono ?_; rintro e w_1 ⟨rfl, v_3, u_4, HN_5⟩
 replace HM := HM.trans HN_5
 clear HN_5
 go_wp2_with (with_reducible refine so ?_)
 refine (sd_send _ _ (S.end_ r) ⟨5, ⟨0, false, false, false, false, false⟩, 0#32, 0#64, ⟨⟨0, 0#64⟩, 0#64⟩, r⟩ _ _ _ _ HM.here len9).mono ?_; rintro e w_6 ⟨rfl, v_8, u_9, HN_10⟩
 replace HM := HM.trans HN_10
 clear HN_10
 go_wp2_with (with_reducible refine so ?_)
 go_end0
 exact ⟨rfl, v_8, u_9, HM⟩
theorem sd_draw (base g : Nat) (S : Sd)  (v u : Value) (bx : List Bk) (w : World) (HM : Mem w w base S.sent S.told v u ((g, SideT, (sdL S v u).toArray) :: bx)) :
  Calls Tryd.prog 81 #[.pointer (some ⟨g, 0, none⟩)] w (fun e w' => e = .returned (.int .u64 (W64 S.drawV)) ∧ SideR w w' base g S.draw bx) := by
 go_enter Tryd.func81, Tryd.ntmps81
 go_wp2_with (with_reducible refine so ?_)
 have hst : Stable fun W => Mem w W base S.sent S.told v u ((g, 109, (sdL S v u).toArray) :: bx) := stable_mem _ _ _ _ _ _ _
 refine wp_region_v _ 13 hst (HM.drew) ?_
 clear HM
 refine wpU_p 0 hst ?_
 refine wpU_p 1 hst ?_
 refine wpU_p 2 hst ?_
 refine wpU_p 3 hst ?_
 refine wpU_p 4 hst ?_
 refine wpU_c 5 (.int .u64 (W64 S.p.cfg.seed)) hst (fun W hS => hS.b0.cell 15) ?_
 refine wpU_p 6 hst ?_
 refine wpU_p 7 hst ?_
 refine wpU_p 8 hst ?_
 refine wpU_p 9 hst ?_
 refine wpU_c 10 (.int .i64 S.p.drawn) hst (fun W hS => hS.b0.cell 56) ?_
 refine wpU_take (v := ?_) 11 hst (fun _ h => h) rfl ?_ ?_; rotate_left; (intro W hS K hK; clear hS; go_simp; refine (conf_Draw S.p.cfg.seed S.p.drawn _).mono ?_; rintro e w9 ⟨rfl, hb⟩; refine CallPost.mk ?_; exact hK.out _ (hb)); simp only [nrm]
 refine wpU_p 12 hst ?_
 refine wpU_done (fun w_1 hS => ?_)
 have HM := hS
 clear hst
 have ld_2 := HM.b0.c 56 (.int .i64 S.p.drawn)
 go_wp2_with (with_reducible refine so ?_)
 refine sx 56 (.int .i64 (bump S.p.drawn)) (sdL (S.put_drawn (bump S.p.drawn)) v u).toArray HM.b0 ?_
 intro w_3 G_5 hU_4
 clear ld_2
 replace HM := HM.s0 hU_4 G_5
 clear hU_4 G_5
 go_wp2_with (with_reducible refine so ?_)
 go_returns
 exact ⟨rfl, v, u, HM⟩
theorem sd_commit (base g : Nat) (S : Sd)  (v u : Value) (bx : List Bk) (w : World) (HM : Mem w w base S.sent S.told v u ((g, SideT, (sdL S v u).toArray) :: bx)) (ls : S.sent.length ≤ 990) (h0 : 0 ≤ S.p.round) (h1 : S.p.round ≤ 64) :
  Calls Tryd.prog 55 #[.pointer (some ⟨g, 0, none⟩)] w (fun e w' => e = .returned (.tuple #[]) ∧ SideR w w' base g S.commit bx) := by
 go_enter Tryd.func55, Tryd.ntmps55
 go_wp2_with (with_reducible refine so ?_)
 refine (sd_draw _ _ S _ _ _ _ HM.here).mono ?_; rintro e w_1 ⟨rfl, v_3, u_4, HN_5⟩
 replace HM := HM.trans HN_5
 clear HN_5
 go_wp2_with (with_reducible refine so ?_)
 refine sx 42 (.int .u64 (W64 (drawK S.p.cfg.seed S.p.drawn))) (sdL (S.draw.put_nonce (drawK S.p.cfg.seed S.p.drawn)) v_3 u_4).toArray HM.b0 ?_
 intro w_6 G_8 hU_7
 replace HM := HM.s0 hU_7 G_8
 clear hU_7 G_8
 go_wp2_with (with_reducible refine so ?_)
 try simp only [nrm]
 have hst : Stable fun W => Mem w W base S.draw.sent S.draw.told v_3 u_4 ((g, 109, (sdL (S.draw.put_nonce (drawK S.p.cfg.seed S.p.drawn)) v_3 u_4).toArray) :: bx) := stable_mem _ _ _ _ _ _ _
 refine wp_region_hh (fun W => Mem w W base S.draw.sent S.draw.told v_3 u_4 ((g, 109, (sdL (S.draw.put_nonce (drawK S.p.cfg.seed S.p.drawn)) v_3 u_4).toArray) :: bx)) 17 hst (HM.drew) ⟨by kernel_rfl, by kernel_rfl, by kernel_rfl, by decide⟩ (fun hR => ?_)
 clear HM
 refine wpH_p 0 hR hst ?_
 refine wpH_p 1 hR hst ?_
 refine wpH_p 3 hR hst ?_
 refine wpH_p 4 hR hst ?_
 refine wpH_p 5 hR hst ?_
 refine wpH_p 6 hR hst ?_
 refine wpH_take (v := ?_) 7 hR hst rfl ?_ ?_; rotate_left; (intro W hS K hK; have ld : W.cell? ⟨g, 40, none⟩ = some (.int .u32 (W32 S.p.peerKey)) := hS.b0.cell 40; clear hS; go_simp; exact hK.out _ (Below.refl _ _)); simp only [nrm]
 refine wpH_p 8 hR hst ?_
 refine wpH_p 9 hR hst ?_
 refine wpH_p 10 hR hst ?_
 refine wpH_p 11 hR hst ?_
 refine wpH_take (v := ?_) 12 hR hst rfl ?_ ?_; rotate_left; (intro W hS K hK; have ld : W.cell? ⟨g, 42, none⟩ = some (.int .u64 (W64 (drawK S.p.cfg.seed S.p.drawn))) := hS.b0.cell 42; clear hS; go_simp; exact hK.out _ (Below.refl _ _)); simp only [nrm]
 refine wpH_p 13 hR hst ?_
 refine wpH_take (v := ?_) 2 hR hst rfl ?_ ?_; rotate_left; (intro W hS K hK; go_simp; refine (sd_own _ _ _ _  _ hS.b0 (pubK S.p.cfg.secret) rfl).mono ?_; rintro e w9 ⟨rfl, hb⟩; refine CallPost.mk ?_; exact hK.out _ (hb)); simp only [nrm]
 refine wpH_take (v := ?_) 14 hR hst rfl ?_ ?_; rotate_left; (intro W hS K hK; go_simp; refine (sd_z _ _ _ _  _ hS.b0 h0 h1 (Sd.z (S.draw.put_nonce (drawK S.p.cfg.seed S.p.drawn))) rfl).mono ?_; rintro e w9 ⟨rfl, hb⟩; refine CallPost.mk ?_; exact hK.out _ (hb)); simp only [nrm]
 refine wpH_take (v := ?_) 15 hR hst rfl ?_ ?_; rotate_left; (intro W hS K hK; clear hS; go_simp; refine (conf_Commit ((pubK S.p.cfg.secret)) S.p.peerKey ((drawK S.p.cfg.seed S.p.drawn)) ((Sd.z (S.draw.put_nonce (drawK S.p.cfg.seed S.p.drawn)))) _).mono ?_; rintro e w9 ⟨rfl, hb⟩; refine CallPost.mk ?_; exact hK.out _ (hb)); simp only [nrm]
 refine wpH_p 16 hR hst ?_
 refine wpH_done (fun w_9 hS => ?_)
 have HM := hS
 clear hst
 dsimp only [List.drop]
 go_wp2_with (with_reducible refine so ?_)
 refine (sd_send _ _ (S.draw.put_nonce (drawK S.p.cfg.seed S.p.drawn)) ⟨3, ⟨0, false, false, false, false, false⟩, 0#32, (commitK ((pubK S.p.cfg.secret)) S.p.peerKey ((drawK S.p.cfg.seed S.p.drawn)) ((Sd.z (S.draw.put_nonce (drawK S.p.cfg.seed S.p.drawn))))), ⟨⟨0, 0#64⟩, 0#64⟩, 0⟩ _ _ _ _ HM.here len9).mono ?_; rintro e w_10 ⟨rfl, v_12, u_13, HN_14⟩
 replace HM := HM.trans HN_14
 clear HN_14
 go_wp2_with (with_reducible refine so ?_)
 go_end0
 exact ⟨rfl, v_12, u_13, HM⟩
theorem sd_random (base g : Nat) (S : Sd)  (v u : Value) (bx : List Bk) (w : World) (HM : Mem w w base S.sent S.told v u ((g, SideT, (sdL S v u).toArray) :: bx)) (ls : S.sent.length ≤ 990) :
  Calls Tryd.prog 73 #[.pointer (some ⟨g, 0, none⟩)] w (fun e w' => e = .returned (.tuple #[]) ∧ SideR w w' base g S.random bx) := by
 go_enter Tryd.func73, Tryd.ntmps73
 have ld_1 := HM.b0.c 42 (.int .u64 (W64 S.p.nonce))
 go_wp2_with (with_reducible refine so ?_)
 refine (sd_send _ _ S ⟨4, ⟨0, false, false, false, false, false⟩, 0#32, S.p.nonce, ⟨⟨0, 0#64⟩, 0#64⟩, 0⟩ _ _ _ _ HM.here len9).mono ?_; rintro e w_2 ⟨rfl, v_4, u_5, HN_6⟩
 clear ld_1
 replace HM := HM.trans HN_6
 clear HN_6
 go_wp2_with (with_reducible refine so ?_)
 go_end0
 exact ⟨rfl, v_4, u_5, HM⟩
theorem sd_toChecks (base g : Nat) (S : Sd)  (v u : Value) (bx : List Bk) (w : World) (HM : Mem w w base S.sent S.told v u ((g, SideT, (sdL S v u).toArray) :: bx)) (ls : S.sent.length ≤ 980) :
  Calls Tryd.prog 56 #[.pointer (some ⟨g, 0, none⟩)] w (fun e w' => e = .returned (.tuple #[]) ∧ SideR w w' base g S.toChecks bx) := by
 go_enter Tryd.func56, Tryd.ntmps56
 go_wp2_with (with_reducible refine so ?_)
 refine sx 19 (.int .i64 5) (sdL (S.put_phase 5) v u).toArray HM.b0 ?_
 intro w_1 G_3 hU_2
 replace HM := HM.s0 hU_2 G_3
 clear hU_2 G_3
 go_wp2_with (with_reducible refine so ?_)
 refine (sd_first _ _ _ _  _ HM.b0 S.first rfl).mono ?_; rintro e w_4 ⟨rfl, hb_5⟩
 replace HM := HM.to hb_5
 clear hb_5
 rcases hc_6 : S.first with _ | _
 ·
  skip
  go_wp2_with (with_reducible refine so ?_)
  go_end0
  have es : S.toChecks = (S.put_phase 5) := by unfold Sd.toChecks; exact es9
  rw [es]
  exact ⟨rfl, v, u, HM⟩
 skip
 go_wp2_with (with_reducible refine so ?_)
 refine (sd_check _ _ _ _  _ HM.b0 (Sd.check (S.put_phase 5)) rfl).mono ?_; rintro e w_7 ⟨rfl, hb_8⟩
 replace HM := HM.to hb_8
 clear hb_8
 go_wp2_with (with_reducible refine so ?_)
 refine (sd_send _ _ (S.put_phase 5) ⟨13, ⟨0, false, false, false, false, false⟩, 0#32, (Sd.check (S.put_phase 5)), ⟨⟨0, 0#64⟩, 0#64⟩, 0⟩ _ _ _ _ HM.here len9).mono ?_; rintro e w_9 ⟨rfl, v_11, u_12, HN_13⟩
 replace HM := HM.trans HN_13
 clear HN_13
 go_wp2_with (with_reducible refine so ?_)
 go_end0
 have es : S.toChecks = ((S.put_phase 5).send ⟨13, ⟨0, false, false, false, false, false⟩, 0#32, (Sd.check (S.put_phase 5)), ⟨⟨0, 0#64⟩, 0#64⟩, 0⟩) := by unfold Sd.toChecks; exact es9
 rw [es]
 exact ⟨rfl, v_11, u_12, HM⟩
theorem sd_exchanged (base g : Nat) (S : Sd)  (v u : Value) (bx : List Bk) (w : World) (HM : Mem w w base S.sent S.told v u ((g, SideT, (sdL S v u).toArray) :: bx)) (ls : S.sent.length ≤ 970) (lt : S.told.length ≤ 970) :
  Calls Tryd.prog 74 #[.pointer (some ⟨g, 0, none⟩)] w (fun e w' => e = .returned (.tuple #[]) ∧ SideR w w' base g S.exchanged bx) := by
 go_enter Tryd.func74, Tryd.ntmps74
 by_cases hc_1 : (S.p.method : Int) = 1
 ·
  obtain ⟨ec_1, ec_1n, kc_1⟩ := fT hc_1; clear hc_1
  have ld_2 := HM.b0.c 21 (.int .i64 S.p.method)
  go_wp2_with (with_reducible refine so ?_)
  refine (sd_toChecks _ _ S _ _ _ _ HM.here len9).mono ?_; rintro e w_3 ⟨rfl, v_5, u_6, HN_7⟩
  clear ld_2
  replace HM := HM.trans HN_7
  clear HN_7
  go_wp2_with (with_reducible refine so ?_)
  (try simp only [Exit.inBlock, Exit.then])
  refine bodyPost_ret (results_none rfl _ _ _) rfl ?_
  have q0 := kc_1.out
  have es : S.exchanged = S.toChecks := by unfold Sd.exchanged; exact es9
  rw [es]
  exact ⟨rfl, v_5, u_6, HM⟩
 obtain ⟨ec_1, ec_1n, kc_1⟩ := fF hc_1; clear hc_1
 have ld_8 := HM.b0.c 21 (.int .i64 S.p.method)
 go_wp2_with (with_reducible refine so ?_)
 clear ld_8
 have hst : Stable fun W => Mem w W base S.sent S.told v u ((g, 109, (sdL S v u).toArray) :: bx) := stable_mem _ _ _ _ _ _ _
 refine wp_region_v _ 44 hst (HM.drew) ?_
 clear HM
 refine wpU_p 0 hst ?_
 refine wpU_p 1 hst ?_
 refine wpU_p 3 hst ?_
 refine wpU_p 4 hst ?_
 refine wpU_p 5 hst ?_
 refine wpU_p 6 hst ?_
 refine wpU_c 7 (.int .u32 (W32 S.p.peerKey)) hst (fun W hS => hS.b0.cell 40) ?_
 refine wpU_p 9 hst ?_
 refine wpU_p 10 hst ?_
 refine wpU_p 11 hst ?_
 refine wpU_p 12 hst ?_
 refine wpU_p 13 hst ?_
 refine wpU_c 14 (.int .u32 (W32 S.p.peerKey)) hst (fun W hS => hS.b0.cell 40) ?_
 refine wpU_p 15 hst ?_
 refine wpU_p 18 hst ?_
 refine wpU_p 19 hst ?_
 refine wpU_p 20 hst ?_
 refine wpU_p 21 hst ?_
 refine wpU_p 22 hst ?_
 refine wpU_c 23 (.int .u64 (W64 S.p.nonce)) hst (fun W hS => hS.b0.cell 42) ?_
 refine wpU_p 24 hst ?_
 refine wpU_p 25 hst ?_
 refine wpU_p 26 hst ?_
 refine wpU_p 27 hst ?_
 refine wpU_c 28 (.int .u64 (W64 S.p.other)) hst (fun W hS => hS.b0.cell 43) ?_
 refine wpU_p 30 hst ?_
 refine wpU_p 31 hst ?_
 refine wpU_p 32 hst ?_
 refine wpU_p 33 hst ?_
 refine wpU_p 34 hst ?_
 refine wpU_c 35 (.int .u64 (W64 S.p.other)) hst (fun W hS => hS.b0.cell 43) ?_
 refine wpU_p 36 hst ?_
 refine wpU_p 37 hst ?_
 refine wpU_p 38 hst ?_
 refine wpU_p 39 hst ?_
 refine wpU_c 40 (.int .u64 (W64 S.p.nonce)) hst (fun W hS => hS.b0.cell 42) ?_
 refine wpU_take (v := ?_) 2 hst (fun _ h => h) rfl ?_ ?_; rotate_left; (intro W hS K hK; go_simp; refine (sd_own _ _ _ _  _ hS.b0 (pubK S.p.cfg.secret) rfl).mono ?_; rintro e w9 ⟨rfl, hb⟩; refine CallPost.mk ?_; exact hK.out _ (hb)); simp only [nrm]
 refine wpU_take (v := ?_) 8 hst (fun _ h => h) rfl ?_ ?_; rotate_left; (intro W hS K hK; go_simp; refine (sd_byRole_uint32 _ _ _ _ ((pubK S.p.cfg.secret)) S.p.peerKey _ hS.b0 (byR S ((pubK S.p.cfg.secret)) S.p.peerKey) rfl).mono ?_; rintro e w9 ⟨rfl, hb⟩; refine CallPost.mk ?_; exact hK.out _ (hb)); simp only [nrm]
 refine wpU_take (v := ?_) 16 hst (fun _ h => h) rfl ?_ ?_; rotate_left; (intro W hS K hK; go_simp; refine (sd_own _ _ _ _  _ hS.b0 (pubK S.p.cfg.secret) rfl).mono ?_; rintro e w9 ⟨rfl, hb⟩; refine CallPost.mk ?_; exact hK.out _ (hb)); simp only [nrm]
 refine wpU_take (v := ?_) 17 hst (fun _ h => h) rfl ?_ ?_; rotate_left; (intro W hS K hK; go_simp; refine (sd_byRole_uint32 _ _ _ _ S.p.peerKey ((pubK S.p.cfg.secret)) _ hS.b0 (byR S S.p.peerKey ((pubK S.p.cfg.secret))) rfl).mono ?_; rintro e w9 ⟨rfl, hb⟩; refine CallPost.mk ?_; exact hK.out _ (hb)); simp only [nrm]
 refine wpU_take (v := ?_) 29 hst (fun _ h => h) rfl ?_ ?_; rotate_left; (intro W hS K hK; go_simp; refine (sd_byRole_uint64 _ _ _ _ S.p.nonce S.p.other _ hS.b0 (byR S S.p.nonce S.p.other) rfl).mono ?_; rintro e w9 ⟨rfl, hb⟩; refine CallPost.mk ?_; exact hK.out _ (hb)); simp only [nrm]
 refine wpU_take (v := ?_) 41 hst (fun _ h => h) rfl ?_ ?_; rotate_left; (intro W hS K hK; go_simp; refine (sd_byRole_uint64 _ _ _ _ S.p.other S.p.nonce _ hS.b0 (byR S S.p.other S.p.nonce) rfl).mono ?_; rintro e w9 ⟨rfl, hb⟩; refine CallPost.mk ?_; exact hK.out _ (hb)); simp only [nrm]
 refine wpU_take (v := ?_) 42 hst (fun _ h => h) rfl ?_ ?_; rotate_left; (intro W hS K hK; clear hS; go_simp; refine (conf_Digits ((byR S ((pubK S.p.cfg.secret)) S.p.peerKey)) ((byR S S.p.peerKey ((pubK S.p.cfg.secret)))) ((byR S S.p.nonce S.p.other)) ((byR S S.p.other S.p.nonce)) _).mono ?_; rintro e w9 ⟨rfl, hb⟩; refine CallPost.mk ?_; exact hK.out _ (hb)); simp only [nrm]
 refine wpU_p 43 hst ?_
 refine wpU_done (fun w_9 hS => ?_)
 have HM := hS
 clear hst
 go_wp2_with (with_reducible refine so ?_)
 refine sx 19 (.int .i64 4) (sdL (S.put_phase 4) v u).toArray HM.b0 ?_
 intro w_10 G_12 hU_11
 replace HM := HM.s0 hU_11 G_12
 clear hU_11 G_12
 go_wp2_with (with_reducible refine so ?_)
 refine (sd_tell _ _ (S.put_phase 4) ⟨1, (((digitsK ((byR S ((pubK S.p.cfg.secret)) S.p.peerKey)) ((byR S S.p.peerKey ((pubK S.p.cfg.secret)))) ((byR S S.p.nonce S.p.other)) ((byR S S.p.other S.p.nonce))).toNat : Int)), 0#64, false, ⟨⟨0, 0#64⟩, 0#64⟩, 0⟩ _ _ _ _ HM.here len9).mono ?_; rintro e w_13 ⟨rfl, v_15, u_16, HN_17⟩
 replace HM := HM.trans HN_17
 clear HN_17
 go_wp2_with (with_reducible refine so ?_)
 go_end0
 have q0 := kc_1.out
 have es : S.exchanged = ((S.put_phase 4).tell ⟨1, (((digitsK ((byR S ((pubK S.p.cfg.secret)) S.p.peerKey)) ((byR S S.p.peerKey ((pubK S.p.cfg.secret)))) ((byR S S.p.nonce S.p.other)) ((byR S S.p.other S.p.nonce))).toNat : Int)), 0#64, false, ⟨⟨0, 0#64⟩, 0#64⟩, 0⟩) := by unfold Sd.exchanged; exact es9
 rw [es]
 exact ⟨rfl, v_15, u_16, HM⟩
theorem sd_finish (base g : Nat) (S : Sd)  (v u : Value) (bx : List Bk) (w : World) (HM : Mem w w base S.sent S.told v u ((g, SideT, (sdL S v u).toArray) :: bx)) (lt : S.told.length ≤ 990) :
  Calls Tryd.prog 59 #[.pointer (some ⟨g, 0, none⟩)] w (fun e w' => e = .returned (.tuple #[]) ∧ SideR w w' base g S.finish bx) := by
 go_enter Tryd.func59, Tryd.ntmps59
 go_wp2_with (with_reducible refine so ?_)
 have hst : Stable fun W => Mem w W base S.sent S.told v u ((g, 109, (sdL S v u).toArray) :: bx) := stable_mem _ _ _ _ _ _ _
 refine wp_region_v _ 16 hst (HM.drew) ?_
 clear HM
 refine wpU_p 0 hst ?_
 refine wpU_p 1 hst ?_
 refine wpU_p 2 hst ?_
 refine wpU_p 3 hst ?_
 refine wpU_l 4 28 (featL S.p.req) (fun W hS => hS.b0) Tryd.underlying23 hst ?_
 refine wpU_p 5 hst ?_
 refine wpU_p 6 hst ?_
 refine wpU_p 7 hst ?_
 refine wpU_p 8 hst ?_
 refine wpU_l 9 34 (featL S.p.res) (fun W hS => hS.b0) Tryd.underlying23 hst ?_
 refine wpU_take (v := ?_) 10 hst (fun _ h => h) rfl ?_ ?_; rotate_left; (intro W hS K hK; go_simp; refine (me_Choose S.p.req S.p.res _ hS.laid).mono ?_; rintro e w9 ⟨rfl, hb⟩; refine CallPost.mk ?_; exact hK.out _ (hb)); simp only [nrm]
 refine wpU_p 11 hst ?_
 refine wpU_p 12 hst ?_
 refine wpU_p 13 hst ?_
 refine wpU_p 14 hst ?_
 refine wpU_p 15 hst ?_
 refine wpU_done (fun w_1 hS => ?_)
 have HM := hS
 clear hst
 go_wp2_with (with_reducible refine so ?_)
 refine sx 19 (.int .i64 7) (sdL (S.put_phase 7) v u).toArray HM.b0 ?_
 intro w_2 G_4 hU_3
 replace HM := HM.s0 hU_3 G_4
 clear hU_3 G_4
 go_wp2_with (with_reducible refine so ?_)
 try simp only [nrm]
 have hst : Stable fun W => Mem w W base S.sent S.told v u ((g, 109, (sdL (S.put_phase 7) v u).toArray) :: bx) := stable_mem _ _ _ _ _ _ _
 refine wp_region_hh (fun W => Mem w W base S.sent S.told v u ((g, 109, (sdL (S.put_phase 7) v u).toArray) :: bx)) 13 hst (HM.drew) ⟨by kernel_rfl, by kernel_rfl, by kernel_rfl, by decide⟩ (fun hR => ?_)
 clear HM
 refine wpH_p 0 hR hst ?_
 refine wpH_p 1 hR hst ?_
 refine wpH_p 2 hR hst ?_
 refine wpH_p 3 hR hst ?_
 refine wpH_p 4 hR hst ?_
 refine wpH_take (v := ?_) 5 hR hst rfl ?_ ?_; rotate_left; (intro W hS K hK; have ld : W.cell? ⟨g, 52, none⟩ = some (.int .u64 (W64 S.p.ltk)) := hS.b0.cell 52; clear hS; go_simp; exact hK.out _ (Below.refl _ _)); simp only [nrm]
 refine wpH_p 6 hR hst ?_
 refine wpH_p 7 hR hst ?_
 refine wpH_p 8 hR hst ?_
 refine wpH_p 9 hR hst ?_
 refine wpH_p 10 hR hst ?_
 refine wpH_take (v := .agg #[.int .i64 S.p.idn.adr.kind, .int .u64 (W64 S.p.idn.adr.bits), .int .u64 (W64 S.p.idn.irk)]) 11 hR hst rfl (fun W hS K hK => calm_load rfl rfl (load_part hS.b0 53 [.int .i64 S.p.idn.adr.kind, .int .u64 (W64 S.p.idn.adr.bits), .int .u64 (W64 S.p.idn.irk)] rfl Tryd.underlying29 rfl (by kernel_rfl)) (hK.out _ (Below.refl _ _))) ?_; simp only [nrm]
 refine wpH_p 12 hR hst ?_
 refine wpH_done (fun w_5 hS => ?_)
 have HM := hS
 clear hst
 dsimp only [List.drop]
 go_wp2_with (with_reducible refine so ?_)
 refine (sd_tell _ _ (S.put_phase 7) ⟨3, 0, S.p.ltk, (chooseK S.p.req S.p.res).2, ⟨⟨S.p.idn.adr.kind, S.p.idn.adr.bits⟩, S.p.idn.irk⟩, 0⟩ _ _ _ _ HM.here len9).mono ?_; rintro e w_6 ⟨rfl, v_8, u_9, HN_10⟩
 replace HM := HM.trans HN_10
 clear HN_10
 go_wp2_with (with_reducible refine so ?_)
 go_end0
 exact ⟨rfl, v_8, u_9, HM⟩
end Go.Proofs.YtihmbcnccdiecaaDoor
