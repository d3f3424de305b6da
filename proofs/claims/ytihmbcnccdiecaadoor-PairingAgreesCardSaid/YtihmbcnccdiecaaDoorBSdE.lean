/- Part of the proofs of the laws of pairing. -/
import Derived.Test.YtihmbcnccdiecaaDoorA2
import Derived.Test.YtihmbcnccdiecaaDoorBLowB
import Derived.Test.YtihmbcnccdiecaaDoorBLowC
import Derived.Test.YtihmbcnccdiecaaDoorBSdA
import Derived.Test.YtihmbcnccdiecaaDoorBSdB
import Derived.Test.YtihmbcnccdiecaaDoorBSdC
import Derived.Test.YtihmbcnccdiecaaDoorBSdD
namespace Go.Proofs.YtihmbcnccdiecaaDoor
set_option maxRecDepth 100000
open Go.ChangeShapes Go.WideShapes Go.ChangeAt Go.RowKit
set_option linter.unusedVariables false
set_option linter.unusedSimpArgs false
theorem sd_choose_t (base g : Nat) (S : Sd)  (v u : Value) (bx : List Bk) (w : World) (HM : Mem w w base S.sent S.told v u ((g, SideT, (sdL S v u).toArray) :: bx)) (h : enoughK S.p.req S.p.res = true) :
  Calls Tryd.prog 66 #[.pointer (some ⟨g, 0, none⟩)] w (fun e w' => e = .returned (.bool true) ∧ SideR w w' base g (((S.put_method (chooseK S.p.req S.p.res).1).put_phase 2)) bx) := by
 go_enter Tryd.func66, Tryd.ntmps66
 go_wp2_with (with_reducible refine so ?_)
 have hst : Stable fun W => Mem w W base S.sent S.told v u ((g, 109, (sdL S v u).toArray) :: bx) := stable_mem _ _ _ _ _ _ _
 refine wp_region_v _ 12 hst (HM.drew) ?_
 clear HM
 refine wpU_p 0 hst ?_
 refine wpU_p 1 hst ?_
 refine wpU_p 2 hst ?_
 refine wpU_p 3 hst ?_
 refine wpU_l 4 28 (featL S.p.req) (fun W hS => hS.b0) Tryd.underlying23 hst ?_
 refine wpU_p 5 hst ?_
 refine wpU_p 6 hst ?_
 refine wpU_p 7 hst ?_
 refine wpU_p 8 hst ?_
 refine wpU_l 9 34 (featL S.p.res) (fun W hS => hS.b0) Tryd.underlying23 hst ?_
 refine wpU_take (v := ?_) 10 hst (fun _ h => h) rfl ?_ ?_; rotate_left; (intro W hS K hK; go_simp; refine (me_Enough S.p.req S.p.res _ hS.laid).mono ?_; rintro e w9 ⟨rfl, hb⟩; refine CallPost.mk ?_; exact hK.out _ (hb)); simp only [nrm]
 refine wpU_p 11 hst ?_
 refine wpU_done (fun w_1 hS => ?_)
 have HM := hS
 clear hst
 go_wp2_with (with_reducible refine so ?_)
 try simp only [nrm]
 have hst : Stable fun W => Mem w W base S.sent S.told v u ((g, 109, (sdL S v u).toArray) :: bx) := stable_mem _ _ _ _ _ _ _
 refine wp_region_u (fun W => Mem w W base S.sent S.told v u ((g, 109, (sdL S v u).toArray) :: bx)) (fun W => ∃ x0, Mem w W base S.sent S.told v u ((g, 109, (sdL (S.put_method x0) v u).toArray) :: bx)) hst (fun W h => ⟨S.p.method, h⟩) HM.drew 19 ?_
 clear HM
 refine wpU_p 0 hst ?_ (h0 := fun _ h => ⟨S.p.method, h⟩)
 refine wpU_p 1 hst ?_ (h0 := fun _ h => ⟨S.p.method, h⟩)
 refine wpU_p 2 hst ?_ (h0 := fun _ h => ⟨S.p.method, h⟩)
 refine wpU_p 3 hst ?_ (h0 := fun _ h => ⟨S.p.method, h⟩)
 refine wpU_p 4 hst ?_ (h0 := fun _ h => ⟨S.p.method, h⟩)
 refine wpU_take (v := .agg (featL S.p.req).toArray) 5 hst (fun _ h => ⟨S.p.method, h⟩) rfl (fun W hS K hK => calm_load rfl rfl (load_part hS.choose_spec.b0 28 (featL S.p.req) rfl Tryd.underlying23 rfl (by kernel_rfl)) (hK.out _ (Below.refl _ _))) ?_; simp only [nrm]
 refine wpU_p 6 hst ?_ (h0 := fun _ h => ⟨S.p.method, h⟩)
 refine wpU_p 7 hst ?_ (h0 := fun _ h => ⟨S.p.method, h⟩)
 refine wpU_p 8 hst ?_ (h0 := fun _ h => ⟨S.p.method, h⟩)
 refine wpU_p 9 hst ?_ (h0 := fun _ h => ⟨S.p.method, h⟩)
 refine wpU_take (v := .agg (featL S.p.res).toArray) 10 hst (fun _ h => ⟨S.p.method, h⟩) rfl (fun W hS K hK => calm_load rfl rfl (load_part hS.choose_spec.b0 34 (featL S.p.res) rfl Tryd.underlying23 rfl (by kernel_rfl)) (hK.out _ (Below.refl _ _))) ?_; simp only [nrm]
 refine wpU_take (v := ?_) 11 hst (fun _ h => ⟨S.p.method, h⟩) rfl ?_ ?_; rotate_left; (intro W hS K hK; go_simp; refine (me_Choose S.p.req S.p.res _ hS.choose_spec.laid).mono ?_; rintro e w9 ⟨rfl, hb⟩; refine CallPost.mk ?_; exact hK.out _ (hb)); simp only [nrm]
 refine wpU_p 12 hst ?_ (h0 := fun _ h => ⟨S.p.method, h⟩)
 refine wpU_p 13 hst ?_ (h0 := fun _ h => ⟨S.p.method, h⟩)
 refine wpU_p 14 hst ?_ (h0 := fun _ h => ⟨S.p.method, h⟩)
 refine wpU_p 15 hst ?_ (h0 := fun _ h => ⟨S.p.method, h⟩)
 refine wpU_p 16 hst ?_ (h0 := fun _ h => ⟨S.p.method, h⟩)
 refine wpU_p 17 hst ?_ (h0 := fun _ h => ⟨S.p.method, h⟩)
 refine wpU_hole (S' := fun W => Mem w W base S.sent S.told v u ((g, 109, (sdL (S.put_method ((chooseK S.p.req S.p.res).1)) v u).toArray) :: bx)) 18 (.int .i64 ((chooseK S.p.req S.p.res).1)) rfl rfl rfl rfl (fun W hS => hS.hole1 21 (.int .i64 ((chooseK S.p.req S.p.res).1)) (sdL (S.put_method ((chooseK S.p.req S.p.res).1)) v u).toArray rfl (by kernel_rfl) rfl (of_decide_eq_true rfl) (by kernel_rfl)) (stable_mem _ _ _ _ _ _ _) (fun W h => ⟨(((chooseK S.p.req S.p.res).1)), h⟩) ?_; simp only [nrm]
 clear hst
 have hst : Stable fun W => Mem w W base S.sent S.told v u ((g, 109, (sdL (S.put_method ((chooseK S.p.req S.p.res).1)) v u).toArray) :: bx) := stable_mem _ _ _ _ _ _ _
 refine wpU_done (fun w_2 hS => ?_)
 have HM := hS
 clear hst
 go_wp2_with (with_reducible refine so ?_)
 refine sx 19 (.int .i64 2) (sdL ((S.put_method ((chooseK S.p.req S.p.res).1)).put_phase 2) v u).toArray HM.b0 ?_
 intro w_3 G_5 hU_4
 replace HM := HM.s0 hU_4 G_5
 clear hU_4 G_5
 go_wp2_with (with_reducible refine so ?_)
 go_returns
 exact ⟨rfl, v, u, HM⟩
theorem sd_choose_f (base g : Nat) (S : Sd)  (v u : Value) (bx : List Bk) (w : World) (HM : Mem w w base S.sent S.told v u ((g, SideT, (sdL S v u).toArray) :: bx)) (h : enoughK S.p.req S.p.res = false) :
  Calls Tryd.prog 66 #[.pointer (some ⟨g, 0, none⟩)] w (fun e w' => e = .returned (.bool false) ∧ SideR w w' base g ((S.fail 3)) bx) := by
 go_enter Tryd.func66, Tryd.ntmps66
 go_wp2_with (with_reducible refine so ?_)
 have hst : Stable fun W => Mem w W base S.sent S.told v u ((g, 109, (sdL S v u).toArray) :: bx) := stable_mem _ _ _ _ _ _ _
 refine wp_region_v _ 12 hst (HM.drew) ?_
 clear HM
 refine wpU_p 0 hst ?_
 refine wpU_p 1 hst ?_
 refine wpU_p 2 hst ?_
 refine wpU_p 3 hst ?_
 refine wpU_l 4 28 (featL S.p.req) (fun W hS => hS.b0) Tryd.underlying23 hst ?_
 refine wpU_p 5 hst ?_
 refine wpU_p 6 hst ?_
 refine wpU_p 7 hst ?_
 refine wpU_p 8 hst ?_
 refine wpU_l 9 34 (featL S.p.res) (fun W hS => hS.b0) Tryd.underlying23 hst ?_
 refine wpU_take (v := ?_) 10 hst (fun _ h => h) rfl ?_ ?_; rotate_left; (intro W hS K hK; go_simp; refine (me_Enough S.p.req S.p.res _ hS.laid).mono ?_; rintro e w9 ⟨rfl, hb⟩; refine CallPost.mk ?_; exact hK.out _ (hb)); simp only [nrm]
 refine wpU_p 11 hst ?_
 refine wpU_done (fun w_1 hS => ?_)
 have HM := hS
 clear hst
 go_wp2_with (with_reducible refine so ?_)
 refine (sd_fail _ _ S 3 _ _ _ _ HM.here).mono ?_; rintro e w_2 ⟨rfl, v_4, u_5, HN_6⟩
 replace HM := HM.trans HN_6
 clear HN_6
 go_wp2_with (with_reducible refine so ?_)
 go_returns
 exact ⟨rfl, v_4, u_5, HM⟩
set_option maxHeartbeats 1000000 in
theorem sd_take (base g : Nat) (S : Sd) (d : Sec) (v u : Value) (bx : List Bk) (w : World) (HM : Mem w w base S.sent S.told v u ((g, SideT, (sdL S v u).toArray) :: bx)) :
  Calls Tryd.prog 75 #[.pointer (some ⟨g, 0, none⟩), .agg (secL d).toArray] w (fun e w' => e = .returned (.bool (S.take d).2) ∧ SideR w w' base g ((S.take d).1) bx) := by
 go_enter Tryd.func75, Tryd.ntmps75
 go_wp2_with (with_reducible refine so ?_)
 refine HM.nw1 (ty := 43) (cs := (secL d).toArray) ?_; clear HM; intro g_1 w_2 HM
 by_cases hc_7 : (d.kind : Int) = 3
 ·
  obtain ⟨ec_7, ec_7n, kc_7⟩ := fT hc_7; clear hc_7
  rcases hc_8 : S.p.have_ with _ | _
  ·
   skip
   have ld_9 := HM.b1.c 0 (.int .i64 d.kind)
   have ld_10 := HM.b0.c 45 (.bool S.p.have_)
   go_wp2_with (with_reducible refine so ?_)
   refine (sd_accept _ _ S _ _ _ _ HM.here).mono ?_; rintro e w_11 ⟨rfl, v_13, u_14, HN_15⟩
   clear ld_9 ld_10
   replace HM := HM.trans HN_15
   clear HN_15
   have ld_16 := HM.b1.c 8 (.int .u64 (W64 d.value))
   go_wp2_with (with_reducible refine so ?_)
   refine sx 44 (.int .u64 (W64 d.value)) (sdL (S.accept.put_commit d.value) v_13 u_14).toArray HM.b0 ?_
   intro w_17 G_19 hU_18
   clear ld_16
   replace HM := HM.s0 hU_18 G_19
   clear hU_18 G_19
   go_wp2_with (with_reducible refine so ?_)
   refine sx 45 (.bool true) (sdL ((S.accept.put_commit d.value).put_have_ true) v_13 u_14).toArray HM.b0 ?_
   intro w_20 G_22 hU_21
   replace HM := HM.s0 hU_21 G_22
   clear hU_21 G_22
   go_wp2_with (with_reducible refine so ?_)
   go_returns
   have q0 := kc_7.out
   have es : S.take d = (((S.accept.put_commit d.value).put_have_ true), true) := by unfold Sd.take; exact es9
   rw [es]
   exact ⟨rfl, v_13, u_14, HM.drop1⟩
  skip
  have ld_23 := HM.b1.c 0 (.int .i64 d.kind)
  have ld_24 := HM.b0.c 45 (.bool S.p.have_)
  go_wp2_with (with_reducible refine so ?_)
  go_returns
  have q0 := kc_7.out
  have es : S.take d = (S, false) := by unfold Sd.take; exact es9
  rw [es]
  exact ⟨rfl, v, u, HM.drop1⟩
 obtain ⟨ec_7, ec_7n, kc_7⟩ := fF hc_7; clear hc_7
 have ld_25 := HM.b1.c 0 (.int .i64 d.kind)
 go_wp2_with (with_reducible refine so ?_)
 go_returns
 have q0 := kc_7.out
 have es : S.take d = (S, false) := by unfold Sd.take; exact es9
 rw [es]
 exact ⟨rfl, v, u, HM.drop1⟩
theorem take_t {S : Sd} {d : Sec} (h1 : d.kind = 3) (h2 : S.p.have_ = false) : S.take d = ((S.accept.put_commit d.value).put_have_ true, true) := by unfold Sd.take; rw [if_neg (by simp [h1, h2])]; rfl
theorem take_f {S : Sd} {d : Sec} (h : ¬ (d.kind = 3 ∧ S.p.have_ = false)) : S.take d = (S, false) := by
  unfold Sd.take; rw [if_pos]
  by_cases h1 : d.kind = 3
  · right
    cases h2 : S.p.have_
    · exact absurd ⟨h1, h2⟩ h
    · rfl
  · exact .inl h1
theorem sd_take_t (base g : Nat) (S : Sd) (d : Sec) (v u : Value) (bx : List Bk) (w : World) (HM : Mem w w base S.sent S.told v u ((g, SideT, (sdL S v u).toArray) :: bx))  (h1 : d.kind = 3) (h2 : S.p.have_ = false) :
    Calls Tryd.prog 75 #[.pointer (some ⟨g, 0, none⟩), .agg (secL d).toArray] w (fun e w' => e = .returned (.bool true) ∧ SideR w w' base g ((S.accept.put_commit d.value).put_have_ true) bx) := by
  have h := sd_take base g S d v u bx w HM 
  rw [take_t h1 h2] at h
  exact h
theorem sd_take_f (base g : Nat) (S : Sd) (d : Sec) (v u : Value) (bx : List Bk) (w : World) (HM : Mem w w base S.sent S.told v u ((g, SideT, (sdL S v u).toArray) :: bx))  (hh : ¬ (d.kind = 3 ∧ S.p.have_ = false)) :
    Calls Tryd.prog 75 #[.pointer (some ⟨g, 0, none⟩), .agg (secL d).toArray] w (fun e w' => e = .returned (.bool false) ∧ SideR w w' base g S bx) := by
  have h := sd_take base g S d v u bx w HM 
  rw [take_f hh] at h
  exact h
set_option maxHeartbeats 1000000 in
theorem sd_open (base g : Nat) (S : Sd) (d : Sec) (v u : Value) (bx : List Bk) (w : World) (HM : Mem w w base S.sent S.told v u ((g, SideT, (sdL S v u).toArray) :: bx)) (h0 : 0 ≤ S.p.round) (h1 : S.p.round ≤ 64) :
  Calls Tryd.prog 94 #[.pointer (some ⟨g, 0, none⟩), .agg (secL d).toArray] w (fun e w' => e = .returned (.bool (S.open_ d).2) ∧ SideR w w' base g ((S.open_ d).1) bx) := by
 go_enter Tryd.func94, Tryd.ntmps94
 go_wp2_with (with_reducible refine so ?_)
 refine HM.nw1 (ty := 43) (cs := (secL d).toArray) ?_; clear HM; intro g_1 w_2 HM
 go_wp2_with (with_reducible refine so ?_)
 refine (sd_accept _ _ S _ _ _ _ HM.here).mono ?_; rintro e w_7 ⟨rfl, v_9, u_10, HN_11⟩
 replace HM := HM.trans HN_11
 clear HN_11
 have ld_12 := HM.b1.c 8 (.int .u64 (W64 d.value))
 go_wp2_with (with_reducible refine so ?_)
 refine (sd_opens _ _ _ _ d.value _ HM.b0 h0 h1 (Sd.opens S.accept d.value) rfl).mono ?_; rintro e w_13 ⟨rfl, hb_14⟩
 clear ld_12
 replace HM := HM.to hb_14
 clear hb_14
 rcases hc_15 : Sd.opens S.accept d.value with _ | _
 ·
  skip
  go_wp2_with (with_reducible refine so ?_)
  refine (sd_fail _ _ S.accept 4 _ _ _ _ HM.here).mono ?_; rintro e w_16 ⟨rfl, v_18, u_19, HN_20⟩
  replace HM := HM.trans HN_20
  clear HN_20
  go_wp2_with (with_reducible refine so ?_)
  go_returns
  have es : S.open_ d = ((S.accept.fail 4), false) := by unfold Sd.open_; exact es9
  rw [es]
  exact ⟨rfl, v_18, u_19, HM.drop1⟩
 skip
 go_wp2_with (with_reducible refine so ?_)
 try simp only [nrm]
 have hst : Stable fun W => Mem w W base S.accept.sent S.accept.told v_9 u_10 ((g, 109, (sdL S.accept v_9 u_10).toArray) :: (g_1, 43, (secL d).toArray) :: bx) := stable_mem _ _ _ _ _ _ _
 refine wp_region_u (fun W => Mem w W base S.accept.sent S.accept.told v_9 u_10 ((g, 109, (sdL S.accept v_9 u_10).toArray) :: (g_1, 43, (secL d).toArray) :: bx)) (fun W => ∃ x0 x1 x2, Mem w W base S.accept.sent S.accept.told v_9 u_10 ((g, 109, (sdL (((S.accept.put_have_ x0).put_commit x1).put_other x2) v_9 u_10).toArray) :: (g_1, 43, (secL d).toArray) :: bx)) hst (fun W h => ⟨S.p.have_, S.p.commit, S.p.other, h⟩) HM.drew 17 ?_
 clear HM
 refine wpU_p 0 hst ?_ (h0 := fun _ h => ⟨S.p.have_, S.p.commit, S.p.other, h⟩)
 refine wpU_p 1 hst ?_ (h0 := fun _ h => ⟨S.p.have_, S.p.commit, S.p.other, h⟩)
 refine wpU_p 2 hst ?_ (h0 := fun _ h => ⟨S.p.have_, S.p.commit, S.p.other, h⟩)
 refine wpU_p 3 hst ?_ (h0 := fun _ h => ⟨S.p.have_, S.p.commit, S.p.other, h⟩)
 refine wpU_take (v := ?_) 4 hst (fun _ h => ⟨S.p.have_, S.p.commit, S.p.other, h⟩) rfl ?_ ?_; rotate_left; (intro W hS K hK; have ld : W.cell? ⟨g_1, 8, none⟩ = some (.int .u64 (W64 d.value)) := hS.choose_spec.choose_spec.choose_spec.b1.cell 8; clear hS; go_simp; exact hK.out _ (Below.refl _ _)); simp only [nrm]
 refine wpU_p 5 hst ?_ (h0 := fun _ h => ⟨S.p.have_, S.p.commit, S.p.other, h⟩)
 refine wpU_p 6 hst ?_ (h0 := fun _ h => ⟨S.p.have_, S.p.commit, S.p.other, h⟩)
 refine wpU_p 7 hst ?_ (h0 := fun _ h => ⟨S.p.have_, S.p.commit, S.p.other, h⟩)
 refine wpU_hole (S' := fun W => Mem w W base S.accept.sent S.accept.told v_9 u_10 ((g, 109, (sdL (S.accept.put_have_ false) v_9 u_10).toArray) :: (g_1, 43, (secL d).toArray) :: bx)) 8 (.bool false) rfl rfl rfl rfl (fun W hS => hS.hole1 45 (.bool false) (sdL (S.accept.put_have_ false) v_9 u_10).toArray rfl (by kernel_rfl) rfl (of_decide_eq_true rfl) (by kernel_rfl)) (stable_mem _ _ _ _ _ _ _) (fun W h => ⟨false, S.p.commit, S.p.other, h⟩) ?_; simp only [nrm]
 clear hst
 have hst : Stable fun W => Mem w W base S.accept.sent S.accept.told v_9 u_10 ((g, 109, (sdL (S.accept.put_have_ false) v_9 u_10).toArray) :: (g_1, 43, (secL d).toArray) :: bx) := stable_mem _ _ _ _ _ _ _
 refine wpU_p 9 hst ?_ (h0 := fun _ h => ⟨false, S.p.commit, S.p.other, h⟩)
 refine wpU_p 10 hst ?_ (h0 := fun _ h => ⟨false, S.p.commit, S.p.other, h⟩)
 refine wpU_p 11 hst ?_ (h0 := fun _ h => ⟨false, S.p.commit, S.p.other, h⟩)
 refine wpU_hole (S' := fun W => Mem w W base S.accept.sent S.accept.told v_9 u_10 ((g, 109, (sdL ((S.accept.put_have_ false).put_commit (0#64)) v_9 u_10).toArray) :: (g_1, 43, (secL d).toArray) :: bx)) 12 (.int .u64 0) rfl rfl rfl rfl (fun W hS => hS.hole1 44 (.int .u64 0) (sdL ((S.accept.put_have_ false).put_commit (0#64)) v_9 u_10).toArray rfl (by kernel_rfl) rfl (of_decide_eq_true rfl) (by kernel_rfl)) (stable_mem _ _ _ _ _ _ _) (fun W h => ⟨false, ((0#64)), S.p.other, h⟩) ?_; simp only [nrm]
 clear hst
 have hst : Stable fun W => Mem w W base S.accept.sent S.accept.told v_9 u_10 ((g, 109, (sdL ((S.accept.put_have_ false).put_commit (0#64)) v_9 u_10).toArray) :: (g_1, 43, (secL d).toArray) :: bx) := stable_mem _ _ _ _ _ _ _
 refine wpU_p 13 hst ?_ (h0 := fun _ h => ⟨false, ((0#64)), S.p.other, h⟩)
 refine wpU_p 14 hst ?_ (h0 := fun _ h => ⟨false, ((0#64)), S.p.other, h⟩)
 refine wpU_p 15 hst ?_ (h0 := fun _ h => ⟨false, ((0#64)), S.p.other, h⟩)
 refine wpU_hole (S' := fun W => Mem w W base S.accept.sent S.accept.told v_9 u_10 ((g, 109, (sdL (((S.accept.put_have_ false).put_commit (0#64)).put_other d.value) v_9 u_10).toArray) :: (g_1, 43, (secL d).toArray) :: bx)) 16 (.int .u64 (W64 d.value)) rfl rfl rfl rfl (fun W hS => hS.hole1 43 (.int .u64 (W64 d.value)) (sdL (((S.accept.put_have_ false).put_commit (0#64)).put_other d.value) v_9 u_10).toArray rfl (by kernel_rfl) rfl (of_decide_eq_true rfl) (by kernel_rfl)) (stable_mem _ _ _ _ _ _ _) (fun W h => ⟨false, ((0#64)), d.value, h⟩) ?_; simp only [nrm]
 clear hst
 have hst : Stable fun W => Mem w W base S.accept.sent S.accept.told v_9 u_10 ((g, 109, (sdL (((S.accept.put_have_ false).put_commit (0#64)).put_other d.value) v_9 u_10).toArray) :: (g_1, 43, (secL d).toArray) :: bx) := stable_mem _ _ _ _ _ _ _
 refine wpU_done (fun w_21 hS => ?_)
 have HM := hS
 clear hst
 go_wp2_with (with_reducible refine so ?_)
 go_returns
 have es : S.open_ d = ((((S.accept.put_have_ false).put_commit (0#64)).put_other d.value), true) := by unfold Sd.open_; exact es9
 rw [es]
 exact ⟨rfl, v_9, u_10, HM.drop1⟩
theorem open_t {S : Sd} {d : Sec} (h : S.opens d.value = true) : S.open_ d = (((S.accept.put_have_ false).put_commit 0#64).put_other d.value, true) := by unfold Sd.open_; rw [if_neg (by simp [h])]; rfl
theorem open_f {S : Sd} {d : Sec} (h : S.opens d.value = false) : S.open_ d = (S.accept.fail 4, false) := by unfold Sd.open_; rw [if_pos h]
theorem sd_open_t (base g : Nat) (S : Sd) (d : Sec) (v u : Value) (bx : List Bk) (w : World) (HM : Mem w w base S.sent S.told v u ((g, SideT, (sdL S v u).toArray) :: bx)) (h0 : 0 ≤ S.p.round) (h1 : S.p.round ≤ 64) (hh : S.opens d.value = true) :
    Calls Tryd.prog 94 #[.pointer (some ⟨g, 0, none⟩), .agg (secL d).toArray] w (fun e w' => e = .returned (.bool true) ∧ SideR w w' base g (((S.accept.put_have_ false).put_commit 0#64).put_other d.value) bx) := by
  have h := sd_open base g S d v u bx w HM h0 h1
  rw [open_t hh] at h
  exact h
theorem sd_open_f (base g : Nat) (S : Sd) (d : Sec) (v u : Value) (bx : List Bk) (w : World) (HM : Mem w w base S.sent S.told v u ((g, SideT, (sdL S v u).toArray) :: bx)) (h0 : 0 ≤ S.p.round) (h1 : S.p.round ≤ 64) (hh : S.opens d.value = false) :
    Calls Tryd.prog 94 #[.pointer (some ⟨g, 0, none⟩), .agg (secL d).toArray] w (fun e w' => e = .returned (.bool false) ∧ SideR w w' base g (S.accept.fail 4) bx) := by
  have h := sd_open base g S d v u bx w HM h0 h1
  rw [open_f hh] at h
  exact h
theorem sd_identity_t (base g : Nat) (S : Sd)  (v u : Value) (bx : List Bk) (w : World) (HM : Mem w w base S.sent S.told v u ((g, SideT, (sdL S v u).toArray) :: bx)) (ls : S.sent.length ≤ 990) (h : byR S (identsK S.p.req S.p.res).1 (identsK S.p.req S.p.res).2 = true) :
  Calls Tryd.prog 58 #[.pointer (some ⟨g, 0, none⟩)] w (fun e w' => e = .returned (.tuple #[]) ∧ SideR w w' base g ((S.send { sec0 with kind := 8, idn := S.p.cfg.idn })) bx) := by
 go_enter Tryd.func58, Tryd.ntmps58
 go_wp2_with (with_reducible refine so ?_)
 refine (sd_distributes _ _ _ _ _ HM.b0 (byR S (identsK S.p.req S.p.res).1 (identsK S.p.req S.p.res).2, byR S (identsK S.p.req S.p.res).2 (identsK S.p.req S.p.res).1) rfl).mono ?_; rintro e w_1 ⟨rfl, hb_2⟩
 replace HM := HM.to hb_2
 clear hb_2
 go_wp2_with (first | (with_reducible refine so ?_) | (with_reducible refine ld 11 [.int .i64 S.p.cfg.idn.adr.kind, .int .u64 (W64 S.p.cfg.idn.adr.bits), .int .u64 (W64 S.p.cfg.idn.irk)] HM.b0 Tryd.underlying29 ?_))
 refine (sd_send _ _ S ⟨8, ⟨0, false, false, false, false, false⟩, 0#32, 0#64, ⟨⟨S.p.cfg.idn.adr.kind, S.p.cfg.idn.adr.bits⟩, S.p.cfg.idn.irk⟩, 0⟩ _ _ _ _ HM.here len9).mono ?_; rintro e w_4 ⟨rfl, v_6, u_7, HN_8⟩
 replace HM := HM.trans HN_8
 clear HN_8
 go_wp2_with (with_reducible refine so ?_)
 go_end0
 exact ⟨rfl, v_6, u_7, HM⟩
theorem sd_identity_f (base g : Nat) (S : Sd)  (v u : Value) (bx : List Bk) (w : World) (HM : Mem w w base S.sent S.told v u ((g, SideT, (sdL S v u).toArray) :: bx)) (ls : S.sent.length ≤ 990) (h : byR S (identsK S.p.req S.p.res).1 (identsK S.p.req S.p.res).2 = false) :
  Calls Tryd.prog 58 #[.pointer (some ⟨g, 0, none⟩)] w (fun e w' => e = .returned (.tuple #[]) ∧ SideR w w' base g S bx) := by
 go_enter Tryd.func58, Tryd.ntmps58
 go_wp2_with (with_reducible refine so ?_)
 refine (sd_distributes _ _ _ _ _ HM.b0 (byR S (identsK S.p.req S.p.res).1 (identsK S.p.req S.p.res).2, byR S (identsK S.p.req S.p.res).2 (identsK S.p.req S.p.res).1) rfl).mono ?_; rintro e w_1 ⟨rfl, hb_2⟩
 replace HM := HM.to hb_2
 clear hb_2
 go_wp2_with (with_reducible refine so ?_)
 go_end0
 exact ⟨rfl, v, u, HM⟩
theorem rem_in (x : BitVec 64) : IntKind.i64.wrap (W64 (x % 1000000#64)) = W64 (x % 1000000#64) := IntWalk.i64_in _ (by
  have h : (x % 1000000#64).toNat < 1000000 := by rw [BitVec.toNat_umod]; exact Nat.mod_lt _ (by decide)
  unfold W64
  omega)
theorem sd_begin (base g : Nat) (S : Sd)  (v u : Value) (bx : List Bk) (w : World) (HM : Mem w w base S.sent S.told v u ((g, SideT, (sdL S v u).toArray) :: bx)) (ls : S.sent.length ≤ 950) (lt : S.told.length ≤ 950) (h0 : 0 ≤ S.p.round) (h1 : S.p.round ≤ 64) :
  Calls Tryd.prog 69 #[.pointer (some ⟨g, 0, none⟩)] w (fun e w' => e = .returned (.tuple #[]) ∧ SideR w w' base g S.begin_ bx) := by
 have ew := rem_in (S.put_phase 3).drawV
 go_enter Tryd.func69, Tryd.ntmps69
 go_wp2_with (with_reducible refine so ?_)
 refine sx 19 (.int .i64 3) (sdL (S.put_phase 3) v u).toArray HM.b0 ?_
 intro w_1 G_3 hU_2
 replace HM := HM.s0 hU_2 G_3
 clear hU_2 G_3
 by_cases hc_4 : (S.p.method : Int) = 6
 ·
  obtain ⟨ec_4, ec_4n, kc_4⟩ := fT hc_4; clear hc_4
  have ld_5 := HM.b0.c 21 (.int .i64 S.p.method)
  go_wp2_with (with_reducible refine so ?_)
  refine (sd_first _ _ _ _  _ HM.b0 S.first rfl).mono ?_; rintro e w_6 ⟨rfl, hb_7⟩
  clear ld_5
  replace HM := HM.to hb_7
  clear hb_7
  rcases hc_8 : S.first with _ | _
  ·
   skip
   go_wp2_with (with_reducible refine so ?_)
   go_end0
   have q0 := kc_4.out
   have es : S.begin_ = (S.put_phase 3) := by unfold Sd.begin_; exact es9
   rw [es]
   exact ⟨rfl, v, u, HM⟩
  skip
  go_wp2_with (with_reducible refine so ?_)
  refine (sd_draw _ _ (S.put_phase 3) _ _ _ _ HM.here).mono ?_; rintro e w_9 ⟨rfl, v_11, u_12, HN_13⟩
  replace HM := HM.trans HN_13
  clear HN_13
  go_wp2_with (with_reducible refine so ?_)
  refine sx 42 (.int .u64 (W64 (drawK S.p.cfg.seed S.p.drawn))) (sdL (((S.put_phase 3).draw).put_nonce (drawK S.p.cfg.seed S.p.drawn)) v_11 u_12).toArray HM.b0 ?_
  intro w_14 G_16 hU_15
  replace HM := HM.s0 hU_15 G_16
  clear hU_15 G_16
  go_wp2_with (with_reducible refine so ?_)
  refine (sd_random _ _ (((S.put_phase 3).draw).put_nonce (drawK S.p.cfg.seed S.p.drawn)) _ _ _ _ HM.here len9).mono ?_; rintro e w_17 ⟨rfl, v_19, u_20, HN_21⟩
  replace HM := HM.trans HN_21
  clear HN_21
  go_wp2_with (with_reducible refine so ?_)
  go_end0
  have q0 := kc_4.out
  have es : S.begin_ = ((((S.put_phase 3).draw).put_nonce (drawK S.p.cfg.seed S.p.drawn)).random) := by unfold Sd.begin_; exact es9
  rw [es]
  exact ⟨rfl, v_19, u_20, HM⟩
 obtain ⟨ec_4, ec_4n, kc_4⟩ := fF hc_4; clear hc_4
 have ld_22 := HM.b0.c 21 (.int .i64 S.p.method)
 go_wp2_with (with_reducible refine so ?_)
 refine (sd_passkey _ _ _ _  _ HM.b0 (isPass S.p.method) rfl).mono ?_; rintro e w_23 ⟨rfl, hb_24⟩
 clear ld_22
 replace HM := HM.to hb_24
 clear hb_24
 rcases hc_25 : isPass S.p.method with _ | _
 ·
  skip
  go_wp2_with (with_reducible refine so ?_)
  refine (sd_first _ _ _ _  _ HM.b0 S.first rfl).mono ?_; rintro e w_26 ⟨rfl, hb_27⟩
  replace HM := HM.to hb_27
  clear hb_27
  rcases hc_28 : S.first with _ | _
  ·
   skip
   go_wp2_with (with_reducible refine so ?_)
   refine (sd_commit _ _ (S.put_phase 3) _ _ _ _ HM.here len9 (by first | exact h0 | exact h0p) (by first | exact h1 | exact h1p)).mono ?_; rintro e w_29 ⟨rfl, v_31, u_32, HN_33⟩
   replace HM := HM.trans HN_33
   clear HN_33
   go_wp2_with (with_reducible refine so ?_)
   go_end0
   have q0 := kc_4.out
   have es : S.begin_ = ((S.put_phase 3).commit) := by unfold Sd.begin_; exact es9
   rw [es]
   exact ⟨rfl, v_31, u_32, HM⟩
  skip
  go_wp2_with (with_reducible refine so ?_)
  go_end0
  have q0 := kc_4.out
  have es : S.begin_ = (S.put_phase 3) := by unfold Sd.begin_; exact es9
  rw [es]
  exact ⟨rfl, v, u, HM⟩
 skip
 go_wp2_with (with_reducible refine so ?_)
 refine (sd_shows _ _ _ _  _ HM.b0 (Sd.shows (S.put_phase 3)) rfl).mono ?_; rintro e w_34 ⟨rfl, hb_35⟩
 replace HM := HM.to hb_35
 clear hb_35
 rcases hc_36 : Sd.shows (S.put_phase 3) with _ | _
 ·
  skip
  go_wp2_with (with_reducible refine so ?_)
  refine sx 19 (.int .i64 4) (sdL ((S.put_phase 3).put_phase 4) v u).toArray HM.b0 ?_
  intro w_37 G_39 hU_38
  replace HM := HM.s0 hU_38 G_39
  clear hU_38 G_39
  go_wp2_with (with_reducible refine so ?_)
  refine (sd_tell _ _ ((S.put_phase 3).put_phase 4) ⟨2, 0, 0#64, false, ⟨⟨0, 0#64⟩, 0#64⟩, 0⟩ _ _ _ _ HM.here len9).mono ?_; rintro e w_40 ⟨rfl, v_42, u_43, HN_44⟩
  replace HM := HM.trans HN_44
  clear HN_44
  go_wp2_with (with_reducible refine so ?_)
  go_end0
  have q0 := kc_4.out
  have es : S.begin_ = (((S.put_phase 3).put_phase 4).tell ⟨2, 0, 0#64, false, ⟨⟨0, 0#64⟩, 0#64⟩, 0⟩) := by unfold Sd.begin_; exact es9
  rw [es]
  exact ⟨rfl, v_42, u_43, HM⟩
 skip
 go_wp2_with (with_reducible refine so ?_)
 refine (sd_draw _ _ (S.put_phase 3) _ _ _ _ HM.here).mono ?_; rintro e w_45 ⟨rfl, v_47, u_48, HN_49⟩
 replace HM := HM.trans HN_49
 clear HN_49
 go_wp2_with (with_reducible refine so ?_)
 refine sx 46 (.int .i64 (W64 ((drawK S.p.cfg.seed S.p.drawn) % (1000000#64)))) (sdL (((S.put_phase 3).draw).put_passkey (W64 ((drawK S.p.cfg.seed S.p.drawn) % (1000000#64)))) v_47 u_48).toArray HM.b0 ?_
 intro w_50 G_52 hU_51
 replace HM := HM.s0 hU_51 G_52
 clear hU_51 G_52
 have ld_53 := HM.b0.c 46 (.int .i64 (W64 ((drawK S.p.cfg.seed S.p.drawn) % (1000000#64))))
 go_wp2_with (with_reducible refine so ?_)
 refine (sd_tell _ _ (((S.put_phase 3).draw).put_passkey (W64 ((drawK S.p.cfg.seed S.p.drawn) % (1000000#64)))) ⟨1, (W64 ((drawK S.p.cfg.seed S.p.drawn) % (1000000#64))), 0#64, false, ⟨⟨0, 0#64⟩, 0#64⟩, 0⟩ _ _ _ _ HM.here len9).mono ?_; rintro e w_54 ⟨rfl, v_56, u_57, HN_58⟩
 clear ld_53
 replace HM := HM.trans HN_58
 clear HN_58
 go_wp2_with (with_reducible refine so ?_)
 refine (sd_first _ _ _ _  _ HM.b0 S.first rfl).mono ?_; rintro e w_59 ⟨rfl, hb_60⟩
 replace HM := HM.to hb_60
 clear hb_60
 rcases hc_61 : S.first with _ | _
 ·
  skip
  go_wp2_with (with_reducible refine so ?_)
  go_end0
  have q0 := kc_4.out
  have es : S.begin_ = ((((S.put_phase 3).draw).put_passkey (W64 ((drawK S.p.cfg.seed S.p.drawn) % (1000000#64)))).tell ⟨1, (W64 ((drawK S.p.cfg.seed S.p.drawn) % (1000000#64))), 0#64, false, ⟨⟨0, 0#64⟩, 0#64⟩, 0⟩) := by unfold Sd.begin_; exact es9
  rw [es]
  exact ⟨rfl, v_56, u_57, HM⟩
 skip
 go_wp2_with (with_reducible refine so ?_)
 refine (sd_commit _ _ ((((S.put_phase 3).draw).put_passkey (W64 ((drawK S.p.cfg.seed S.p.drawn) % (1000000#64)))).tell ⟨1, (W64 ((drawK S.p.cfg.seed S.p.drawn) % (1000000#64))), 0#64, false, ⟨⟨0, 0#64⟩, 0#64⟩, 0⟩) _ _ _ _ HM.here len9 (by first | exact h0 | exact h0p) (by first | exact h1 | exact h1p)).mono ?_; rintro e w_62 ⟨rfl, v_64, u_65, HN_66⟩
 replace HM := HM.trans HN_66
 clear HN_66
 go_wp2_with (with_reducible refine so ?_)
 go_end0
 have q0 := kc_4.out
 have es : S.begin_ = (((((S.put_phase 3).draw).put_passkey (W64 ((drawK S.p.cfg.seed S.p.drawn) % (1000000#64)))).tell ⟨1, (W64 ((drawK S.p.cfg.seed S.p.drawn) % (1000000#64))), 0#64, false, ⟨⟨0, 0#64⟩, 0#64⟩, 0⟩).commit) := by unfold Sd.begin_; exact es9
 rw [es]
 exact ⟨rfl, v_64, u_65, HM⟩
end Go.Proofs.YtihmbcnccdiecaaDoor
