/- Part of the proofs of the laws of pairing. -/
import Derived.Test.YtihmbcnccdiecaaDoorA2
import Derived.Test.YtihmbcnccdiecaaDoorBLowB
import Derived.Test.YtihmbcnccdiecaaDoorBLowC
import Derived.Test.YtihmbcnccdiecaaDoorBSdA
import Derived.Test.YtihmbcnccdiecaaDoorBSdB
import Derived.Test.YtihmbcnccdiecaaDoorBSdC
import Derived.Test.YtihmbcnccdiecaaDoorBSdD
import Derived.Test.YtihmbcnccdiecaaDoorBSdE
namespace Go.Proofs.YtihmbcnccdiecaaDoor
set_option maxRecDepth 100000
open Go.ChangeShapes Go.WideShapes Go.ChangeAt Go.RowKit
set_option linter.unusedVariables false
set_option linter.unusedSimpArgs false
set_option maxHeartbeats 4000000 in
theorem sd_authFirst (base g : Nat) (S : Sd) (d : Sec) (v u : Value) (bx : List Bk) (w : World) (HM : Mem w w base S.sent S.told v u ((g, SideT, (sdL S v u).toArray) :: bx)) (ls : S.sent.length ≤ 920) (lt : S.told.length ≤ 920) (h0 : 0 ≤ S.p.round) (h1 : S.p.round ≤ 64) :
  Calls Tryd.prog 72 #[.pointer (some ⟨g, 0, none⟩), .agg (secL d).toArray] w (fun e w' => e = .returned (.bool (S.authFirst d).2) ∧ SideR w w' base g ((S.authFirst d).1) bx) := by
 go_enter Tryd.func72, Tryd.ntmps72
 go_wp2_with (with_reducible refine so ?_)
 refine HM.nw1 (ty := 43) (cs := (secL d).toArray) ?_; clear HM; intro g_1 w_2 HM
 by_cases hc_7 : (d.kind : Int) = 3
 ·
  obtain ⟨ec_7, ec_7n, kc_7⟩ := fT hc_7; clear hc_7
  rcases hc_8 : S.p.have_ with _ | _
  ·
   skip
   go_wp2_with (first | (with_reducible refine so ?_) | (with_reducible refine ld 0 (secL d) HM.b1 Tryd.underlying43 ?_))
   refine (sd_take_t _ _ S d _ _ _ _ HM.here kc_7.out hc_8).mono ?_; rintro e w_10 ⟨rfl, v_12, u_13, HN_14⟩
   replace HM := HM.trans HN_14
   clear HN_14
   go_wp2_with (with_reducible refine so ?_)
   refine (sd_draw _ _ (((S.accept.put_commit d.value).put_have_ true)) _ _ _ _ HM.here).mono ?_; rintro e w_15 ⟨rfl, v_17, u_18, HN_19⟩
   replace HM := HM.trans HN_19
   clear HN_19
   go_wp2_with (with_reducible refine so ?_)
   refine sx 42 (.int .u64 (W64 (drawK S.p.cfg.seed S.p.drawn))) (sdL (((((S.accept.put_commit d.value).put_have_ true)).draw).put_nonce (drawK S.p.cfg.seed S.p.drawn)) v_17 u_18).toArray HM.b0 ?_
   intro w_20 G_22 hU_21
   replace HM := HM.s0 hU_21 G_22
   clear hU_21 G_22
   go_wp2_with (with_reducible refine so ?_)
   refine (sd_random _ _ (((((S.accept.put_commit d.value).put_have_ true)).draw).put_nonce (drawK S.p.cfg.seed S.p.drawn)) _ _ _ _ HM.here len9).mono ?_; rintro e w_23 ⟨rfl, v_25, u_26, HN_27⟩
   replace HM := HM.trans HN_27
   clear HN_27
   go_wp2_with (with_reducible refine so ?_)
   go_returns
   have q0 := kc_7.out
   have es : S.authFirst d = (((((((S.accept.put_commit d.value).put_have_ true)).draw).put_nonce (drawK S.p.cfg.seed S.p.drawn)).random), true) := by unfold Sd.authFirst; exact es9
   rw [es]
   exact ⟨rfl, v_25, u_26, HM.drop1⟩
  skip
  go_wp2_with (first | (with_reducible refine so ?_) | (with_reducible refine ld 0 (secL d) HM.b1 Tryd.underlying43 ?_))
  refine (sd_take_f _ _ S d _ _ _ _ HM.here (fun hh => absurd ((hc_8).symm.trans hh.2) (by decide))).mono ?_; rintro e w_29 ⟨rfl, v_31, u_32, HN_33⟩
  replace HM := HM.trans HN_33
  clear HN_33
  by_cases hc_34 : (d.kind : Int) = 4
  ·
   obtain ⟨ec_34, ec_34n, kc_34⟩ := fT hc_34; clear hc_34
   rcases hc_35 : Sd.opens S d.value with _ | _
   ·
    skip
    have ld_36 := HM.b1.c 0 (.int .i64 d.kind)
    have ld_37 := HM.b0.c 45 (.bool S.p.have_)
    go_wp2_with (first | (with_reducible refine so ?_) | (with_reducible refine ld 0 (secL d) HM.b1 Tryd.underlying43 ?_))
    refine (sd_open_f _ _ S d _ _ _ _ HM.here (by first | exact h0 | exact h0p) (by first | exact h1 | exact h1p) hc_35).mono ?_; rintro e w_39 ⟨rfl, v_41, u_42, HN_43⟩
    clear ld_36 ld_37
    replace HM := HM.trans HN_43
    clear HN_43
    go_wp2_with (with_reducible refine so ?_)
    go_returns
    have q0 := kc_7.out
    have q2 := kc_34.out
    have es : S.authFirst d = (((S.accept.fail 4)), true) := by unfold Sd.authFirst; exact es9
    rw [es]
    exact ⟨rfl, v_41, u_42, HM.drop1⟩
   skip
   have ld_44 := HM.b1.c 0 (.int .i64 d.kind)
   have ld_45 := HM.b0.c 45 (.bool S.p.have_)
   go_wp2_with (first | (with_reducible refine so ?_) | (with_reducible refine ld 0 (secL d) HM.b1 Tryd.underlying43 ?_))
   refine (sd_open_t _ _ S d _ _ _ _ HM.here (by first | exact h0 | exact h0p) (by first | exact h1 | exact h1p) hc_35).mono ?_; rintro e w_47 ⟨rfl, v_49, u_50, HN_51⟩
   clear ld_44 ld_45
   replace HM := HM.trans HN_51
   clear HN_51
   go_wp2_with (with_reducible refine so ?_)
   refine (sd_exchanged _ _ ((((S.accept.put_have_ false).put_commit 0#64).put_other d.value)) _ _ _ _ HM.here len9 len9).mono ?_; rintro e w_52 ⟨rfl, v_54, u_55, HN_56⟩
   replace HM := HM.trans HN_56
   clear HN_56
   go_wp2_with (with_reducible refine so ?_)
   go_returns
   have q0 := kc_7.out
   have q2 := kc_34.out
   have es : S.authFirst d = ((((((S.accept.put_have_ false).put_commit 0#64).put_other d.value)).exchanged), true) := by unfold Sd.authFirst; exact es9
   rw [es]
   exact ⟨rfl, v_54, u_55, HM.drop1⟩
  obtain ⟨ec_34, ec_34n, kc_34⟩ := fF hc_34; clear hc_34
  have ld_57 := HM.b1.c 0 (.int .i64 d.kind)
  go_wp2_with (with_reducible refine so ?_)
  go_returns
  have q0 := kc_7.out
  have q2 := kc_34.out
  have es : S.authFirst d = (S, false) := by unfold Sd.authFirst; exact es9
  rw [es]
  exact ⟨rfl, v_31, u_32, HM.drop1⟩
 obtain ⟨ec_7, ec_7n, kc_7⟩ := fF hc_7; clear hc_7
 go_wp2_with (first | (with_reducible refine so ?_) | (with_reducible refine ld 0 (secL d) HM.b1 Tryd.underlying43 ?_))
 refine (sd_take_f _ _ S d _ _ _ _ HM.here (fun hh => kc_7.out hh.1)).mono ?_; rintro e w_59 ⟨rfl, v_61, u_62, HN_63⟩
 replace HM := HM.trans HN_63
 clear HN_63
 by_cases hc_64 : (d.kind : Int) = 4
 ·
  obtain ⟨ec_64, ec_64n, kc_64⟩ := fT hc_64; clear hc_64
  rcases hc_65 : S.p.have_ with _ | _
  ·
   skip
   have ld_66 := HM.b1.c 0 (.int .i64 d.kind)
   have ld_67 := HM.b0.c 45 (.bool S.p.have_)
   go_wp2_with (with_reducible refine so ?_)
   go_returns
   have q0 := kc_7.out
   have q1 := kc_64.out
   have es : S.authFirst d = (S, false) := by unfold Sd.authFirst; exact es9
   rw [es]
   exact ⟨rfl, v_61, u_62, HM.drop1⟩
  skip
  rcases hc_68 : Sd.opens S d.value with _ | _
  ·
   skip
   have ld_69 := HM.b1.c 0 (.int .i64 d.kind)
   have ld_70 := HM.b0.c 45 (.bool S.p.have_)
   go_wp2_with (first | (with_reducible refine so ?_) | (with_reducible refine ld 0 (secL d) HM.b1 Tryd.underlying43 ?_))
   refine (sd_open_f _ _ S d _ _ _ _ HM.here (by first | exact h0 | exact h0p) (by first | exact h1 | exact h1p) hc_68).mono ?_; rintro e w_72 ⟨rfl, v_74, u_75, HN_76⟩
   clear ld_69 ld_70
   replace HM := HM.trans HN_76
   clear HN_76
   go_wp2_with (with_reducible refine so ?_)
   go_returns
   have q0 := kc_7.out
   have q1 := kc_64.out
   have es : S.authFirst d = (((S.accept.fail 4)), true) := by unfold Sd.authFirst; exact es9
   rw [es]
   exact ⟨rfl, v_74, u_75, HM.drop1⟩
  skip
  have ld_77 := HM.b1.c 0 (.int .i64 d.kind)
  have ld_78 := HM.b0.c 45 (.bool S.p.have_)
  go_wp2_with (first | (with_reducible refine so ?_) | (with_reducible refine ld 0 (secL d) HM.b1 Tryd.underlying43 ?_))
  refine (sd_open_t _ _ S d _ _ _ _ HM.here (by first | exact h0 | exact h0p) (by first | exact h1 | exact h1p) hc_68).mono ?_; rintro e w_80 ⟨rfl, v_82, u_83, HN_84⟩
  clear ld_77 ld_78
  replace HM := HM.trans HN_84
  clear HN_84
  go_wp2_with (with_reducible refine so ?_)
  refine (sd_exchanged _ _ ((((S.accept.put_have_ false).put_commit 0#64).put_other d.value)) _ _ _ _ HM.here len9 len9).mono ?_; rintro e w_85 ⟨rfl, v_87, u_88, HN_89⟩
  replace HM := HM.trans HN_89
  clear HN_89
  go_wp2_with (with_reducible refine so ?_)
  go_returns
  have q0 := kc_7.out
  have q1 := kc_64.out
  have es : S.authFirst d = ((((((S.accept.put_have_ false).put_commit 0#64).put_other d.value)).exchanged), true) := by unfold Sd.authFirst; exact es9
  rw [es]
  exact ⟨rfl, v_87, u_88, HM.drop1⟩
 obtain ⟨ec_64, ec_64n, kc_64⟩ := fF hc_64; clear hc_64
 have ld_90 := HM.b1.c 0 (.int .i64 d.kind)
 go_wp2_with (with_reducible refine so ?_)
 go_returns
 have q0 := kc_7.out
 have q1 := kc_64.out
 have es : S.authFirst d = (S, false) := by unfold Sd.authFirst; exact es9
 rw [es]
 exact ⟨rfl, v_61, u_62, HM.drop1⟩
set_option maxHeartbeats 4000000 in
theorem sd_authOOB (base g : Nat) (S : Sd) (d : Sec) (v u : Value) (bx : List Bk) (w : World) (HM : Mem w w base S.sent S.told v u ((g, SideT, (sdL S v u).toArray) :: bx)) (ls : S.sent.length ≤ 920) (lt : S.told.length ≤ 920) :
  Calls Tryd.prog 70 #[.pointer (some ⟨g, 0, none⟩), .agg (secL d).toArray] w (fun e w' => e = .returned (.bool (S.authOOB d).2) ∧ SideR w w' base g ((S.authOOB d).1) bx) := by
 go_enter Tryd.func70, Tryd.ntmps70
 go_wp2_with (with_reducible refine so ?_)
 refine HM.nw1 (ty := 43) (cs := (secL d).toArray) ?_; clear HM; intro g_1 w_2 HM
 by_cases hc_7 : (d.kind : Int) = 4
 ·
  obtain ⟨ec_7, ec_7n, kc_7⟩ := fT hc_7; clear hc_7
  have ld_8 := HM.b1.c 0 (.int .i64 d.kind)
  go_wp2_with (with_reducible refine so ?_)
  refine (sd_accept _ _ S _ _ _ _ HM.here).mono ?_; rintro e w_9 ⟨rfl, v_11, u_12, HN_13⟩
  clear ld_8
  replace HM := HM.trans HN_13
  clear HN_13
  have ld_14 := HM.b1.c 8 (.int .u64 (W64 d.value))
  go_wp2_with (with_reducible refine so ?_)
  refine sx 43 (.int .u64 (W64 d.value)) (sdL (S.accept.put_other d.value) v_11 u_12).toArray HM.b0 ?_
  intro w_15 G_17 hU_16
  clear ld_14
  replace HM := HM.s0 hU_16 G_17
  clear hU_16 G_17
  go_wp2_with (with_reducible refine so ?_)
  refine (sd_first _ _ _ _  _ HM.b0 S.first rfl).mono ?_; rintro e w_18 ⟨rfl, hb_19⟩
  replace HM := HM.to hb_19
  clear hb_19
  rcases hc_20 : S.first with _ | _
  ·
   skip
   go_wp2_with (with_reducible refine so ?_)
   refine (sd_draw _ _ (S.accept.put_other d.value) _ _ _ _ HM.here).mono ?_; rintro e w_21 ⟨rfl, v_23, u_24, HN_25⟩
   replace HM := HM.trans HN_25
   clear HN_25
   go_wp2_with (with_reducible refine so ?_)
   refine sx 42 (.int .u64 (W64 (drawK S.p.cfg.seed S.p.drawn))) (sdL (((S.accept.put_other d.value).draw).put_nonce (drawK S.p.cfg.seed S.p.drawn)) v_23 u_24).toArray HM.b0 ?_
   intro w_26 G_28 hU_27
   replace HM := HM.s0 hU_27 G_28
   clear hU_27 G_28
   go_wp2_with (with_reducible refine so ?_)
   refine (sd_random _ _ (((S.accept.put_other d.value).draw).put_nonce (drawK S.p.cfg.seed S.p.drawn)) _ _ _ _ HM.here len9).mono ?_; rintro e w_29 ⟨rfl, v_31, u_32, HN_33⟩
   replace HM := HM.trans HN_33
   clear HN_33
   go_wp2_with (with_reducible refine so ?_)
   refine (sd_toChecks _ _ ((((S.accept.put_other d.value).draw).put_nonce (drawK S.p.cfg.seed S.p.drawn)).random) _ _ _ _ HM.here len9).mono ?_; rintro e w_34 ⟨rfl, v_36, u_37, HN_38⟩
   replace HM := HM.trans HN_38
   clear HN_38
   go_wp2_with (with_reducible refine so ?_)
   go_returns
   have q0 := kc_7.out
   have es : S.authOOB d = ((((((S.accept.put_other d.value).draw).put_nonce (drawK S.p.cfg.seed S.p.drawn)).random).toChecks), true) := by unfold Sd.authOOB; exact es9
   rw [es]
   exact ⟨rfl, v_36, u_37, HM.drop1⟩
  skip
  go_wp2_with (with_reducible refine so ?_)
  refine (sd_toChecks _ _ (S.accept.put_other d.value) _ _ _ _ HM.here len9).mono ?_; rintro e w_39 ⟨rfl, v_41, u_42, HN_43⟩
  replace HM := HM.trans HN_43
  clear HN_43
  go_wp2_with (with_reducible refine so ?_)
  go_returns
  have q0 := kc_7.out
  have es : S.authOOB d = (((S.accept.put_other d.value).toChecks), true) := by unfold Sd.authOOB; exact es9
  rw [es]
  exact ⟨rfl, v_41, u_42, HM.drop1⟩
 obtain ⟨ec_7, ec_7n, kc_7⟩ := fF hc_7; clear hc_7
 have ld_44 := HM.b1.c 0 (.int .i64 d.kind)
 go_wp2_with (with_reducible refine so ?_)
 go_returns
 have q0 := kc_7.out
 have es : S.authOOB d = (S, false) := by unfold Sd.authOOB; exact es9
 rw [es]
 exact ⟨rfl, v, u, HM.drop1⟩
theorem rnd_in (n : Int) (h0 : 0 ≤ n) (h1 : n ≤ 60) : IntKind.i64.wrap (n + 1) = n + 1 := IntWalk.i64_in _ (by omega)
set_option maxHeartbeats 4000000 in
theorem sd_authPasskey (base g : Nat) (S : Sd) (d : Sec) (v u : Value) (bx : List Bk) (w : World) (HM : Mem w w base S.sent S.told v u ((g, SideT, (sdL S v u).toArray) :: bx)) (ls : S.sent.length ≤ 920) (lt : S.told.length ≤ 920) (h0 : 0 ≤ S.p.round) (h1 : S.p.round ≤ 64) (h2 : S.p.round ≤ 60) :
  Calls Tryd.prog 71 #[.pointer (some ⟨g, 0, none⟩), .agg (secL d).toArray] w (fun e w' => e = .returned (.bool (S.authPasskey d).2) ∧ SideR w w' base g ((S.authPasskey d).1) bx) := by
 have ew := rnd_in S.p.round h0 h2
 have h0p : 0 ≤ S.p.round + 1 := by omega
 have h1p : S.p.round + 1 ≤ 64 := by omega
 go_enter Tryd.func71, Tryd.ntmps71
 go_wp2_with (with_reducible refine so ?_)
 refine HM.nw1 (ty := 43) (cs := (secL d).toArray) ?_; clear HM; intro g_1 w_2 HM
 by_cases hc_7 : (d.kind : Int) = 3
 ·
  obtain ⟨ec_7, ec_7n, kc_7⟩ := fT hc_7; clear hc_7
  rcases hc_8 : S.p.have_ with _ | _
  ·
   skip
   go_wp2_with (first | (with_reducible refine so ?_) | (with_reducible refine ld 0 (secL d) HM.b1 Tryd.underlying43 ?_))
   refine (sd_take_t _ _ S d _ _ _ _ HM.here kc_7.out hc_8).mono ?_; rintro e w_10 ⟨rfl, v_12, u_13, HN_14⟩
   replace HM := HM.trans HN_14
   clear HN_14
   go_wp2_with (with_reducible refine so ?_)
   refine (sd_first _ _ _ _  _ HM.b0 S.first rfl).mono ?_; rintro e w_15 ⟨rfl, hb_16⟩
   replace HM := HM.to hb_16
   clear hb_16
   rcases hc_17 : S.first with _ | _
   ·
    skip
    go_wp2_with (with_reducible refine so ?_)
    refine (sd_commit _ _ (((S.accept.put_commit d.value).put_have_ true)) _ _ _ _ HM.here len9 (by first | exact h0 | exact h0p) (by first | exact h1 | exact h1p)).mono ?_; rintro e w_18 ⟨rfl, v_20, u_21, HN_22⟩
    replace HM := HM.trans HN_22
    clear HN_22
    go_wp2_with (with_reducible refine so ?_)
    go_returns
    have q0 := kc_7.out
    have es : S.authPasskey d = (((((S.accept.put_commit d.value).put_have_ true)).commit), true) := by unfold Sd.authPasskey; exact es9
    rw [es]
    exact ⟨rfl, v_20, u_21, HM.drop1⟩
   skip
   go_wp2_with (with_reducible refine so ?_)
   refine (sd_random _ _ (((S.accept.put_commit d.value).put_have_ true)) _ _ _ _ HM.here len9).mono ?_; rintro e w_23 ⟨rfl, v_25, u_26, HN_27⟩
   replace HM := HM.trans HN_27
   clear HN_27
   go_wp2_with (with_reducible refine so ?_)
   go_returns
   have q0 := kc_7.out
   have es : S.authPasskey d = (((((S.accept.put_commit d.value).put_have_ true)).random), true) := by unfold Sd.authPasskey; exact es9
   rw [es]
   exact ⟨rfl, v_25, u_26, HM.drop1⟩
  skip
  go_wp2_with (first | (with_reducible refine so ?_) | (with_reducible refine ld 0 (secL d) HM.b1 Tryd.underlying43 ?_))
  refine (sd_take_f _ _ S d _ _ _ _ HM.here (fun hh => absurd ((hc_8).symm.trans hh.2) (by decide))).mono ?_; rintro e w_29 ⟨rfl, v_31, u_32, HN_33⟩
  replace HM := HM.trans HN_33
  clear HN_33
  by_cases hc_34 : (d.kind : Int) = 4
  ·
   obtain ⟨ec_34, ec_34n, kc_34⟩ := fT hc_34; clear hc_34
   rcases hc_35 : Sd.opens S d.value with _ | _
   ·
    skip
    have ld_36 := HM.b1.c 0 (.int .i64 d.kind)
    have ld_37 := HM.b0.c 45 (.bool S.p.have_)
    go_wp2_with (first | (with_reducible refine so ?_) | (with_reducible refine ld 0 (secL d) HM.b1 Tryd.underlying43 ?_))
    refine (sd_open_f _ _ S d _ _ _ _ HM.here (by first | exact h0 | exact h0p) (by first | exact h1 | exact h1p) hc_35).mono ?_; rintro e w_39 ⟨rfl, v_41, u_42, HN_43⟩
    clear ld_36 ld_37
    replace HM := HM.trans HN_43
    clear HN_43
    go_wp2_with (with_reducible refine so ?_)
    go_returns
    have q0 := kc_7.out
    have q2 := kc_34.out
    have es : S.authPasskey d = (((S.accept.fail 4)), true) := by unfold Sd.authPasskey; exact es9
    rw [es]
    exact ⟨rfl, v_41, u_42, HM.drop1⟩
   skip
   have ld_44 := HM.b1.c 0 (.int .i64 d.kind)
   have ld_45 := HM.b0.c 45 (.bool S.p.have_)
   go_wp2_with (first | (with_reducible refine so ?_) | (with_reducible refine ld 0 (secL d) HM.b1 Tryd.underlying43 ?_))
   refine (sd_open_t _ _ S d _ _ _ _ HM.here (by first | exact h0 | exact h0p) (by first | exact h1 | exact h1p) hc_35).mono ?_; rintro e w_47 ⟨rfl, v_49, u_50, HN_51⟩
   clear ld_44 ld_45
   replace HM := HM.trans HN_51
   clear HN_51
   have ld_52 := HM.b0.c 47 (.int .i64 S.p.round)
   go_wp2_with (with_reducible refine so ?_)
   refine sx 47 (.int .i64 ((S.p.round + 1))) (sdL (((((S.accept.put_have_ false).put_commit 0#64).put_other d.value)).put_round ((S.p.round + 1))) v_49 u_50).toArray HM.b0 ?_
   intro w_53 G_55 hU_54
   clear ld_52
   replace HM := HM.s0 hU_54 G_55
   clear hU_54 G_55
   go_wp2_with (with_reducible refine so ?_)
   refine (sd_first _ _ _ _  _ HM.b0 S.first rfl).mono ?_; rintro e w_56 ⟨rfl, hb_57⟩
   replace HM := HM.to hb_57
   clear hb_57
   rcases hc_58 : S.first with _ | _
   ·
    skip
    go_wp2_with (with_reducible refine so ?_)
    refine (sd_random _ _ (((((S.accept.put_have_ false).put_commit 0#64).put_other d.value)).put_round ((S.p.round + 1))) _ _ _ _ HM.here len9).mono ?_; rintro e w_59 ⟨rfl, v_61, u_62, HN_63⟩
    replace HM := HM.trans HN_63
    clear HN_63
    by_cases hc_64 : ((S.p.round + 1) : Int) = 20
    ·
     obtain ⟨ec_64, ec_64n, kc_64⟩ := fT hc_64; clear hc_64
     have ld_65 := HM.b0.c 47 (.int .i64 ((S.p.round + 1)))
     go_wp2_with (with_reducible refine so ?_)
     refine (sd_toChecks _ _ ((((((S.accept.put_have_ false).put_commit 0#64).put_other d.value)).put_round ((S.p.round + 1))).random) _ _ _ _ HM.here len9).mono ?_; rintro e w_66 ⟨rfl, v_68, u_69, HN_70⟩
     clear ld_65
     replace HM := HM.trans HN_70
     clear HN_70
     go_wp2_with (with_reducible refine so ?_)
     go_returns
     have q0 := kc_7.out
     have q2 := kc_34.out
     have q5 := kc_64.out
     have es : S.authPasskey d = ((((((((S.accept.put_have_ false).put_commit 0#64).put_other d.value)).put_round ((S.p.round + 1))).random).toChecks), true) := by first | rfl | (unfold Sd.authPasskey; (try unfold Sd.take); (try unfold Sd.open_); (try unfold Sd.identity); (try dsimp only); (repeat' (split <;> (first | (exfalso; rename_i hh; first | exact absurd q0 hh | exact absurd hh q0 | exact absurd (q0.symm.trans hh) (by decide) | exact absurd hc_8 hh | exact absurd hh hc_8 | exact absurd (hc_8.symm.trans hh) (by decide) | exact absurd q2 hh | exact absurd hh q2 | exact absurd (q2.symm.trans hh) (by decide) | exact absurd hc_35 hh | exact absurd hh hc_35 | exact absurd (hc_35.symm.trans hh) (by decide) | exact absurd hc_58 hh | exact absurd hh hc_58 | exact absurd (hc_58.symm.trans hh) (by decide) | exact absurd q5 hh | exact absurd hh q5 | exact absurd (q5.symm.trans hh) (by decide) | (simp [Sd.take, Sd.open_, q0, hc_8, q2, hc_35, hc_58, q5] at hh; done)) | skip))); all_goals rfl) | (exfalso; omega) | (simp [Sd.authPasskey, Sd.take, Sd.open_, q0, hc_8, q2, hc_35, hc_58, q5]; done) | (simp [Sd.authPasskey, Sd.take, Sd.open_, q0, hc_8, q2, hc_35, hc_58, q5]; rfl)
     rw [es]
     exact ⟨rfl, v_68, u_69, HM.drop1⟩
    obtain ⟨ec_64, ec_64n, kc_64⟩ := fF hc_64; clear hc_64
    have ld_71 := HM.b0.c 47 (.int .i64 ((S.p.round + 1)))
    go_wp2_with (with_reducible refine so ?_)
    refine (sd_first _ _ _ _  _ HM.b0 S.first rfl).mono ?_; rintro e w_72 ⟨rfl, hb_73⟩
    clear ld_71
    replace HM := HM.to hb_73
    clear hb_73
    go_wp2_with (with_reducible refine so ?_)
    go_returns
    have q0 := kc_7.out
    have q2 := kc_34.out
    have q5 := kc_64.out
    have es : S.authPasskey d = (((((((S.accept.put_have_ false).put_commit 0#64).put_other d.value)).put_round ((S.p.round + 1))).random), true) := by first | rfl | (unfold Sd.authPasskey; (try unfold Sd.take); (try unfold Sd.open_); (try unfold Sd.identity); (try dsimp only); (repeat' (split <;> (first | (exfalso; rename_i hh; first | exact absurd q0 hh | exact absurd hh q0 | exact absurd (q0.symm.trans hh) (by decide) | exact absurd hc_8 hh | exact absurd hh hc_8 | exact absurd (hc_8.symm.trans hh) (by decide) | exact absurd q2 hh | exact absurd hh q2 | exact absurd (q2.symm.trans hh) (by decide) | exact absurd hc_35 hh | exact absurd hh hc_35 | exact absurd (hc_35.symm.trans hh) (by decide) | exact absurd hc_58 hh | exact absurd hh hc_58 | exact absurd (hc_58.symm.trans hh) (by decide) | exact absurd q5 hh | exact absurd hh q5 | exact absurd (q5.symm.trans hh) (by decide) | (simp [Sd.take, Sd.open_, q0, hc_8, q2, hc_35, hc_58, q5] at hh; done)) | skip))); all_goals rfl) | (exfalso; omega) | (simp [Sd.authPasskey, Sd.take, Sd.open_, q0, hc_8, q2, hc_35, hc_58, q5]; done) | (simp [Sd.authPasskey, Sd.take, Sd.open_, q0, hc_8, q2, hc_35, hc_58, q5]; rfl)
    rw [es]
    exact ⟨rfl, v_61, u_62, HM.drop1⟩
   skip
   by_cases hc_74 : ((S.p.round + 1) : Int) = 20
   ·
    obtain ⟨ec_74, ec_74n, kc_74⟩ := fT hc_74; clear hc_74
    have ld_75 := HM.b0.c 47 (.int .i64 ((S.p.round + 1)))
    go_wp2_with (with_reducible refine so ?_)
    refine (sd_toChecks _ _ (((((S.accept.put_have_ false).put_commit 0#64).put_other d.value)).put_round ((S.p.round + 1))) _ _ _ _ HM.here len9).mono ?_; rintro e w_76 ⟨rfl, v_78, u_79, HN_80⟩
    clear ld_75
    replace HM := HM.trans HN_80
    clear HN_80
    go_wp2_with (with_reducible refine so ?_)
    go_returns
    have q0 := kc_7.out
    have q2 := kc_34.out
    have q5 := kc_74.out
    have es : S.authPasskey d = (((((((S.accept.put_have_ false).put_commit 0#64).put_other d.value)).put_round ((S.p.round + 1))).toChecks), true) := by first | rfl | (unfold Sd.authPasskey; (try unfold Sd.take); (try unfold Sd.open_); (try unfold Sd.identity); (try dsimp only); (repeat' (split <;> (first | (exfalso; rename_i hh; first | exact absurd q0 hh | exact absurd hh q0 | exact absurd (q0.symm.trans hh) (by decide) | exact absurd hc_8 hh | exact absurd hh hc_8 | exact absurd (hc_8.symm.trans hh) (by decide) | exact absurd q2 hh | exact absurd hh q2 | exact absurd (q2.symm.trans hh) (by decide) | exact absurd hc_35 hh | exact absurd hh hc_35 | exact absurd (hc_35.symm.trans hh) (by decide) | exact absurd hc_58 hh | exact absurd hh hc_58 | exact absurd (hc_58.symm.trans hh) (by decide) | exact absurd q5 hh | exact absurd hh q5 | exact absurd (q5.symm.trans hh) (by decide) | (simp [Sd.take, Sd.open_, q0, hc_8, q2, hc_35, hc_58, q5] at hh; done)) | skip))); all_goals rfl) | (exfalso; omega) | (simp [Sd.authPasskey, Sd.take, Sd.open_, q0, hc_8, q2, hc_35, hc_58, q5]; done) | (simp [Sd.authPasskey, Sd.take, Sd.open_, q0, hc_8, q2, hc_35, hc_58, q5]; rfl)
    rw [es]
    exact ⟨rfl, v_78, u_79, HM.drop1⟩
   obtain ⟨ec_74, ec_74n, kc_74⟩ := fF hc_74; clear hc_74
   have ld_81 := HM.b0.c 47 (.int .i64 ((S.p.round + 1)))
   go_wp2_with (with_reducible refine so ?_)
   refine (sd_first _ _ _ _  _ HM.b0 S.first rfl).mono ?_; rintro e w_82 ⟨rfl, hb_83⟩
   clear ld_81
   replace HM := HM.to hb_83
   clear hb_83
   go_wp2_with (with_reducible refine so ?_)
   refine (sd_commit _ _ (((((S.accept.put_have_ false).put_commit 0#64).put_other d.value)).put_round ((S.p.round + 1))) _ _ _ _ HM.here len9 (by first | exact h0 | exact h0p) (by first | exact h1 | exact h1p)).mono ?_; rintro e w_84 ⟨rfl, v_86, u_87, HN_88⟩
   replace HM := HM.trans HN_88
   clear HN_88
   go_wp2_with (with_reducible refine so ?_)
   go_returns
   have q0 := kc_7.out
   have q2 := kc_34.out
   have q5 := kc_74.out
   have es : S.authPasskey d = (((((((S.accept.put_have_ false).put_commit 0#64).put_other d.value)).put_round ((S.p.round + 1))).commit), true) := by first | rfl | (unfold Sd.authPasskey; (try unfold Sd.take); (try unfold Sd.open_); (try unfold Sd.identity); (try dsimp only); (repeat' (split <;> (first | (exfalso; rename_i hh; first | exact absurd q0 hh | exact absurd hh q0 | exact absurd (q0.symm.trans hh) (by decide) | exact absurd hc_8 hh | exact absurd hh hc_8 | exact absurd (hc_8.symm.trans hh) (by decide) | exact absurd q2 hh | exact absurd hh q2 | exact absurd (q2.symm.trans hh) (by decide) | exact absurd hc_35 hh | exact absurd hh hc_35 | exact absurd (hc_35.symm.trans hh) (by decide) | exact absurd hc_58 hh | exact absurd hh hc_58 | exact absurd (hc_58.symm.trans hh) (by decide) | exact absurd q5 hh | exact absurd hh q5 | exact absurd (q5.symm.trans hh) (by decide) | (simp [Sd.take, Sd.open_, q0, hc_8, q2, hc_35, hc_58, q5] at hh; done)) | skip))); all_goals rfl) | (exfalso; omega) | (simp [Sd.authPasskey, Sd.take, Sd.open_, q0, hc_8, q2, hc_35, hc_58, q5]; done) | (simp [Sd.authPasskey, Sd.take, Sd.open_, q0, hc_8, q2, hc_35, hc_58, q5]; rfl)
   rw [es]
   exact ⟨rfl, v_86, u_87, HM.drop1⟩
  obtain ⟨ec_34, ec_34n, kc_34⟩ := fF hc_34; clear hc_34
  have ld_89 := HM.b1.c 0 (.int .i64 d.kind)
  go_wp2_with (with_reducible refine so ?_)
  go_returns
  have q0 := kc_7.out
  have q2 := kc_34.out
  have es : S.authPasskey d = (S, false) := by unfold Sd.authPasskey; exact es9
  rw [es]
  exact ⟨rfl, v_31, u_32, HM.drop1⟩
 obtain ⟨ec_7, ec_7n, kc_7⟩ := fF hc_7; clear hc_7
 go_wp2_with (first | (with_reducible refine so ?_) | (with_reducible refine ld 0 (secL d) HM.b1 Tryd.underlying43 ?_))
 refine (sd_take_f _ _ S d _ _ _ _ HM.here (fun hh => kc_7.out hh.1)).mono ?_; rintro e w_91 ⟨rfl, v_93, u_94, HN_95⟩
 replace HM := HM.trans HN_95
 clear HN_95
 by_cases hc_96 : (d.kind : Int) = 4
 ·
  obtain ⟨ec_96, ec_96n, kc_96⟩ := fT hc_96; clear hc_96
  rcases hc_97 : S.p.have_ with _ | _
  ·
   skip
   have ld_98 := HM.b1.c 0 (.int .i64 d.kind)
   have ld_99 := HM.b0.c 45 (.bool S.p.have_)
   go_wp2_with (with_reducible refine so ?_)
   go_returns
   have q0 := kc_7.out
   have q1 := kc_96.out
   have es : S.authPasskey d = (S, false) := by unfold Sd.authPasskey; exact es9
   rw [es]
   exact ⟨rfl, v_93, u_94, HM.drop1⟩
  skip
  rcases hc_100 : Sd.opens S d.value with _ | _
  ·
   skip
   have ld_101 := HM.b1.c 0 (.int .i64 d.kind)
   have ld_102 := HM.b0.c 45 (.bool S.p.have_)
   go_wp2_with (first | (with_reducible refine so ?_) | (with_reducible refine ld 0 (secL d) HM.b1 Tryd.underlying43 ?_))
   refine (sd_open_f _ _ S d _ _ _ _ HM.here (by first | exact h0 | exact h0p) (by first | exact h1 | exact h1p) hc_100).mono ?_; rintro e w_104 ⟨rfl, v_106, u_107, HN_108⟩
   clear ld_101 ld_102
   replace HM := HM.trans HN_108
   clear HN_108
   go_wp2_with (with_reducible refine so ?_)
   go_returns
   have q0 := kc_7.out
   have q1 := kc_96.out
   have es : S.authPasskey d = (((S.accept.fail 4)), true) := by unfold Sd.authPasskey; exact es9
   rw [es]
   exact ⟨rfl, v_106, u_107, HM.drop1⟩
  skip
  have ld_109 := HM.b1.c 0 (.int .i64 d.kind)
  have ld_110 := HM.b0.c 45 (.bool S.p.have_)
  go_wp2_with (first | (with_reducible refine so ?_) | (with_reducible refine ld 0 (secL d) HM.b1 Tryd.underlying43 ?_))
  refine (sd_open_t _ _ S d _ _ _ _ HM.here (by first | exact h0 | exact h0p) (by first | exact h1 | exact h1p) hc_100).mono ?_; rintro e w_112 ⟨rfl, v_114, u_115, HN_116⟩
  clear ld_109 ld_110
  replace HM := HM.trans HN_116
  clear HN_116
  have ld_117 := HM.b0.c 47 (.int .i64 S.p.round)
  go_wp2_with (with_reducible refine so ?_)
  refine sx 47 (.int .i64 ((S.p.round + 1))) (sdL (((((S.accept.put_have_ false).put_commit 0#64).put_other d.value)).put_round ((S.p.round + 1))) v_114 u_115).toArray HM.b0 ?_
  intro w_118 G_120 hU_119
  clear ld_117
  replace HM := HM.s0 hU_119 G_120
  clear hU_119 G_120
  go_wp2_with (with_reducible refine so ?_)
  refine (sd_first _ _ _ _  _ HM.b0 S.first rfl).mono ?_; rintro e w_121 ⟨rfl, hb_122⟩
  replace HM := HM.to hb_122
  clear hb_122
  rcases hc_123 : S.first with _ | _
  ·
   skip
   go_wp2_with (with_reducible refine so ?_)
   refine (sd_random _ _ (((((S.accept.put_have_ false).put_commit 0#64).put_other d.value)).put_round ((S.p.round + 1))) _ _ _ _ HM.here len9).mono ?_; rintro e w_124 ⟨rfl, v_126, u_127, HN_128⟩
   replace HM := HM.trans HN_128
   clear HN_128
   by_cases hc_129 : ((S.p.round + 1) : Int) = 20
   ·
    obtain ⟨ec_129, ec_129n, kc_129⟩ := fT hc_129; clear hc_129
    have ld_130 := HM.b0.c 47 (.int .i64 ((S.p.round + 1)))
    go_wp2_with (with_reducible refine so ?_)
    refine (sd_toChecks _ _ ((((((S.accept.put_have_ false).put_commit 0#64).put_other d.value)).put_round ((S.p.round + 1))).random) _ _ _ _ HM.here len9).mono ?_; rintro e w_131 ⟨rfl, v_133, u_134, HN_135⟩
    clear ld_130
    replace HM := HM.trans HN_135
    clear HN_135
    go_wp2_with (with_reducible refine so ?_)
    go_returns
    have q0 := kc_7.out
    have q1 := kc_96.out
    have q5 := kc_129.out
    have es : S.authPasskey d = ((((((((S.accept.put_have_ false).put_commit 0#64).put_other d.value)).put_round ((S.p.round + 1))).random).toChecks), true) := by first | rfl | (unfold Sd.authPasskey; (try unfold Sd.take); (try unfold Sd.open_); (try unfold Sd.identity); (try dsimp only); (repeat' (split <;> (first | (exfalso; rename_i hh; first | exact absurd q0 hh | exact absurd hh q0 | exact absurd (q0.symm.trans hh) (by decide) | exact absurd q1 hh | exact absurd hh q1 | exact absurd (q1.symm.trans hh) (by decide) | exact absurd hc_97 hh | exact absurd hh hc_97 | exact absurd (hc_97.symm.trans hh) (by decide) | exact absurd hc_100 hh | exact absurd hh hc_100 | exact absurd (hc_100.symm.trans hh) (by decide) | exact absurd hc_123 hh | exact absurd hh hc_123 | exact absurd (hc_123.symm.trans hh) (by decide) | exact absurd q5 hh | exact absurd hh q5 | exact absurd (q5.symm.trans hh) (by decide) | (simp [Sd.take, Sd.open_, q0, q1, hc_97, hc_100, hc_123, q5] at hh; done)) | skip))); all_goals rfl) | (exfalso; omega) | (simp [Sd.authPasskey, Sd.take, Sd.open_, q0, q1, hc_97, hc_100, hc_123, q5]; done) | (simp [Sd.authPasskey, Sd.take, Sd.open_, q0, q1, hc_97, hc_100, hc_123, q5]; rfl)
    rw [es]
    exact ⟨rfl, v_133, u_134, HM.drop1⟩
   obtain ⟨ec_129, ec_129n, kc_129⟩ := fF hc_129; clear hc_129
   have ld_136 := HM.b0.c 47 (.int .i64 ((S.p.round + 1)))
   go_wp2_with (with_reducible refine so ?_)
   refine (sd_first _ _ _ _  _ HM.b0 S.first rfl).mono ?_; rintro e w_137 ⟨rfl, hb_138⟩
   clear ld_136
   replace HM := HM.to hb_138
   clear hb_138
   go_wp2_with (with_reducible refine so ?_)
   go_returns
   have q0 := kc_7.out
   have q1 := kc_96.out
   have q5 := kc_129.out
   have es : S.authPasskey d = (((((((S.accept.put_have_ false).put_commit 0#64).put_other d.value)).put_round ((S.p.round + 1))).random), true) := by first | rfl | (unfold Sd.authPasskey; (try unfold Sd.take); (try unfold Sd.open_); (try unfold Sd.identity); (try dsimp only); (repeat' (split <;> (first | (exfalso; rename_i hh; first | exact absurd q0 hh | exact absurd hh q0 | exact absurd (q0.symm.trans hh) (by decide) | exact absurd q1 hh | exact absurd hh q1 | exact absurd (q1.symm.trans hh) (by decide) | exact absurd hc_97 hh | exact absurd hh hc_97 | exact absurd (hc_97.symm.trans hh) (by decide) | exact absurd hc_100 hh | exact absurd hh hc_100 | exact absurd (hc_100.symm.trans hh) (by decide) | exact absurd hc_123 hh | exact absurd hh hc_123 | exact absurd (hc_123.symm.trans hh) (by decide) | exact absurd q5 hh | exact absurd hh q5 | exact absurd (q5.symm.trans hh) (by decide) | (simp [Sd.take, Sd.open_, q0, q1, hc_97, hc_100, hc_123, q5] at hh; done)) | skip))); all_goals rfl) | (exfalso; omega) | (simp [Sd.authPasskey, Sd.take, Sd.open_, q0, q1, hc_97, hc_100, hc_123, q5]; done) | (simp [Sd.authPasskey, Sd.take, Sd.open_, q0, q1, hc_97, hc_100, hc_123, q5]; rfl)
   rw [es]
   exact ⟨rfl, v_126, u_127, HM.drop1⟩
  skip
  by_cases hc_139 : ((S.p.round + 1) : Int) = 20
  ·
   obtain ⟨ec_139, ec_139n, kc_139⟩ := fT hc_139; clear hc_139
   have ld_140 := HM.b0.c 47 (.int .i64 ((S.p.round + 1)))
   go_wp2_with (with_reducible refine so ?_)
   refine (sd_toChecks _ _ (((((S.accept.put_have_ false).put_commit 0#64).put_other d.value)).put_round ((S.p.round + 1))) _ _ _ _ HM.here len9).mono ?_; rintro e w_141 ⟨rfl, v_143, u_144, HN_145⟩
   clear ld_140
   replace HM := HM.trans HN_145
   clear HN_145
   go_wp2_with (with_reducible refine so ?_)
   go_returns
   have q0 := kc_7.out
   have q1 := kc_96.out
   have q5 := kc_139.out
   have es : S.authPasskey d = (((((((S.accept.put_have_ false).put_commit 0#64).put_other d.value)).put_round ((S.p.round + 1))).toChecks), true) := by first | rfl | (unfold Sd.authPasskey; (try unfold Sd.take); (try unfold Sd.open_); (try unfold Sd.identity); (try dsimp only); (repeat' (split <;> (first | (exfalso; rename_i hh; first | exact absurd q0 hh | exact absurd hh q0 | exact absurd (q0.symm.trans hh) (by decide) | exact absurd q1 hh | exact absurd hh q1 | exact absurd (q1.symm.trans hh) (by decide) | exact absurd hc_97 hh | exact absurd hh hc_97 | exact absurd (hc_97.symm.trans hh) (by decide) | exact absurd hc_100 hh | exact absurd hh hc_100 | exact absurd (hc_100.symm.trans hh) (by decide) | exact absurd hc_123 hh | exact absurd hh hc_123 | exact absurd (hc_123.symm.trans hh) (by decide) | exact absurd q5 hh | exact absurd hh q5 | exact absurd (q5.symm.trans hh) (by decide) | (simp [Sd.take, Sd.open_, q0, q1, hc_97, hc_100, hc_123, q5] at hh; done)) | skip))); all_goals rfl) | (exfalso; omega) | (simp [Sd.authPasskey, Sd.take, Sd.open_, q0, q1, hc_97, hc_100, hc_123, q5]; done) | (simp [Sd.authPasskey, Sd.take, Sd.open_, q0, q1, hc_97, hc_100, hc_123, q5]; rfl)
   rw [es]
   exact ⟨rfl, v_143, u_144, HM.drop1⟩
  obtain ⟨ec_139, ec_139n, kc_139⟩ := fF hc_139; clear hc_139
  have ld_146 := HM.b0.c 47 (.int .i64 ((S.p.round + 1)))
  go_wp2_with (with_reducible refine so ?_)
  refine (sd_first _ _ _ _  _ HM.b0 S.first rfl).mono ?_; rintro e w_147 ⟨rfl, hb_148⟩
  clear ld_146
  replace HM := HM.to hb_148
  clear hb_148
  go_wp2_with (with_reducible refine so ?_)
  refine (sd_commit _ _ (((((S.accept.put_have_ false).put_commit 0#64).put_other d.value)).put_round ((S.p.round + 1))) _ _ _ _ HM.here len9 (by first | exact h0 | exact h0p) (by first | exact h1 | exact h1p)).mono ?_; rintro e w_149 ⟨rfl, v_151, u_152, HN_153⟩
  replace HM := HM.trans HN_153
  clear HN_153
  go_wp2_with (with_reducible refine so ?_)
  go_returns
  have q0 := kc_7.out
  have q1 := kc_96.out
  have q5 := kc_139.out
  have es : S.authPasskey d = (((((((S.accept.put_have_ false).put_commit 0#64).put_other d.value)).put_round ((S.p.round + 1))).commit), true) := by first | rfl | (unfold Sd.authPasskey; (try unfold Sd.take); (try unfold Sd.open_); (try unfold Sd.identity); (try dsimp only); (repeat' (split <;> (first | (exfalso; rename_i hh; first | exact absurd q0 hh | exact absurd hh q0 | exact absurd (q0.symm.trans hh) (by decide) | exact absurd q1 hh | exact absurd hh q1 | exact absurd (q1.symm.trans hh) (by decide) | exact absurd hc_97 hh | exact absurd hh hc_97 | exact absurd (hc_97.symm.trans hh) (by decide) | exact absurd hc_100 hh | exact absurd hh hc_100 | exact absurd (hc_100.symm.trans hh) (by decide) | exact absurd hc_123 hh | exact absurd hh hc_123 | exact absurd (hc_123.symm.trans hh) (by decide) | exact absurd q5 hh | exact absurd hh q5 | exact absurd (q5.symm.trans hh) (by decide) | (simp [Sd.take, Sd.open_, q0, q1, hc_97, hc_100, hc_123, q5] at hh; done)) | skip))); all_goals rfl) | (exfalso; omega) | (simp [Sd.authPasskey, Sd.take, Sd.open_, q0, q1, hc_97, hc_100, hc_123, q5]; done) | (simp [Sd.authPasskey, Sd.take, Sd.open_, q0, q1, hc_97, hc_100, hc_123, q5]; rfl)
  rw [es]
  exact ⟨rfl, v_151, u_152, HM.drop1⟩
 obtain ⟨ec_96, ec_96n, kc_96⟩ := fF hc_96; clear hc_96
 have ld_154 := HM.b1.c 0 (.int .i64 d.kind)
 go_wp2_with (with_reducible refine so ?_)
 go_returns
 have q0 := kc_7.out
 have q1 := kc_96.out
 have es : S.authPasskey d = (S, false) := by unfold Sd.authPasskey; exact es9
 rw [es]
 exact ⟨rfl, v_93, u_94, HM.drop1⟩
set_option maxHeartbeats 4000000 in
theorem sd_early (base g : Nat) (S : Sd) (d : Sec) (v u : Value) (bx : List Bk) (w : World) (HM : Mem w w base S.sent S.told v u ((g, SideT, (sdL S v u).toArray) :: bx)) (ls : S.sent.length ≤ 900) (lt : S.told.length ≤ 900) :
  Calls Tryd.prog 48 #[.pointer (some ⟨g, 0, none⟩), .agg (secL d).toArray] w (fun e w' => e = .returned (.bool (S.early d).2) ∧ SideR w w' base g ((S.early d).1) bx) := by
 go_enter Tryd.func48, Tryd.ntmps48
 go_wp2_with (with_reducible refine so ?_)
 refine HM.nw1 (ty := 43) (cs := (secL d).toArray) ?_; clear HM; intro g_1 w_2 HM
 go_wp2_with (with_reducible refine so ?_)
 refine (sd_first _ _ _ _  _ HM.b0 S.first rfl).mono ?_; rintro e w_7 ⟨rfl, hb_8⟩
 replace HM := HM.to hb_8
 clear hb_8
 rcases hc_9 : S.first with _ | _
 ·
  skip
  go_wp2_with (with_reducible refine so ?_)
  refine (sd_passkey _ _ _ _  _ HM.b0 (isPass S.p.method) rfl).mono ?_; rintro e w_10 ⟨rfl, hb_11⟩
  replace HM := HM.to hb_11
  clear hb_11
  rcases hc_12 : isPass S.p.method with _ | _
  ·
   skip
   by_cases hc_13 : (d.kind : Int) = 13
   ·
    obtain ⟨ec_13, ec_13n, kc_13⟩ := fT hc_13; clear hc_13
    rcases hc_14 : S.p.haveIn with _ | _
    ·
     skip
     have ld_15 := HM.b1.c 0 (.int .i64 d.kind)
     have ld_16 := HM.b0.c 50 (.bool S.p.haveIn)
     go_wp2_with (with_reducible refine so ?_)
     refine (sd_accept _ _ S _ _ _ _ HM.here).mono ?_; rintro e w_17 ⟨rfl, v_19, u_20, HN_21⟩
     clear ld_15 ld_16
     replace HM := HM.trans HN_21
     clear HN_21
     have ld_22 := HM.b1.c 8 (.int .u64 (W64 d.value))
     go_wp2_with (with_reducible refine so ?_)
     refine sx 49 (.int .u64 (W64 d.value)) (sdL (S.accept.put_checkIn d.value) v_19 u_20).toArray HM.b0 ?_
     intro w_23 G_25 hU_24
     clear ld_22
     replace HM := HM.s0 hU_24 G_25
     clear hU_24 G_25
     go_wp2_with (with_reducible refine so ?_)
     refine sx 50 (.bool true) (sdL ((S.accept.put_checkIn d.value).put_haveIn true) v_19 u_20).toArray HM.b0 ?_
     intro w_26 G_28 hU_27
     replace HM := HM.s0 hU_27 G_28
     clear hU_27 G_28
     go_wp2_with (with_reducible refine so ?_)
     go_returns
     have q2 := kc_13.out
     have es : S.early d = (((S.accept.put_checkIn d.value).put_haveIn true), true) := by unfold Sd.early; exact es9
     rw [es]
     exact ⟨rfl, v_19, u_20, HM.drop1⟩
    skip
    have ld_29 := HM.b1.c 0 (.int .i64 d.kind)
    have ld_30 := HM.b0.c 50 (.bool S.p.haveIn)
    go_wp2_with (with_reducible refine so ?_)
    go_returns
    have q2 := kc_13.out
    have es : S.early d = (S, false) := by unfold Sd.early; exact es9
    rw [es]
    exact ⟨rfl, v, u, HM.drop1⟩
   obtain ⟨ec_13, ec_13n, kc_13⟩ := fF hc_13; clear hc_13
   have ld_31 := HM.b1.c 0 (.int .i64 d.kind)
   go_wp2_with (with_reducible refine so ?_)
   go_returns
   have q2 := kc_13.out
   have es : S.early d = (S, false) := by unfold Sd.early; exact es9
   rw [es]
   exact ⟨rfl, v, u, HM.drop1⟩
  skip
  by_cases hc_32 : (d.kind : Int) = 3
  ·
   obtain ⟨ec_32, ec_32n, kc_32⟩ := fT hc_32; clear hc_32
   rcases hc_33 : S.p.have_ with _ | _
   ·
    skip
    go_wp2_with (first | (with_reducible refine so ?_) | (with_reducible refine ld 0 (secL d) HM.b1 Tryd.underlying43 ?_))
    refine (sd_take_t _ _ S d _ _ _ _ HM.here kc_32.out hc_33).mono ?_; rintro e w_35 ⟨rfl, v_37, u_38, HN_39⟩
    replace HM := HM.trans HN_39
    clear HN_39
    go_wp2_with (with_reducible refine so ?_)
    go_returns
    have q2 := kc_32.out
    have es : S.early d = ((((S.accept.put_commit d.value).put_have_ true)), true) := by unfold Sd.early; exact es9
    rw [es]
    exact ⟨rfl, v_37, u_38, HM.drop1⟩
   skip
   go_wp2_with (first | (with_reducible refine so ?_) | (with_reducible refine ld 0 (secL d) HM.b1 Tryd.underlying43 ?_))
   refine (sd_take_f _ _ S d _ _ _ _ HM.here (fun hh => absurd ((hc_33).symm.trans hh.2) (by decide))).mono ?_; rintro e w_41 ⟨rfl, v_43, u_44, HN_45⟩
   replace HM := HM.trans HN_45
   clear HN_45
   go_wp2_with (with_reducible refine so ?_)
   go_returns
   have q2 := kc_32.out
   have es : S.early d = (S, false) := by unfold Sd.early; exact es9
   rw [es]
   exact ⟨rfl, v_43, u_44, HM.drop1⟩
  obtain ⟨ec_32, ec_32n, kc_32⟩ := fF hc_32; clear hc_32
  go_wp2_with (first | (with_reducible refine so ?_) | (with_reducible refine ld 0 (secL d) HM.b1 Tryd.underlying43 ?_))
  refine (sd_take_f _ _ S d _ _ _ _ HM.here (fun hh => kc_32.out hh.1)).mono ?_; rintro e w_47 ⟨rfl, v_49, u_50, HN_51⟩
  replace HM := HM.trans HN_51
  clear HN_51
  go_wp2_with (with_reducible refine so ?_)
  go_returns
  have q2 := kc_32.out
  have es : S.early d = (S, false) := by unfold Sd.early; exact es9
  rw [es]
  exact ⟨rfl, v_49, u_50, HM.drop1⟩
 skip
 go_wp2_with (with_reducible refine so ?_)
 go_returns
 have es : S.early d = (S, false) := by unfold Sd.early; exact es9
 rw [es]
 exact ⟨rfl, v, u, HM.drop1⟩
set_option maxHeartbeats 4000000 in
theorem sd_checks (base g : Nat) (S : Sd) (d : Sec) (v u : Value) (bx : List Bk) (w : World) (HM : Mem w w base S.sent S.told v u ((g, SideT, (sdL S v u).toArray) :: bx)) (ls : S.sent.length ≤ 900) (lt : S.told.length ≤ 900) :
  Calls Tryd.prog 49 #[.pointer (some ⟨g, 0, none⟩), .agg (secL d).toArray] w (fun e w' => e = .returned (.bool (S.checks d).2) ∧ SideR w w' base g ((S.checks d).1) bx) := by
 go_enter Tryd.func49, Tryd.ntmps49
 go_wp2_with (with_reducible refine so ?_)
 refine HM.nw1 (ty := 43) (cs := (secL d).toArray) ?_; clear HM; intro g_1 w_2 HM
 by_cases hc_7 : (d.kind : Int) = 13
 ·
  obtain ⟨ec_7, ec_7n, kc_7⟩ := fT hc_7; clear hc_7
  have ld_8 := HM.b1.c 0 (.int .i64 d.kind)
  go_wp2_with (with_reducible refine so ?_)
  refine (sd_accept _ _ S _ _ _ _ HM.here).mono ?_; rintro e w_9 ⟨rfl, v_11, u_12, HN_13⟩
  clear ld_8
  replace HM := HM.trans HN_13
  clear HN_13
  go_wp2_with (with_reducible refine so ?_)
  have hst : Stable fun W => Mem w W base S.accept.sent S.accept.told v_11 u_12 ((g, 109, (sdL S.accept v_11 u_12).toArray) :: (g_1, 43, (secL d).toArray) :: bx) := stable_mem _ _ _ _ _ _ _
  refine wp_region_v _ 5 hst (HM.drew) ?_
  clear HM
  refine wpU_p 0 hst ?_
  refine wpU_c 1 (.int .u64 (W64 d.value)) hst (fun W hS => hS.b1.cell 8) ?_
  refine wpU_p 2 hst ?_
  refine wpU_take (v := ?_) 3 hst (fun _ h => h) rfl ?_ ?_; rotate_left; (intro W hS K hK; go_simp; refine (sd_otherCheck _ _ _ _  _ hS.b0 (Sd.otherCheck S.accept) rfl).mono ?_; rintro e w9 ⟨rfl, hb⟩; refine CallPost.mk ?_; exact hK.out _ (hb)); simp only [nrm]
  refine wpU_p 4 hst ?_
  refine wpU_done (fun w_14 hS => ?_)
  have HM := hS
  clear hst
  by_cases hc_15 : d.value = Sd.otherCheck S.accept
  ·
   obtain ⟨ec_15, ec_15n, kc_15⟩ := gT hc_15; clear hc_15
   go_wp2_with (first | (with_reducible refine so ?_) | (with_reducible refine ld 0 (cfgL S.p.cfg) HM.b0 Tryd.underlying34 ?_))
   refine HM.nw1 (ty := 34) (cs := (cfgL cfg0).toArray) ?_; clear HM; intro g_17 w_18 HM
   go_wp2_with (with_reducible refine so ?_)
   refine sv (cfgL S.p.cfg).toArray HM.b1 ?_
   intro w_23 G_25 hU_24
   replace HM := HM.s1 hU_24 G_25
   clear hU_24 G_25
   go_wp2_with (with_reducible refine so ?_)
   try simp only [nrm]
   have hst : Stable fun W => Mem w W base S.accept.sent S.accept.told v_11 u_12 ((g, 109, (sdL S.accept v_11 u_12).toArray) :: (g_17, 34, (cfgL S.p.cfg).toArray) :: (g_1, 43, (secL d).toArray) :: bx) := stable_mem _ _ _ _ _ _ _
   refine wp_region_hh (fun W => Mem w W base S.accept.sent S.accept.told v_11 u_12 ((g, 109, (sdL S.accept v_11 u_12).toArray) :: (g_17, 34, (cfgL S.p.cfg).toArray) :: (g_1, 43, (secL d).toArray) :: bx)) 46 hst (HM.drew) ⟨by kernel_rfl, by kernel_rfl, by kernel_rfl, by decide⟩ (fun hR => ?_)
   clear HM
   refine wpH_p 0 hR hst ?_
   refine wpH_p 1 hR hst ?_
   refine wpH_p 2 hR hst ?_
   refine wpH_p 3 hR hst ?_
   refine wpH_p 4 hR hst ?_
   refine wpH_take (v := ?_) 5 hR hst rfl ?_ ?_; rotate_left; (intro W hS K hK; have ld : W.cell? ⟨g, 41, none⟩ = some (.int .u32 (W32 S.p.shared)) := hS.b0.cell 41; clear hS; go_simp; exact hK.out _ (Below.refl _ _)); simp only [nrm]
   refine wpH_p 6 hR hst ?_
   refine wpH_p 7 hR hst ?_
   refine wpH_p 8 hR hst ?_
   refine wpH_p 9 hR hst ?_
   refine wpH_p 10 hR hst ?_
   refine wpH_take (v := ?_) 11 hR hst rfl ?_ ?_; rotate_left; (intro W hS K hK; have ld : W.cell? ⟨g, 42, none⟩ = some (.int .u64 (W64 S.p.nonce)) := hS.b0.cell 42; clear hS; go_simp; exact hK.out _ (Below.refl _ _)); simp only [nrm]
   refine wpH_p 12 hR hst ?_
   refine wpH_p 13 hR hst ?_
   refine wpH_p 14 hR hst ?_
   refine wpH_p 15 hR hst ?_
   refine wpH_take (v := ?_) 16 hR hst rfl ?_ ?_; rotate_left; (intro W hS K hK; have ld : W.cell? ⟨g, 43, none⟩ = some (.int .u64 (W64 S.p.other)) := hS.b0.cell 43; clear hS; go_simp; exact hK.out _ (Below.refl _ _)); simp only [nrm]
   refine wpH_p 18 hR hst ?_
   refine wpH_p 19 hR hst ?_
   refine wpH_p 20 hR hst ?_
   refine wpH_p 21 hR hst ?_
   refine wpH_p 22 hR hst ?_
   refine wpH_take (v := ?_) 23 hR hst rfl ?_ ?_; rotate_left; (intro W hS K hK; have ld : W.cell? ⟨g, 43, none⟩ = some (.int .u64 (W64 S.p.other)) := hS.b0.cell 43; clear hS; go_simp; exact hK.out _ (Below.refl _ _)); simp only [nrm]
   refine wpH_p 24 hR hst ?_
   refine wpH_p 25 hR hst ?_
   refine wpH_p 26 hR hst ?_
   refine wpH_p 27 hR hst ?_
   refine wpH_take (v := ?_) 28 hR hst rfl ?_ ?_; rotate_left; (intro W hS K hK; have ld : W.cell? ⟨g, 42, none⟩ = some (.int .u64 (W64 S.p.nonce)) := hS.b0.cell 42; clear hS; go_simp; exact hK.out _ (Below.refl _ _)); simp only [nrm]
   refine wpH_p 30 hR hst ?_
   refine wpH_p 31 hR hst ?_
   refine wpH_take (v := .agg #[.int .i64 S.p.cfg.own.kind, .int .u64 (W64 S.p.cfg.own.bits)]) 32 hR hst rfl (fun W hS K hK => calm_load rfl rfl (load_part hS.b1 7 [.int .i64 S.p.cfg.own.kind, .int .u64 (W64 S.p.cfg.own.bits)] rfl Tryd.underlying26 rfl (by kernel_rfl)) (hK.out _ (Below.refl _ _))) ?_; simp only [nrm]
   refine wpH_p 33 hR hst ?_
   refine wpH_take (v := .agg #[.int .i64 S.p.cfg.peer.kind, .int .u64 (W64 S.p.cfg.peer.bits)]) 34 hR hst rfl (fun W hS K hK => calm_load rfl rfl (load_part hS.b1 9 [.int .i64 S.p.cfg.peer.kind, .int .u64 (W64 S.p.cfg.peer.bits)] rfl Tryd.underlying26 rfl (by kernel_rfl)) (hK.out _ (Below.refl _ _))) ?_; simp only [nrm]
   refine wpH_p 36 hR hst ?_
   refine wpH_p 37 hR hst ?_
   refine wpH_take (v := .agg #[.int .i64 S.p.cfg.peer.kind, .int .u64 (W64 S.p.cfg.peer.bits)]) 38 hR hst rfl (fun W hS K hK => calm_load rfl rfl (load_part hS.b1 9 [.int .i64 S.p.cfg.peer.kind, .int .u64 (W64 S.p.cfg.peer.bits)] rfl Tryd.underlying26 rfl (by kernel_rfl)) (hK.out _ (Below.refl _ _))) ?_; simp only [nrm]
   refine wpH_p 39 hR hst ?_
   refine wpH_take (v := .agg #[.int .i64 S.p.cfg.own.kind, .int .u64 (W64 S.p.cfg.own.bits)]) 40 hR hst rfl (fun W hS K hK => calm_load rfl rfl (load_part hS.b1 7 [.int .i64 S.p.cfg.own.kind, .int .u64 (W64 S.p.cfg.own.bits)] rfl Tryd.underlying26 rfl (by kernel_rfl)) (hK.out _ (Below.refl _ _))) ?_; simp only [nrm]
   refine wpH_take (v := ?_) 17 hR hst rfl ?_ ?_; rotate_left; (intro W hS K hK; go_simp; refine (sd_byRole_uint64 _ _ _ _ S.p.nonce S.p.other _ hS.b0 (byR S S.p.nonce S.p.other) rfl).mono ?_; rintro e w9 ⟨rfl, hb⟩; refine CallPost.mk ?_; exact hK.out _ (hb)); simp only [nrm]
   refine wpH_take (v := ?_) 29 hR hst rfl ?_ ?_; rotate_left; (intro W hS K hK; go_simp; refine (sd_byRole_uint64 _ _ _ _ S.p.other S.p.nonce _ hS.b0 (byR S S.p.other S.p.nonce) rfl).mono ?_; rintro e w9 ⟨rfl, hb⟩; refine CallPost.mk ?_; exact hK.out _ (hb)); simp only [nrm]
   refine wpH_take (v := ?_) 35 hR hst rfl ?_ ?_; rotate_left; (intro W hS K hK; go_simp; refine (sd_byRole_adr _ _ _ _ S.p.cfg.own S.p.cfg.peer _ hS.b0 (byR S S.p.cfg.own S.p.cfg.peer) rfl).mono ?_; rintro e w9 ⟨rfl, hb⟩; refine CallPost.mk ?_; exact hK.out _ (hb)); simp only [nrm]
   refine wpH_take (v := ?_) 41 hR hst rfl ?_ ?_; rotate_left; (intro W hS K hK; go_simp; refine (sd_byRole_adr _ _ _ _ S.p.cfg.peer S.p.cfg.own _ hS.b0 (byR S S.p.cfg.peer S.p.cfg.own) rfl).mono ?_; rintro e w9 ⟨rfl, hb⟩; refine CallPost.mk ?_; exact hK.out _ (hb)); simp only [nrm]
   refine wpH_take (v := ?_) 42 hR hst rfl ?_ ?_; rotate_left; (intro W hS K hK; clear hS; go_simp; refine (conf_LongTermV S.p.shared ((byR S S.p.nonce S.p.other)) ((byR S S.p.other S.p.nonce)) ((byR S S.p.cfg.own S.p.cfg.peer)) ((byR S S.p.cfg.peer S.p.cfg.own)) _).mono ?_; rintro e w9 ⟨rfl, hb⟩; refine CallPost.mk ?_; exact hK.out _ (hb)); simp only [nrm]
   refine wpH_p 43 hR hst ?_
   refine wpH_p 44 hR hst ?_
   refine wpH_p 45 hR hst ?_
   refine wpH_done (fun w_26 hS => ?_)
   have HM := hS
   clear hst
   dsimp only [List.drop]
   go_wp2_with (with_reducible refine so ?_)
   refine sx 52 (.int .u64 (W64 (ltkV S.p.shared ((byR S S.p.nonce S.p.other)) ((byR S S.p.other S.p.nonce)) ((byR S S.p.cfg.own S.p.cfg.peer)) ((byR S S.p.cfg.peer S.p.cfg.own))))) (sdL (S.accept.put_ltk (ltkV S.p.shared ((byR S S.p.nonce S.p.other)) ((byR S S.p.other S.p.nonce)) ((byR S S.p.cfg.own S.p.cfg.peer)) ((byR S S.p.cfg.peer S.p.cfg.own)))) v_11 u_12).toArray HM.b0 ?_
   intro w_27 G_29 hU_28
   replace HM := HM.s0 hU_28 G_29
   clear hU_28 G_29
   go_wp2_with (with_reducible refine so ?_)
   refine sx 19 (.int .i64 6) (sdL ((S.accept.put_ltk (ltkV S.p.shared ((byR S S.p.nonce S.p.other)) ((byR S S.p.other S.p.nonce)) ((byR S S.p.cfg.own S.p.cfg.peer)) ((byR S S.p.cfg.peer S.p.cfg.own)))).put_phase 6) v_11 u_12).toArray HM.b0 ?_
   intro w_30 G_32 hU_31
   replace HM := HM.s0 hU_31 G_32
   clear hU_31 G_32
   go_wp2_with (with_reducible refine so ?_)
   refine (sd_first _ _ _ _  _ HM.b0 S.first rfl).mono ?_; rintro e w_33 ⟨rfl, hb_34⟩
   replace HM := HM.to hb_34
   clear hb_34
   rcases hc_35 : S.first with _ | _
   ·
    skip
    go_wp2_with (with_reducible refine so ?_)
    refine (sd_check _ _ _ _  _ HM.b0 (Sd.check ((S.accept.put_ltk (ltkV S.p.shared ((byR S S.p.nonce S.p.other)) ((byR S S.p.other S.p.nonce)) ((byR S S.p.cfg.own S.p.cfg.peer)) ((byR S S.p.cfg.peer S.p.cfg.own)))).put_phase 6)) rfl).mono ?_; rintro e w_36 ⟨rfl, hb_37⟩
    replace HM := HM.to hb_37
    clear hb_37
    go_wp2_with (with_reducible refine so ?_)
    refine (sd_send _ _ ((S.accept.put_ltk (ltkV S.p.shared ((byR S S.p.nonce S.p.other)) ((byR S S.p.other S.p.nonce)) ((byR S S.p.cfg.own S.p.cfg.peer)) ((byR S S.p.cfg.peer S.p.cfg.own)))).put_phase 6) ⟨13, ⟨0, false, false, false, false, false⟩, 0#32, (Sd.check ((S.accept.put_ltk (ltkV S.p.shared ((byR S S.p.nonce S.p.other)) ((byR S S.p.other S.p.nonce)) ((byR S S.p.cfg.own S.p.cfg.peer)) ((byR S S.p.cfg.peer S.p.cfg.own)))).put_phase 6)), ⟨⟨0, 0#64⟩, 0#64⟩, 0⟩ _ _ _ _ HM.here len9).mono ?_; rintro e w_38 ⟨rfl, v_40, u_41, HN_42⟩
    replace HM := HM.trans HN_42
    clear HN_42
    go_wp2_with (with_reducible refine so ?_)
    go_returns
    have q0 := kc_7.out
    have q1 := kc_15.out
    have es : S.checks d = ((((S.accept.put_ltk (ltkV S.p.shared ((byR S S.p.nonce S.p.other)) ((byR S S.p.other S.p.nonce)) ((byR S S.p.cfg.own S.p.cfg.peer)) ((byR S S.p.cfg.peer S.p.cfg.own)))).put_phase 6).send ⟨13, ⟨0, false, false, false, false, false⟩, 0#32, (Sd.check ((S.accept.put_ltk (ltkV S.p.shared ((byR S S.p.nonce S.p.other)) ((byR S S.p.other S.p.nonce)) ((byR S S.p.cfg.own S.p.cfg.peer)) ((byR S S.p.cfg.peer S.p.cfg.own)))).put_phase 6)), ⟨⟨0, 0#64⟩, 0#64⟩, 0⟩), true) := by unfold Sd.checks; exact es9
    rw [es]
    exact ⟨rfl, v_40, u_41, HM.drop1.drop1⟩
   skip
   go_wp2_with (with_reducible refine so ?_)
   go_returns
   have q0 := kc_7.out
   have q1 := kc_15.out
   have es : S.checks d = (((S.accept.put_ltk (ltkV S.p.shared ((byR S S.p.nonce S.p.other)) ((byR S S.p.other S.p.nonce)) ((byR S S.p.cfg.own S.p.cfg.peer)) ((byR S S.p.cfg.peer S.p.cfg.own)))).put_phase 6), true) := by unfold Sd.checks; exact es9
   rw [es]
   exact ⟨rfl, v_11, u_12, HM.drop1.drop1⟩
  obtain ⟨ec_15, ec_15n, kc_15⟩ := gF hc_15; clear hc_15
  go_wp2_with (with_reducible refine so ?_)
  refine (sd_fail _ _ S.accept 11 _ _ _ _ HM.here).mono ?_; rintro e w_43 ⟨rfl, v_45, u_46, HN_47⟩
  replace HM := HM.trans HN_47
  clear HN_47
  go_wp2_with (with_reducible refine so ?_)
  go_returns
  have q0 := kc_7.out
  have q1 := kc_15.out
  have es : S.checks d = ((S.accept.fail 11), true) := by unfold Sd.checks; exact es9
  rw [es]
  exact ⟨rfl, v_45, u_46, HM.drop1⟩
 obtain ⟨ec_7, ec_7n, kc_7⟩ := fF hc_7; clear hc_7
 have ld_48 := HM.b1.c 0 (.int .i64 d.kind)
 go_wp2_with (with_reducible refine so ?_)
 go_returns
 have q0 := kc_7.out
 have es : S.checks d = (S, false) := by unfold Sd.checks; exact es9
 rw [es]
 exact ⟨rfl, v, u, HM.drop1⟩
set_option maxHeartbeats 4000000 in
theorem sd_keys (base g : Nat) (S : Sd) (d : Sec) (v u : Value) (bx : List Bk) (w : World) (HM : Mem w w base S.sent S.told v u ((g, SideT, (sdL S v u).toArray) :: bx)) (ls : S.sent.length ≤ 900) (lt : S.told.length ≤ 900) :
  Calls Tryd.prog 50 #[.pointer (some ⟨g, 0, none⟩), .agg (secL d).toArray] w (fun e w' => e = .returned (.bool (S.keys d).2) ∧ SideR w w' base g ((S.keys d).1) bx) := by
 go_enter Tryd.func50, Tryd.ntmps50
 go_wp2_with (with_reducible refine so ?_)
 refine HM.nw1 (ty := 43) (cs := (secL d).toArray) ?_; clear HM; intro g_1 w_2 HM
 go_wp2_with (with_reducible refine so ?_)
 refine (sd_distributes _ _ _ _ _ HM.b0 (byR S (identsK S.p.req S.p.res).1 (identsK S.p.req S.p.res).2, byR S (identsK S.p.req S.p.res).2 (identsK S.p.req S.p.res).1) rfl).mono ?_; rintro e w_7 ⟨rfl, hb_8⟩
 replace HM := HM.to hb_8
 clear hb_8
 by_cases hc_9 : (d.kind : Int) = 8
 ·
  obtain ⟨ec_9, ec_9n, kc_9⟩ := fT hc_9; clear hc_9
  rcases hc_10 : S.p.crypt with _ | _
  ·
   skip
   have ld_11 := HM.b1.c 0 (.int .i64 d.kind)
   have ld_12 := HM.b0.c 51 (.bool S.p.crypt)
   go_wp2_with (with_reducible refine so ?_)
   go_returns
   have q0 := kc_9.out
   have es : S.keys d = (S, false) := by unfold Sd.keys; exact es9
   rw [es]
   exact ⟨rfl, v, u, HM.drop1⟩
  skip
  rcases hc_13 : byR S (identsK S.p.req S.p.res).2 (identsK S.p.req S.p.res).1 with _ | _
  ·
   skip
   have ld_14 := HM.b1.c 0 (.int .i64 d.kind)
   have ld_15 := HM.b0.c 51 (.bool S.p.crypt)
   go_wp2_with (with_reducible refine so ?_)
   go_returns
   have q0 := kc_9.out
   have es : S.keys d = (S, false) := by unfold Sd.keys; exact es9
   rw [es]
   exact ⟨rfl, v, u, HM.drop1⟩
  skip
  have ld_16 := HM.b1.c 0 (.int .i64 d.kind)
  have ld_17 := HM.b0.c 51 (.bool S.p.crypt)
  go_wp2_with (with_reducible refine so ?_)
  refine (sd_accept _ _ S _ _ _ _ HM.here).mono ?_; rintro e w_18 ⟨rfl, v_20, u_21, HN_22⟩
  clear ld_16 ld_17
  replace HM := HM.trans HN_22
  clear HN_22
  go_wp2_with (first | (with_reducible refine so ?_) | (with_reducible refine ld 9 [.int .i64 d.idn.adr.kind, .int .u64 (W64 d.idn.adr.bits), .int .u64 (W64 d.idn.irk)] HM.b1 Tryd.underlying29 ?_))
  refine sw 53 (idnL d.idn).toArray (sdL (S.accept.put_idn d.idn) v_20 u_21).toArray HM.b0 ?_
  intro w_24 G_26 hU_25
  replace HM := HM.s0 hU_25 G_26
  clear hU_25 G_26
  go_wp2_with (with_reducible refine so ?_)
  refine (sd_first _ _ _ _  _ HM.b0 S.first rfl).mono ?_; rintro e w_27 ⟨rfl, hb_28⟩
  replace HM := HM.to hb_28
  clear hb_28
  rcases hc_29 : S.first with _ | _
  ·
   skip
   go_wp2_with (with_reducible refine so ?_)
   refine (sd_finish _ _ (S.accept.put_idn d.idn) _ _ _ _ HM.here len9).mono ?_; rintro e w_30 ⟨rfl, v_32, u_33, HN_34⟩
   replace HM := HM.trans HN_34
   clear HN_34
   go_wp2_with (with_reducible refine so ?_)
   go_returns
   have q0 := kc_9.out
   have es : S.keys d = (((S.accept.put_idn d.idn).finish), true) := by unfold Sd.keys; exact es9
   rw [es]
   exact ⟨rfl, v_32, u_33, HM.drop1⟩
  skip
  rcases hc_35 : (byR S (identsK S.p.req S.p.res).1 (identsK S.p.req S.p.res).2) with _ | _
  ·
   skip
   go_wp2_with (with_reducible refine so ?_)
   refine (sd_identity_f _ _ (S.accept.put_idn d.idn) _ _ _ _ HM.here len9 hc_35).mono ?_; rintro e w_36 ⟨rfl, v_38, u_39, HN_40⟩
   replace HM := HM.trans HN_40
   clear HN_40
   go_wp2_with (with_reducible refine so ?_)
   refine (sd_finish _ _ ((S.accept.put_idn d.idn)) _ _ _ _ HM.here len9).mono ?_; rintro e w_41 ⟨rfl, v_43, u_44, HN_45⟩
   replace HM := HM.trans HN_45
   clear HN_45
   go_wp2_with (with_reducible refine so ?_)
   go_returns
   have q0 := kc_9.out
   have es : S.keys d = ((((S.accept.put_idn d.idn)).finish), true) := by unfold Sd.keys; exact es9
   rw [es]
   exact ⟨rfl, v_43, u_44, HM.drop1⟩
  skip
  go_wp2_with (with_reducible refine so ?_)
  refine (sd_identity_t _ _ (S.accept.put_idn d.idn) _ _ _ _ HM.here len9 hc_35).mono ?_; rintro e w_46 ⟨rfl, v_48, u_49, HN_50⟩
  replace HM := HM.trans HN_50
  clear HN_50
  go_wp2_with (with_reducible refine so ?_)
  refine (sd_finish _ _ (((S.accept.put_idn d.idn).send { sec0 with kind := 8, idn := (S.accept.put_idn d.idn).p.cfg.idn })) _ _ _ _ HM.here len9).mono ?_; rintro e w_51 ⟨rfl, v_53, u_54, HN_55⟩
  replace HM := HM.trans HN_55
  clear HN_55
  go_wp2_with (with_reducible refine so ?_)
  go_returns
  have q0 := kc_9.out
  have es : S.keys d = (((((S.accept.put_idn d.idn).send { sec0 with kind := 8, idn := (S.accept.put_idn d.idn).p.cfg.idn })).finish), true) := by unfold Sd.keys; exact es9
  rw [es]
  exact ⟨rfl, v_53, u_54, HM.drop1⟩
 obtain ⟨ec_9, ec_9n, kc_9⟩ := fF hc_9; clear hc_9
 have ld_56 := HM.b1.c 0 (.int .i64 d.kind)
 go_wp2_with (with_reducible refine so ?_)
 go_returns
 have q0 := kc_9.out
 have es : S.keys d = (S, false) := by unfold Sd.keys; exact es9
 rw [es]
 exact ⟨rfl, v, u, HM.drop1⟩
set_option maxHeartbeats 4000000 in
theorem sd_idle (base g : Nat) (S : Sd) (d : Sec) (v u : Value) (bx : List Bk) (w : World) (HM : Mem w w base S.sent S.told v u ((g, SideT, (sdL S v u).toArray) :: bx)) (ls : S.sent.length ≤ 900) (lt : S.told.length ≤ 900) :
  Calls Tryd.prog 44 #[.pointer (some ⟨g, 0, none⟩), .agg (secL d).toArray] w (fun e w' => e = .returned (.bool (S.idle d).2) ∧ SideR w w' base g ((S.idle d).1) bx) := by
 go_enter Tryd.func44, Tryd.ntmps44
 go_wp2_with (with_reducible refine so ?_)
 refine HM.nw1 (ty := 43) (cs := (secL d).toArray) ?_; clear HM; intro g_1 w_2 HM
 go_wp2_with (with_reducible refine so ?_)
 refine (sd_first _ _ _ _  _ HM.b0 S.first rfl).mono ?_; rintro e w_7 ⟨rfl, hb_8⟩
 replace HM := HM.to hb_8
 clear hb_8
 rcases hc_9 : S.first with _ | _
 ·
  skip
  by_cases hc_10 : (d.kind : Int) = 1
  ·
   obtain ⟨ec_10, ec_10n, kc_10⟩ := fT hc_10; clear hc_10
   have ld_11 := HM.b1.c 0 (.int .i64 d.kind)
   go_wp2_with (with_reducible refine so ?_)
   refine (sd_accept _ _ S _ _ _ _ HM.here).mono ?_; rintro e w_12 ⟨rfl, v_14, u_15, HN_16⟩
   clear ld_11
   replace HM := HM.trans HN_16
   clear HN_16
   go_wp2_with (with_reducible refine so ?_)
   try simp only [nrm]
   have hst : Stable fun W => Mem w W base S.accept.sent S.accept.told v_14 u_15 ((g, 109, (sdL S.accept v_14 u_15).toArray) :: (g_1, 43, (secL d).toArray) :: bx) := stable_mem _ _ _ _ _ _ _
   refine wp_region_u (fun W => Mem w W base S.accept.sent S.accept.told v_14 u_15 ((g, 109, (sdL S.accept v_14 u_15).toArray) :: (g_1, 43, (secL d).toArray) :: bx)) (fun W => ∃ x0 x1 x2, Mem w W base S.accept.sent S.accept.told v_14 u_15 ((g, 109, (sdL (((S.accept.put_peer x0).put_req x1).put_res x2) v_14 u_15).toArray) :: (g_1, 43, (secL d).toArray) :: bx)) hst (fun W h => ⟨S.p.peer, S.p.req, S.p.res, h⟩) HM.drew 25 ?_
   clear HM
   refine wpU_p 0 hst ?_ (h0 := fun _ h => ⟨S.p.peer, S.p.req, S.p.res, h⟩)
   refine wpU_p 1 hst ?_ (h0 := fun _ h => ⟨S.p.peer, S.p.req, S.p.res, h⟩)
   refine wpU_p 2 hst ?_ (h0 := fun _ h => ⟨S.p.peer, S.p.req, S.p.res, h⟩)
   refine wpU_p 3 hst ?_ (h0 := fun _ h => ⟨S.p.peer, S.p.req, S.p.res, h⟩)
   refine wpU_take (v := .agg (featL d.feat).toArray) 4 hst (fun _ h => ⟨S.p.peer, S.p.req, S.p.res, h⟩) rfl (fun W hS K hK => calm_load rfl rfl (load_part hS.choose_spec.choose_spec.choose_spec.b1 1 (featL d.feat) rfl Tryd.underlying23 rfl (by kernel_rfl)) (hK.out _ (Below.refl _ _))) ?_; simp only [nrm]
   refine wpU_p 5 hst ?_ (h0 := fun _ h => ⟨S.p.peer, S.p.req, S.p.res, h⟩)
   refine wpU_take (v := .agg (featL d.feat).toArray) 6 hst (fun _ h => ⟨S.p.peer, S.p.req, S.p.res, h⟩) rfl (fun W hS K hK => calm_load rfl rfl (load_part hS.choose_spec.choose_spec.choose_spec.b1 1 (featL d.feat) rfl Tryd.underlying23 rfl (by kernel_rfl)) (hK.out _ (Below.refl _ _))) ?_; simp only [nrm]
   refine wpU_p 7 hst ?_ (h0 := fun _ h => ⟨S.p.peer, S.p.req, S.p.res, h⟩)
   refine wpU_p 8 hst ?_ (h0 := fun _ h => ⟨S.p.peer, S.p.req, S.p.res, h⟩)
   refine wpU_p 9 hst ?_ (h0 := fun _ h => ⟨S.p.peer, S.p.req, S.p.res, h⟩)
   refine wpU_p 10 hst ?_ (h0 := fun _ h => ⟨S.p.peer, S.p.req, S.p.res, h⟩)
   refine wpU_p 11 hst ?_ (h0 := fun _ h => ⟨S.p.peer, S.p.req, S.p.res, h⟩)
   refine wpU_take (v := .agg (featL S.p.cfg.feat).toArray) 12 hst (fun _ h => ⟨S.p.peer, S.p.req, S.p.res, h⟩) rfl (fun W hS K hK => calm_load rfl rfl (load_part hS.choose_spec.choose_spec.choose_spec.b0 1 (featL S.p.cfg.feat) rfl Tryd.underlying23 rfl (by kernel_rfl)) (hK.out _ (Below.refl _ _))) ?_; simp only [nrm]
   refine wpU_p 13 hst ?_ (h0 := fun _ h => ⟨S.p.peer, S.p.req, S.p.res, h⟩)
   refine wpU_p 14 hst ?_ (h0 := fun _ h => ⟨S.p.peer, S.p.req, S.p.res, h⟩)
   refine wpU_p 15 hst ?_ (h0 := fun _ h => ⟨S.p.peer, S.p.req, S.p.res, h⟩)
   refine wpU_hole (S' := fun W => Mem w W base S.accept.sent S.accept.told v_14 u_15 ((g, 109, (sdL (S.accept.put_peer d.feat) v_14 u_15).toArray) :: (g_1, 43, (secL d).toArray) :: bx)) 16 (.agg (featL d.feat).toArray) rfl rfl rfl rfl (fun W hS => hS.hole 22 (featL d.feat).toArray (sdL (S.accept.put_peer d.feat) v_14 u_15).toArray (by kernel_rfl) rfl (of_decide_eq_true rfl) (by kernel_rfl)) (stable_mem _ _ _ _ _ _ _) (fun W h => ⟨d.feat, S.p.req, S.p.res, h⟩) ?_; simp only [nrm]
   clear hst
   have hst : Stable fun W => Mem w W base S.accept.sent S.accept.told v_14 u_15 ((g, 109, (sdL (S.accept.put_peer d.feat) v_14 u_15).toArray) :: (g_1, 43, (secL d).toArray) :: bx) := stable_mem _ _ _ _ _ _ _
   refine wpU_p 17 hst ?_ (h0 := fun _ h => ⟨d.feat, S.p.req, S.p.res, h⟩)
   refine wpU_p 18 hst ?_ (h0 := fun _ h => ⟨d.feat, S.p.req, S.p.res, h⟩)
   refine wpU_p 19 hst ?_ (h0 := fun _ h => ⟨d.feat, S.p.req, S.p.res, h⟩)
   refine wpU_hole (S' := fun W => Mem w W base S.accept.sent S.accept.told v_14 u_15 ((g, 109, (sdL ((S.accept.put_peer d.feat).put_req d.feat) v_14 u_15).toArray) :: (g_1, 43, (secL d).toArray) :: bx)) 20 (.agg (featL d.feat).toArray) rfl rfl rfl rfl (fun W hS => hS.hole 28 (featL d.feat).toArray (sdL ((S.accept.put_peer d.feat).put_req d.feat) v_14 u_15).toArray (by kernel_rfl) rfl (of_decide_eq_true rfl) (by kernel_rfl)) (stable_mem _ _ _ _ _ _ _) (fun W h => ⟨d.feat, d.feat, S.p.res, h⟩) ?_; simp only [nrm]
   clear hst
   have hst : Stable fun W => Mem w W base S.accept.sent S.accept.told v_14 u_15 ((g, 109, (sdL ((S.accept.put_peer d.feat).put_req d.feat) v_14 u_15).toArray) :: (g_1, 43, (secL d).toArray) :: bx) := stable_mem _ _ _ _ _ _ _
   refine wpU_p 21 hst ?_ (h0 := fun _ h => ⟨d.feat, d.feat, S.p.res, h⟩)
   refine wpU_p 22 hst ?_ (h0 := fun _ h => ⟨d.feat, d.feat, S.p.res, h⟩)
   refine wpU_p 23 hst ?_ (h0 := fun _ h => ⟨d.feat, d.feat, S.p.res, h⟩)
   refine wpU_hole (S' := fun W => Mem w W base S.accept.sent S.accept.told v_14 u_15 ((g, 109, (sdL (((S.accept.put_peer d.feat).put_req d.feat).put_res S.p.cfg.feat) v_14 u_15).toArray) :: (g_1, 43, (secL d).toArray) :: bx)) 24 (.agg (featL S.p.cfg.feat).toArray) rfl rfl rfl rfl (fun W hS => hS.hole 34 (featL S.p.cfg.feat).toArray (sdL (((S.accept.put_peer d.feat).put_req d.feat).put_res S.p.cfg.feat) v_14 u_15).toArray (by kernel_rfl) rfl (of_decide_eq_true rfl) (by kernel_rfl)) (stable_mem _ _ _ _ _ _ _) (fun W h => ⟨d.feat, d.feat, S.p.cfg.feat, h⟩) ?_; simp only [nrm]
   clear hst
   have hst : Stable fun W => Mem w W base S.accept.sent S.accept.told v_14 u_15 ((g, 109, (sdL (((S.accept.put_peer d.feat).put_req d.feat).put_res S.p.cfg.feat) v_14 u_15).toArray) :: (g_1, 43, (secL d).toArray) :: bx) := stable_mem _ _ _ _ _ _ _
   refine wpU_done (fun w_17 hS => ?_)
   have HM := hS
   clear hst
   rcases hc_18 : enoughK d.feat S.p.cfg.feat with _ | _
   ·
    skip
    go_wp2_with (with_reducible refine so ?_)
    refine (sd_choose_f _ _ (((S.accept.put_peer d.feat).put_req d.feat).put_res S.p.cfg.feat) _ _ _ _ HM.here hc_18).mono ?_; rintro e w_19 ⟨rfl, v_21, u_22, HN_23⟩
    replace HM := HM.trans HN_23
    clear HN_23
    go_wp2_with (with_reducible refine so ?_)
    go_returns
    have q1 := kc_10.out
    have es : S.idle d = ((((((S.accept.put_peer d.feat).put_req d.feat).put_res S.p.cfg.feat).fail 3)), true) := by unfold Sd.idle; exact es9
    rw [es]
    exact ⟨rfl, v_21, u_22, HM.drop1⟩
   skip
   go_wp2_with (with_reducible refine so ?_)
   refine (sd_choose_t _ _ (((S.accept.put_peer d.feat).put_req d.feat).put_res S.p.cfg.feat) _ _ _ _ HM.here hc_18).mono ?_; rintro e w_24 ⟨rfl, v_26, u_27, HN_28⟩
   replace HM := HM.trans HN_28
   clear HN_28
   go_wp2_with (first | (with_reducible refine so ?_) | (with_reducible refine ld 1 [.int .i64 S.p.cfg.feat.io, .bool S.p.cfg.feat.oob, .bool S.p.cfg.feat.bond, .bool S.p.cfg.feat.mitm, .bool S.p.cfg.feat.sid, .bool S.p.cfg.feat.tid] HM.b0 Tryd.underlying23 ?_))
   refine (sd_send _ _ ((((((S.accept.put_peer d.feat).put_req d.feat).put_res S.p.cfg.feat).put_method (chooseK d.feat S.p.cfg.feat).1).put_phase 2)) ⟨2, ⟨S.p.cfg.feat.io, S.p.cfg.feat.oob, S.p.cfg.feat.bond, S.p.cfg.feat.mitm, S.p.cfg.feat.sid, S.p.cfg.feat.tid⟩, 0#32, 0#64, ⟨⟨0, 0#64⟩, 0#64⟩, 0⟩ _ _ _ _ HM.here len9).mono ?_; rintro e w_30 ⟨rfl, v_32, u_33, HN_34⟩
   replace HM := HM.trans HN_34
   clear HN_34
   go_wp2_with (with_reducible refine so ?_)
   go_returns
   have q1 := kc_10.out
   have es : S.idle d = ((((((((S.accept.put_peer d.feat).put_req d.feat).put_res S.p.cfg.feat).put_method (chooseK d.feat S.p.cfg.feat).1).put_phase 2)).send ⟨2, ⟨S.p.cfg.feat.io, S.p.cfg.feat.oob, S.p.cfg.feat.bond, S.p.cfg.feat.mitm, S.p.cfg.feat.sid, S.p.cfg.feat.tid⟩, 0#32, 0#64, ⟨⟨0, 0#64⟩, 0#64⟩, 0⟩), true) := by unfold Sd.idle; exact es9
   rw [es]
   exact ⟨rfl, v_32, u_33, HM.drop1⟩
  obtain ⟨ec_10, ec_10n, kc_10⟩ := fF hc_10; clear hc_10
  have ld_35 := HM.b1.c 0 (.int .i64 d.kind)
  go_wp2_with (with_reducible refine so ?_)
  go_returns
  have q1 := kc_10.out
  have es : S.idle d = (S, false) := by unfold Sd.idle; exact es9
  rw [es]
  exact ⟨rfl, v, u, HM.drop1⟩
 skip
 go_wp2_with (with_reducible refine so ?_)
 go_returns
 have es : S.idle d = (S, false) := by unfold Sd.idle; exact es9
 rw [es]
 exact ⟨rfl, v, u, HM.drop1⟩
set_option maxHeartbeats 4000000 in
theorem sd_features (base g : Nat) (S : Sd) (d : Sec) (v u : Value) (bx : List Bk) (w : World) (HM : Mem w w base S.sent S.told v u ((g, SideT, (sdL S v u).toArray) :: bx)) (ls : S.sent.length ≤ 900) (lt : S.told.length ≤ 900) :
  Calls Tryd.prog 45 #[.pointer (some ⟨g, 0, none⟩), .agg (secL d).toArray] w (fun e w' => e = .returned (.bool (S.features d).2) ∧ SideR w w' base g ((S.features d).1) bx) := by
 go_enter Tryd.func45, Tryd.ntmps45
 go_wp2_with (with_reducible refine so ?_)
 refine HM.nw1 (ty := 43) (cs := (secL d).toArray) ?_; clear HM; intro g_1 w_2 HM
 go_wp2_with (with_reducible refine so ?_)
 refine (sd_first _ _ _ _  _ HM.b0 S.first rfl).mono ?_; rintro e w_7 ⟨rfl, hb_8⟩
 replace HM := HM.to hb_8
 clear hb_8
 rcases hc_9 : S.first with _ | _
 ·
  skip
  go_wp2_with (with_reducible refine so ?_)
  go_returns
  have es : S.features d = (S, false) := by unfold Sd.features; exact es9
  rw [es]
  exact ⟨rfl, v, u, HM.drop1⟩
 skip
 by_cases hc_10 : (d.kind : Int) = 2
 ·
  obtain ⟨ec_10, ec_10n, kc_10⟩ := fT hc_10; clear hc_10
  have ld_11 := HM.b1.c 0 (.int .i64 d.kind)
  go_wp2_with (with_reducible refine so ?_)
  refine (sd_accept _ _ S _ _ _ _ HM.here).mono ?_; rintro e w_12 ⟨rfl, v_14, u_15, HN_16⟩
  clear ld_11
  replace HM := HM.trans HN_16
  clear HN_16
  go_wp2_with (with_reducible refine so ?_)
  try simp only [nrm]
  have hst : Stable fun W => Mem w W base S.accept.sent S.accept.told v_14 u_15 ((g, 109, (sdL S.accept v_14 u_15).toArray) :: (g_1, 43, (secL d).toArray) :: bx) := stable_mem _ _ _ _ _ _ _
  refine wp_region_u (fun W => Mem w W base S.accept.sent S.accept.told v_14 u_15 ((g, 109, (sdL S.accept v_14 u_15).toArray) :: (g_1, 43, (secL d).toArray) :: bx)) (fun W => ∃ x0 x1, Mem w W base S.accept.sent S.accept.told v_14 u_15 ((g, 109, (sdL ((S.accept.put_peer x0).put_res x1) v_14 u_15).toArray) :: (g_1, 43, (secL d).toArray) :: bx)) hst (fun W h => ⟨S.p.peer, S.p.res, h⟩) HM.drew 14 ?_
  clear HM
  refine wpU_p 0 hst ?_ (h0 := fun _ h => ⟨S.p.peer, S.p.res, h⟩)
  refine wpU_p 1 hst ?_ (h0 := fun _ h => ⟨S.p.peer, S.p.res, h⟩)
  refine wpU_p 2 hst ?_ (h0 := fun _ h => ⟨S.p.peer, S.p.res, h⟩)
  refine wpU_take (v := .agg (featL d.feat).toArray) 3 hst (fun _ h => ⟨S.p.peer, S.p.res, h⟩) rfl (fun W hS K hK => calm_load rfl rfl (load_part hS.choose_spec.choose_spec.b1 1 (featL d.feat) rfl Tryd.underlying23 rfl (by kernel_rfl)) (hK.out _ (Below.refl _ _))) ?_; simp only [nrm]
  refine wpU_p 4 hst ?_ (h0 := fun _ h => ⟨S.p.peer, S.p.res, h⟩)
  refine wpU_take (v := .agg (featL d.feat).toArray) 5 hst (fun _ h => ⟨S.p.peer, S.p.res, h⟩) rfl (fun W hS K hK => calm_load rfl rfl (load_part hS.choose_spec.choose_spec.b1 1 (featL d.feat) rfl Tryd.underlying23 rfl (by kernel_rfl)) (hK.out _ (Below.refl _ _))) ?_; simp only [nrm]
  refine wpU_p 6 hst ?_ (h0 := fun _ h => ⟨S.p.peer, S.p.res, h⟩)
  refine wpU_p 7 hst ?_ (h0 := fun _ h => ⟨S.p.peer, S.p.res, h⟩)
  refine wpU_p 8 hst ?_ (h0 := fun _ h => ⟨S.p.peer, S.p.res, h⟩)
  refine wpU_hole (S' := fun W => Mem w W base S.accept.sent S.accept.told v_14 u_15 ((g, 109, (sdL (S.accept.put_peer d.feat) v_14 u_15).toArray) :: (g_1, 43, (secL d).toArray) :: bx)) 9 (.agg (featL d.feat).toArray) rfl rfl rfl rfl (fun W hS => hS.hole 22 (featL d.feat).toArray (sdL (S.accept.put_peer d.feat) v_14 u_15).toArray (by kernel_rfl) rfl (of_decide_eq_true rfl) (by kernel_rfl)) (stable_mem _ _ _ _ _ _ _) (fun W h => ⟨d.feat, S.p.res, h⟩) ?_; simp only [nrm]
  clear hst
  have hst : Stable fun W => Mem w W base S.accept.sent S.accept.told v_14 u_15 ((g, 109, (sdL (S.accept.put_peer d.feat) v_14 u_15).toArray) :: (g_1, 43, (secL d).toArray) :: bx) := stable_mem _ _ _ _ _ _ _
  refine wpU_p 10 hst ?_ (h0 := fun _ h => ⟨d.feat, S.p.res, h⟩)
  refine wpU_p 11 hst ?_ (h0 := fun _ h => ⟨d.feat, S.p.res, h⟩)
  refine wpU_p 12 hst ?_ (h0 := fun _ h => ⟨d.feat, S.p.res, h⟩)
  refine wpU_hole (S' := fun W => Mem w W base S.accept.sent S.accept.told v_14 u_15 ((g, 109, (sdL ((S.accept.put_peer d.feat).put_res d.feat) v_14 u_15).toArray) :: (g_1, 43, (secL d).toArray) :: bx)) 13 (.agg (featL d.feat).toArray) rfl rfl rfl rfl (fun W hS => hS.hole 34 (featL d.feat).toArray (sdL ((S.accept.put_peer d.feat).put_res d.feat) v_14 u_15).toArray (by kernel_rfl) rfl (of_decide_eq_true rfl) (by kernel_rfl)) (stable_mem _ _ _ _ _ _ _) (fun W h => ⟨d.feat, d.feat, h⟩) ?_; simp only [nrm]
  clear hst
  have hst : Stable fun W => Mem w W base S.accept.sent S.accept.told v_14 u_15 ((g, 109, (sdL ((S.accept.put_peer d.feat).put_res d.feat) v_14 u_15).toArray) :: (g_1, 43, (secL d).toArray) :: bx) := stable_mem _ _ _ _ _ _ _
  refine wpU_done (fun w_17 hS => ?_)
  have HM := hS
  clear hst
  rcases hc_18 : enoughK S.p.req d.feat with _ | _
  ·
   skip
   go_wp2_with (with_reducible refine so ?_)
   refine (sd_choose_f _ _ ((S.accept.put_peer d.feat).put_res d.feat) _ _ _ _ HM.here hc_18).mono ?_; rintro e w_19 ⟨rfl, v_21, u_22, HN_23⟩
   replace HM := HM.trans HN_23
   clear HN_23
   go_wp2_with (with_reducible refine so ?_)
   go_returns
   have q1 := kc_10.out
   have es : S.features d = (((((S.accept.put_peer d.feat).put_res d.feat).fail 3)), true) := by unfold Sd.features; exact es9
   rw [es]
   exact ⟨rfl, v_21, u_22, HM.drop1⟩
  skip
  go_wp2_with (with_reducible refine so ?_)
  refine (sd_choose_t _ _ ((S.accept.put_peer d.feat).put_res d.feat) _ _ _ _ HM.here hc_18).mono ?_; rintro e w_24 ⟨rfl, v_26, u_27, HN_28⟩
  replace HM := HM.trans HN_28
  clear HN_28
  go_wp2_with (with_reducible refine so ?_)
  refine (sd_own _ _ _ _  _ HM.b0 (pubK S.p.cfg.secret) rfl).mono ?_; rintro e w_29 ⟨rfl, hb_30⟩
  replace HM := HM.to hb_30
  clear hb_30
  go_wp2_with (with_reducible refine so ?_)
  refine (sd_send _ _ (((((S.accept.put_peer d.feat).put_res d.feat).put_method (chooseK S.p.req d.feat).1).put_phase 2)) ⟨12, ⟨0, false, false, false, false, false⟩, (pubK S.p.cfg.secret), 0#64, ⟨⟨0, 0#64⟩, 0#64⟩, 0⟩ _ _ _ _ HM.here len9).mono ?_; rintro e w_31 ⟨rfl, v_33, u_34, HN_35⟩
  replace HM := HM.trans HN_35
  clear HN_35
  go_wp2_with (with_reducible refine so ?_)
  go_returns
  have q1 := kc_10.out
  have es : S.features d = (((((((S.accept.put_peer d.feat).put_res d.feat).put_method (chooseK S.p.req d.feat).1).put_phase 2)).send ⟨12, ⟨0, false, false, false, false, false⟩, (pubK S.p.cfg.secret), 0#64, ⟨⟨0, 0#64⟩, 0#64⟩, 0⟩), true) := by unfold Sd.features; exact es9
  rw [es]
  exact ⟨rfl, v_33, u_34, HM.drop1⟩
 obtain ⟨ec_10, ec_10n, kc_10⟩ := fF hc_10; clear hc_10
 have ld_36 := HM.b1.c 0 (.int .i64 d.kind)
 go_wp2_with (with_reducible refine so ?_)
 go_returns
 have q1 := kc_10.out
 have es : S.features d = (S, false) := by unfold Sd.features; exact es9
 rw [es]
 exact ⟨rfl, v, u, HM.drop1⟩
set_option maxHeartbeats 4000000 in
theorem sd_auth (base g : Nat) (S : Sd) (d : Sec) (v u : Value) (bx : List Bk) (w : World) (HM : Mem w w base S.sent S.told v u ((g, SideT, (sdL S v u).toArray) :: bx)) (ls : S.sent.length ≤ 910) (lt : S.told.length ≤ 910) (h0 : 0 ≤ S.p.round) (h1 : S.p.round ≤ 64) (h2 : S.p.round ≤ 60) :
  Calls Tryd.prog 47 #[.pointer (some ⟨g, 0, none⟩), .agg (secL d).toArray] w (fun e w' => e = .returned (.bool (S.auth d).2) ∧ SideR w w' base g ((S.auth d).1) bx) := by
 go_enter Tryd.func47, Tryd.ntmps47
 go_wp2_with (with_reducible refine so ?_)
 refine HM.nw1 (ty := 43) (cs := (secL d).toArray) ?_; clear HM; intro g_1 w_2 HM
 by_cases hc_7 : (S.p.method : Int) = 6
 ·
  obtain ⟨ec_7, ec_7n, kc_7⟩ := fT hc_7; clear hc_7
  have ld_8 := HM.b0.c 21 (.int .i64 S.p.method)
  go_wp2_with (first | (with_reducible refine so ?_) | (with_reducible refine ld 0 (secL d) HM.b1 Tryd.underlying43 ?_))
  refine (sd_authOOB _ _ S d _ _ _ _ HM.here len9 len9 ).mono ?_; rintro e w_10 ⟨rfl, v_12, u_13, HN_14⟩
  clear ld_8
  replace HM := HM.trans HN_14
  clear HN_14
  go_wp2_with (with_reducible refine so ?_)
  go_returns
  have q0 := kc_7.out
  have es : S.auth d = (((S.authOOB d).1), (S.authOOB d).2) := by unfold Sd.auth; exact es9
  rw [es]
  exact ⟨rfl, v_12, u_13, HM.drop1⟩
 obtain ⟨ec_7, ec_7n, kc_7⟩ := fF hc_7; clear hc_7
 have ld_15 := HM.b0.c 21 (.int .i64 S.p.method)
 go_wp2_with (with_reducible refine so ?_)
 refine (sd_passkey _ _ _ _  _ HM.b0 (isPass S.p.method) rfl).mono ?_; rintro e w_16 ⟨rfl, hb_17⟩
 clear ld_15
 replace HM := HM.to hb_17
 clear hb_17
 rcases hc_18 : isPass S.p.method with _ | _
 ·
  skip
  go_wp2_with (with_reducible refine so ?_)
  refine (sd_first _ _ _ _  _ HM.b0 S.first rfl).mono ?_; rintro e w_19 ⟨rfl, hb_20⟩
  replace HM := HM.to hb_20
  clear hb_20
  rcases hc_21 : S.first with _ | _
  ·
   skip
   by_cases hc_22 : (d.kind : Int) = 4
   ·
    obtain ⟨ec_22, ec_22n, kc_22⟩ := fT hc_22; clear hc_22
    have ld_23 := HM.b1.c 0 (.int .i64 d.kind)
    go_wp2_with (with_reducible refine so ?_)
    refine (sd_accept _ _ S _ _ _ _ HM.here).mono ?_; rintro e w_24 ⟨rfl, v_26, u_27, HN_28⟩
    clear ld_23
    replace HM := HM.trans HN_28
    clear HN_28
    have ld_29 := HM.b1.c 8 (.int .u64 (W64 d.value))
    go_wp2_with (with_reducible refine so ?_)
    refine sx 43 (.int .u64 (W64 d.value)) (sdL (S.accept.put_other d.value) v_26 u_27).toArray HM.b0 ?_
    intro w_30 G_32 hU_31
    clear ld_29
    replace HM := HM.s0 hU_31 G_32
    clear hU_31 G_32
    go_wp2_with (with_reducible refine so ?_)
    refine (sd_random _ _ (S.accept.put_other d.value) _ _ _ _ HM.here len9).mono ?_; rintro e w_33 ⟨rfl, v_35, u_36, HN_37⟩
    replace HM := HM.trans HN_37
    clear HN_37
    go_wp2_with (with_reducible refine so ?_)
    refine (sd_exchanged _ _ ((S.accept.put_other d.value).random) _ _ _ _ HM.here len9 len9).mono ?_; rintro e w_38 ⟨rfl, v_40, u_41, HN_42⟩
    replace HM := HM.trans HN_42
    clear HN_42
    go_wp2_with (with_reducible refine so ?_)
    go_returns
    have q0 := kc_7.out
    have q3 := kc_22.out
    have es : S.auth d = ((((S.accept.put_other d.value).random).exchanged), true) := by unfold Sd.auth; exact es9
    rw [es]
    exact ⟨rfl, v_40, u_41, HM.drop1⟩
   obtain ⟨ec_22, ec_22n, kc_22⟩ := fF hc_22; clear hc_22
   have ld_43 := HM.b1.c 0 (.int .i64 d.kind)
   go_wp2_with (with_reducible refine so ?_)
   go_returns
   have q0 := kc_7.out
   have q3 := kc_22.out
   have es : S.auth d = (S, false) := by unfold Sd.auth; exact es9
   rw [es]
   exact ⟨rfl, v, u, HM.drop1⟩
  skip
  go_wp2_with (first | (with_reducible refine so ?_) | (with_reducible refine ld 0 (secL d) HM.b1 Tryd.underlying43 ?_))
  refine (sd_authFirst _ _ S d _ _ _ _ HM.here len9 len9 (by first | exact h0 | exact h0p) (by first | exact h1 | exact h1p)).mono ?_; rintro e w_45 ⟨rfl, v_47, u_48, HN_49⟩
  replace HM := HM.trans HN_49
  clear HN_49
  go_wp2_with (with_reducible refine so ?_)
  go_returns
  have q0 := kc_7.out
  have es : S.auth d = (((S.authFirst d).1), (S.authFirst d).2) := by unfold Sd.auth; exact es9
  rw [es]
  exact ⟨rfl, v_47, u_48, HM.drop1⟩
 skip
 go_wp2_with (first | (with_reducible refine so ?_) | (with_reducible refine ld 0 (secL d) HM.b1 Tryd.underlying43 ?_))
 refine (sd_authPasskey _ _ S d _ _ _ _ HM.here len9 len9 (by first | exact h0 | exact h0p) (by first | exact h1 | exact h1p) h2).mono ?_; rintro e w_51 ⟨rfl, v_53, u_54, HN_55⟩
 replace HM := HM.trans HN_55
 clear HN_55
 go_wp2_with (with_reducible refine so ?_)
 go_returns
 have q0 := kc_7.out
 have es : S.auth d = (((S.authPasskey d).1), (S.authPasskey d).2) := by unfold Sd.auth; exact es9
 rw [es]
 exact ⟨rfl, v_53, u_54, HM.drop1⟩
set_option maxHeartbeats 4000000 in
theorem sd_public (base g : Nat) (S : Sd) (d : Sec) (v u : Value) (bx : List Bk) (w : World) (HM : Mem w w base S.sent S.told v u ((g, SideT, (sdL S v u).toArray) :: bx)) (ls : S.sent.length ≤ 900) (lt : S.told.length ≤ 900) (h0 : 0 ≤ S.p.round) (h1 : S.p.round ≤ 64) :
  Calls Tryd.prog 46 #[.pointer (some ⟨g, 0, none⟩), .agg (secL d).toArray] w (fun e w' => e = .returned (.bool (S.public_ d).2) ∧ SideR w w' base g ((S.public_ d).1) bx) := by
 go_enter Tryd.func46, Tryd.ntmps46
 go_wp2_with (with_reducible refine so ?_)
 refine HM.nw1 (ty := 43) (cs := (secL d).toArray) ?_; clear HM; intro g_1 w_2 HM
 by_cases hc_7 : (d.kind : Int) = 12
 ·
  obtain ⟨ec_7, ec_7n, kc_7⟩ := fT hc_7; clear hc_7
  have ld_8 := HM.b1.c 0 (.int .i64 d.kind)
  go_wp2_with (with_reducible refine so ?_)
  refine (sd_accept _ _ S _ _ _ _ HM.here).mono ?_; rintro e w_9 ⟨rfl, v_11, u_12, HN_13⟩
  clear ld_8
  replace HM := HM.trans HN_13
  clear HN_13
  go_wp2_with (with_reducible refine so ?_)
  try simp only [nrm]
  have hst : Stable fun W => Mem w W base S.accept.sent S.accept.told v_11 u_12 ((g, 109, (sdL S.accept v_11 u_12).toArray) :: (g_1, 43, (secL d).toArray) :: bx) := stable_mem _ _ _ _ _ _ _
  refine wp_region_hh (fun W => Mem w W base S.accept.sent S.accept.told v_11 u_12 ((g, 109, (sdL S.accept v_11 u_12).toArray) :: (g_1, 43, (secL d).toArray) :: bx)) 9 hst (HM.drew) ⟨by kernel_rfl, by kernel_rfl, by kernel_rfl, by decide⟩ (fun hR => ?_)
  clear HM
  refine wpH_p 0 hR hst ?_
  refine wpH_take (v := ?_) 1 hR hst rfl ?_ ?_; rotate_left; (intro W hS K hK; have ld : W.cell? ⟨g_1, 7, none⟩ = some (.int .u32 (W32 d.pub)) := hS.b1.cell 7; clear hS; go_simp; exact hK.out _ (Below.refl _ _)); simp only [nrm]
  refine wpH_p 2 hR hst ?_
  refine wpH_p 3 hR hst ?_
  refine wpH_p 4 hR hst ?_
  refine wpH_p 5 hR hst ?_
  refine wpH_take (v := .agg (cfgL S.p.cfg).toArray) 6 hR hst rfl (fun W hS K hK => calm_load rfl rfl (load_part hS.b0 0 (cfgL S.p.cfg) rfl Tryd.underlying34 rfl (by kernel_rfl)) (hK.out _ (Below.refl _ _))) ?_; simp only [nrm]
  refine wpH_new 7 hst rfl ?_; intro W hS K hK
  have HN := (hS).alloc1 (Nat.le_refl _) ((Below.refl _ _).alloc (Nat.le_refl _) _) (Blk.new W 34 (cfgL cfg0).toArray)
  clear hS
  go_simp
  refine hK.out (fun W' => Mem w W' base S.accept.sent S.accept.told v_11 u_12 ((g, 109, (sdL S.accept v_11 u_12).toArray) :: (W.heap.size, 34, (cfgL cfg0).toArray) :: (g_1, 43, (secL d).toArray) :: bx)) _ _ (stable_mem _ _ _ _ _ _ _) ((Below.refl _ _).alloc (Nat.le_refl _) _) HN (fun hst => ?_)
  clear hK K HN
  try simp only [nrm]
  generalize W.heap.size = g4_7 at hst ⊢
  clear W
  refine wpH_p 8 hR hst ?_
  refine wpH_done (fun w_14 hS => ?_)
  obtain ⟨HM, HM⟩ := hS
  clear hst
  dsimp only [List.drop]
  go_wp2_with (with_reducible refine so ?_)
  refine sv (cfgL S.p.cfg).toArray HM.b1 ?_
  intro w_15 G_17 hU_16
  replace HM := HM.s1 hU_16 G_17
  clear hU_16 G_17
  go_wp2_with (with_reducible refine so ?_)
  refine (gr_Valid d.pub _).mono ?_; rintro e w_18 ⟨rfl, hb_19⟩
  replace HM := HM.to hb_19
  clear hb_19
  rcases hc_20 : validK d.pub with _ | _
  ·
   skip
   go_wp2_with (with_reducible refine so ?_)
   refine (sd_fail _ _ S.accept 13 _ _ _ _ HM.here).mono ?_; rintro e w_21 ⟨rfl, v_23, u_24, HN_25⟩
   replace HM := HM.trans HN_25
   clear HN_25
   go_wp2_with (with_reducible refine so ?_)
   go_returns
   have q0 := kc_7.out
   have es : S.public_ d = ((S.accept.fail 13), true) := by unfold Sd.public_; exact es9
   rw [es]
   exact ⟨rfl, v_23, u_24, HM.drop1.drop1⟩
  skip
  go_wp2_with (with_reducible refine so ?_)
  refine (sd_own _ _ _ _  _ HM.b0 (pubK S.p.cfg.secret) rfl).mono ?_; rintro e w_26 ⟨rfl, hb_27⟩
  replace HM := HM.to hb_27
  clear hb_27
  by_cases hc_28 : d.pub = pubK S.p.cfg.secret
  ·
   have ec_28 : ((W32 d.pub : Int) == W32 (pubK S.p.cfg.secret)) = true := by have this : (W32 d.pub == W32 (pubK S.p.cfg.secret)) = true := (by rw [W32_beq]; simpa using hc_28); exact this
   have ec_28n : ((W32 d.pub : Int) != W32 (pubK S.p.cfg.secret)) = false := by have this : (W32 d.pub != W32 (pubK S.p.cfg.secret)) = false := (by rw [W32_bne]; simpa using hc_28); exact this
   have kc_28 := Lib.hid hc_28
   clear hc_28
   go_wp2_with (with_reducible refine so ?_)
   refine (sd_fail _ _ S.accept 13 _ _ _ _ HM.here).mono ?_; rintro e w_29 ⟨rfl, v_31, u_32, HN_33⟩
   replace HM := HM.trans HN_33
   clear HN_33
   go_wp2_with (with_reducible refine so ?_)
   go_returns
   have q0 := kc_7.out
   have q2 := kc_28.out
   have es : S.public_ d = ((S.accept.fail 13), true) := by unfold Sd.public_; exact es9
   rw [es]
   exact ⟨rfl, v_31, u_32, HM.drop1.drop1⟩
  have ec_28 : ((W32 d.pub : Int) == W32 (pubK S.p.cfg.secret)) = false := by have this : (W32 d.pub == W32 (pubK S.p.cfg.secret)) = false := (by rw [W32_beq]; simpa using hc_28); exact this
  have ec_28n : ((W32 d.pub : Int) != W32 (pubK S.p.cfg.secret)) = true := by have this : (W32 d.pub != W32 (pubK S.p.cfg.secret)) = true := (by rw [W32_bne]; simpa using hc_28); exact this
  have kc_28 := Lib.hid hc_28
  clear hc_28
  rcases hc_34 : S.p.cfg.feat.oob with _ | _
  ·
   skip
   go_wp2_with (with_reducible refine so ?_)
   have hst : Stable fun W => Mem w W base S.accept.sent S.accept.told v_11 u_12 ((g, 109, (sdL S.accept v_11 u_12).toArray) :: (g4_7, 34, (cfgL S.p.cfg).toArray) :: (g_1, 43, (secL d).toArray) :: bx) := stable_mem _ _ _ _ _ _ _
   refine wp_region_v _ 15 hst (HM.drew) ?_
   clear HM
   refine wpU_p 0 hst ?_
   refine wpU_p 1 hst ?_
   refine wpU_take (v := ?_) 2 hst (fun _ h => h) rfl ?_ ?_; rotate_left; (intro W hS K hK; have ld : W.cell? ⟨g4_7, 2, none⟩ = some (.bool S.p.cfg.feat.oob) := hS.b1.cell 2; clear hS; go_simp; exact hK.out _ (Below.refl _ _)); simp only [nrm]
   refine wpU_p 3 hst ?_
   refine wpU_s 4 hst ?_
   refine wpU_s 5 hst ?_
   refine wpU_s 6 hst ?_
   refine wpU_s 7 hst ?_
   refine wpU_s 8 hst ?_
   refine wpU_s 9 hst ?_
   refine wpU_s 10 hst ?_
   refine wpU_s 11 hst ?_
   refine wpU_s 12 hst ?_
   refine wpU_s 13 hst ?_
   refine wpU_p 14 hst ?_
   refine wpU_done (fun w_35 hS => ?_)
   have HM := hS
   clear hst
   have ld_36 := HM.b1.c 14 (.int .u32 (W32 S.p.cfg.secret))
   go_wp2_with (with_reducible refine so ?_)
   refine (gr_Shared S.p.cfg.secret d.pub _).mono ?_; rintro e w_37 ⟨rfl, hb_38⟩
   clear ld_36
   replace HM := HM.to hb_38
   clear hb_38
   go_wp2_with (with_reducible refine so ?_)
   refine sx 40 (.int .u32 (W32 d.pub)) (sdL (S.accept.put_peerKey d.pub) v_11 u_12).toArray HM.b0 ?_
   intro w_39 G_41 hU_40
   replace HM := HM.s0 hU_40 G_41
   clear hU_40 G_41
   go_wp2_with (with_reducible refine so ?_)
   refine sx 41 (.int .u32 (W32 (sharedK S.p.cfg.secret d.pub))) (sdL ((S.accept.put_peerKey d.pub).put_shared (sharedK S.p.cfg.secret d.pub)) v_11 u_12).toArray HM.b0 ?_
   intro w_42 G_44 hU_43
   replace HM := HM.s0 hU_43 G_44
   clear hU_43 G_44
   go_wp2_with (with_reducible refine so ?_)
   refine (sd_first _ _ _ _  _ HM.b0 S.first rfl).mono ?_; rintro e w_45 ⟨rfl, hb_46⟩
   replace HM := HM.to hb_46
   clear hb_46
   rcases hc_47 : S.first with _ | _
   ·
    skip
    go_wp2_with (with_reducible refine so ?_)
    refine (sd_own _ _ _ _  _ HM.b0 (pubK S.p.cfg.secret) rfl).mono ?_; rintro e w_48 ⟨rfl, hb_49⟩
    replace HM := HM.to hb_49
    clear hb_49
    go_wp2_with (with_reducible refine so ?_)
    refine (sd_send _ _ ((S.accept.put_peerKey d.pub).put_shared (sharedK S.p.cfg.secret d.pub)) ⟨12, ⟨0, false, false, false, false, false⟩, (pubK S.p.cfg.secret), 0#64, ⟨⟨0, 0#64⟩, 0#64⟩, 0⟩ _ _ _ _ HM.here len9).mono ?_; rintro e w_50 ⟨rfl, v_52, u_53, HN_54⟩
    replace HM := HM.trans HN_54
    clear HN_54
    go_wp2_with (with_reducible refine so ?_)
    refine (sd_begin _ _ (((S.accept.put_peerKey d.pub).put_shared (sharedK S.p.cfg.secret d.pub)).send ⟨12, ⟨0, false, false, false, false, false⟩, (pubK S.p.cfg.secret), 0#64, ⟨⟨0, 0#64⟩, 0#64⟩, 0⟩) _ _ _ _ HM.here len9 len9 (by first | exact h0 | exact h0p) (by first | exact h1 | exact h1p)).mono ?_; rintro e w_55 ⟨rfl, v_57, u_58, HN_59⟩
    replace HM := HM.trans HN_59
    clear HN_59
    go_wp2_with (with_reducible refine so ?_)
    go_returns
    have q0 := kc_7.out
    have q2 := kc_28.out
    have es : S.public_ d = (((((S.accept.put_peerKey d.pub).put_shared (sharedK S.p.cfg.secret d.pub)).send ⟨12, ⟨0, false, false, false, false, false⟩, (pubK S.p.cfg.secret), 0#64, ⟨⟨0, 0#64⟩, 0#64⟩, 0⟩).begin_), true) := by first | rfl | (unfold Sd.public_; (try unfold Sd.take); (try unfold Sd.open_); (try unfold Sd.identity); (try dsimp only); (repeat' (split <;> (first | (exfalso; rename_i hh; first | exact absurd q0 hh | exact absurd hh q0 | exact absurd (q0.symm.trans hh) (by decide) | exact absurd hc_20 hh | exact absurd hh hc_20 | exact absurd (hc_20.symm.trans hh) (by decide) | exact absurd q2 hh | exact absurd hh q2 | exact absurd (q2.symm.trans hh) (by decide) | exact absurd hc_34 hh | exact absurd hh hc_34 | exact absurd (hc_34.symm.trans hh) (by decide) | exact absurd hc_47 hh | exact absurd hh hc_47 | exact absurd (hc_47.symm.trans hh) (by decide) | (simp [Sd.keyed, Sd.setP, Sd.own, q0, hc_20, q2, hc_34, hc_47] at hh; done)) | skip))); all_goals rfl) | (exfalso; omega) | (simp [Sd.public_, Sd.keyed, Sd.setP, Sd.own, q0, hc_20, q2, hc_34, hc_47]; done) | (simp [Sd.public_, Sd.keyed, Sd.setP, Sd.own, q0, hc_20, q2, hc_34, hc_47]; rfl)
    rw [es]
    exact ⟨rfl, v_57, u_58, HM.drop1.drop1⟩
   skip
   go_wp2_with (with_reducible refine so ?_)
   refine (sd_begin _ _ ((S.accept.put_peerKey d.pub).put_shared (sharedK S.p.cfg.secret d.pub)) _ _ _ _ HM.here len9 len9 (by first | exact h0 | exact h0p) (by first | exact h1 | exact h1p)).mono ?_; rintro e w_60 ⟨rfl, v_62, u_63, HN_64⟩
   replace HM := HM.trans HN_64
   clear HN_64
   go_wp2_with (with_reducible refine so ?_)
   go_returns
   have q0 := kc_7.out
   have q2 := kc_28.out
   have es : S.public_ d = ((((S.accept.put_peerKey d.pub).put_shared (sharedK S.p.cfg.secret d.pub)).begin_), true) := by first | rfl | (unfold Sd.public_; (try unfold Sd.take); (try unfold Sd.open_); (try unfold Sd.identity); (try dsimp only); (repeat' (split <;> (first | (exfalso; rename_i hh; first | exact absurd q0 hh | exact absurd hh q0 | exact absurd (q0.symm.trans hh) (by decide) | exact absurd hc_20 hh | exact absurd hh hc_20 | exact absurd (hc_20.symm.trans hh) (by decide) | exact absurd q2 hh | exact absurd hh q2 | exact absurd (q2.symm.trans hh) (by decide) | exact absurd hc_34 hh | exact absurd hh hc_34 | exact absurd (hc_34.symm.trans hh) (by decide) | exact absurd hc_47 hh | exact absurd hh hc_47 | exact absurd (hc_47.symm.trans hh) (by decide) | (simp [Sd.keyed, Sd.setP, Sd.own, q0, hc_20, q2, hc_34, hc_47] at hh; done)) | skip))); all_goals rfl) | (exfalso; omega) | (simp [Sd.public_, Sd.keyed, Sd.setP, Sd.own, q0, hc_20, q2, hc_34, hc_47]; done) | (simp [Sd.public_, Sd.keyed, Sd.setP, Sd.own, q0, hc_20, q2, hc_34, hc_47]; rfl)
   rw [es]
   exact ⟨rfl, v_62, u_63, HM.drop1.drop1⟩
  skip
  go_wp2_with (with_reducible refine so ?_)
  have hst : Stable fun W => Mem w W base S.accept.sent S.accept.told v_11 u_12 ((g, 109, (sdL S.accept v_11 u_12).toArray) :: (g4_7, 34, (cfgL S.p.cfg).toArray) :: (g_1, 43, (secL d).toArray) :: bx) := stable_mem _ _ _ _ _ _ _
  refine wp_region_v _ 15 hst (HM.drew) ?_
  clear HM
  refine wpU_p 0 hst ?_
  refine wpU_p 1 hst ?_
  refine wpU_take (v := ?_) 2 hst (fun _ h => h) rfl ?_ ?_; rotate_left; (intro W hS K hK; have ld : W.cell? ⟨g4_7, 2, none⟩ = some (.bool S.p.cfg.feat.oob) := hS.b1.cell 2; clear hS; go_simp; exact hK.out _ (Below.refl _ _)); simp only [nrm]
  refine wpU_p 3 hst ?_
  refine wpU_p 4 hst ?_
  refine wpU_p 5 hst ?_
  refine wpU_c 6 (.int .u64 (W64 S.p.cfg.oob.value)) hst (fun W hS => hS.b1.cell 17) ?_
  refine wpU_p 7 hst ?_
  refine wpU_p 8 hst ?_
  refine wpU_p 9 hst ?_
  refine wpU_p 10 hst ?_
  refine wpU_c 11 (.int .u64 (W64 S.p.cfg.oob.random)) hst (fun W hS => hS.b1.cell 18) ?_
  refine wpU_take (v := ?_) 12 hst (fun _ h => h) rfl ?_ ?_; rotate_left; (intro W hS K hK; clear hS; go_simp; refine (conf_Commit d.pub d.pub S.p.cfg.oob.random (0#8) _).mono ?_; rintro e w9 ⟨rfl, hb⟩; refine CallPost.mk ?_; exact hK.out _ (hb)); simp only [nrm]
  refine wpU_p 13 hst ?_
  refine wpU_p 14 hst ?_
  refine wpU_done (fun w_65 hS => ?_)
  have HM := hS
  clear hst
  by_cases hc_66 : S.p.cfg.oob.value = commitK d.pub d.pub S.p.cfg.oob.random (0#8)
  ·
   obtain ⟨ec_66, ec_66n, kc_66⟩ := gT hc_66; clear hc_66
   have ld_67 := HM.b1.c 14 (.int .u32 (W32 S.p.cfg.secret))
   go_wp2_with (with_reducible refine so ?_)
   refine (gr_Shared S.p.cfg.secret d.pub _).mono ?_; rintro e w_68 ⟨rfl, hb_69⟩
   clear ld_67
   replace HM := HM.to hb_69
   clear hb_69
   go_wp2_with (with_reducible refine so ?_)
   refine sx 40 (.int .u32 (W32 d.pub)) (sdL (S.accept.put_peerKey d.pub) v_11 u_12).toArray HM.b0 ?_
   intro w_70 G_72 hU_71
   replace HM := HM.s0 hU_71 G_72
   clear hU_71 G_72
   go_wp2_with (with_reducible refine so ?_)
   refine sx 41 (.int .u32 (W32 (sharedK S.p.cfg.secret d.pub))) (sdL ((S.accept.put_peerKey d.pub).put_shared (sharedK S.p.cfg.secret d.pub)) v_11 u_12).toArray HM.b0 ?_
   intro w_73 G_75 hU_74
   replace HM := HM.s0 hU_74 G_75
   clear hU_74 G_75
   go_wp2_with (with_reducible refine so ?_)
   refine (sd_first _ _ _ _  _ HM.b0 S.first rfl).mono ?_; rintro e w_76 ⟨rfl, hb_77⟩
   replace HM := HM.to hb_77
   clear hb_77
   rcases hc_78 : S.first with _ | _
   ·
    skip
    go_wp2_with (with_reducible refine so ?_)
    refine (sd_own _ _ _ _  _ HM.b0 (pubK S.p.cfg.secret) rfl).mono ?_; rintro e w_79 ⟨rfl, hb_80⟩
    replace HM := HM.to hb_80
    clear hb_80
    go_wp2_with (with_reducible refine so ?_)
    refine (sd_send _ _ ((S.accept.put_peerKey d.pub).put_shared (sharedK S.p.cfg.secret d.pub)) ⟨12, ⟨0, false, false, false, false, false⟩, (pubK S.p.cfg.secret), 0#64, ⟨⟨0, 0#64⟩, 0#64⟩, 0⟩ _ _ _ _ HM.here len9).mono ?_; rintro e w_81 ⟨rfl, v_83, u_84, HN_85⟩
    replace HM := HM.trans HN_85
    clear HN_85
    go_wp2_with (with_reducible refine so ?_)
    refine (sd_begin _ _ (((S.accept.put_peerKey d.pub).put_shared (sharedK S.p.cfg.secret d.pub)).send ⟨12, ⟨0, false, false, false, false, false⟩, (pubK S.p.cfg.secret), 0#64, ⟨⟨0, 0#64⟩, 0#64⟩, 0⟩) _ _ _ _ HM.here len9 len9 (by first | exact h0 | exact h0p) (by first | exact h1 | exact h1p)).mono ?_; rintro e w_86 ⟨rfl, v_88, u_89, HN_90⟩
    replace HM := HM.trans HN_90
    clear HN_90
    go_wp2_with (with_reducible refine so ?_)
    go_returns
    have q0 := kc_7.out
    have q2 := kc_28.out
    have q4 := kc_66.out
    have es : S.public_ d = (((((S.accept.put_peerKey d.pub).put_shared (sharedK S.p.cfg.secret d.pub)).send ⟨12, ⟨0, false, false, false, false, false⟩, (pubK S.p.cfg.secret), 0#64, ⟨⟨0, 0#64⟩, 0#64⟩, 0⟩).begin_), true) := by first | rfl | (unfold Sd.public_; (try unfold Sd.take); (try unfold Sd.open_); (try unfold Sd.identity); (try dsimp only); (repeat' (split <;> (first | (exfalso; rename_i hh; first | exact absurd q0 hh | exact absurd hh q0 | exact absurd (q0.symm.trans hh) (by decide) | exact absurd hc_20 hh | exact absurd hh hc_20 | exact absurd (hc_20.symm.trans hh) (by decide) | exact absurd q2 hh | exact absurd hh q2 | exact absurd (q2.symm.trans hh) (by decide) | exact absurd hc_34 hh | exact absurd hh hc_34 | exact absurd (hc_34.symm.trans hh) (by decide) | exact absurd q4 hh | exact absurd hh q4 | exact absurd (q4.symm.trans hh) (by decide) | exact absurd hc_78 hh | exact absurd hh hc_78 | exact absurd (hc_78.symm.trans hh) (by decide) | (simp [Sd.keyed, Sd.setP, Sd.own, q0, hc_20, q2, hc_34, q4, hc_78] at hh; done)) | skip))); all_goals rfl) | (exfalso; omega) | (simp [Sd.public_, Sd.keyed, Sd.setP, Sd.own, q0, hc_20, q2, hc_34, q4, hc_78]; done) | (simp [Sd.public_, Sd.keyed, Sd.setP, Sd.own, q0, hc_20, q2, hc_34, q4, hc_78]; rfl)
    rw [es]
    exact ⟨rfl, v_88, u_89, HM.drop1.drop1⟩
   skip
   go_wp2_with (with_reducible refine so ?_)
   refine (sd_begin _ _ ((S.accept.put_peerKey d.pub).put_shared (sharedK S.p.cfg.secret d.pub)) _ _ _ _ HM.here len9 len9 (by first | exact h0 | exact h0p) (by first | exact h1 | exact h1p)).mono ?_; rintro e w_91 ⟨rfl, v_93, u_94, HN_95⟩
   replace HM := HM.trans HN_95
   clear HN_95
   go_wp2_with (with_reducible refine so ?_)
   go_returns
   have q0 := kc_7.out
   have q2 := kc_28.out
   have q4 := kc_66.out
   have es : S.public_ d = ((((S.accept.put_peerKey d.pub).put_shared (sharedK S.p.cfg.secret d.pub)).begin_), true) := by first | rfl | (unfold Sd.public_; (try unfold Sd.take); (try unfold Sd.open_); (try unfold Sd.identity); (try dsimp only); (repeat' (split <;> (first | (exfalso; rename_i hh; first | exact absurd q0 hh | exact absurd hh q0 | exact absurd (q0.symm.trans hh) (by decide) | exact absurd hc_20 hh | exact absurd hh hc_20 | exact absurd (hc_20.symm.trans hh) (by decide) | exact absurd q2 hh | exact absurd hh q2 | exact absurd (q2.symm.trans hh) (by decide) | exact absurd hc_34 hh | exact absurd hh hc_34 | exact absurd (hc_34.symm.trans hh) (by decide) | exact absurd q4 hh | exact absurd hh q4 | exact absurd (q4.symm.trans hh) (by decide) | exact absurd hc_78 hh | exact absurd hh hc_78 | exact absurd (hc_78.symm.trans hh) (by decide) | (simp [Sd.keyed, Sd.setP, Sd.own, q0, hc_20, q2, hc_34, q4, hc_78] at hh; done)) | skip))); all_goals rfl) | (exfalso; omega) | (simp [Sd.public_, Sd.keyed, Sd.setP, Sd.own, q0, hc_20, q2, hc_34, q4, hc_78]; done) | (simp [Sd.public_, Sd.keyed, Sd.setP, Sd.own, q0, hc_20, q2, hc_34, q4, hc_78]; rfl)
   rw [es]
   exact ⟨rfl, v_93, u_94, HM.drop1.drop1⟩
  obtain ⟨ec_66, ec_66n, kc_66⟩ := gF hc_66; clear hc_66
  go_wp2_with (with_reducible refine so ?_)
  refine (sd_fail _ _ S.accept 2 _ _ _ _ HM.here).mono ?_; rintro e w_96 ⟨rfl, v_98, u_99, HN_100⟩
  replace HM := HM.trans HN_100
  clear HN_100
  go_wp2_with (with_reducible refine so ?_)
  go_returns
  have q0 := kc_7.out
  have q2 := kc_28.out
  have q4 := kc_66.out
  have es : S.public_ d = ((S.accept.fail 2), true) := by unfold Sd.public_; exact es9
  rw [es]
  exact ⟨rfl, v_98, u_99, HM.drop1.drop1⟩
 obtain ⟨ec_7, ec_7n, kc_7⟩ := fF hc_7; clear hc_7
 have ld_101 := HM.b1.c 0 (.int .i64 d.kind)
 go_wp2_with (with_reducible refine so ?_)
 go_returns
 have q0 := kc_7.out
 have es : S.public_ d = (S, false) := by unfold Sd.public_; exact es9
 rw [es]
 exact ⟨rfl, v, u, HM.drop1⟩
end Go.Proofs.YtihmbcnccdiecaaDoor
