/- Part of the proofs of the laws of pairing. -/
import Derived.Test.YtihmbcnccdiecaaDoorA2
import Derived.Test.YtihmbcnccdiecaaDoorBLowB
import Derived.Test.YtihmbcnccdiecaaDoorBLowC
import Derived.Test.YtihmbcnccdiecaaDoorBSdA
import Derived.Test.YtihmbcnccdiecaaDoorBSdB
import Derived.Test.YtihmbcnccdiecaaDoorBSdC
import Derived.Test.YtihmbcnccdiecaaDoorBSdD
import Derived.Test.YtihmbcnccdiecaaDoorBSdE
import Derived.Test.YtihmbcnccdiecaaDoorBSdF
import Derived.Test.YtihmbcnccdiecaaDoorBSdG
namespace Go.Proofs.YtihmbcnccdiecaaDoor
set_option maxRecDepth 100000
open Go.ChangeShapes Go.WideShapes Go.ChangeAt Go.RowKit
set_option linter.unusedVariables false
set_option linter.unusedSimpArgs false
set_option maxHeartbeats 4000000 in
theorem pa_Encrypted (p : Pr) (now : Int) (w : World) (HL : Laid w) (r0 : 0 ≤ p.round) (r1 : p.round ≤ 60)  :
  Calls Tryd.prog 28 #[.agg (prL p).toArray, .int .i64 now] w (fun e w' => OutR w w' (encP p now).1 (encP p now).2.1 (encP p now).2.2 e) := by
 obtain ⟨base, hbs⟩ : ∃ b, w.heap.size = b := ⟨_, rfl⟩
 have HM := Mem.start HL
 rw [hbs] at HM
 obtain ⟨S, hSd⟩ : ∃ S, handleK p now = S := ⟨_, rfl⟩
 have hs0 : S.sent = [] := by rw [← hSd]; rfl
 have ht0 : S.told = [] := by rw [← hSd]; rfl
 have hw0 : S.was = S.p := by rw [← hSd]; rfl
 have ls : S.sent.length ≤ 900 := by rw [hs0]; decide
 have lt : S.told.length ≤ 900 := by rw [ht0]; decide
 have h0 : 0 ≤ S.p.round := by rw [← hSd]; exact r0
 have h1 : S.p.round ≤ 64 := by rw [← hSd]; show p.round ≤ 64; omega
 have h2 : S.p.round ≤ 60 := by rw [← hSd]; exact r1
 go_enter Tryd.func28, Tryd.ntmps28
 go_wp2_with (with_reducible refine so ?_)
 refine HM.nw (ty := 37) (cs := (prL p).toArray) ?_; clear HM; intro g_1 w_2 HM
 go_wp2_with (with_reducible refine so ?_)
 refine HM.nw (ty := 37) (cs := (prL pr0).toArray) ?_; clear HM; intro g_7 w_8 HM
 go_wp2_with (first | (with_reducible refine so ?_) | (with_reducible refine ld 0 (prL p) HM.b1 Tryd.underlying37 ?_))
 refine (sd_handle _ p now _ _ HM.here).mono ?_; rintro e w_14 ⟨gs, rfl, hb_15⟩
 replace HM := HM.trans hb_15; clear hb_15
 rw [hSd] at HM
 rw [← hs0, ← ht0] at HM
 by_cases hc_16 : (S.p.phase : Int) = 6
 ·
  obtain ⟨ec_16, ec_16n, kc_16⟩ := fT hc_16; clear hc_16
  rcases hc_17 : S.p.crypt with _ | _
  ·
   skip
   have ld_18 := HM.b0.c 19 (.int .i64 S.p.phase)
   have ld_19 := HM.b0.c 51 (.bool S.p.crypt)
   go_wp2_with (with_reducible refine so ?_)
   refine (sd_accept _ _ S _ _ _ _ HM.here).mono ?_; rintro e w_20 ⟨rfl, v_22, u_23, HN_24⟩
   clear ld_18 ld_19
   replace HM := HM.trans HN_24
   clear HN_24
   go_wp2_with (with_reducible refine so ?_)
   refine sx 51 (.bool true) (sdL (S.accept.put_crypt true) v_22 u_23).toArray HM.b0 ?_
   intro w_25 G_27 hU_26
   replace HM := HM.s0 hU_26 G_27
   clear hU_26 G_27
   go_wp2_with (with_reducible refine so ?_)
   refine (sd_distributes _ _ _ _ _ HM.b0 (byR S (identsK S.p.req S.p.res).1 (identsK S.p.req S.p.res).2, byR S (identsK S.p.req S.p.res).2 (identsK S.p.req S.p.res).1) rfl).mono ?_; rintro e w_28 ⟨rfl, hb_29⟩
   replace HM := HM.to hb_29
   clear hb_29
   go_wp2_with (with_reducible refine so ?_)
   refine (sd_first _ _ _ _  _ HM.b0 S.first rfl).mono ?_; rintro e w_30 ⟨rfl, hb_31⟩
   replace HM := HM.to hb_31
   clear hb_31
   rcases hc_32 : S.first with _ | _
   ·
    skip
    rcases hc_33 : (byR S (identsK S.p.req S.p.res).1 (identsK S.p.req S.p.res).2) with _ | _
    ·
     skip
     go_wp2_with (with_reducible refine so ?_)
     refine (sd_identity_f _ _ (S.accept.put_crypt true) _ _ _ _ HM.here len9 hc_33).mono ?_; rintro e w_34 ⟨rfl, v_36, u_37, HN_38⟩
     replace HM := HM.trans HN_38
     clear HN_38
     go_wp2_with (with_reducible refine so ?_)
     refine (sd_first _ _ _ _  _ HM.b0 S.first rfl).mono ?_; rintro e w_39 ⟨rfl, hb_40⟩
     replace HM := HM.to hb_40
     clear hb_40
     rcases hc_41 : byR S (identsK S.p.req S.p.res).2 (identsK S.p.req S.p.res).1 with _ | _
     ·
      skip
      go_wp2_with (with_reducible refine so ?_)
      refine (sd_finish _ _ ((S.accept.put_crypt true)) _ _ _ _ HM.here len9).mono ?_; rintro e w_42 ⟨rfl, v_44, u_45, HN_46⟩
      replace HM := HM.trans HN_46
      clear HN_46
      go_wp2_with (with_reducible refine so ?_)
      refine (sd_done _ _ (((S.accept.put_crypt true)).finish) _ _ _ _ HM.here).mono ?_; rintro e w_47 ⟨rfl, hb_48⟩
      replace HM := HM.trans hb_48; clear hb_48
      go_wp2_with (with_reducible refine so ?_)
      refine sv (prL (((S.accept.put_crypt true)).finish).p).toArray HM.b1 ?_
      intro w_49 G_51 hU_50
      replace HM := HM.s1 hU_50 G_51
      clear hU_50 G_51
      go_wp2_with (with_reducible refine so ?_)
      refine bodyPost_ret (results_ctt rfl rfl (load_blk HM.b1 Tryd.underlying37 rfl (by kernel_rfl))) rfl ?_
      have q0 := kc_16.out
      have es : encS S = (((S.accept.put_crypt true)).finish) := by unfold encS; exact es9
      exact outE hSd es hbs HM
     skip
     go_wp2_with (with_reducible refine so ?_)
     refine (sd_done _ _ ((S.accept.put_crypt true)) _ _ _ _ HM.here).mono ?_; rintro e w_52 ⟨rfl, hb_53⟩
     replace HM := HM.trans hb_53; clear hb_53
     go_wp2_with (with_reducible refine so ?_)
     refine sv (prL ((S.accept.put_crypt true)).p).toArray HM.b1 ?_
     intro w_54 G_56 hU_55
     replace HM := HM.s1 hU_55 G_56
     clear hU_55 G_56
     go_wp2_with (with_reducible refine so ?_)
     refine bodyPost_ret (results_ctt rfl rfl (load_blk HM.b1 Tryd.underlying37 rfl (by kernel_rfl))) rfl ?_
     have q0 := kc_16.out
     have es : encS S = ((S.accept.put_crypt true)) := by unfold encS; exact es9
     exact outE hSd es hbs HM
    skip
    go_wp2_with (with_reducible refine so ?_)
    refine (sd_identity_t _ _ (S.accept.put_crypt true) _ _ _ _ HM.here len9 hc_33).mono ?_; rintro e w_57 ⟨rfl, v_59, u_60, HN_61⟩
    replace HM := HM.trans HN_61
    clear HN_61
    go_wp2_with (with_reducible refine so ?_)
    refine (sd_first _ _ _ _  _ HM.b0 S.first rfl).mono ?_; rintro e w_62 ⟨rfl, hb_63⟩
    replace HM := HM.to hb_63
    clear hb_63
    rcases hc_64 : byR S (identsK S.p.req S.p.res).2 (identsK S.p.req S.p.res).1 with _ | _
    ·
     skip
     go_wp2_with (with_reducible refine so ?_)
     refine (sd_finish _ _ (((S.accept.put_crypt true).send { sec0 with kind := 8, idn := (S.accept.put_crypt true).p.cfg.idn })) _ _ _ _ HM.here len9).mono ?_; rintro e w_65 ⟨rfl, v_67, u_68, HN_69⟩
     replace HM := HM.trans HN_69
     clear HN_69
     go_wp2_with (with_reducible refine so ?_)
     refine (sd_done _ _ ((((S.accept.put_crypt true).send { sec0 with kind := 8, idn := (S.accept.put_crypt true).p.cfg.idn })).finish) _ _ _ _ HM.here).mono ?_; rintro e w_70 ⟨rfl, hb_71⟩
     replace HM := HM.trans hb_71; clear hb_71
     go_wp2_with (with_reducible refine so ?_)
     refine sv (prL ((((S.accept.put_crypt true).send { sec0 with kind := 8, idn := (S.accept.put_crypt true).p.cfg.idn })).finish).p).toArray HM.b1 ?_
     intro w_72 G_74 hU_73
     replace HM := HM.s1 hU_73 G_74
     clear hU_73 G_74
     go_wp2_with (with_reducible refine so ?_)
     refine bodyPost_ret (results_ctt rfl rfl (load_blk HM.b1 Tryd.underlying37 rfl (by kernel_rfl))) rfl ?_
     have q0 := kc_16.out
     have es : encS S = ((((S.accept.put_crypt true).send { sec0 with kind := 8, idn := (S.accept.put_crypt true).p.cfg.idn })).finish) := by unfold encS; exact es9
     exact outE hSd es hbs HM
    skip
    go_wp2_with (with_reducible refine so ?_)
    refine (sd_done _ _ (((S.accept.put_crypt true).send { sec0 with kind := 8, idn := (S.accept.put_crypt true).p.cfg.idn })) _ _ _ _ HM.here).mono ?_; rintro e w_75 ⟨rfl, hb_76⟩
    replace HM := HM.trans hb_76; clear hb_76
    go_wp2_with (with_reducible refine so ?_)
    refine sv (prL (((S.accept.put_crypt true).send { sec0 with kind := 8, idn := (S.accept.put_crypt true).p.cfg.idn })).p).toArray HM.b1 ?_
    intro w_77 G_79 hU_78
    replace HM := HM.s1 hU_78 G_79
    clear hU_78 G_79
    go_wp2_with (with_reducible refine so ?_)
    refine bodyPost_ret (results_ctt rfl rfl (load_blk HM.b1 Tryd.underlying37 rfl (by kernel_rfl))) rfl ?_
    have q0 := kc_16.out
    have es : encS S = (((S.accept.put_crypt true).send { sec0 with kind := 8, idn := (S.accept.put_crypt true).p.cfg.idn })) := by unfold encS; exact es9
    exact outE hSd es hbs HM
   skip
   rcases hc_80 : byR S (identsK S.p.req S.p.res).2 (identsK S.p.req S.p.res).1 with _ | _
   ·
    skip
    rcases hc_81 : (byR S (identsK S.p.req S.p.res).1 (identsK S.p.req S.p.res).2) with _ | _
    ·
     skip
     go_wp2_with (with_reducible refine so ?_)
     refine (sd_identity_f _ _ (S.accept.put_crypt true) _ _ _ _ HM.here len9 hc_81).mono ?_; rintro e w_82 ⟨rfl, v_84, u_85, HN_86⟩
     replace HM := HM.trans HN_86
     clear HN_86
     go_wp2_with (with_reducible refine so ?_)
     refine (sd_first _ _ _ _  _ HM.b0 S.first rfl).mono ?_; rintro e w_87 ⟨rfl, hb_88⟩
     replace HM := HM.to hb_88
     clear hb_88
     go_wp2_with (with_reducible refine so ?_)
     refine (sd_finish _ _ ((S.accept.put_crypt true)) _ _ _ _ HM.here len9).mono ?_; rintro e w_89 ⟨rfl, v_91, u_92, HN_93⟩
     replace HM := HM.trans HN_93
     clear HN_93
     go_wp2_with (with_reducible refine so ?_)
     refine (sd_done _ _ (((S.accept.put_crypt true)).finish) _ _ _ _ HM.here).mono ?_; rintro e w_94 ⟨rfl, hb_95⟩
     replace HM := HM.trans hb_95; clear hb_95
     go_wp2_with (with_reducible refine so ?_)
     refine sv (prL (((S.accept.put_crypt true)).finish).p).toArray HM.b1 ?_
     intro w_96 G_98 hU_97
     replace HM := HM.s1 hU_97 G_98
     clear hU_97 G_98
     go_wp2_with (with_reducible refine so ?_)
     refine bodyPost_ret (results_ctt rfl rfl (load_blk HM.b1 Tryd.underlying37 rfl (by kernel_rfl))) rfl ?_
     have q0 := kc_16.out
     have es : encS S = (((S.accept.put_crypt true)).finish) := by unfold encS; exact es9
     exact outE hSd es hbs HM
    skip
    go_wp2_with (with_reducible refine so ?_)
    refine (sd_identity_t _ _ (S.accept.put_crypt true) _ _ _ _ HM.here len9 hc_81).mono ?_; rintro e w_99 ⟨rfl, v_101, u_102, HN_103⟩
    replace HM := HM.trans HN_103
    clear HN_103
    go_wp2_with (with_reducible refine so ?_)
    refine (sd_first _ _ _ _  _ HM.b0 S.first rfl).mono ?_; rintro e w_104 ⟨rfl, hb_105⟩
    replace HM := HM.to hb_105
    clear hb_105
    go_wp2_with (with_reducible refine so ?_)
    refine (sd_finish _ _ (((S.accept.put_crypt true).send { sec0 with kind := 8, idn := (S.accept.put_crypt true).p.cfg.idn })) _ _ _ _ HM.here len9).mono ?_; rintro e w_106 ⟨rfl, v_108, u_109, HN_110⟩
    replace HM := HM.trans HN_110
    clear HN_110
    go_wp2_with (with_reducible refine so ?_)
    refine (sd_done _ _ ((((S.accept.put_crypt true).send { sec0 with kind := 8, idn := (S.accept.put_crypt true).p.cfg.idn })).finish) _ _ _ _ HM.here).mono ?_; rintro e w_111 ⟨rfl, hb_112⟩
    replace HM := HM.trans hb_112; clear hb_112
    go_wp2_with (with_reducible refine so ?_)
    refine sv (prL ((((S.accept.put_crypt true).send { sec0 with kind := 8, idn := (S.accept.put_crypt true).p.cfg.idn })).finish).p).toArray HM.b1 ?_
    intro w_113 G_115 hU_114
    replace HM := HM.s1 hU_114 G_115
    clear hU_114 G_115
    go_wp2_with (with_reducible refine so ?_)
    refine bodyPost_ret (results_ctt rfl rfl (load_blk HM.b1 Tryd.underlying37 rfl (by kernel_rfl))) rfl ?_
    have q0 := kc_16.out
    have es : encS S = ((((S.accept.put_crypt true).send { sec0 with kind := 8, idn := (S.accept.put_crypt true).p.cfg.idn })).finish) := by unfold encS; exact es9
    exact outE hSd es hbs HM
   skip
   go_wp2_with (with_reducible refine so ?_)
   refine (sd_done _ _ (S.accept.put_crypt true) _ _ _ _ HM.here).mono ?_; rintro e w_116 ⟨rfl, hb_117⟩
   replace HM := HM.trans hb_117; clear hb_117
   go_wp2_with (with_reducible refine so ?_)
   refine sv (prL (S.accept.put_crypt true).p).toArray HM.b1 ?_
   intro w_118 G_120 hU_119
   replace HM := HM.s1 hU_119 G_120
   clear hU_119 G_120
   go_wp2_with (with_reducible refine so ?_)
   refine bodyPost_ret (results_ctt rfl rfl (load_blk HM.b1 Tryd.underlying37 rfl (by kernel_rfl))) rfl ?_
   have q0 := kc_16.out
   have es : encS S = (S.accept.put_crypt true) := by unfold encS; exact es9
   exact outE hSd es hbs HM
  skip
  have ld_121 := HM.b0.c 19 (.int .i64 S.p.phase)
  have ld_122 := HM.b0.c 51 (.bool S.p.crypt)
  go_wp2_with (with_reducible refine so ?_)
  refine (sd_done _ _ S _ _ _ _ HM.here).mono ?_; rintro e w_123 ⟨rfl, hb_124⟩
  clear ld_121 ld_122
  replace HM := HM.trans hb_124; clear hb_124
  go_wp2_with (with_reducible refine so ?_)
  refine sv (prL S.p).toArray HM.b1 ?_
  intro w_125 G_127 hU_126
  replace HM := HM.s1 hU_126 G_127
  clear hU_126 G_127
  go_wp2_with (with_reducible refine so ?_)
  refine bodyPost_ret (results_ctt rfl rfl (load_blk HM.b1 Tryd.underlying37 rfl (by kernel_rfl))) rfl ?_
  have q0 := kc_16.out
  have es : encS S = S := by unfold encS; exact es9
  exact outE hSd es hbs HM
 obtain ⟨ec_16, ec_16n, kc_16⟩ := fF hc_16; clear hc_16
 have ld_128 := HM.b0.c 19 (.int .i64 S.p.phase)
 go_wp2_with (with_reducible refine so ?_)
 refine (sd_done _ _ S _ _ _ _ HM.here).mono ?_; rintro e w_129 ⟨rfl, hb_130⟩
 clear ld_128
 replace HM := HM.trans hb_130; clear hb_130
 go_wp2_with (with_reducible refine so ?_)
 refine sv (prL S.p).toArray HM.b1 ?_
 intro w_131 G_133 hU_132
 replace HM := HM.s1 hU_132 G_133
 clear hU_132 G_133
 go_wp2_with (with_reducible refine so ?_)
 refine bodyPost_ret (results_ctt rfl rfl (load_blk HM.b1 Tryd.underlying37 rfl (by kernel_rfl))) rfl ?_
 have q0 := kc_16.out
 have es : encS S = S := by unfold encS; exact es9
 exact outE hSd es hbs HM
end Go.Proofs.YtihmbcnccdiecaaDoor
