/- Part of the proofs of the laws of pairing. -/
import Derived.Test.YtihmbcnccdiecaaDoorA2
import Derived.Test.YtihmbcnccdiecaaDoorBLowB
import Derived.Test.YtihmbcnccdiecaaDoorBLowC
import Derived.Test.YtihmbcnccdiecaaDoorBSdA
import Derived.Test.YtihmbcnccdiecaaDoorBSdB
import Derived.Test.YtihmbcnccdiecaaDoorBSdC
import Derived.Test.YtihmbcnccdiecaaDoorBSdD
import Derived.Test.YtihmbcnccdiecaaDoorBSdE
import Derived.Test.YtihmbcnccdiecaaDoorBSdF
import Derived.Test.YtihmbcnccdiecaaDoorBSdG
namespace Go.Proofs.YtihmbcnccdiecaaDoor
set_option maxRecDepth 100000
open Go.ChangeShapes Go.WideShapes Go.ChangeAt Go.RowKit
set_option linter.unusedVariables false
set_option linter.unusedSimpArgs false
set_option maxHeartbeats 4000000 in
theorem pa_User_ (p : Pr) (x : Int × Unit) (now : Int) (w : World) (HL : Laid w) (r0 : 0 ≤ p.round) (r1 : p.round ≤ 60)  :
  Calls Tryd.prog 27 #[.agg (prL p).toArray, .int .i64 x.1, .int .i64 now] w (fun e w' => OutR w w' (userP p x.1 now).1 (userP p x.1 now).2.1 (userP p x.1 now).2.2 e) := by
 obtain ⟨base, hbs⟩ : ∃ b, w.heap.size = b := ⟨_, rfl⟩
 have HM := Mem.start HL
 rw [hbs] at HM
 obtain ⟨S, hSd⟩ : ∃ S, handleK p now = S := ⟨_, rfl⟩
 have hs0 : S.sent = [] := by rw [← hSd]; rfl
 have ht0 : S.told = [] := by rw [← hSd]; rfl
 have hw0 : S.was = S.p := by rw [← hSd]; rfl
 have ls : S.sent.length ≤ 10 := by rw [hs0]; decide
 have lt : S.told.length ≤ 10 := by rw [ht0]; decide
 have h0 : 0 ≤ S.p.round := by rw [← hSd]; exact r0
 have h1 : S.p.round ≤ 64 := by rw [← hSd]; show p.round ≤ 64; omega
 have h2 : S.p.round ≤ 60 := by rw [← hSd]; exact r1
 go_enter Tryd.func27, Tryd.ntmps27
 go_wp2_with (with_reducible refine so ?_)
 refine HM.nw (ty := 37) (cs := (prL p).toArray) ?_; clear HM; intro g_1 w_2 HM
 go_wp2_with (with_reducible refine so ?_)
 refine HM.nw (ty := 37) (cs := (prL pr0).toArray) ?_; clear HM; intro g_7 w_8 HM
 go_wp2_with (first | (with_reducible refine so ?_) | (with_reducible refine ld 0 (prL p) HM.b1 Tryd.underlying37 ?_))
 refine (sd_handle _ p now _ _ HM.here).mono ?_; rintro e w_14 ⟨gs, rfl, hb_15⟩
 replace HM := HM.trans hb_15; clear hb_15
 rw [hSd] at HM
 rw [← hs0, ← ht0] at HM
 by_cases hc_16 : (S.p.phase : Int) = 4
 ·
  obtain ⟨ec_16, ec_16n, kc_16⟩ := fT hc_16; clear hc_16
  have ld_17 := HM.b0.c 19 (.int .i64 S.p.phase)
  go_wp2_with (with_reducible refine so ?_)
  refine (sd_passkey _ _ _ _  _ HM.b0 (isPass S.p.method) rfl).mono ?_; rintro e w_18 ⟨rfl, hb_19⟩
  clear ld_17
  replace HM := HM.to hb_19
  clear hb_19
  rcases hc_20 : isPass S.p.method with _ | _
  ·
   skip
   go_wp2_with (with_reducible refine so ?_)
   refine (sd_passkey _ _ _ _  _ HM.b0 (isPass S.p.method) rfl).mono ?_; rintro e w_21 ⟨rfl, hb_22⟩
   replace HM := HM.to hb_22
   clear hb_22
   go_wp2_with (with_reducible refine so ?_)
   refine (sd_passkey _ _ _ _  _ HM.b0 (isPass S.p.method) rfl).mono ?_; rintro e w_23 ⟨rfl, hb_24⟩
   replace HM := HM.to hb_24
   clear hb_24
   by_cases hc_25 : (x.1 : Int) = 0
   ·
    obtain ⟨ec_25, ec_25n, kc_25⟩ := fT hc_25; clear hc_25
    go_wp2_with (with_reducible refine so ?_)
    refine (sd_fail _ _ S 12 _ _ _ _ HM.here).mono ?_; rintro e w_26 ⟨rfl, v_28, u_29, HN_30⟩
    replace HM := HM.trans HN_30
    clear HN_30
    go_wp2_with (with_reducible refine so ?_)
    refine (sd_done _ _ (S.fail 12) _ _ _ _ HM.here).mono ?_; rintro e w_31 ⟨rfl, hb_32⟩
    replace HM := HM.trans hb_32; clear hb_32
    go_wp2_with (with_reducible refine so ?_)
    refine sv (prL (S.fail 12).p).toArray HM.b1 ?_
    intro w_33 G_35 hU_34
    replace HM := HM.s1 hU_34 G_35
    clear hU_34 G_35
    go_wp2_with (with_reducible refine so ?_)
    refine bodyPost_ret (results_ctt rfl rfl (load_blk HM.b1 Tryd.underlying37 rfl (by kernel_rfl))) rfl ?_
    have q0 := kc_16.out
    have q2 := kc_25.out
    have es : userS S x.1 = (S.fail 12) := by unfold userS; exact es9
    exact outU hSd es hbs HM
   obtain ⟨ec_25, ec_25n, kc_25⟩ := fF hc_25; clear hc_25
   by_cases hc_36 : (x.1 : Int) = -1
   ·
    obtain ⟨ec_36, ec_36n, kc_36⟩ := fT hc_36; clear hc_36
    go_wp2_with (with_reducible refine so ?_)
    refine (sd_fail _ _ S 12 _ _ _ _ HM.here).mono ?_; rintro e w_37 ⟨rfl, v_39, u_40, HN_41⟩
    replace HM := HM.trans HN_41
    clear HN_41
    go_wp2_with (with_reducible refine so ?_)
    refine (sd_done _ _ (S.fail 12) _ _ _ _ HM.here).mono ?_; rintro e w_42 ⟨rfl, hb_43⟩
    replace HM := HM.trans hb_43; clear hb_43
    go_wp2_with (with_reducible refine so ?_)
    refine sv (prL (S.fail 12).p).toArray HM.b1 ?_
    intro w_44 G_46 hU_45
    replace HM := HM.s1 hU_45 G_46
    clear hU_45 G_46
    go_wp2_with (with_reducible refine so ?_)
    refine bodyPost_ret (results_ctt rfl rfl (load_blk HM.b1 Tryd.underlying37 rfl (by kernel_rfl))) rfl ?_
    have q0 := kc_16.out
    have q2 := kc_25.out
    have q3 := kc_36.out
    have es : userS S x.1 = (S.fail 12) := by unfold userS; exact es9
    exact outU hSd es hbs HM
   obtain ⟨ec_36, ec_36n, kc_36⟩ := fF hc_36; clear hc_36
   by_cases hc_47 : (x.1 : Int) = 1
   ·
    obtain ⟨ec_47, ec_47n, kc_47⟩ := fT hc_47; clear hc_47
    go_wp2_with (with_reducible refine so ?_)
    refine (sd_accept _ _ S _ _ _ _ HM.here).mono ?_; rintro e w_48 ⟨rfl, v_50, u_51, HN_52⟩
    replace HM := HM.trans HN_52
    clear HN_52
    go_wp2_with (with_reducible refine so ?_)
    refine sx 48 (.bool true) (sdL (S.accept.put_agreed true) v_50 u_51).toArray HM.b0 ?_
    intro w_53 G_55 hU_54
    replace HM := HM.s0 hU_54 G_55
    clear hU_54 G_55
    rcases hc_56 : S.first with _ | _
    ·
     skip
     go_wp2_with (with_reducible refine so ?_)
     refine (sd_toChecks_f _ _ (S.accept.put_agreed true) _ _ _ _ HM.here len9 hc_56).mono ?_; rintro e w_57 ⟨rfl, v_59, u_60, HN_61⟩
     replace HM := HM.trans HN_61
     clear HN_61
     rcases hc_62 : S.p.haveIn with _ | _
     ·
      skip
      have ld_63 := HM.b0.c 50 (.bool S.p.haveIn)
      go_wp2_with (with_reducible refine so ?_)
      refine (sd_done _ _ (((S.accept.put_agreed true).put_phase 5)) _ _ _ _ HM.here).mono ?_; rintro e w_64 ⟨rfl, hb_65⟩
      clear ld_63
      replace HM := HM.trans hb_65; clear hb_65
      go_wp2_with (with_reducible refine so ?_)
      refine sv (prL (((S.accept.put_agreed true).put_phase 5)).p).toArray HM.b1 ?_
      intro w_66 G_68 hU_67
      replace HM := HM.s1 hU_67 G_68
      clear hU_67 G_68
      go_wp2_with (with_reducible refine so ?_)
      refine bodyPost_ret (results_ctt rfl rfl (load_blk HM.b1 Tryd.underlying37 rfl (by kernel_rfl))) rfl ?_
      have q0 := kc_16.out
      have q2 := kc_25.out
      have q3 := kc_36.out
      have q4 := kc_47.out
      have es : userS S x.1 = (((S.accept.put_agreed true).put_phase 5)) := by unfold userS; exact es9
      exact outU hSd es hbs HM
     skip
     have ld_69 := HM.b0.c 50 (.bool S.p.haveIn)
     have ld_70 := HM.b0.c 49 (.int .u64 (W64 S.p.checkIn))
     go_wp2_with (with_reducible refine so ?_)
     refine sx 49 (.int .u64 0) (sdL ((((S.accept.put_agreed true).put_phase 5)).put_checkIn (0#64)) v_59 u_60).toArray HM.b0 ?_
     intro w_71 G_73 hU_72
     clear ld_69 ld_70
     replace HM := HM.s0 hU_72 G_73
     clear hU_72 G_73
     go_wp2_with (with_reducible refine so ?_)
     refine sx 50 (.bool false) (sdL (((((S.accept.put_agreed true).put_phase 5)).put_checkIn (0#64)).put_haveIn false) v_59 u_60).toArray HM.b0 ?_
     intro w_74 G_76 hU_75
     replace HM := HM.s0 hU_75 G_76
     clear hU_75 G_76
     go_wp2_with (with_reducible refine so ?_)
     refine (sd_checks _ _ (((((S.accept.put_agreed true).put_phase 5)).put_checkIn (0#64)).put_haveIn false) ⟨13, ⟨0, false, false, false, false, false⟩, 0#32, S.p.checkIn, ⟨⟨0, 0#64⟩, 0#64⟩, 0⟩ _ _ _ _ HM.here len9 len9 ).mono ?_; rintro e w_77 ⟨rfl, v_79, u_80, HN_81⟩
     replace HM := HM.trans HN_81
     clear HN_81
     go_wp2_with (with_reducible refine so ?_)
     refine (sd_done _ _ (((((((S.accept.put_agreed true).put_phase 5)).put_checkIn (0#64)).put_haveIn false).checks ⟨13, ⟨0, false, false, false, false, false⟩, 0#32, S.p.checkIn, ⟨⟨0, 0#64⟩, 0#64⟩, 0⟩).1) _ _ _ _ HM.here).mono ?_; rintro e w_82 ⟨rfl, hb_83⟩
     replace HM := HM.trans hb_83; clear hb_83
     go_wp2_with (with_reducible refine so ?_)
     refine sv (prL (((((((S.accept.put_agreed true).put_phase 5)).put_checkIn (0#64)).put_haveIn false).checks ⟨13, ⟨0, false, false, false, false, false⟩, 0#32, S.p.checkIn, ⟨⟨0, 0#64⟩, 0#64⟩, 0⟩).1).p).toArray HM.b1 ?_
     intro w_84 G_86 hU_85
     replace HM := HM.s1 hU_85 G_86
     clear hU_85 G_86
     go_wp2_with (with_reducible refine so ?_)
     refine bodyPost_ret (results_ctt rfl rfl (load_blk HM.b1 Tryd.underlying37 rfl (by kernel_rfl))) rfl ?_
     have q0 := kc_16.out
     have q2 := kc_25.out
     have q3 := kc_36.out
     have q4 := kc_47.out
     have es : userS S x.1 = (((((((S.accept.put_agreed true).put_phase 5)).put_checkIn (0#64)).put_haveIn false).checks ⟨13, ⟨0, false, false, false, false, false⟩, 0#32, S.p.checkIn, ⟨⟨0, 0#64⟩, 0#64⟩, 0⟩).1) := by unfold userS; exact es9
     exact outU hSd es hbs HM
    skip
    go_wp2_with (with_reducible refine so ?_)
    refine (sd_toChecks_t _ _ (S.accept.put_agreed true) _ _ _ _ HM.here len9 hc_56).mono ?_; rintro e w_87 ⟨rfl, v_89, u_90, HN_91⟩
    replace HM := HM.trans HN_91
    clear HN_91
    rcases hc_92 : S.p.haveIn with _ | _
    ·
     skip
     have ld_93 := HM.b0.c 50 (.bool S.p.haveIn)
     go_wp2_with (with_reducible refine so ?_)
     refine (sd_done _ _ ((((S.accept.put_agreed true).put_phase 5).send { sec0 with kind := 13, value := (S.accept.put_agreed true).check })) _ _ _ _ HM.here).mono ?_; rintro e w_94 ⟨rfl, hb_95⟩
     clear ld_93
     replace HM := HM.trans hb_95; clear hb_95
     go_wp2_with (with_reducible refine so ?_)
     refine sv (prL ((((S.accept.put_agreed true).put_phase 5).send { sec0 with kind := 13, value := (S.accept.put_agreed true).check })).p).toArray HM.b1 ?_
     intro w_96 G_98 hU_97
     replace HM := HM.s1 hU_97 G_98
     clear hU_97 G_98
     go_wp2_with (with_reducible refine so ?_)
     refine bodyPost_ret (results_ctt rfl rfl (load_blk HM.b1 Tryd.underlying37 rfl (by kernel_rfl))) rfl ?_
     have q0 := kc_16.out
     have q2 := kc_25.out
     have q3 := kc_36.out
     have q4 := kc_47.out
     have es : userS S x.1 = ((((S.accept.put_agreed true).put_phase 5).send { sec0 with kind := 13, value := (S.accept.put_agreed true).check })) := by unfold userS; exact es9
     exact outU hSd es hbs HM
    skip
    have ld_99 := HM.b0.c 50 (.bool S.p.haveIn)
    have ld_100 := HM.b0.c 49 (.int .u64 (W64 S.p.checkIn))
    go_wp2_with (with_reducible refine so ?_)
    refine sx 49 (.int .u64 0) (sdL (((((S.accept.put_agreed true).put_phase 5).send { sec0 with kind := 13, value := (S.accept.put_agreed true).check })).put_checkIn (0#64)) v_89 u_90).toArray HM.b0 ?_
    intro w_101 G_103 hU_102
    clear ld_99 ld_100
    replace HM := HM.s0 hU_102 G_103
    clear hU_102 G_103
    go_wp2_with (with_reducible refine so ?_)
    refine sx 50 (.bool false) (sdL ((((((S.accept.put_agreed true).put_phase 5).send { sec0 with kind := 13, value := (S.accept.put_agreed true).check })).put_checkIn (0#64)).put_haveIn false) v_89 u_90).toArray HM.b0 ?_
    intro w_104 G_106 hU_105
    replace HM := HM.s0 hU_105 G_106
    clear hU_105 G_106
    go_wp2_with (with_reducible refine so ?_)
    refine (sd_checks _ _ ((((((S.accept.put_agreed true).put_phase 5).send { sec0 with kind := 13, value := (S.accept.put_agreed true).check })).put_checkIn (0#64)).put_haveIn false) ⟨13, ⟨0, false, false, false, false, false⟩, 0#32, S.p.checkIn, ⟨⟨0, 0#64⟩, 0#64⟩, 0⟩ _ _ _ _ HM.here len9 len9 ).mono ?_; rintro e w_107 ⟨rfl, v_109, u_110, HN_111⟩
    replace HM := HM.trans HN_111
    clear HN_111
    go_wp2_with (with_reducible refine so ?_)
    refine (sd_done _ _ ((((((((S.accept.put_agreed true).put_phase 5).send { sec0 with kind := 13, value := (S.accept.put_agreed true).check })).put_checkIn (0#64)).put_haveIn false).checks ⟨13, ⟨0, false, false, false, false, false⟩, 0#32, S.p.checkIn, ⟨⟨0, 0#64⟩, 0#64⟩, 0⟩).1) _ _ _ _ HM.here).mono ?_; rintro e w_112 ⟨rfl, hb_113⟩
    replace HM := HM.trans hb_113; clear hb_113
    go_wp2_with (with_reducible refine so ?_)
    refine sv (prL ((((((((S.accept.put_agreed true).put_phase 5).send { sec0 with kind := 13, value := (S.accept.put_agreed true).check })).put_checkIn (0#64)).put_haveIn false).checks ⟨13, ⟨0, false, false, false, false, false⟩, 0#32, S.p.checkIn, ⟨⟨0, 0#64⟩, 0#64⟩, 0⟩).1).p).toArray HM.b1 ?_
    intro w_114 G_116 hU_115
    replace HM := HM.s1 hU_115 G_116
    clear hU_115 G_116
    go_wp2_with (with_reducible refine so ?_)
    refine bodyPost_ret (results_ctt rfl rfl (load_blk HM.b1 Tryd.underlying37 rfl (by kernel_rfl))) rfl ?_
    have q0 := kc_16.out
    have q2 := kc_25.out
    have q3 := kc_36.out
    have q4 := kc_47.out
    have es : userS S x.1 = ((((((((S.accept.put_agreed true).put_phase 5).send { sec0 with kind := 13, value := (S.accept.put_agreed true).check })).put_checkIn (0#64)).put_haveIn false).checks ⟨13, ⟨0, false, false, false, false, false⟩, 0#32, S.p.checkIn, ⟨⟨0, 0#64⟩, 0#64⟩, 0⟩).1) := by unfold userS; exact es9
    exact outU hSd es hbs HM
   obtain ⟨ec_47, ec_47n, kc_47⟩ := fF hc_47; clear hc_47
   go_wp2_with (with_reducible refine so ?_)
   refine (sd_done _ _ S _ _ _ _ HM.here).mono ?_; rintro e w_117 ⟨rfl, hb_118⟩
   replace HM := HM.trans hb_118; clear hb_118
   go_wp2_with (with_reducible refine so ?_)
   refine sv (prL S.p).toArray HM.b1 ?_
   intro w_119 G_121 hU_120
   replace HM := HM.s1 hU_120 G_121
   clear hU_120 G_121
   go_wp2_with (with_reducible refine so ?_)
   refine bodyPost_ret (results_ctt rfl rfl (load_blk HM.b1 Tryd.underlying37 rfl (by kernel_rfl))) rfl ?_
   have q0 := kc_16.out
   have q2 := kc_25.out
   have q3 := kc_36.out
   have q4 := kc_47.out
   have es : userS S x.1 = S := by unfold userS; exact es9
   exact outU hSd es hbs HM
  skip
  by_cases hc_122 : (x.1 : Int) = -1
  ·
   obtain ⟨ec_122, ec_122n, kc_122⟩ := fT hc_122; clear hc_122
   go_wp2_with (with_reducible refine so ?_)
   refine (sd_fail _ _ S 1 _ _ _ _ HM.here).mono ?_; rintro e w_123 ⟨rfl, v_125, u_126, HN_127⟩
   replace HM := HM.trans HN_127
   clear HN_127
   go_wp2_with (with_reducible refine so ?_)
   refine (sd_done _ _ (S.fail 1) _ _ _ _ HM.here).mono ?_; rintro e w_128 ⟨rfl, hb_129⟩
   replace HM := HM.trans hb_129; clear hb_129
   go_wp2_with (with_reducible refine so ?_)
   refine sv (prL (S.fail 1).p).toArray HM.b1 ?_
   intro w_130 G_132 hU_131
   replace HM := HM.s1 hU_131 G_132
   clear hU_131 G_132
   go_wp2_with (with_reducible refine so ?_)
   refine bodyPost_ret (results_ctt rfl rfl (load_blk HM.b1 Tryd.underlying37 rfl (by kernel_rfl))) rfl ?_
   have q0 := kc_16.out
   have q2 := kc_122.out
   have es : userS S x.1 = (S.fail 1) := by unfold userS; exact es9
   exact outU hSd es hbs HM
  obtain ⟨ec_122, ec_122n, kc_122⟩ := fF hc_122; clear hc_122
  go_wp2_with (with_reducible refine so ?_)
  refine (sd_passkey _ _ _ _  _ HM.b0 (isPass S.p.method) rfl).mono ?_; rintro e w_133 ⟨rfl, hb_134⟩
  replace HM := HM.to hb_134
  clear hb_134
  by_cases hc_135 : (x.1 : Int) < 0
  ·
   obtain ⟨ec_135m, ec_135, ec_135n, kc_135⟩ := lT hc_135; clear hc_135
   go_wp2_with (with_reducible refine so ?_)
   refine (sd_passkey _ _ _ _  _ HM.b0 (isPass S.p.method) rfl).mono ?_; rintro e w_136 ⟨rfl, hb_137⟩
   replace HM := HM.to hb_137
   clear hb_137
   go_wp2_with (with_reducible refine so ?_)
   refine (sd_done _ _ S _ _ _ _ HM.here).mono ?_; rintro e w_138 ⟨rfl, hb_139⟩
   replace HM := HM.trans hb_139; clear hb_139
   go_wp2_with (with_reducible refine so ?_)
   refine sv (prL S.p).toArray HM.b1 ?_
   intro w_140 G_142 hU_141
   replace HM := HM.s1 hU_141 G_142
   clear hU_141 G_142
   go_wp2_with (with_reducible refine so ?_)
   refine bodyPost_ret (results_ctt rfl rfl (load_blk HM.b1 Tryd.underlying37 rfl (by kernel_rfl))) rfl ?_
   have q0 := kc_16.out
   have q2 := kc_122.out
   have q3 := kc_135.out
   have es : userS S x.1 = S := by unfold userS; exact es9
   exact outU hSd es hbs HM
  obtain ⟨ec_135m, ec_135, ec_135n, kc_135⟩ := lF hc_135; clear hc_135
  by_cases hc_143 : (x.1 : Int) < 1000000
  ·
   obtain ⟨ec_143m, ec_143, ec_143n, kc_143⟩ := lT hc_143; clear hc_143
   go_wp2_with (with_reducible refine so ?_)
   refine (sd_accept _ _ S _ _ _ _ HM.here).mono ?_; rintro e w_144 ⟨rfl, v_146, u_147, HN_148⟩
   replace HM := HM.trans HN_148
   clear HN_148
   go_wp2_with (with_reducible refine so ?_)
   refine sx 46 (.int .i64 x.1) (sdL (S.accept.put_passkey x.1) v_146 u_147).toArray HM.b0 ?_
   intro w_149 G_151 hU_150
   replace HM := HM.s0 hU_150 G_151
   clear hU_150 G_151
   go_wp2_with (with_reducible refine so ?_)
   refine sx 19 (.int .i64 3) (sdL ((S.accept.put_passkey x.1).put_phase 3) v_146 u_147).toArray HM.b0 ?_
   intro w_152 G_154 hU_153
   replace HM := HM.s0 hU_153 G_154
   clear hU_153 G_154
   go_wp2_with (with_reducible refine so ?_)
   refine (sd_first _ _ _ _  _ HM.b0 S.first rfl).mono ?_; rintro e w_155 ⟨rfl, hb_156⟩
   replace HM := HM.to hb_156
   clear hb_156
   rcases hc_157 : S.first with _ | _
   ·
    skip
    rcases hc_158 : S.p.have_ with _ | _
    ·
     skip
     have ld_159 := HM.b0.c 45 (.bool S.p.have_)
     go_wp2_with (with_reducible refine so ?_)
     refine (sd_done _ _ ((S.accept.put_passkey x.1).put_phase 3) _ _ _ _ HM.here).mono ?_; rintro e w_160 ⟨rfl, hb_161⟩
     clear ld_159
     replace HM := HM.trans hb_161; clear hb_161
     go_wp2_with (with_reducible refine so ?_)
     refine sv (prL ((S.accept.put_passkey x.1).put_phase 3).p).toArray HM.b1 ?_
     intro w_162 G_164 hU_163
     replace HM := HM.s1 hU_163 G_164
     clear hU_163 G_164
     go_wp2_with (with_reducible refine so ?_)
     refine bodyPost_ret (results_ctt rfl rfl (load_blk HM.b1 Tryd.underlying37 rfl (by kernel_rfl))) rfl ?_
     have q0 := kc_16.out
     have q2 := kc_122.out
     have q3 := kc_135.out
     have q4 := kc_143.out
     have es : userS S x.1 = ((S.accept.put_passkey x.1).put_phase 3) := by unfold userS; exact es9
     exact outU hSd es hbs HM
    skip
    have ld_165 := HM.b0.c 45 (.bool S.p.have_)
    go_wp2_with (with_reducible refine so ?_)
    refine (sd_commit _ _ ((S.accept.put_passkey x.1).put_phase 3) _ _ _ _ HM.here len9 (by first | exact h0 | exact h0p) (by first | exact h1 | exact h1p)).mono ?_; rintro e w_166 ⟨rfl, v_168, u_169, HN_170⟩
    clear ld_165
    replace HM := HM.trans HN_170
    clear HN_170
    go_wp2_with (with_reducible refine so ?_)
    refine (sd_done _ _ (((S.accept.put_passkey x.1).put_phase 3).commit) _ _ _ _ HM.here).mono ?_; rintro e w_171 ⟨rfl, hb_172⟩
    replace HM := HM.trans hb_172; clear hb_172
    go_wp2_with (with_reducible refine so ?_)
    refine sv (prL (((S.accept.put_passkey x.1).put_phase 3).commit).p).toArray HM.b1 ?_
    intro w_173 G_175 hU_174
    replace HM := HM.s1 hU_174 G_175
    clear hU_174 G_175
    go_wp2_with (with_reducible refine so ?_)
    refine bodyPost_ret (results_ctt rfl rfl (load_blk HM.b1 Tryd.underlying37 rfl (by kernel_rfl))) rfl ?_
    have q0 := kc_16.out
    have q2 := kc_122.out
    have q3 := kc_135.out
    have q4 := kc_143.out
    have es : userS S x.1 = (((S.accept.put_passkey x.1).put_phase 3).commit) := by unfold userS; exact es9
    exact outU hSd es hbs HM
   skip
   go_wp2_with (with_reducible refine so ?_)
   refine (sd_commit _ _ ((S.accept.put_passkey x.1).put_phase 3) _ _ _ _ HM.here len9 (by first | exact h0 | exact h0p) (by first | exact h1 | exact h1p)).mono ?_; rintro e w_176 ⟨rfl, v_178, u_179, HN_180⟩
   replace HM := HM.trans HN_180
   clear HN_180
   go_wp2_with (with_reducible refine so ?_)
   refine (sd_done _ _ (((S.accept.put_passkey x.1).put_phase 3).commit) _ _ _ _ HM.here).mono ?_; rintro e w_181 ⟨rfl, hb_182⟩
   replace HM := HM.trans hb_182; clear hb_182
   go_wp2_with (with_reducible refine so ?_)
   refine sv (prL (((S.accept.put_passkey x.1).put_phase 3).commit).p).toArray HM.b1 ?_
   intro w_183 G_185 hU_184
   replace HM := HM.s1 hU_184 G_185
   clear hU_184 G_185
   go_wp2_with (with_reducible refine so ?_)
   refine bodyPost_ret (results_ctt rfl rfl (load_blk HM.b1 Tryd.underlying37 rfl (by kernel_rfl))) rfl ?_
   have q0 := kc_16.out
   have q2 := kc_122.out
   have q3 := kc_135.out
   have q4 := kc_143.out
   have es : userS S x.1 = (((S.accept.put_passkey x.1).put_phase 3).commit) := by unfold userS; exact es9
   exact outU hSd es hbs HM
  obtain ⟨ec_143m, ec_143, ec_143n, kc_143⟩ := lF hc_143; clear hc_143
  go_wp2_with (with_reducible refine so ?_)
  refine (sd_passkey _ _ _ _  _ HM.b0 (isPass S.p.method) rfl).mono ?_; rintro e w_186 ⟨rfl, hb_187⟩
  replace HM := HM.to hb_187
  clear hb_187
  go_wp2_with (with_reducible refine so ?_)
  refine (sd_done _ _ S _ _ _ _ HM.here).mono ?_; rintro e w_188 ⟨rfl, hb_189⟩
  replace HM := HM.trans hb_189; clear hb_189
  go_wp2_with (with_reducible refine so ?_)
  refine sv (prL S.p).toArray HM.b1 ?_
  intro w_190 G_192 hU_191
  replace HM := HM.s1 hU_191 G_192
  clear hU_191 G_192
  go_wp2_with (with_reducible refine so ?_)
  refine bodyPost_ret (results_ctt rfl rfl (load_blk HM.b1 Tryd.underlying37 rfl (by kernel_rfl))) rfl ?_
  have q0 := kc_16.out
  have q2 := kc_122.out
  have q3 := kc_135.out
  have q4 := kc_143.out
  have es : userS S x.1 = S := by unfold userS; exact es9
  exact outU hSd es hbs HM
 obtain ⟨ec_16, ec_16n, kc_16⟩ := fF hc_16; clear hc_16
 have ld_193 := HM.b0.c 19 (.int .i64 S.p.phase)
 go_wp2_with (with_reducible refine so ?_)
 refine (sd_done _ _ S _ _ _ _ HM.here).mono ?_; rintro e w_194 ⟨rfl, hb_195⟩
 clear ld_193
 replace HM := HM.trans hb_195; clear hb_195
 go_wp2_with (with_reducible refine so ?_)
 refine sv (prL S.p).toArray HM.b1 ?_
 intro w_196 G_198 hU_197
 replace HM := HM.s1 hU_197 G_198
 clear hU_197 G_198
 go_wp2_with (with_reducible refine so ?_)
 refine bodyPost_ret (results_ctt rfl rfl (load_blk HM.b1 Tryd.underlying37 rfl (by kernel_rfl))) rfl ?_
 have q0 := kc_16.out
 have es : userS S x.1 = S := by unfold userS; exact es9
 exact outU hSd es hbs HM
theorem pa_User (p : Pr) (ans now : Int) (w : World) (HL : Laid w) (r0 : 0 ≤ p.round) (r1 : p.round ≤ 60) :
    Calls Tryd.prog 27 #[.agg (prL p).toArray, .int .i64 ans, .int .i64 now] w (fun e w' => OutR w w' (userP p ans now).1 (userP p ans now).2.1 (userP p ans now).2.2 e) := pa_User_ p (ans, ()) now w HL r0 r1
end Go.Proofs.YtihmbcnccdiecaaDoor
