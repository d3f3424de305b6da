/- Part of the proofs of the laws of pairing. -/
import Derived.Test.YtihmbcnccdiecaaDoorA2
import Derived.Test.YtihmbcnccdiecaaDoorBLowB
import Derived.Test.YtihmbcnccdiecaaDoorBLowC
import Derived.Test.YtihmbcnccdiecaaDoorBSdA
import Derived.Test.YtihmbcnccdiecaaDoorBSdB
import Derived.Test.YtihmbcnccdiecaaDoorBSdC
import Derived.Test.YtihmbcnccdiecaaDoorBSdD
import Derived.Test.YtihmbcnccdiecaaDoorBSdE
import Derived.Test.YtihmbcnccdiecaaDoorBSdF
import Derived.Test.YtihmbcnccdiecaaDoorBSdG
namespace Go.Proofs.YtihmbcnccdiecaaDoor
set_option maxRecDepth 100000
open Go.ChangeShapes Go.WideShapes Go.ChangeAt Go.RowKit
set_option linter.unusedVariables false
set_option linter.unusedSimpArgs false
set_option maxHeartbeats 4000000 in
theorem pa_Handle3 (p : Pr) (d : Sec) (now : Int) (w : World) (HL : Laid w) (r0 : 0 ≤ p.round) (r1 : p.round ≤ 60) (hp0 : ¬ p.phase = 0) (hp1 : ¬ p.phase = 1) (hp2 : ¬ p.phase = 2) (hp3 : p.phase = 3) :
  Calls Tryd.prog 26 #[.agg (prL p).toArray, .agg (secL d).toArray, .int .i64 now] w (fun e w' => OutR w w' (handleP p d now).1 (handleP p d now).2.1 (handleP p d now).2.2 e) := by
 obtain ⟨base, hbs⟩ : ∃ b, w.heap.size = b := ⟨_, rfl⟩
 have HM := Mem.start HL
 rw [hbs] at HM
 obtain ⟨S, hS⟩ : ∃ S, handleK p now = S := ⟨_, rfl⟩
 have hs0 : S.sent = [] := by rw [← hS]; rfl
 have ht0 : S.told = [] := by rw [← hS]; rfl
 have hw0 : S.was = S.p := by rw [← hS]; rfl
 have ls : S.sent.length ≤ 900 := by rw [hs0]; decide
 have lt : S.told.length ≤ 900 := by rw [ht0]; decide
 have h0 : 0 ≤ S.p.round := by rw [← hS]; exact r0
 have h1 : S.p.round ≤ 64 := by rw [← hS]; show p.round ≤ 64; omega
 have h2 : S.p.round ≤ 60 := by rw [← hS]; exact r1
 have kph0 := Lib.hid (show ¬ S.p.phase = 0 by rw [← hS]; exact hp0)
 have eph0 : ((S.p.phase : Int) == 0) = false := by simpa using kph0.out
 have eph0n : ((S.p.phase : Int) != 0) = true := by simpa using kph0.out
 have kph1 := Lib.hid (show ¬ S.p.phase = 1 by rw [← hS]; exact hp1)
 have kph2 := Lib.hid (show ¬ S.p.phase = 2 by rw [← hS]; exact hp2)
 have kph3 := Lib.hid (show S.p.phase = 3 by rw [← hS]; exact hp3)
 have eph3 : ((S.p.phase : Int) == 3) = true := by simpa using kph3.out
 have eph3n : ((S.p.phase : Int) != 3) = false := by simpa using kph3.out
 go_enter Tryd.func26, Tryd.ntmps26
 go_wp2_with (with_reducible refine sm ?_)
 refine HM.nw (ty := 37) (cs := (prL p).toArray) ?_; clear HM; intro g_1 w_2 HM
 go_wp2_with (with_reducible refine sm ?_)
 refine HM.nw (ty := 43) (cs := (secL d).toArray) ?_; clear HM; intro g_7 w_8 HM
 go_wp2_with (with_reducible refine sm ?_)
 refine HM.nw (ty := 37) (cs := (prL pr0).toArray) ?_; clear HM; intro g_13 w_14 HM
 go_wp2_with (first | (with_reducible refine sm ?_) | (with_reducible refine ld 0 (prL p) HM.b2 Tryd.underlying37 ?_))
 refine (sd_handle _ p now _ _ HM.here).mono ?_; rintro e w_20 ⟨gs, rfl, hb_21⟩
 replace HM := HM.trans hb_21; clear hb_21
 rw [hS] at HM
 rw [← hs0, ← ht0] at HM
 go_wp2_with (with_reducible refine sm ?_)
 unfold Kept
 refine wpList_mkmap ?_
 go_wp2_with (with_reducible refine sm ?_)
 unfold Kept
 refine wpList_ins (k := 3) (e := 111) rfl rfl rfl Tryd.underlying112 Tryd.underlying3 rfl ?_
 simp only [List.nil_append, List.cons_append, Nat.zero_add, Nat.reduceAdd]
 go_wp2_with (with_reducible refine sm ?_)
 unfold Kept
 refine wpList_ins (k := 3) (e := 111) rfl rfl rfl Tryd.underlying112 Tryd.underlying3 rfl ?_
 simp only [List.nil_append, List.cons_append, Nat.zero_add, Nat.reduceAdd]
 go_wp2_with (with_reducible refine sm ?_)
 unfold Kept
 refine wpList_ins (k := 3) (e := 111) rfl rfl rfl Tryd.underlying112 Tryd.underlying3 rfl ?_
 simp only [List.nil_append, List.cons_append, Nat.zero_add, Nat.reduceAdd]
 go_wp2_with (with_reducible refine sm ?_)
 unfold Kept
 refine wpList_ins (k := 3) (e := 111) rfl rfl rfl Tryd.underlying112 Tryd.underlying3 rfl ?_
 simp only [List.nil_append, List.cons_append, Nat.zero_add, Nat.reduceAdd]
 go_wp2_with (with_reducible refine sm ?_)
 unfold Kept
 refine wpList_ins (k := 3) (e := 111) rfl rfl rfl Tryd.underlying112 Tryd.underlying3 rfl ?_
 simp only [List.nil_append, List.cons_append, Nat.zero_add, Nat.reduceAdd]
 go_wp2_with (with_reducible refine sm ?_)
 unfold Kept
 refine wpList_ins (k := 3) (e := 111) rfl rfl rfl Tryd.underlying112 Tryd.underlying3 rfl ?_
 simp only [List.nil_append, List.cons_append, Nat.zero_add, Nat.reduceAdd]
 go_wp2_with (with_reducible refine sm ?_)
 unfold Kept
 refine wpList_ins_last (k := 3) (e := 111) [{ key := .int .i64 0, val := .func (.func 44) #[.pointer (some ⟨gs, 0, none⟩)] #[], born := 0 }, { key := .int .i64 1, val := .func (.func 45) #[.pointer (some ⟨gs, 0, none⟩)] #[], born := 1 }, { key := .int .i64 2, val := .func (.func 46) #[.pointer (some ⟨gs, 0, none⟩)] #[], born := 2 }, { key := .int .i64 3, val := .func (.func 47) #[.pointer (some ⟨gs, 0, none⟩)] #[], born := 3 }, { key := .int .i64 4, val := .func (.func 48) #[.pointer (some ⟨gs, 0, none⟩)] #[], born := 4 }, { key := .int .i64 5, val := .func (.func 49) #[.pointer (some ⟨gs, 0, none⟩)] #[], born := 5 }, { key := .int .i64 6, val := .func (.func 50) #[.pointer (some ⟨gs, 0, none⟩)] #[], born := 6 }] 7 rfl rfl rfl Tryd.underlying112 Tryd.underlying3 rfl rfl rfl ?_
 intro w_22 hbm hem
 replace HM := HM.to hbm; clear hbm
 generalize w_20.heap.size = mb at hem ⊢
 have HE := Lib.hid hem; clear hem
 have ld_23 := HM.b0.c 19 (.int .i64 S.p.phase)
 go_wp2_with (with_reducible refine sm ?_)
 unfold Kept
 refine wpList_look (k := 3) (e := 111) (some (3, .func (.func 47) #[.pointer (some ⟨gs, 0, none⟩)] #[])) .nilFunc (.tuple #[.func (.func 47) #[.pointer (some ⟨gs, 0, none⟩)] #[], .bool true]) HE.out rfl rfl Tryd.underlying112 Tryd.underlying3 (by rw [kph3.out]; rfl) (by kernel_rfl) rfl ?_
 clear ld_23
 go_wp2_with (first | (with_reducible refine sm ?_) | (with_reducible refine ld 0 (secL d) HM.b2 Tryd.underlying43 ?_))
 refine (sm_Check d _ HM.laid).mono ?_; rintro e w_25 ⟨rfl, hb_26⟩
 replace HM := HM.to hb_26
 clear hb_26
 by_cases hc_27 : (secK d : Int) = 0
 ·
  obtain ⟨ec_27, ec_27n, kc_27⟩ := fT hc_27; clear hc_27
  by_cases hc_28 : (d.kind : Int) = 5
  ·
   obtain ⟨ec_28, ec_28n, kc_28⟩ := fT hc_28; clear hc_28
   have ld_29 := HM.b2.c 0 (.int .i64 d.kind)
   have ld_30 := HM.b0.c 19 (.int .i64 S.p.phase)
   have ld_31 := HM.b2.c 12 (.int .i64 d.reason)
   go_wp2_with (with_reducible refine sm ?_)
   refine (sd_end _ _ S d.reason _ _ _ _ HM.here).mono ?_; rintro e w_32 ⟨rfl, v_34, u_35, HN_36⟩
   clear ld_29 ld_30 ld_31
   replace HM := HM.trans HN_36
   clear HN_36
   go_wp2_with (with_reducible refine sm ?_)
   refine (sd_done _ _ (S.end_ d.reason) _ _ _ _ HM.here).mono ?_; rintro e w_37 ⟨rfl, hb_38⟩
   replace HM := HM.trans hb_38; clear hb_38
   go_wp2_with (with_reducible refine sm ?_)
   refine sv (prL (S.end_ d.reason).p).toArray HM.b1 ?_
   intro w_39 G_41 hU_40
   replace HM := HM.s1 hU_40 G_41
   clear hU_40 G_41
   go_wp2_with (with_reducible refine sm ?_)
   refine bodyPost_ret (results_ctt rfl rfl (load_blk HM.b1 Tryd.underlying37 rfl (by kernel_rfl))) rfl ?_
   have q0 := kph0.out
   have q1 := kph1.out
   have q2 := kph2.out
   have q3 := kph3.out
   have q4 := kc_27.out
   have q5 := kc_28.out
   have es : handleS S d = (S.end_ d.reason) := by unfold handleS; exact es9
   exact outH hS es hbs HM
  obtain ⟨ec_28, ec_28n, kc_28⟩ := fF hc_28; clear hc_28
  by_cases hc_42 : (d.kind : Int) = 11
  ·
   obtain ⟨ec_42, ec_42n, kc_42⟩ := fT hc_42; clear hc_42
   have ld_43 := HM.b2.c 0 (.int .i64 d.kind)
   go_wp2_with (with_reducible refine sm ?_)
   refine (sd_first _ _ _ _  _ HM.b0 S.first rfl).mono ?_; rintro e w_44 ⟨rfl, hb_45⟩
   clear ld_43
   replace HM := HM.to hb_45
   clear hb_45
   rcases hc_46 : S.first with _ | _
   ·
    skip
    go_wp2_with (first | (with_reducible refine sm ?_) | (with_reducible refine ld 0 (secL d) HM.b2 Tryd.underlying43 ?_))
    refine (sd_auth _ _ S d _ _ _ _ HM.here len9 len9 (by first | exact h0 | exact h0p) (by first | exact h1 | exact h1p) h2).mono ?_; rintro e w_48 ⟨rfl, v_50, u_51, HN_52⟩
    replace HM := HM.trans HN_52
    clear HN_52
    rcases hc_53 : (S.auth d).2 with _ | _
    ·
     skip
     go_wp2_with (with_reducible refine sm ?_)
     refine (sd_fail _ _ ((S.auth d).1) 7 _ _ _ _ HM.here).mono ?_; rintro e w_54 ⟨rfl, v_56, u_57, HN_58⟩
     replace HM := HM.trans HN_58
     clear HN_58
     go_wp2_with (with_reducible refine sm ?_)
     refine (sd_done _ _ (((S.auth d).1).fail 7) _ _ _ _ HM.here).mono ?_; rintro e w_59 ⟨rfl, hb_60⟩
     replace HM := HM.trans hb_60; clear hb_60
     go_wp2_with (with_reducible refine sm ?_)
     refine sv (prL (((S.auth d).1).fail 7).p).toArray HM.b1 ?_
     intro w_61 G_63 hU_62
     replace HM := HM.s1 hU_62 G_63
     clear hU_62 G_63
     go_wp2_with (with_reducible refine sm ?_)
     refine bodyPost_ret (results_ctt rfl rfl (load_blk HM.b1 Tryd.underlying37 rfl (by kernel_rfl))) rfl ?_
     have q0 := kph0.out
     have q1 := kph1.out
     have q2 := kph2.out
     have q3 := kph3.out
     have q4 := kc_27.out
     have q5 := kc_28.out
     have q6 := kc_42.out
     have es : handleS S d = (((S.auth d).1).fail 7) := by unfold handleS; exact es9
     exact outH hS es hbs HM
    skip
    go_wp2_with (with_reducible refine sm ?_)
    refine (sd_done _ _ ((S.auth d).1) _ _ _ _ HM.here).mono ?_; rintro e w_64 ⟨rfl, hb_65⟩
    replace HM := HM.trans hb_65; clear hb_65
    go_wp2_with (with_reducible refine sm ?_)
    refine sv (prL ((S.auth d).1).p).toArray HM.b1 ?_
    intro w_66 G_68 hU_67
    replace HM := HM.s1 hU_67 G_68
    clear hU_67 G_68
    go_wp2_with (with_reducible refine sm ?_)
    refine bodyPost_ret (results_ctt rfl rfl (load_blk HM.b1 Tryd.underlying37 rfl (by kernel_rfl))) rfl ?_
    have q0 := kph0.out
    have q1 := kph1.out
    have q2 := kph2.out
    have q3 := kph3.out
    have q4 := kc_27.out
    have q5 := kc_28.out
    have q6 := kc_42.out
    have es : handleS S d = ((S.auth d).1) := by unfold handleS; exact es9
    exact outH hS es hbs HM
   skip
   have ld_69 := HM.b0.c 19 (.int .i64 S.p.phase)
   go_wp2_with (first | (with_reducible refine sm ?_) | (with_reducible refine ld 0 (secL d) HM.b2 Tryd.underlying43 ?_))
   refine (sd_auth _ _ S d _ _ _ _ HM.here len9 len9 (by first | exact h0 | exact h0p) (by first | exact h1 | exact h1p) h2).mono ?_; rintro e w_71 ⟨rfl, v_73, u_74, HN_75⟩
   clear ld_69
   replace HM := HM.trans HN_75
   clear HN_75
   rcases hc_76 : (S.auth d).2 with _ | _
   ·
    skip
    go_wp2_with (with_reducible refine sm ?_)
    refine (sd_fail _ _ ((S.auth d).1) 7 _ _ _ _ HM.here).mono ?_; rintro e w_77 ⟨rfl, v_79, u_80, HN_81⟩
    replace HM := HM.trans HN_81
    clear HN_81
    go_wp2_with (with_reducible refine sm ?_)
    refine (sd_done _ _ (((S.auth d).1).fail 7) _ _ _ _ HM.here).mono ?_; rintro e w_82 ⟨rfl, hb_83⟩
    replace HM := HM.trans hb_83; clear hb_83
    go_wp2_with (with_reducible refine sm ?_)
    refine sv (prL (((S.auth d).1).fail 7).p).toArray HM.b1 ?_
    intro w_84 G_86 hU_85
    replace HM := HM.s1 hU_85 G_86
    clear hU_85 G_86
    go_wp2_with (with_reducible refine sm ?_)
    refine bodyPost_ret (results_ctt rfl rfl (load_blk HM.b1 Tryd.underlying37 rfl (by kernel_rfl))) rfl ?_
    have q0 := kph0.out
    have q1 := kph1.out
    have q2 := kph2.out
    have q3 := kph3.out
    have q4 := kc_27.out
    have q5 := kc_28.out
    have q6 := kc_42.out
    have es : handleS S d = (((S.auth d).1).fail 7) := by unfold handleS; exact es9
    exact outH hS es hbs HM
   skip
   go_wp2_with (with_reducible refine sm ?_)
   refine (sd_done _ _ ((S.auth d).1) _ _ _ _ HM.here).mono ?_; rintro e w_87 ⟨rfl, hb_88⟩
   replace HM := HM.trans hb_88; clear hb_88
   go_wp2_with (with_reducible refine sm ?_)
   refine sv (prL ((S.auth d).1).p).toArray HM.b1 ?_
   intro w_89 G_91 hU_90
   replace HM := HM.s1 hU_90 G_91
   clear hU_90 G_91
   go_wp2_with (with_reducible refine sm ?_)
   refine bodyPost_ret (results_ctt rfl rfl (load_blk HM.b1 Tryd.underlying37 rfl (by kernel_rfl))) rfl ?_
   have q0 := kph0.out
   have q1 := kph1.out
   have q2 := kph2.out
   have q3 := kph3.out
   have q4 := kc_27.out
   have q5 := kc_28.out
   have q6 := kc_42.out
   have es : handleS S d = ((S.auth d).1) := by unfold handleS; exact es9
   exact outH hS es hbs HM
  obtain ⟨ec_42, ec_42n, kc_42⟩ := fF hc_42; clear hc_42
  have ld_92 := HM.b2.c 0 (.int .i64 d.kind)
  go_wp2_with (first | (with_reducible refine sm ?_) | (with_reducible refine ld 0 (secL d) HM.b2 Tryd.underlying43 ?_))
  refine (sd_auth _ _ S d _ _ _ _ HM.here len9 len9 (by first | exact h0 | exact h0p) (by first | exact h1 | exact h1p) h2).mono ?_; rintro e w_94 ⟨rfl, v_96, u_97, HN_98⟩
  clear ld_92
  replace HM := HM.trans HN_98
  clear HN_98
  rcases hc_99 : (S.auth d).2 with _ | _
  ·
   skip
   go_wp2_with (with_reducible refine sm ?_)
   refine (sd_fail _ _ ((S.auth d).1) 7 _ _ _ _ HM.here).mono ?_; rintro e w_100 ⟨rfl, v_102, u_103, HN_104⟩
   replace HM := HM.trans HN_104
   clear HN_104
   go_wp2_with (with_reducible refine sm ?_)
   refine (sd_done _ _ (((S.auth d).1).fail 7) _ _ _ _ HM.here).mono ?_; rintro e w_105 ⟨rfl, hb_106⟩
   replace HM := HM.trans hb_106; clear hb_106
   go_wp2_with (with_reducible refine sm ?_)
   refine sv (prL (((S.auth d).1).fail 7).p).toArray HM.b1 ?_
   intro w_107 G_109 hU_108
   replace HM := HM.s1 hU_108 G_109
   clear hU_108 G_109
   go_wp2_with (with_reducible refine sm ?_)
   refine bodyPost_ret (results_ctt rfl rfl (load_blk HM.b1 Tryd.underlying37 rfl (by kernel_rfl))) rfl ?_
   have q0 := kph0.out
   have q1 := kph1.out
   have q2 := kph2.out
   have q3 := kph3.out
   have q4 := kc_27.out
   have q5 := kc_28.out
   have q6 := kc_42.out
   have es : handleS S d = (((S.auth d).1).fail 7) := by unfold handleS; exact es9
   exact outH hS es hbs HM
  skip
  go_wp2_with (with_reducible refine sm ?_)
  refine (sd_done _ _ ((S.auth d).1) _ _ _ _ HM.here).mono ?_; rintro e w_110 ⟨rfl, hb_111⟩
  replace HM := HM.trans hb_111; clear hb_111
  go_wp2_with (with_reducible refine sm ?_)
  refine sv (prL ((S.auth d).1).p).toArray HM.b1 ?_
  intro w_112 G_114 hU_113
  replace HM := HM.s1 hU_113 G_114
  clear hU_113 G_114
  go_wp2_with (with_reducible refine sm ?_)
  refine bodyPost_ret (results_ctt rfl rfl (load_blk HM.b1 Tryd.underlying37 rfl (by kernel_rfl))) rfl ?_
  have q0 := kph0.out
  have q1 := kph1.out
  have q2 := kph2.out
  have q3 := kph3.out
  have q4 := kc_27.out
  have q5 := kc_28.out
  have q6 := kc_42.out
  have es : handleS S d = ((S.auth d).1) := by unfold handleS; exact es9
  exact outH hS es hbs HM
 obtain ⟨ec_27, ec_27n, kc_27⟩ := fF hc_27; clear hc_27
 go_wp2_with (with_reducible refine sm ?_)
 refine (sd_fail _ _ S 7 _ _ _ _ HM.here).mono ?_; rintro e w_115 ⟨rfl, v_117, u_118, HN_119⟩
 replace HM := HM.trans HN_119
 clear HN_119
 go_wp2_with (with_reducible refine sm ?_)
 refine (sd_done _ _ (S.fail 7) _ _ _ _ HM.here).mono ?_; rintro e w_120 ⟨rfl, hb_121⟩
 replace HM := HM.trans hb_121; clear hb_121
 go_wp2_with (with_reducible refine sm ?_)
 refine sv (prL (S.fail 7).p).toArray HM.b1 ?_
 intro w_122 G_124 hU_123
 replace HM := HM.s1 hU_123 G_124
 clear hU_123 G_124
 go_wp2_with (with_reducible refine sm ?_)
 refine bodyPost_ret (results_ctt rfl rfl (load_blk HM.b1 Tryd.underlying37 rfl (by kernel_rfl))) rfl ?_
 have q0 := kph0.out
 have q1 := kph1.out
 have q2 := kph2.out
 have q3 := kph3.out
 have q4 := kc_27.out
 have es : handleS S d = (S.fail 7) := by unfold handleS; exact es9
 exact outH hS es hbs HM
set_option maxHeartbeats 4000000 in
theorem pa_Handle4 (p : Pr) (d : Sec) (now : Int) (w : World) (HL : Laid w) (r0 : 0 ≤ p.round) (r1 : p.round ≤ 60) (hp0 : ¬ p.phase = 0) (hp1 : ¬ p.phase = 1) (hp2 : ¬ p.phase = 2) (hp3 : ¬ p.phase = 3) (hp4 : p.phase = 4) :
  Calls Tryd.prog 26 #[.agg (prL p).toArray, .agg (secL d).toArray, .int .i64 now] w (fun e w' => OutR w w' (handleP p d now).1 (handleP p d now).2.1 (handleP p d now).2.2 e) := by
 obtain ⟨base, hbs⟩ : ∃ b, w.heap.size = b := ⟨_, rfl⟩
 have HM := Mem.start HL
 rw [hbs] at HM
 obtain ⟨S, hS⟩ : ∃ S, handleK p now = S := ⟨_, rfl⟩
 have hs0 : S.sent = [] := by rw [← hS]; rfl
 have ht0 : S.told = [] := by rw [← hS]; rfl
 have hw0 : S.was = S.p := by rw [← hS]; rfl
 have ls : S.sent.length ≤ 900 := by rw [hs0]; decide
 have lt : S.told.length ≤ 900 := by rw [ht0]; decide
 have h0 : 0 ≤ S.p.round := by rw [← hS]; exact r0
 have h1 : S.p.round ≤ 64 := by rw [← hS]; show p.round ≤ 64; omega
 have h2 : S.p.round ≤ 60 := by rw [← hS]; exact r1
 have kph0 := Lib.hid (show ¬ S.p.phase = 0 by rw [← hS]; exact hp0)
 have eph0 : ((S.p.phase : Int) == 0) = false := by simpa using kph0.out
 have eph0n : ((S.p.phase : Int) != 0) = true := by simpa using kph0.out
 have kph1 := Lib.hid (show ¬ S.p.phase = 1 by rw [← hS]; exact hp1)
 have kph2 := Lib.hid (show ¬ S.p.phase = 2 by rw [← hS]; exact hp2)
 have kph3 := Lib.hid (show ¬ S.p.phase = 3 by rw [← hS]; exact hp3)
 have kph4 := Lib.hid (show S.p.phase = 4 by rw [← hS]; exact hp4)
 have eph4 : ((S.p.phase : Int) == 4) = true := by simpa using kph4.out
 have eph4n : ((S.p.phase : Int) != 4) = false := by simpa using kph4.out
 go_enter Tryd.func26, Tryd.ntmps26
 go_wp2_with (with_reducible refine sm ?_)
 refine HM.nw (ty := 37) (cs := (prL p).toArray) ?_; clear HM; intro g_1 w_2 HM
 go_wp2_with (with_reducible refine sm ?_)
 refine HM.nw (ty := 43) (cs := (secL d).toArray) ?_; clear HM; intro g_7 w_8 HM
 go_wp2_with (with_reducible refine sm ?_)
 refine HM.nw (ty := 37) (cs := (prL pr0).toArray) ?_; clear HM; intro g_13 w_14 HM
 go_wp2_with (first | (with_reducible refine sm ?_) | (with_reducible refine ld 0 (prL p) HM.b2 Tryd.underlying37 ?_))
 refine (sd_handle _ p now _ _ HM.here).mono ?_; rintro e w_20 ⟨gs, rfl, hb_21⟩
 replace HM := HM.trans hb_21; clear hb_21
 rw [hS] at HM
 rw [← hs0, ← ht0] at HM
 go_wp2_with (with_reducible refine sm ?_)
 unfold Kept
 refine wpList_mkmap ?_
 go_wp2_with (with_reducible refine sm ?_)
 unfold Kept
 refine wpList_ins (k := 3) (e := 111) rfl rfl rfl Tryd.underlying112 Tryd.underlying3 rfl ?_
 simp only [List.nil_append, List.cons_append, Nat.zero_add, Nat.reduceAdd]
 go_wp2_with (with_reducible refine sm ?_)
 unfold Kept
 refine wpList_ins (k := 3) (e := 111) rfl rfl rfl Tryd.underlying112 Tryd.underlying3 rfl ?_
 simp only [List.nil_append, List.cons_append, Nat.zero_add, Nat.reduceAdd]
 go_wp2_with (with_reducible refine sm ?_)
 unfold Kept
 refine wpList_ins (k := 3) (e := 111) rfl rfl rfl Tryd.underlying112 Tryd.underlying3 rfl ?_
 simp only [List.nil_append, List.cons_append, Nat.zero_add, Nat.reduceAdd]
 go_wp2_with (with_reducible refine sm ?_)
 unfold Kept
 refine wpList_ins (k := 3) (e := 111) rfl rfl rfl Tryd.underlying112 Tryd.underlying3 rfl ?_
 simp only [List.nil_append, List.cons_append, Nat.zero_add, Nat.reduceAdd]
 go_wp2_with (with_reducible refine sm ?_)
 unfold Kept
 refine wpList_ins (k := 3) (e := 111) rfl rfl rfl Tryd.underlying112 Tryd.underlying3 rfl ?_
 simp only [List.nil_append, List.cons_append, Nat.zero_add, Nat.reduceAdd]
 go_wp2_with (with_reducible refine sm ?_)
 unfold Kept
 refine wpList_ins (k := 3) (e := 111) rfl rfl rfl Tryd.underlying112 Tryd.underlying3 rfl ?_
 simp only [List.nil_append, List.cons_append, Nat.zero_add, Nat.reduceAdd]
 go_wp2_with (with_reducible refine sm ?_)
 unfold Kept
 refine wpList_ins_last (k := 3) (e := 111) [{ key := .int .i64 0, val := .func (.func 44) #[.pointer (some ⟨gs, 0, none⟩)] #[], born := 0 }, { key := .int .i64 1, val := .func (.func 45) #[.pointer (some ⟨gs, 0, none⟩)] #[], born := 1 }, { key := .int .i64 2, val := .func (.func 46) #[.pointer (some ⟨gs, 0, none⟩)] #[], born := 2 }, { key := .int .i64 3, val := .func (.func 47) #[.pointer (some ⟨gs, 0, none⟩)] #[], born := 3 }, { key := .int .i64 4, val := .func (.func 48) #[.pointer (some ⟨gs, 0, none⟩)] #[], born := 4 }, { key := .int .i64 5, val := .func (.func 49) #[.pointer (some ⟨gs, 0, none⟩)] #[], born := 5 }, { key := .int .i64 6, val := .func (.func 50) #[.pointer (some ⟨gs, 0, none⟩)] #[], born := 6 }] 7 rfl rfl rfl Tryd.underlying112 Tryd.underlying3 rfl rfl rfl ?_
 intro w_22 hbm hem
 replace HM := HM.to hbm; clear hbm
 generalize w_20.heap.size = mb at hem ⊢
 have HE := Lib.hid hem; clear hem
 have ld_23 := HM.b0.c 19 (.int .i64 S.p.phase)
 go_wp2_with (with_reducible refine sm ?_)
 unfold Kept
 refine wpList_look (k := 3) (e := 111) (some (4, .func (.func 48) #[.pointer (some ⟨gs, 0, none⟩)] #[])) .nilFunc (.tuple #[.func (.func 48) #[.pointer (some ⟨gs, 0, none⟩)] #[], .bool true]) HE.out rfl rfl Tryd.underlying112 Tryd.underlying3 (by rw [kph4.out]; rfl) (by kernel_rfl) rfl ?_
 clear ld_23
 go_wp2_with (first | (with_reducible refine sm ?_) | (with_reducible refine ld 0 (secL d) HM.b2 Tryd.underlying43 ?_))
 refine (sm_Check d _ HM.laid).mono ?_; rintro e w_25 ⟨rfl, hb_26⟩
 replace HM := HM.to hb_26
 clear hb_26
 by_cases hc_27 : (secK d : Int) = 0
 ·
  obtain ⟨ec_27, ec_27n, kc_27⟩ := fT hc_27; clear hc_27
  by_cases hc_28 : (d.kind : Int) = 5
  ·
   obtain ⟨ec_28, ec_28n, kc_28⟩ := fT hc_28; clear hc_28
   have ld_29 := HM.b2.c 0 (.int .i64 d.kind)
   have ld_30 := HM.b0.c 19 (.int .i64 S.p.phase)
   have ld_31 := HM.b2.c 12 (.int .i64 d.reason)
   go_wp2_with (with_reducible refine sm ?_)
   refine (sd_end _ _ S d.reason _ _ _ _ HM.here).mono ?_; rintro e w_32 ⟨rfl, v_34, u_35, HN_36⟩
   clear ld_29 ld_30 ld_31
   replace HM := HM.trans HN_36
   clear HN_36
   go_wp2_with (with_reducible refine sm ?_)
   refine (sd_done _ _ (S.end_ d.reason) _ _ _ _ HM.here).mono ?_; rintro e w_37 ⟨rfl, hb_38⟩
   replace HM := HM.trans hb_38; clear hb_38
   go_wp2_with (with_reducible refine sm ?_)
   refine sv (prL (S.end_ d.reason).p).toArray HM.b1 ?_
   intro w_39 G_41 hU_40
   replace HM := HM.s1 hU_40 G_41
   clear hU_40 G_41
   go_wp2_with (with_reducible refine sm ?_)
   refine bodyPost_ret (results_ctt rfl rfl (load_blk HM.b1 Tryd.underlying37 rfl (by kernel_rfl))) rfl ?_
   have q0 := kph0.out
   have q1 := kph1.out
   have q2 := kph2.out
   have q3 := kph3.out
   have q4 := kph4.out
   have q5 := kc_27.out
   have q6 := kc_28.out
   have es : handleS S d = (S.end_ d.reason) := by unfold handleS; exact es9
   exact outH hS es hbs HM
  obtain ⟨ec_28, ec_28n, kc_28⟩ := fF hc_28; clear hc_28
  by_cases hc_42 : (d.kind : Int) = 11
  ·
   obtain ⟨ec_42, ec_42n, kc_42⟩ := fT hc_42; clear hc_42
   have ld_43 := HM.b2.c 0 (.int .i64 d.kind)
   go_wp2_with (with_reducible refine sm ?_)
   refine (sd_first _ _ _ _  _ HM.b0 S.first rfl).mono ?_; rintro e w_44 ⟨rfl, hb_45⟩
   clear ld_43
   replace HM := HM.to hb_45
   clear hb_45
   rcases hc_46 : S.first with _ | _
   ·
    skip
    go_wp2_with (first | (with_reducible refine sm ?_) | (with_reducible refine ld 0 (secL d) HM.b2 Tryd.underlying43 ?_))
    refine (sd_early _ _ S d _ _ _ _ HM.here len9 len9 ).mono ?_; rintro e w_48 ⟨rfl, v_50, u_51, HN_52⟩
    replace HM := HM.trans HN_52
    clear HN_52
    rcases hc_53 : (S.early d).2 with _ | _
    ·
     skip
     go_wp2_with (with_reducible refine sm ?_)
     refine (sd_fail _ _ ((S.early d).1) 7 _ _ _ _ HM.here).mono ?_; rintro e w_54 ⟨rfl, v_56, u_57, HN_58⟩
     replace HM := HM.trans HN_58
     clear HN_58
     go_wp2_with (with_reducible refine sm ?_)
     refine (sd_done _ _ (((S.early d).1).fail 7) _ _ _ _ HM.here).mono ?_; rintro e w_59 ⟨rfl, hb_60⟩
     replace HM := HM.trans hb_60; clear hb_60
     go_wp2_with (with_reducible refine sm ?_)
     refine sv (prL (((S.early d).1).fail 7).p).toArray HM.b1 ?_
     intro w_61 G_63 hU_62
     replace HM := HM.s1 hU_62 G_63
     clear hU_62 G_63
     go_wp2_with (with_reducible refine sm ?_)
     refine bodyPost_ret (results_ctt rfl rfl (load_blk HM.b1 Tryd.underlying37 rfl (by kernel_rfl))) rfl ?_
     have q0 := kph0.out
     have q1 := kph1.out
     have q2 := kph2.out
     have q3 := kph3.out
     have q4 := kph4.out
     have q5 := kc_27.out
     have q6 := kc_28.out
     have q7 := kc_42.out
     have es : handleS S d = (((S.early d).1).fail 7) := by unfold handleS; exact es9
     exact outH hS es hbs HM
    skip
    go_wp2_with (with_reducible refine sm ?_)
    refine (sd_done _ _ ((S.early d).1) _ _ _ _ HM.here).mono ?_; rintro e w_64 ⟨rfl, hb_65⟩
    replace HM := HM.trans hb_65; clear hb_65
    go_wp2_with (with_reducible refine sm ?_)
    refine sv (prL ((S.early d).1).p).toArray HM.b1 ?_
    intro w_66 G_68 hU_67
    replace HM := HM.s1 hU_67 G_68
    clear hU_67 G_68
    go_wp2_with (with_reducible refine sm ?_)
    refine bodyPost_ret (results_ctt rfl rfl (load_blk HM.b1 Tryd.underlying37 rfl (by kernel_rfl))) rfl ?_
    have q0 := kph0.out
    have q1 := kph1.out
    have q2 := kph2.out
    have q3 := kph3.out
    have q4 := kph4.out
    have q5 := kc_27.out
    have q6 := kc_28.out
    have q7 := kc_42.out
    have es : handleS S d = ((S.early d).1) := by unfold handleS; exact es9
    exact outH hS es hbs HM
   skip
   have ld_69 := HM.b0.c 19 (.int .i64 S.p.phase)
   go_wp2_with (first | (with_reducible refine sm ?_) | (with_reducible refine ld 0 (secL d) HM.b2 Tryd.underlying43 ?_))
   refine (sd_early _ _ S d _ _ _ _ HM.here len9 len9 ).mono ?_; rintro e w_71 ⟨rfl, v_73, u_74, HN_75⟩
   clear ld_69
   replace HM := HM.trans HN_75
   clear HN_75
   rcases hc_76 : (S.early d).2 with _ | _
   ·
    skip
    go_wp2_with (with_reducible refine sm ?_)
    refine (sd_fail _ _ ((S.early d).1) 7 _ _ _ _ HM.here).mono ?_; rintro e w_77 ⟨rfl, v_79, u_80, HN_81⟩
    replace HM := HM.trans HN_81
    clear HN_81
    go_wp2_with (with_reducible refine sm ?_)
    refine (sd_done _ _ (((S.early d).1).fail 7) _ _ _ _ HM.here).mono ?_; rintro e w_82 ⟨rfl, hb_83⟩
    replace HM := HM.trans hb_83; clear hb_83
    go_wp2_with (with_reducible refine sm ?_)
    refine sv (prL (((S.early d).1).fail 7).p).toArray HM.b1 ?_
    intro w_84 G_86 hU_85
    replace HM := HM.s1 hU_85 G_86
    clear hU_85 G_86
    go_wp2_with (with_reducible refine sm ?_)
    refine bodyPost_ret (results_ctt rfl rfl (load_blk HM.b1 Tryd.underlying37 rfl (by kernel_rfl))) rfl ?_
    have q0 := kph0.out
    have q1 := kph1.out
    have q2 := kph2.out
    have q3 := kph3.out
    have q4 := kph4.out
    have q5 := kc_27.out
    have q6 := kc_28.out
    have q7 := kc_42.out
    have es : handleS S d = (((S.early d).1).fail 7) := by unfold handleS; exact es9
    exact outH hS es hbs HM
   skip
   go_wp2_with (with_reducible refine sm ?_)
   refine (sd_done _ _ ((S.early d).1) _ _ _ _ HM.here).mono ?_; rintro e w_87 ⟨rfl, hb_88⟩
   replace HM := HM.trans hb_88; clear hb_88
   go_wp2_with (with_reducible refine sm ?_)
   refine sv (prL ((S.early d).1).p).toArray HM.b1 ?_
   intro w_89 G_91 hU_90
   replace HM := HM.s1 hU_90 G_91
   clear hU_90 G_91
   go_wp2_with (with_reducible refine sm ?_)
   refine bodyPost_ret (results_ctt rfl rfl (load_blk HM.b1 Tryd.underlying37 rfl (by kernel_rfl))) rfl ?_
   have q0 := kph0.out
   have q1 := kph1.out
   have q2 := kph2.out
   have q3 := kph3.out
   have q4 := kph4.out
   have q5 := kc_27.out
   have q6 := kc_28.out
   have q7 := kc_42.out
   have es : handleS S d = ((S.early d).1) := by unfold handleS; exact es9
   exact outH hS es hbs HM
  obtain ⟨ec_42, ec_42n, kc_42⟩ := fF hc_42; clear hc_42
  have ld_92 := HM.b2.c 0 (.int .i64 d.kind)
  go_wp2_with (first | (with_reducible refine sm ?_) | (with_reducible refine ld 0 (secL d) HM.b2 Tryd.underlying43 ?_))
  refine (sd_early _ _ S d _ _ _ _ HM.here len9 len9 ).mono ?_; rintro e w_94 ⟨rfl, v_96, u_97, HN_98⟩
  clear ld_92
  replace HM := HM.trans HN_98
  clear HN_98
  rcases hc_99 : (S.early d).2 with _ | _
  ·
   skip
   go_wp2_with (with_reducible refine sm ?_)
   refine (sd_fail _ _ ((S.early d).1) 7 _ _ _ _ HM.here).mono ?_; rintro e w_100 ⟨rfl, v_102, u_103, HN_104⟩
   replace HM := HM.trans HN_104
   clear HN_104
   go_wp2_with (with_reducible refine sm ?_)
   refine (sd_done _ _ (((S.early d).1).fail 7) _ _ _ _ HM.here).mono ?_; rintro e w_105 ⟨rfl, hb_106⟩
   replace HM := HM.trans hb_106; clear hb_106
   go_wp2_with (with_reducible refine sm ?_)
   refine sv (prL (((S.early d).1).fail 7).p).toArray HM.b1 ?_
   intro w_107 G_109 hU_108
   replace HM := HM.s1 hU_108 G_109
   clear hU_108 G_109
   go_wp2_with (with_reducible refine sm ?_)
   refine bodyPost_ret (results_ctt rfl rfl (load_blk HM.b1 Tryd.underlying37 rfl (by kernel_rfl))) rfl ?_
   have q0 := kph0.out
   have q1 := kph1.out
   have q2 := kph2.out
   have q3 := kph3.out
   have q4 := kph4.out
   have q5 := kc_27.out
   have q6 := kc_28.out
   have q7 := kc_42.out
   have es : handleS S d = (((S.early d).1).fail 7) := by unfold handleS; exact es9
   exact outH hS es hbs HM
  skip
  go_wp2_with (with_reducible refine sm ?_)
  refine (sd_done _ _ ((S.early d).1) _ _ _ _ HM.here).mono ?_; rintro e w_110 ⟨rfl, hb_111⟩
  replace HM := HM.trans hb_111; clear hb_111
  go_wp2_with (with_reducible refine sm ?_)
  refine sv (prL ((S.early d).1).p).toArray HM.b1 ?_
  intro w_112 G_114 hU_113
  replace HM := HM.s1 hU_113 G_114
  clear hU_113 G_114
  go_wp2_with (with_reducible refine sm ?_)
  refine bodyPost_ret (results_ctt rfl rfl (load_blk HM.b1 Tryd.underlying37 rfl (by kernel_rfl))) rfl ?_
  have q0 := kph0.out
  have q1 := kph1.out
  have q2 := kph2.out
  have q3 := kph3.out
  have q4 := kph4.out
  have q5 := kc_27.out
  have q6 := kc_28.out
  have q7 := kc_42.out
  have es : handleS S d = ((S.early d).1) := by unfold handleS; exact es9
  exact outH hS es hbs HM
 obtain ⟨ec_27, ec_27n, kc_27⟩ := fF hc_27; clear hc_27
 go_wp2_with (with_reducible refine sm ?_)
 refine (sd_fail _ _ S 7 _ _ _ _ HM.here).mono ?_; rintro e w_115 ⟨rfl, v_117, u_118, HN_119⟩
 replace HM := HM.trans HN_119
 clear HN_119
 go_wp2_with (with_reducible refine sm ?_)
 refine (sd_done _ _ (S.fail 7) _ _ _ _ HM.here).mono ?_; rintro e w_120 ⟨rfl, hb_121⟩
 replace HM := HM.trans hb_121; clear hb_121
 go_wp2_with (with_reducible refine sm ?_)
 refine sv (prL (S.fail 7).p).toArray HM.b1 ?_
 intro w_122 G_124 hU_123
 replace HM := HM.s1 hU_123 G_124
 clear hU_123 G_124
 go_wp2_with (with_reducible refine sm ?_)
 refine bodyPost_ret (results_ctt rfl rfl (load_blk HM.b1 Tryd.underlying37 rfl (by kernel_rfl))) rfl ?_
 have q0 := kph0.out
 have q1 := kph1.out
 have q2 := kph2.out
 have q3 := kph3.out
 have q4 := kph4.out
 have q5 := kc_27.out
 have es : handleS S d = (S.fail 7) := by unfold handleS; exact es9
 exact outH hS es hbs HM
end Go.Proofs.YtihmbcnccdiecaaDoor
