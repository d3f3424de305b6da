/- Part of the proofs of the laws of pairing. -/
import Derived.Test.YtihmbcnccdiecaaDoorA2
import Derived.Test.YtihmbcnccdiecaaDoorBLowB
import Derived.Test.YtihmbcnccdiecaaDoorBLowC
import Derived.Test.YtihmbcnccdiecaaDoorBSdA
import Derived.Test.YtihmbcnccdiecaaDoorBSdB
import Derived.Test.YtihmbcnccdiecaaDoorBSdC
import Derived.Test.YtihmbcnccdiecaaDoorBSdD
import Derived.Test.YtihmbcnccdiecaaDoorBSdE
import Derived.Test.YtihmbcnccdiecaaDoorBSdF
import Derived.Test.YtihmbcnccdiecaaDoorBSdG
import Derived.Test.YtihmbcnccdiecaaDoorBSdH
import Derived.Test.YtihmbcnccdiecaaDoorBSdIe
import Derived.Test.YtihmbcnccdiecaaDoorBSdIs
import Derived.Test.YtihmbcnccdiecaaDoorBSdIu
import Derived.Test.YtihmbcnccdiecaaDoorBSdJ
import Derived.Test.YtihmbcnccdiecaaDoorBSdK
import Derived.Test.YtihmbcnccdiecaaDoorBSdL
import Derived.Test.YtihmbcnccdiecaaDoorBSdM
import Derived.Test.YtihmbcnccdiecaaDoorBSdN
import Derived.Test.YtihmbcnccdiecaaDoorBTkP
import Derived.Test.YtihmbcnccdiecaaDoorBTkY
import Derived.Test.YtihmbcnccdiecaaDoorBTkZ
namespace Go.Proofs.YtihmbcnccdiecaaDoor
set_option maxRecDepth 100000
open Go.ChangeShapes Go.WideShapes Go.ChangeAt Go.RowKit
set_option linter.unusedVariables false
set_option linter.unusedSimpArgs false
set_option maxHeartbeats 2000000 in
theorem tk_play_bad0 (a b : Cfg) (l : List Chg) (Ac : Option Addr) (cc : Nat) (common : Int) (w : World) (HL : Laid w) (hbad : ((newP a).2 ≠ 0 ∨ (newP b).2 ≠ 0 ∨ a.role ≠ 0 ∨ b.role ≠ 1)) (x0 : ¬ (newP a).2 = 0) :
  Calls Tryd.prog 12 #[.agg (cfgL a).toArray, .agg (cfgL b).toArray, .slice Ac l.length cc, .int .i64 common] w (fun e w' => ∃ (A0 : Option Addr) (c0 : Nat) (A1 : Option Addr) (c1 : Nat) (va vl : Value), e = .returned (.agg (tkL (playT a b l common) (.slice A0 (playT a b l common).g0.length c0) (.slice A1 (playT a b l common).g1.length c1) va vl).toArray) ∧ va.oneCell' = true ∧ vl.oneCell' = true ∧ MR w w' w.heap.size [rwE (.slice A0 (playT a b l common).g0.length c0) (playT a b l common).g0, rwE (.slice A1 (playT a b l common).g1.length c1) (playT a b l common).g1] []) := by
 have HM := MR.start HL
 obtain ⟨base, hbs⟩ : ∃ b, w.heap.size = b := ⟨_, rfl⟩
 rw [hbs] at HM
 have hbs1 := Lib.hid hbs
 have HB := Lib.hid hbad
 clear hbs hbad
 have y0 : (((newP a).2 : Int) == 0) = false := by simpa using x0
 have z0 : (((newP a).2 : Int) != 0) = true := by simpa using x0
 clear x0
 go_enter Tryd.func12, Tryd.ntmps12
 go_wp2_with (with_reducible refine so ?_)
 refine HM.nw (ty := 34) (cs := (cfgL a).toArray) ?_; clear HM; intro g_1 w_2 HM
 go_wp2_with (with_reducible refine so ?_)
 refine HM.nw (ty := 34) (cs := (cfgL b).toArray) ?_; clear HM; intro g_7 w_8 HM
 go_wp2_with (with_reducible refine so ?_)
 refine HM.nw (ty := 58) (cs := (tkL tk0 (.slice none 0 0) (.slice none 0 0) (.slice none 0 0) (.slice none 0 0)).toArray) ?_; clear HM; intro g_13 w_14 HM
 go_wp2_with (with_reducible refine so ?_)
 refine HM.nw (ty := 58) (cs := (tkL tk0 (.slice none 0 0) (.slice none 0 0) (.slice none 0 0) (.slice none 0 0)).toArray) ?_; clear HM; intro g_19 w_20 HM
 go_wp2_with (first | (with_reducible refine so ?_) | (with_reducible refine ld 0 (cfgL a) HM.b3 Tryd.underlying34 ?_))
 refine (pa_New a _ HM.laid).mono ?_; rintro e w_26 ⟨rfl, hb_27⟩
 replace HM := HM.to hb_27
 clear hb_27
 go_wp2_with (with_reducible refine so ?_)
 refine HM.nw (ty := 37) (cs := (prL pr0).toArray) ?_; clear HM; intro g_28 w_29 HM
 go_wp2_with (with_reducible refine so ?_)
 refine sw 0 (prL ((newP a).1)).toArray (prL (newP a).1).toArray HM.b0 ?_
 intro w_34 G_36 hU_35
 replace HM := HM.s0 hU_35 G_36
 clear hU_35 G_36
 go_wp2_with (first | (with_reducible refine so ?_) | (with_reducible refine ld 0 (cfgL b) HM.b3 Tryd.underlying34 ?_))
 refine (pa_New b _ HM.laid).mono ?_; rintro e w_38 ⟨rfl, hb_39⟩
 replace HM := HM.to hb_39
 clear hb_39
 go_wp2_with (with_reducible refine so ?_)
 refine HM.nw (ty := 37) (cs := (prL pr0).toArray) ?_; clear HM; intro g_40 w_41 HM
 go_wp2_with (with_reducible refine so ?_)
 refine sw 0 (prL ((newP b).1)).toArray (prL (newP b).1).toArray HM.b0 ?_
 intro w_46 G_48 hU_47
 replace HM := HM.s0 hU_47 G_48
 clear hU_47 G_48
 go_wp2_with (first | (with_reducible refine so ?_) | (with_reducible refine ld 0 (tkL tk0 (.slice none 0 0) (.slice none 0 0) (.slice none 0 0) (.slice none 0 0)) HM.b2 Tryd.underlying58 ?_))
 refine sv (tkL tk0 (.slice none 0 0) (.slice none 0 0) (.slice none 0 0) (.slice none 0 0)).toArray HM.b3 ?_
 intro w_50 G_52 hU_51
 replace HM := HM.s3 hU_51 G_52
 clear hU_51 G_52
 go_wp2_with (with_reducible refine so ?_)
 refine bodyPost_ret (results_cell rfl rfl (load_blk HM.b3 Tryd.underlying58 rfl (by kernel_rfl))) rfl ?_
 have e9 : playT a b l common = tk0 := by unfold playT; rw [if_pos HB.out]
 rw [e9]; exact ⟨none, 0, none, 0, _, _, rfl, rfl, rfl, by rw [hbs1.out]; exact ((HM.nob.rnil EvtT 8).rnil EvtT 8)⟩
set_option maxHeartbeats 2000000 in
theorem tk_play_bad1 (a b : Cfg) (l : List Chg) (Ac : Option Addr) (cc : Nat) (common : Int) (w : World) (HL : Laid w) (hbad : ((newP a).2 ≠ 0 ∨ (newP b).2 ≠ 0 ∨ a.role ≠ 0 ∨ b.role ≠ 1)) (x0 : (newP a).2 = 0) (x1 : ¬ (newP b).2 = 0) :
  Calls Tryd.prog 12 #[.agg (cfgL a).toArray, .agg (cfgL b).toArray, .slice Ac l.length cc, .int .i64 common] w (fun e w' => ∃ (A0 : Option Addr) (c0 : Nat) (A1 : Option Addr) (c1 : Nat) (va vl : Value), e = .returned (.agg (tkL (playT a b l common) (.slice A0 (playT a b l common).g0.length c0) (.slice A1 (playT a b l common).g1.length c1) va vl).toArray) ∧ va.oneCell' = true ∧ vl.oneCell' = true ∧ MR w w' w.heap.size [rwE (.slice A0 (playT a b l common).g0.length c0) (playT a b l common).g0, rwE (.slice A1 (playT a b l common).g1.length c1) (playT a b l common).g1] []) := by
 have HM := MR.start HL
 obtain ⟨base, hbs⟩ : ∃ b, w.heap.size = b := ⟨_, rfl⟩
 rw [hbs] at HM
 have hbs1 := Lib.hid hbs
 have HB := Lib.hid hbad
 clear hbs hbad
 have y0 : (((newP a).2 : Int) == 0) = true := by simpa using x0
 have z0 : (((newP a).2 : Int) != 0) = false := by simpa using x0
 clear x0
 have y1 : (((newP b).2 : Int) == 0) = false := by simpa using x1
 have z1 : (((newP b).2 : Int) != 0) = true := by simpa using x1
 clear x1
 go_enter Tryd.func12, Tryd.ntmps12
 go_wp2_with (with_reducible refine so ?_)
 refine HM.nw (ty := 34) (cs := (cfgL a).toArray) ?_; clear HM; intro g_1 w_2 HM
 go_wp2_with (with_reducible refine so ?_)
 refine HM.nw (ty := 34) (cs := (cfgL b).toArray) ?_; clear HM; intro g_7 w_8 HM
 go_wp2_with (with_reducible refine so ?_)
 refine HM.nw (ty := 58) (cs := (tkL tk0 (.slice none 0 0) (.slice none 0 0) (.slice none 0 0) (.slice none 0 0)).toArray) ?_; clear HM; intro g_13 w_14 HM
 go_wp2_with (with_reducible refine so ?_)
 refine HM.nw (ty := 58) (cs := (tkL tk0 (.slice none 0 0) (.slice none 0 0) (.slice none 0 0) (.slice none 0 0)).toArray) ?_; clear HM; intro g_19 w_20 HM
 go_wp2_with (first | (with_reducible refine so ?_) | (with_reducible refine ld 0 (cfgL a) HM.b3 Tryd.underlying34 ?_))
 refine (pa_New a _ HM.laid).mono ?_; rintro e w_26 ⟨rfl, hb_27⟩
 replace HM := HM.to hb_27
 clear hb_27
 go_wp2_with (with_reducible refine so ?_)
 refine HM.nw (ty := 37) (cs := (prL pr0).toArray) ?_; clear HM; intro g_28 w_29 HM
 go_wp2_with (with_reducible refine so ?_)
 refine sw 0 (prL ((newP a).1)).toArray (prL (newP a).1).toArray HM.b0 ?_
 intro w_34 G_36 hU_35
 replace HM := HM.s0 hU_35 G_36
 clear hU_35 G_36
 go_wp2_with (first | (with_reducible refine so ?_) | (with_reducible refine ld 0 (cfgL b) HM.b3 Tryd.underlying34 ?_))
 refine (pa_New b _ HM.laid).mono ?_; rintro e w_38 ⟨rfl, hb_39⟩
 replace HM := HM.to hb_39
 clear hb_39
 go_wp2_with (with_reducible refine so ?_)
 refine HM.nw (ty := 37) (cs := (prL pr0).toArray) ?_; clear HM; intro g_40 w_41 HM
 go_wp2_with (with_reducible refine so ?_)
 refine sw 0 (prL ((newP b).1)).toArray (prL (newP b).1).toArray HM.b0 ?_
 intro w_46 G_48 hU_47
 replace HM := HM.s0 hU_47 G_48
 clear hU_47 G_48
 go_wp2_with (first | (with_reducible refine so ?_) | (with_reducible refine ld 0 (tkL tk0 (.slice none 0 0) (.slice none 0 0) (.slice none 0 0) (.slice none 0 0)) HM.b2 Tryd.underlying58 ?_))
 refine sv (tkL tk0 (.slice none 0 0) (.slice none 0 0) (.slice none 0 0) (.slice none 0 0)).toArray HM.b3 ?_
 intro w_50 G_52 hU_51
 replace HM := HM.s3 hU_51 G_52
 clear hU_51 G_52
 go_wp2_with (with_reducible refine so ?_)
 refine bodyPost_ret (results_cell rfl rfl (load_blk HM.b3 Tryd.underlying58 rfl (by kernel_rfl))) rfl ?_
 have e9 : playT a b l common = tk0 := by unfold playT; rw [if_pos HB.out]
 rw [e9]; exact ⟨none, 0, none, 0, _, _, rfl, rfl, rfl, by rw [hbs1.out]; exact ((HM.nob.rnil EvtT 8).rnil EvtT 8)⟩
set_option maxHeartbeats 2000000 in
theorem tk_play_bad2 (a b : Cfg) (l : List Chg) (Ac : Option Addr) (cc : Nat) (common : Int) (w : World) (HL : Laid w) (hbad : ((newP a).2 ≠ 0 ∨ (newP b).2 ≠ 0 ∨ a.role ≠ 0 ∨ b.role ≠ 1)) (x0 : (newP a).2 = 0) (x1 : (newP b).2 = 0) (x2 : ¬ a.role = 0) :
  Calls Tryd.prog 12 #[.agg (cfgL a).toArray, .agg (cfgL b).toArray, .slice Ac l.length cc, .int .i64 common] w (fun e w' => ∃ (A0 : Option Addr) (c0 : Nat) (A1 : Option Addr) (c1 : Nat) (va vl : Value), e = .returned (.agg (tkL (playT a b l common) (.slice A0 (playT a b l common).g0.length c0) (.slice A1 (playT a b l common).g1.length c1) va vl).toArray) ∧ va.oneCell' = true ∧ vl.oneCell' = true ∧ MR w w' w.heap.size [rwE (.slice A0 (playT a b l common).g0.length c0) (playT a b l common).g0, rwE (.slice A1 (playT a b l common).g1.length c1) (playT a b l common).g1] []) := by
 have HM := MR.start HL
 obtain ⟨base, hbs⟩ : ∃ b, w.heap.size = b := ⟨_, rfl⟩
 rw [hbs] at HM
 have hbs1 := Lib.hid hbs
 have HB := Lib.hid hbad
 clear hbs hbad
 have y0 : (((newP a).2 : Int) == 0) = true := by simpa using x0
 have z0 : (((newP a).2 : Int) != 0) = false := by simpa using x0
 clear x0
 have y1 : (((newP b).2 : Int) == 0) = true := by simpa using x1
 have z1 : (((newP b).2 : Int) != 0) = false := by simpa using x1
 clear x1
 have y2 : ((a.role : Int) == 0) = false := by simpa using x2
 have z2 : ((a.role : Int) != 0) = true := by simpa using x2
 clear x2
 go_enter Tryd.func12, Tryd.ntmps12
 go_wp2_with (with_reducible refine so ?_)
 refine HM.nw (ty := 34) (cs := (cfgL a).toArray) ?_; clear HM; intro g_1 w_2 HM
 go_wp2_with (with_reducible refine so ?_)
 refine HM.nw (ty := 34) (cs := (cfgL b).toArray) ?_; clear HM; intro g_7 w_8 HM
 go_wp2_with (with_reducible refine so ?_)
 refine HM.nw (ty := 58) (cs := (tkL tk0 (.slice none 0 0) (.slice none 0 0) (.slice none 0 0) (.slice none 0 0)).toArray) ?_; clear HM; intro g_13 w_14 HM
 go_wp2_with (with_reducible refine so ?_)
 refine HM.nw (ty := 58) (cs := (tkL tk0 (.slice none 0 0) (.slice none 0 0) (.slice none 0 0) (.slice none 0 0)).toArray) ?_; clear HM; intro g_19 w_20 HM
 go_wp2_with (first | (with_reducible refine so ?_) | (with_reducible refine ld 0 (cfgL a) HM.b3 Tryd.underlying34 ?_))
 refine (pa_New a _ HM.laid).mono ?_; rintro e w_26 ⟨rfl, hb_27⟩
 replace HM := HM.to hb_27
 clear hb_27
 go_wp2_with (with_reducible refine so ?_)
 refine HM.nw (ty := 37) (cs := (prL pr0).toArray) ?_; clear HM; intro g_28 w_29 HM
 go_wp2_with (with_reducible refine so ?_)
 refine sw 0 (prL ((newP a).1)).toArray (prL (newP a).1).toArray HM.b0 ?_
 intro w_34 G_36 hU_35
 replace HM := HM.s0 hU_35 G_36
 clear hU_35 G_36
 go_wp2_with (first | (with_reducible refine so ?_) | (with_reducible refine ld 0 (cfgL b) HM.b3 Tryd.underlying34 ?_))
 refine (pa_New b _ HM.laid).mono ?_; rintro e w_38 ⟨rfl, hb_39⟩
 replace HM := HM.to hb_39
 clear hb_39
 go_wp2_with (with_reducible refine so ?_)
 refine HM.nw (ty := 37) (cs := (prL pr0).toArray) ?_; clear HM; intro g_40 w_41 HM
 go_wp2_with (with_reducible refine so ?_)
 refine sw 0 (prL ((newP b).1)).toArray (prL (newP b).1).toArray HM.b0 ?_
 intro w_46 G_48 hU_47
 replace HM := HM.s0 hU_47 G_48
 clear hU_47 G_48
 have ld_49 := HM.b5.c 0 (.int .i64 a.role)
 go_wp2_with (first | (with_reducible refine so ?_) | (with_reducible refine ld 0 (tkL tk0 (.slice none 0 0) (.slice none 0 0) (.slice none 0 0) (.slice none 0 0)) HM.b2 Tryd.underlying58 ?_))
 refine sv (tkL tk0 (.slice none 0 0) (.slice none 0 0) (.slice none 0 0) (.slice none 0 0)).toArray HM.b3 ?_
 intro w_51 G_53 hU_52
 clear ld_49
 replace HM := HM.s3 hU_52 G_53
 clear hU_52 G_53
 go_wp2_with (with_reducible refine so ?_)
 refine bodyPost_ret (results_cell rfl rfl (load_blk HM.b3 Tryd.underlying58 rfl (by kernel_rfl))) rfl ?_
 have e9 : playT a b l common = tk0 := by unfold playT; rw [if_pos HB.out]
 rw [e9]; exact ⟨none, 0, none, 0, _, _, rfl, rfl, rfl, by rw [hbs1.out]; exact ((HM.nob.rnil EvtT 8).rnil EvtT 8)⟩
set_option maxHeartbeats 2000000 in
theorem tk_play_bad3 (a b : Cfg) (l : List Chg) (Ac : Option Addr) (cc : Nat) (common : Int) (w : World) (HL : Laid w) (hbad : ((newP a).2 ≠ 0 ∨ (newP b).2 ≠ 0 ∨ a.role ≠ 0 ∨ b.role ≠ 1)) (x0 : (newP a).2 = 0) (x1 : (newP b).2 = 0) (x2 : a.role = 0) (x3 : ¬ b.role = 1) :
  Calls Tryd.prog 12 #[.agg (cfgL a).toArray, .agg (cfgL b).toArray, .slice Ac l.length cc, .int .i64 common] w (fun e w' => ∃ (A0 : Option Addr) (c0 : Nat) (A1 : Option Addr) (c1 : Nat) (va vl : Value), e = .returned (.agg (tkL (playT a b l common) (.slice A0 (playT a b l common).g0.length c0) (.slice A1 (playT a b l common).g1.length c1) va vl).toArray) ∧ va.oneCell' = true ∧ vl.oneCell' = true ∧ MR w w' w.heap.size [rwE (.slice A0 (playT a b l common).g0.length c0) (playT a b l common).g0, rwE (.slice A1 (playT a b l common).g1.length c1) (playT a b l common).g1] []) := by
 have HM := MR.start HL
 obtain ⟨base, hbs⟩ : ∃ b, w.heap.size = b := ⟨_, rfl⟩
 rw [hbs] at HM
 have hbs1 := Lib.hid hbs
 have HB := Lib.hid hbad
 clear hbs hbad
 have y0 : (((newP a).2 : Int) == 0) = true := by simpa using x0
 have z0 : (((newP a).2 : Int) != 0) = false := by simpa using x0
 clear x0
 have y1 : (((newP b).2 : Int) == 0) = true := by simpa using x1
 have z1 : (((newP b).2 : Int) != 0) = false := by simpa using x1
 clear x1
 have y2 : ((a.role : Int) == 0) = true := by simpa using x2
 have z2 : ((a.role : Int) != 0) = false := by simpa using x2
 clear x2
 have y3 : ((b.role : Int) == 1) = false := by simpa using x3
 have z3 : ((b.role : Int) != 1) = true := by simpa using x3
 clear x3
 go_enter Tryd.func12, Tryd.ntmps12
 go_wp2_with (with_reducible refine so ?_)
 refine HM.nw (ty := 34) (cs := (cfgL a).toArray) ?_; clear HM; intro g_1 w_2 HM
 go_wp2_with (with_reducible refine so ?_)
 refine HM.nw (ty := 34) (cs := (cfgL b).toArray) ?_; clear HM; intro g_7 w_8 HM
 go_wp2_with (with_reducible refine so ?_)
 refine HM.nw (ty := 58) (cs := (tkL tk0 (.slice none 0 0) (.slice none 0 0) (.slice none 0 0) (.slice none 0 0)).toArray) ?_; clear HM; intro g_13 w_14 HM
 go_wp2_with (with_reducible refine so ?_)
 refine HM.nw (ty := 58) (cs := (tkL tk0 (.slice none 0 0) (.slice none 0 0) (.slice none 0 0) (.slice none 0 0)).toArray) ?_; clear HM; intro g_19 w_20 HM
 go_wp2_with (first | (with_reducible refine so ?_) | (with_reducible refine ld 0 (cfgL a) HM.b3 Tryd.underlying34 ?_))
 refine (pa_New a _ HM.laid).mono ?_; rintro e w_26 ⟨rfl, hb_27⟩
 replace HM := HM.to hb_27
 clear hb_27
 go_wp2_with (with_reducible refine so ?_)
 refine HM.nw (ty := 37) (cs := (prL pr0).toArray) ?_; clear HM; intro g_28 w_29 HM
 go_wp2_with (with_reducible refine so ?_)
 refine sw 0 (prL ((newP a).1)).toArray (prL (newP a).1).toArray HM.b0 ?_
 intro w_34 G_36 hU_35
 replace HM := HM.s0 hU_35 G_36
 clear hU_35 G_36
 go_wp2_with (first | (with_reducible refine so ?_) | (with_reducible refine ld 0 (cfgL b) HM.b3 Tryd.underlying34 ?_))
 refine (pa_New b _ HM.laid).mono ?_; rintro e w_38 ⟨rfl, hb_39⟩
 replace HM := HM.to hb_39
 clear hb_39
 go_wp2_with (with_reducible refine so ?_)
 refine HM.nw (ty := 37) (cs := (prL pr0).toArray) ?_; clear HM; intro g_40 w_41 HM
 go_wp2_with (with_reducible refine so ?_)
 refine sw 0 (prL ((newP b).1)).toArray (prL (newP b).1).toArray HM.b0 ?_
 intro w_46 G_48 hU_47
 replace HM := HM.s0 hU_47 G_48
 clear hU_47 G_48
 have ld_49 := HM.b5.c 0 (.int .i64 a.role)
 have ld_50 := HM.b4.c 0 (.int .i64 b.role)
 go_wp2_with (first | (with_reducible refine so ?_) | (with_reducible refine ld 0 (tkL tk0 (.slice none 0 0) (.slice none 0 0) (.slice none 0 0) (.slice none 0 0)) HM.b2 Tryd.underlying58 ?_))
 refine sv (tkL tk0 (.slice none 0 0) (.slice none 0 0) (.slice none 0 0) (.slice none 0 0)).toArray HM.b3 ?_
 intro w_52 G_54 hU_53
 clear ld_49 ld_50
 replace HM := HM.s3 hU_53 G_54
 clear hU_53 G_54
 go_wp2_with (with_reducible refine so ?_)
 refine bodyPost_ret (results_cell rfl rfl (load_blk HM.b3 Tryd.underlying58 rfl (by kernel_rfl))) rfl ?_
 have e9 : playT a b l common = tk0 := by unfold playT; rw [if_pos HB.out]
 rw [e9]; exact ⟨none, 0, none, 0, _, _, rfl, rfl, rfl, by rw [hbs1.out]; exact ((HM.nob.rnil EvtT 8).rnil EvtT 8)⟩
theorem tk_play (a b : Cfg) (l : List Chg) (Ac : Option Addr) (cc : Nat) (common : Int) (w : World) (HL : Laid w) (hC : Rd w Ac (l.flatMap chgL)) (b7 : l.length ≤ 1000) :
    Calls Tryd.prog 12 #[.agg (cfgL a).toArray, .agg (cfgL b).toArray, .slice Ac l.length cc, .int .i64 common] w (fun e w' => ∃ (A0 : Option Addr) (c0 : Nat) (A1 : Option Addr) (c1 : Nat) (va vl : Value), e = .returned (.agg (tkL (playT a b l common) (.slice A0 (playT a b l common).g0.length c0) (.slice A1 (playT a b l common).g1.length c1) va vl).toArray) ∧ va.oneCell' = true ∧ vl.oneCell' = true ∧ MR w w' w.heap.size [rwE (.slice A0 (playT a b l common).g0.length c0) (playT a b l common).g0, rwE (.slice A1 (playT a b l common).g1.length c1) (playT a b l common).g1] []) := by
  by_cases x0 : (newP a).2 = 0
  · by_cases x1 : (newP b).2 = 0
    · by_cases x2 : a.role = 0
      · by_cases x3 : b.role = 1
        · exact tk_play_ok a b l Ac cc common w HL hC b7 x0 x1 x2 x3
        · exact tk_play_bad3 a b l Ac cc common w HL (.inr (.inr (.inr x3))) x0 x1 x2 x3
      · exact tk_play_bad2 a b l Ac cc common w HL (.inr (.inr (.inl x2))) x0 x1 x2
    · exact tk_play_bad1 a b l Ac cc common w HL (.inr (.inl x1)) x0 x1
  · exact tk_play_bad0 a b l Ac cc common w HL (.inl x0) x0
end Go.Proofs.YtihmbcnccdiecaaDoor
