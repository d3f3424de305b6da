/- Part of the proofs of the laws of pairing. -/
import Derived.Test.YtihmbcnccdiecaaDoorA2
import Derived.Test.YtihmbcnccdiecaaDoorBLowB
namespace Go.Proofs.YtihmbcnccdiecaaDoor
set_option maxRecDepth 100000
open Go.ChangeShapes Go.WideShapes Go.ChangeAt Go.RowKit
set_option linter.unusedVariables false
set_option linter.unusedSimpArgs false
def usedP (d : Sec) : Sec × Bool := ((usedK d).getD sec0, (usedK d).isSome)
theorem usedK_of {d U : Sec} {ok : Bool} (h : usedP d = (U, ok)) : usedK d = if ok then some U else none := by
  unfold usedP at h
  injection h with h1 h2
  cases hk : usedK d with
  | none => rw [hk] at h2; subst h2; rfl
  | some x => rw [hk] at h1 h2; subst h2; simp at h1; subst h1; rfl
set_option maxHeartbeats 2000000 in
theorem sm_used (d : Sec) (w : World) :
  Calls Tryd.prog 39 #[.agg (secL d).toArray] w (fun e w' => e = .returned (.tuple #[.agg (secL (usedP d).1).toArray, .bool (usedP d).2]) ∧ Below w.heap.size w w') := by
 obtain ⟨r, hr⟩ : ∃ r, usedP d = r := ⟨_, rfl⟩
 rw [hr]
 have HR := Lib.hid hr
 clear hr
 go_enter Tryd.func39, Tryd.ntmps39
 have hB := Below.refl w.heap.size w
 go_wp2_with (with_reducible refine so ?_)
 refine go_mem (ty := 43) (cs := (secL d).toArray) (fun g => .pointer (some ⟨g, 0, none⟩)) rfl (by kernel_rfl) ?_
 intro g_1 w_2 z_6 l_5 hb_3 G_4
 have n_7 : w.heap.size ≤ g_1 := Nat.le_trans hB.size l_5
 replace hB := hB.trans (hb_3.mono hB.size)
 clear hb_3 l_5 z_6
 go_wp2_with (with_reducible refine so ?_)
 refine go_mem (ty := 43) (cs := (secL sec0).toArray) (fun g => .pointer (some ⟨g, 0, none⟩)) rfl (by kernel_rfl) ?_
 intro g_8 w_9 z_13 l_12 hb_10 G_11
 have n_14 : g_1 < g_8 := Nat.lt_of_lt_of_le G_4.lt l_12
 have n_15 : w.heap.size ≤ g_8 := Nat.le_trans hB.size l_12
 replace G_4 := G_4.to hb_10 G_4.lt
 replace hB := hB.trans (hb_10.mono hB.size)
 clear hb_10 l_12 z_13
 have ld_16 := G_4.c 0 (.int .i64 d.kind)
 go_wp2_with (with_reducible refine so ?_)
 refine go_mem (ty := 43) (cs := (secL sec0).toArray) (fun g => .pointer (some ⟨g, 0, none⟩)) rfl (by kernel_rfl) ?_
 intro g_17 w_18 z_22 l_21 hb_19 G_20
 clear ld_16
 have n_23 : g_8 < g_17 := Nat.lt_of_lt_of_le G_11.lt l_21
 have n_24 : w.heap.size ≤ g_17 := Nat.le_trans hB.size l_21
 replace G_4 := G_4.to hb_19 G_4.lt
 replace G_11 := G_11.to hb_19 G_11.lt
 replace hB := hB.trans (hb_19.mono hB.size)
 clear hb_19 l_21 z_22
 go_wp2_with (with_reducible refine so ?_)
 refine sv #[.int .i64 d.kind, .int .i64 0, .bool false, .bool false, .bool false, .bool false, .bool false, .int .u32 0, .int .u64 0, .int .i64 0, .int .u64 0, .int .u64 0, .int .i64 0] G_20 ?_
 intro w_25 G_27 hU_26
 replace G_4 := hU_26.blk G_4 (by omega)
 replace G_11 := hU_26.blk G_11 (by omega)
 replace hB := hU_26.below hB (by omega)
 clear G_20 hU_26
 by_cases hc_28 : (d.kind : Int) = 1
 ·
  obtain ⟨ec_28, ec_28n, kc_28⟩ := fT hc_28; clear hc_28
  have ld_29 := G_4.c 0 (.int .i64 d.kind)
  go_wp2_with (first | (with_reducible refine so ?_) | (with_reducible refine ld 1 (featL d.feat) G_4 Tryd.underlying23 ?_))
  refine sw 1 (featL d.feat).toArray #[.int .i64 d.kind, .int .i64 d.feat.io, .bool d.feat.oob, .bool d.feat.bond, .bool d.feat.mitm, .bool d.feat.sid, .bool d.feat.tid, .int .u32 0, .int .u64 0, .int .i64 0, .int .u64 0, .int .u64 0, .int .i64 0] G_27 ?_
  intro w_31 G_33 hU_32
  clear ld_29
  replace G_4 := hU_32.blk G_4 (by omega)
  replace G_11 := hU_32.blk G_11 (by omega)
  replace hB := hU_32.below hB (by omega)
  clear G_27 hU_32
  go_wp2_with (first | (with_reducible refine so ?_) | (with_reducible refine ld 0 [.int .i64 d.kind, .int .i64 d.feat.io, .bool d.feat.oob, .bool d.feat.bond, .bool d.feat.mitm, .bool d.feat.sid, .bool d.feat.tid, .int .u32 0, .int .u64 0, .int .i64 0, .int .u64 0, .int .u64 0, .int .i64 0] G_33 Tryd.underlying43 ?_))
  refine sv #[.int .i64 d.kind, .int .i64 d.feat.io, .bool d.feat.oob, .bool d.feat.bond, .bool d.feat.mitm, .bool d.feat.sid, .bool d.feat.tid, .int .u32 0, .int .u64 0, .int .i64 0, .int .u64 0, .int .u64 0, .int .i64 0] G_11 ?_
  intro w_35 G_37 hU_36
  replace G_4 := hU_36.blk G_4 (by omega)
  replace G_33 := hU_36.blk G_33 (by omega)
  replace hB := hU_36.below hB (by omega)
  clear G_11 hU_36
  go_wp2_with (with_reducible refine so ?_)
  refine bodyPost_ret (results_ct rfl rfl (load_blk G_37 Tryd.underlying43 rfl (by kernel_rfl))) rfl ?_
  have q0 := kc_28.out
  have er : r = (⟨d.kind, ⟨d.feat.io, d.feat.oob, d.feat.bond, d.feat.mitm, d.feat.sid, d.feat.tid⟩, 0#32, 0#64, ⟨⟨0, 0#64⟩, 0#64⟩, 0⟩, true) := by rw [← HR.out]; simp [usedP, usedK, sec0, feat0, idn0, adr0, q0]
  rw [er]
  exact ⟨rfl, hB⟩
 obtain ⟨ec_28, ec_28n, kc_28⟩ := fF hc_28; clear hc_28
 by_cases hc_38 : (d.kind : Int) = 2
 ·
  obtain ⟨ec_38, ec_38n, kc_38⟩ := fT hc_38; clear hc_38
  have ld_39 := G_4.c 0 (.int .i64 d.kind)
  go_wp2_with (first | (with_reducible refine so ?_) | (with_reducible refine ld 1 (featL d.feat) G_4 Tryd.underlying23 ?_))
  refine sw 1 (featL d.feat).toArray #[.int .i64 d.kind, .int .i64 d.feat.io, .bool d.feat.oob, .bool d.feat.bond, .bool d.feat.mitm, .bool d.feat.sid, .bool d.feat.tid, .int .u32 0, .int .u64 0, .int .i64 0, .int .u64 0, .int .u64 0, .int .i64 0] G_27 ?_
  intro w_41 G_43 hU_42
  clear ld_39
  replace G_4 := hU_42.blk G_4 (by omega)
  replace G_11 := hU_42.blk G_11 (by omega)
  replace hB := hU_42.below hB (by omega)
  clear G_27 hU_42
  go_wp2_with (first | (with_reducible refine so ?_) | (with_reducible refine ld 0 [.int .i64 d.kind, .int .i64 d.feat.io, .bool d.feat.oob, .bool d.feat.bond, .bool d.feat.mitm, .bool d.feat.sid, .bool d.feat.tid, .int .u32 0, .int .u64 0, .int .i64 0, .int .u64 0, .int .u64 0, .int .i64 0] G_43 Tryd.underlying43 ?_))
  refine sv #[.int .i64 d.kind, .int .i64 d.feat.io, .bool d.feat.oob, .bool d.feat.bond, .bool d.feat.mitm, .bool d.feat.sid, .bool d.feat.tid, .int .u32 0, .int .u64 0, .int .i64 0, .int .u64 0, .int .u64 0, .int .i64 0] G_11 ?_
  intro w_45 G_47 hU_46
  replace G_4 := hU_46.blk G_4 (by omega)
  replace G_43 := hU_46.blk G_43 (by omega)
  replace hB := hU_46.below hB (by omega)
  clear G_11 hU_46
  go_wp2_with (with_reducible refine so ?_)
  refine bodyPost_ret (results_ct rfl rfl (load_blk G_47 Tryd.underlying43 rfl (by kernel_rfl))) rfl ?_
  have q0 := kc_28.out
  have q1 := kc_38.out
  have er : r = (⟨d.kind, ⟨d.feat.io, d.feat.oob, d.feat.bond, d.feat.mitm, d.feat.sid, d.feat.tid⟩, 0#32, 0#64, ⟨⟨0, 0#64⟩, 0#64⟩, 0⟩, true) := by rw [← HR.out]; simp [usedP, usedK, sec0, feat0, idn0, adr0, q0, q1]
  rw [er]
  exact ⟨rfl, hB⟩
 obtain ⟨ec_38, ec_38n, kc_38⟩ := fF hc_38; clear hc_38
 by_cases hc_48 : (d.kind : Int) = 11
 ·
  obtain ⟨ec_48, ec_48n, kc_48⟩ := fT hc_48; clear hc_48
  have ld_49 := G_4.c 0 (.int .i64 d.kind)
  have ld_50 := G_4.c 3 (.bool d.feat.bond)
  have ld_51 := G_4.c 4 (.bool d.feat.mitm)
  go_wp2_with (with_reducible refine so ?_)
  refine sw 1 #[.int .i64 0, .bool false, .bool d.feat.bond, .bool d.feat.mitm, .bool false, .bool false] #[.int .i64 d.kind, .int .i64 0, .bool false, .bool d.feat.bond, .bool d.feat.mitm, .bool false, .bool false, .int .u32 0, .int .u64 0, .int .i64 0, .int .u64 0, .int .u64 0, .int .i64 0] G_27 ?_
  intro w_52 G_54 hU_53
  clear ld_49 ld_50 ld_51
  replace G_4 := hU_53.blk G_4 (by omega)
  replace G_11 := hU_53.blk G_11 (by omega)
  replace hB := hU_53.below hB (by omega)
  clear G_27 hU_53
  go_wp2_with (first | (with_reducible refine so ?_) | (with_reducible refine ld 0 [.int .i64 d.kind, .int .i64 0, .bool false, .bool d.feat.bond, .bool d.feat.mitm, .bool false, .bool false, .int .u32 0, .int .u64 0, .int .i64 0, .int .u64 0, .int .u64 0, .int .i64 0] G_54 Tryd.underlying43 ?_))
  refine sv #[.int .i64 d.kind, .int .i64 0, .bool false, .bool d.feat.bond, .bool d.feat.mitm, .bool false, .bool false, .int .u32 0, .int .u64 0, .int .i64 0, .int .u64 0, .int .u64 0, .int .i64 0] G_11 ?_
  intro w_56 G_58 hU_57
  replace G_4 := hU_57.blk G_4 (by omega)
  replace G_54 := hU_57.blk G_54 (by omega)
  replace hB := hU_57.below hB (by omega)
  clear G_11 hU_57
  go_wp2_with (with_reducible refine so ?_)
  refine bodyPost_ret (results_ct rfl rfl (load_blk G_58 Tryd.underlying43 rfl (by kernel_rfl))) rfl ?_
  have q0 := kc_28.out
  have q1 := kc_38.out
  have q2 := kc_48.out
  have er : r = (⟨d.kind, ⟨0, false, d.feat.bond, d.feat.mitm, false, false⟩, 0#32, 0#64, ⟨⟨0, 0#64⟩, 0#64⟩, 0⟩, true) := by rw [← HR.out]; simp [usedP, usedK, sec0, feat0, idn0, adr0, q0, q1, q2]
  rw [er]
  exact ⟨rfl, hB⟩
 obtain ⟨ec_48, ec_48n, kc_48⟩ := fF hc_48; clear hc_48
 by_cases hc_59 : (d.kind : Int) = 12
 ·
  obtain ⟨ec_59, ec_59n, kc_59⟩ := fT hc_59; clear hc_59
  have ld_60 := G_4.c 0 (.int .i64 d.kind)
  have ld_61 := G_4.c 7 (.int .u32 (W32 d.pub))
  go_wp2_with (with_reducible refine so ?_)
  refine sx 7 (.int .u32 (W32 d.pub)) #[.int .i64 d.kind, .int .i64 0, .bool false, .bool false, .bool false, .bool false, .bool false, .int .u32 (W32 d.pub), .int .u64 0, .int .i64 0, .int .u64 0, .int .u64 0, .int .i64 0] G_27 ?_
  intro w_62 G_64 hU_63
  clear ld_60 ld_61
  replace G_4 := hU_63.blk G_4 (by omega)
  replace G_11 := hU_63.blk G_11 (by omega)
  replace hB := hU_63.below hB (by omega)
  clear G_27 hU_63
  go_wp2_with (first | (with_reducible refine so ?_) | (with_reducible refine ld 0 [.int .i64 d.kind, .int .i64 0, .bool false, .bool false, .bool false, .bool false, .bool false, .int .u32 (W32 d.pub), .int .u64 0, .int .i64 0, .int .u64 0, .int .u64 0, .int .i64 0] G_64 Tryd.underlying43 ?_))
  refine sv #[.int .i64 d.kind, .int .i64 0, .bool false, .bool false, .bool false, .bool false, .bool false, .int .u32 (W32 d.pub), .int .u64 0, .int .i64 0, .int .u64 0, .int .u64 0, .int .i64 0] G_11 ?_
  intro w_66 G_68 hU_67
  replace G_4 := hU_67.blk G_4 (by omega)
  replace G_64 := hU_67.blk G_64 (by omega)
  replace hB := hU_67.below hB (by omega)
  clear G_11 hU_67
  go_wp2_with (with_reducible refine so ?_)
  refine bodyPost_ret (results_ct rfl rfl (load_blk G_68 Tryd.underlying43 rfl (by kernel_rfl))) rfl ?_
  have q0 := kc_28.out
  have q1 := kc_38.out
  have q2 := kc_48.out
  have q3 := kc_59.out
  have er : r = (⟨d.kind, ⟨0, false, false, false, false, false⟩, d.pub, 0#64, ⟨⟨0, 0#64⟩, 0#64⟩, 0⟩, true) := by rw [← HR.out]; simp [usedP, usedK, sec0, feat0, idn0, adr0, q0, q1, q2, q3]
  rw [er]
  exact ⟨rfl, hB⟩
 obtain ⟨ec_59, ec_59n, kc_59⟩ := fF hc_59; clear hc_59
 by_cases hc_69 : (d.kind : Int) = 3
 ·
  obtain ⟨ec_69, ec_69n, kc_69⟩ := fT hc_69; clear hc_69
  have ld_70 := G_4.c 0 (.int .i64 d.kind)
  have ld_71 := G_4.c 8 (.int .u64 (W64 d.value))
  go_wp2_with (with_reducible refine so ?_)
  refine sx 8 (.int .u64 (W64 d.value)) #[.int .i64 d.kind, .int .i64 0, .bool false, .bool false, .bool false, .bool false, .bool false, .int .u32 0, .int .u64 (W64 d.value), .int .i64 0, .int .u64 0, .int .u64 0, .int .i64 0] G_27 ?_
  intro w_72 G_74 hU_73
  clear ld_70 ld_71
  replace G_4 := hU_73.blk G_4 (by omega)
  replace G_11 := hU_73.blk G_11 (by omega)
  replace hB := hU_73.below hB (by omega)
  clear G_27 hU_73
  go_wp2_with (first | (with_reducible refine so ?_) | (with_reducible refine ld 0 [.int .i64 d.kind, .int .i64 0, .bool false, .bool false, .bool false, .bool false, .bool false, .int .u32 0, .int .u64 (W64 d.value), .int .i64 0, .int .u64 0, .int .u64 0, .int .i64 0] G_74 Tryd.underlying43 ?_))
  refine sv #[.int .i64 d.kind, .int .i64 0, .bool false, .bool false, .bool false, .bool false, .bool false, .int .u32 0, .int .u64 (W64 d.value), .int .i64 0, .int .u64 0, .int .u64 0, .int .i64 0] G_11 ?_
  intro w_76 G_78 hU_77
  replace G_4 := hU_77.blk G_4 (by omega)
  replace G_74 := hU_77.blk G_74 (by omega)
  replace hB := hU_77.below hB (by omega)
  clear G_11 hU_77
  go_wp2_with (with_reducible refine so ?_)
  refine bodyPost_ret (results_ct rfl rfl (load_blk G_78 Tryd.underlying43 rfl (by kernel_rfl))) rfl ?_
  have q0 := kc_28.out
  have q1 := kc_38.out
  have q2 := kc_48.out
  have q3 := kc_59.out
  have q4 := kc_69.out
  have er : r = (⟨d.kind, ⟨0, false, false, false, false, false⟩, 0#32, d.value, ⟨⟨0, 0#64⟩, 0#64⟩, 0⟩, true) := by rw [← HR.out]; simp [usedP, usedK, sec0, feat0, idn0, adr0, q0, q1, q2, q3, q4]
  rw [er]
  exact ⟨rfl, hB⟩
 obtain ⟨ec_69, ec_69n, kc_69⟩ := fF hc_69; clear hc_69
 by_cases hc_79 : (d.kind : Int) = 4
 ·
  obtain ⟨ec_79, ec_79n, kc_79⟩ := fT hc_79; clear hc_79
  have ld_80 := G_4.c 0 (.int .i64 d.kind)
  have ld_81 := G_4.c 8 (.int .u64 (W64 d.value))
  go_wp2_with (with_reducible refine so ?_)
  refine sx 8 (.int .u64 (W64 d.value)) #[.int .i64 d.kind, .int .i64 0, .bool false, .bool false, .bool false, .bool false, .bool false, .int .u32 0, .int .u64 (W64 d.value), .int .i64 0, .int .u64 0, .int .u64 0, .int .i64 0] G_27 ?_
  intro w_82 G_84 hU_83
  clear ld_80 ld_81
  replace G_4 := hU_83.blk G_4 (by omega)
  replace G_11 := hU_83.blk G_11 (by omega)
  replace hB := hU_83.below hB (by omega)
  clear G_27 hU_83
  go_wp2_with (first | (with_reducible refine so ?_) | (with_reducible refine ld 0 [.int .i64 d.kind, .int .i64 0, .bool false, .bool false, .bool false, .bool false, .bool false, .int .u32 0, .int .u64 (W64 d.value), .int .i64 0, .int .u64 0, .int .u64 0, .int .i64 0] G_84 Tryd.underlying43 ?_))
  refine sv #[.int .i64 d.kind, .int .i64 0, .bool false, .bool false, .bool false, .bool false, .bool false, .int .u32 0, .int .u64 (W64 d.value), .int .i64 0, .int .u64 0, .int .u64 0, .int .i64 0] G_11 ?_
  intro w_86 G_88 hU_87
  replace G_4 := hU_87.blk G_4 (by omega)
  replace G_84 := hU_87.blk G_84 (by omega)
  replace hB := hU_87.below hB (by omega)
  clear G_11 hU_87
  go_wp2_with (with_reducible refine so ?_)
  refine bodyPost_ret (results_ct rfl rfl (load_blk G_88 Tryd.underlying43 rfl (by kernel_rfl))) rfl ?_
  have q0 := kc_28.out
  have q1 := kc_38.out
  have q2 := kc_48.out
  have q3 := kc_59.out
  have q4 := kc_69.out
  have q5 := kc_79.out
  have er : r = (⟨d.kind, ⟨0, false, false, false, false, false⟩, 0#32, d.value, ⟨⟨0, 0#64⟩, 0#64⟩, 0⟩, true) := by rw [← HR.out]; simp [usedP, usedK, sec0, feat0, idn0, adr0, q0, q1, q2, q3, q4, q5]
  rw [er]
  exact ⟨rfl, hB⟩
 obtain ⟨ec_79, ec_79n, kc_79⟩ := fF hc_79; clear hc_79
 by_cases hc_89 : (d.kind : Int) = 13
 ·
  obtain ⟨ec_89, ec_89n, kc_89⟩ := fT hc_89; clear hc_89
  have ld_90 := G_4.c 0 (.int .i64 d.kind)
  have ld_91 := G_4.c 8 (.int .u64 (W64 d.value))
  go_wp2_with (with_reducible refine so ?_)
  refine sx 8 (.int .u64 (W64 d.value)) #[.int .i64 d.kind, .int .i64 0, .bool false, .bool false, .bool false, .bool false, .bool false, .int .u32 0, .int .u64 (W64 d.value), .int .i64 0, .int .u64 0, .int .u64 0, .int .i64 0] G_27 ?_
  intro w_92 G_94 hU_93
  clear ld_90 ld_91
  replace G_4 := hU_93.blk G_4 (by omega)
  replace G_11 := hU_93.blk G_11 (by omega)
  replace hB := hU_93.below hB (by omega)
  clear G_27 hU_93
  go_wp2_with (first | (with_reducible refine so ?_) | (with_reducible refine ld 0 [.int .i64 d.kind, .int .i64 0, .bool false, .bool false, .bool false, .bool false, .bool false, .int .u32 0, .int .u64 (W64 d.value), .int .i64 0, .int .u64 0, .int .u64 0, .int .i64 0] G_94 Tryd.underlying43 ?_))
  refine sv #[.int .i64 d.kind, .int .i64 0, .bool false, .bool false, .bool false, .bool false, .bool false, .int .u32 0, .int .u64 (W64 d.value), .int .i64 0, .int .u64 0, .int .u64 0, .int .i64 0] G_11 ?_
  intro w_96 G_98 hU_97
  replace G_4 := hU_97.blk G_4 (by omega)
  replace G_94 := hU_97.blk G_94 (by omega)
  replace hB := hU_97.below hB (by omega)
  clear G_11 hU_97
  go_wp2_with (with_reducible refine so ?_)
  refine bodyPost_ret (results_ct rfl rfl (load_blk G_98 Tryd.underlying43 rfl (by kernel_rfl))) rfl ?_
  have q0 := kc_28.out
  have q1 := kc_38.out
  have q2 := kc_48.out
  have q3 := kc_59.out
  have q4 := kc_69.out
  have q5 := kc_79.out
  have q6 := kc_89.out
  have er : r = (⟨d.kind, ⟨0, false, false, false, false, false⟩, 0#32, d.value, ⟨⟨0, 0#64⟩, 0#64⟩, 0⟩, true) := by rw [← HR.out]; simp [usedP, usedK, sec0, feat0, idn0, adr0, q0, q1, q2, q3, q4, q5, q6]
  rw [er]
  exact ⟨rfl, hB⟩
 obtain ⟨ec_89, ec_89n, kc_89⟩ := fF hc_89; clear hc_89
 by_cases hc_99 : (d.kind : Int) = 8
 ·
  obtain ⟨ec_99, ec_99n, kc_99⟩ := fT hc_99; clear hc_99
  have ld_100 := G_4.c 0 (.int .i64 d.kind)
  go_wp2_with (first | (with_reducible refine so ?_) | (with_reducible refine ld 9 (idnL d.idn) G_4 Tryd.underlying29 ?_))
  refine sw 9 #[.int .i64 d.idn.adr.kind, .int .u64 (W64 d.idn.adr.bits), .int .u64 (W64 d.idn.irk)] #[.int .i64 d.kind, .int .i64 0, .bool false, .bool false, .bool false, .bool false, .bool false, .int .u32 0, .int .u64 0, .int .i64 d.idn.adr.kind, .int .u64 (W64 d.idn.adr.bits), .int .u64 (W64 d.idn.irk), .int .i64 0] G_27 ?_
  intro w_102 G_104 hU_103
  clear ld_100
  replace G_4 := hU_103.blk G_4 (by omega)
  replace G_11 := hU_103.blk G_11 (by omega)
  replace hB := hU_103.below hB (by omega)
  clear G_27 hU_103
  go_wp2_with (first | (with_reducible refine so ?_) | (with_reducible refine ld 0 [.int .i64 d.kind, .int .i64 0, .bool false, .bool false, .bool false, .bool false, .bool false, .int .u32 0, .int .u64 0, .int .i64 d.idn.adr.kind, .int .u64 (W64 d.idn.adr.bits), .int .u64 (W64 d.idn.irk), .int .i64 0] G_104 Tryd.underlying43 ?_))
  refine sv #[.int .i64 d.kind, .int .i64 0, .bool false, .bool false, .bool false, .bool false, .bool false, .int .u32 0, .int .u64 0, .int .i64 d.idn.adr.kind, .int .u64 (W64 d.idn.adr.bits), .int .u64 (W64 d.idn.irk), .int .i64 0] G_11 ?_
  intro w_106 G_108 hU_107
  replace G_4 := hU_107.blk G_4 (by omega)
  replace G_104 := hU_107.blk G_104 (by omega)
  replace hB := hU_107.below hB (by omega)
  clear G_11 hU_107
  go_wp2_with (with_reducible refine so ?_)
  refine bodyPost_ret (results_ct rfl rfl (load_blk G_108 Tryd.underlying43 rfl (by kernel_rfl))) rfl ?_
  have q0 := kc_28.out
  have q1 := kc_38.out
  have q2 := kc_48.out
  have q3 := kc_59.out
  have q4 := kc_69.out
  have q5 := kc_79.out
  have q6 := kc_89.out
  have q7 := kc_99.out
  have er : r = (⟨d.kind, ⟨0, false, false, false, false, false⟩, 0#32, 0#64, ⟨⟨d.idn.adr.kind, d.idn.adr.bits⟩, d.idn.irk⟩, 0⟩, true) := by rw [← HR.out]; simp [usedP, usedK, sec0, feat0, idn0, adr0, q0, q1, q2, q3, q4, q5, q6, q7]
  rw [er]
  exact ⟨rfl, hB⟩
 obtain ⟨ec_99, ec_99n, kc_99⟩ := fF hc_99; clear hc_99
 by_cases hc_109 : (d.kind : Int) = 5
 ·
  obtain ⟨ec_109, ec_109n, kc_109⟩ := fT hc_109; clear hc_109
  have ld_110 := G_4.c 0 (.int .i64 d.kind)
  have ld_111 := G_4.c 12 (.int .i64 d.reason)
  go_wp2_with (with_reducible refine so ?_)
  refine sx 12 (.int .i64 d.reason) #[.int .i64 d.kind, .int .i64 0, .bool false, .bool false, .bool false, .bool false, .bool false, .int .u32 0, .int .u64 0, .int .i64 0, .int .u64 0, .int .u64 0, .int .i64 d.reason] G_27 ?_
  intro w_112 G_114 hU_113
  clear ld_110 ld_111
  replace G_4 := hU_113.blk G_4 (by omega)
  replace G_11 := hU_113.blk G_11 (by omega)
  replace hB := hU_113.below hB (by omega)
  clear G_27 hU_113
  go_wp2_with (first | (with_reducible refine so ?_) | (with_reducible refine ld 0 [.int .i64 d.kind, .int .i64 0, .bool false, .bool false, .bool false, .bool false, .bool false, .int .u32 0, .int .u64 0, .int .i64 0, .int .u64 0, .int .u64 0, .int .i64 d.reason] G_114 Tryd.underlying43 ?_))
  refine sv #[.int .i64 d.kind, .int .i64 0, .bool false, .bool false, .bool false, .bool false, .bool false, .int .u32 0, .int .u64 0, .int .i64 0, .int .u64 0, .int .u64 0, .int .i64 d.reason] G_11 ?_
  intro w_116 G_118 hU_117
  replace G_4 := hU_117.blk G_4 (by omega)
  replace G_114 := hU_117.blk G_114 (by omega)
  replace hB := hU_117.below hB (by omega)
  clear G_11 hU_117
  go_wp2_with (with_reducible refine so ?_)
  refine bodyPost_ret (results_ct rfl rfl (load_blk G_118 Tryd.underlying43 rfl (by kernel_rfl))) rfl ?_
  have q0 := kc_28.out
  have q1 := kc_38.out
  have q2 := kc_48.out
  have q3 := kc_59.out
  have q4 := kc_69.out
  have q5 := kc_79.out
  have q6 := kc_89.out
  have q7 := kc_99.out
  have q8 := kc_109.out
  have er : r = (⟨d.kind, ⟨0, false, false, false, false, false⟩, 0#32, 0#64, ⟨⟨0, 0#64⟩, 0#64⟩, d.reason⟩, true) := by rw [← HR.out]; simp [usedP, usedK, sec0, feat0, idn0, adr0, q0, q1, q2, q3, q4, q5, q6, q7, q8]
  rw [er]
  exact ⟨rfl, hB⟩
 obtain ⟨ec_109, ec_109n, kc_109⟩ := fF hc_109; clear hc_109
 have ld_119 := G_4.c 0 (.int .i64 d.kind)
 go_wp2_with (with_reducible refine so ?_)
 refine sv (secL sec0).toArray G_11 ?_
 intro w_120 G_122 hU_121
 clear ld_119
 replace G_4 := hU_121.blk G_4 (by omega)
 replace G_27 := hU_121.blk G_27 (by omega)
 replace hB := hU_121.below hB (by omega)
 clear G_11 hU_121
 go_wp2_with (with_reducible refine so ?_)
 refine bodyPost_ret (results_ct rfl rfl (load_blk G_122 Tryd.underlying43 rfl (by kernel_rfl))) rfl ?_
 have q0 := kc_28.out
 have q1 := kc_38.out
 have q2 := kc_48.out
 have q3 := kc_59.out
 have q4 := kc_69.out
 have q5 := kc_79.out
 have q6 := kc_89.out
 have q7 := kc_99.out
 have q8 := kc_109.out
 have er : r = (⟨0, ⟨0, false, false, false, false, false⟩, 0#32, 0#64, ⟨⟨0, 0#64⟩, 0#64⟩, 0⟩, false) := by rw [← HR.out]; simp [usedP, usedK, sec0, feat0, idn0, adr0, q0, q1, q2, q3, q4, q5, q6, q7, q8]
 rw [er]
 exact ⟨rfl, hB⟩
set_option maxHeartbeats 2000000 in
theorem sm_Check (d : Sec) (w : World) (HL : Laid w) :
  Calls Tryd.prog 23 #[.agg (secL d).toArray] w (fun e w' => e = .returned (.int .i64 (secK d)) ∧ Below w.heap.size w w') := by
 obtain ⟨r, hr⟩ : ∃ r, secK d = r := ⟨_, rfl⟩
 rw [hr]
 have HR := Lib.hid hr
 clear hr
 obtain ⟨⟨U, ok⟩, hu⟩ : ∃ x, usedP d = x := ⟨_, rfl⟩
 have US := Lib.hid (fun W => sm_used d W)
 rw [hu] at US
 dsimp only at US
 have HU := Lib.hid hu
 clear hu
 have HZ := HL.lt
 go_enter Tryd.func23, Tryd.ntmps23
 have hB := Below.refl w.heap.size w
 go_wp2_with (with_reducible refine so ?_)
 refine go_mem (ty := 43) (cs := (secL d).toArray) (fun g => .pointer (some ⟨g, 0, none⟩)) rfl (by kernel_rfl) ?_
 intro g_1 w_2 z_6 l_5 hb_3 G_4
 have n_7 : w.heap.size ≤ g_1 := Nat.le_trans hB.size l_5
 replace HL := Laid.to HL hb_3
 replace hB := hB.trans (hb_3.mono hB.size)
 clear hb_3 l_5 z_6
 go_wp2_with (first | (with_reducible refine so ?_) | (with_reducible refine ld 0 (secL d) G_4 Tryd.underlying43 ?_))
 refine (US.out _).mono ?_; rintro e w_9 ⟨rfl, hb_10⟩
 replace G_4 := G_4.to hb_10 G_4.lt
 replace HL := Laid.to HL hb_10
 replace hB := hB.trans (hb_10.mono hB.size)
 clear hb_10
 go_wp2_with (with_reducible refine so ?_)
 refine go_mem (ty := 43) (cs := (secL sec0).toArray) (fun g => .pointer (some ⟨g, 0, none⟩)) rfl (by kernel_rfl) ?_
 intro g_11 w_12 z_16 l_15 hb_13 G_14
 have n_17 : g_1 < g_11 := Nat.lt_of_lt_of_le G_4.lt l_15
 have n_18 : w.heap.size ≤ g_11 := Nat.le_trans hB.size l_15
 replace G_4 := G_4.to hb_13 G_4.lt
 replace HL := Laid.to HL hb_13
 replace hB := hB.trans (hb_13.mono hB.size)
 clear hb_13 l_15 z_16
 go_wp2_with (with_reducible refine so ?_)
 refine sv (secL U).toArray G_14 ?_
 intro w_19 G_21 hU_20
 replace G_4 := hU_20.blk G_4 (by omega)
 replace HL := Laid.upd HL hU_20 (by omega)
 replace hB := hU_20.below hB (by omega)
 clear G_14 hU_20
 cases ok
 case false =>
  skip
  go_wp2_with (with_reducible refine so ?_)
  go_returns
  have er : r = 12 := by rw [← HR.out]; have hu := HU.out; simp [secK, idnK, usedK_of hu, ] <;> rfl
  rw [er]
  exact ⟨rfl, hB⟩
 case true =>
  skip
  by_cases hc_23 : U = d
  ·
   have ec_23 : decide (U = d) = true := decide_eq_true hc_23
   have kc_23 := Lib.hid hc_23
   clear hc_23
   by_cases hc_24 : (d.kind : Int) = 1
   ·
    obtain ⟨ec_24, ec_24n, kc_24⟩ := fT hc_24; clear hc_24
    have ld_27 := G_4.c 0 (.int .i64 d.kind)
    go_wp2_with (first | (with_reducible refine so ?_) | (with_reducible refine ld 0 (secL U) G_21 Tryd.underlying43 ?_) | (with_reducible refine ld 0 (secL d) G_4 Tryd.underlying43 ?_) | (with_reducible refine ld 1 (featL d.feat) G_4 Tryd.underlying23 ?_))
    refine (me_Check d.feat _).mono ?_; rintro e w_29 ⟨rfl, hb_30⟩
    clear ld_27
    replace G_4 := G_4.to hb_30 G_4.lt
    replace G_21 := G_21.to hb_30 G_21.lt
    replace HL := Laid.to HL hb_30
    replace hB := hB.trans (hb_30.mono hB.size)
    clear hb_30
    go_wp2_with (with_reducible refine so ?_)
    go_returns
    have q0 := kc_23.out
    have q1 := kc_24.out
    have er : r = featK_ d.feat := by rw [← HR.out]; have hu := HU.out; simp [secK, idnK, usedK_of hu, q0, q1] <;> rfl
    rw [er]
    exact ⟨rfl, hB⟩
   obtain ⟨ec_24, ec_24n, kc_24⟩ := fF hc_24; clear hc_24
   by_cases hc_31 : (d.kind : Int) = 2
   ·
    obtain ⟨ec_31, ec_31n, kc_31⟩ := fT hc_31; clear hc_31
    have ld_34 := G_4.c 0 (.int .i64 d.kind)
    go_wp2_with (first | (with_reducible refine so ?_) | (with_reducible refine ld 0 (secL U) G_21 Tryd.underlying43 ?_) | (with_reducible refine ld 0 (secL d) G_4 Tryd.underlying43 ?_) | (with_reducible refine ld 1 (featL d.feat) G_4 Tryd.underlying23 ?_))
    refine (me_Check d.feat _).mono ?_; rintro e w_36 ⟨rfl, hb_37⟩
    clear ld_34
    replace G_4 := G_4.to hb_37 G_4.lt
    replace G_21 := G_21.to hb_37 G_21.lt
    replace HL := Laid.to HL hb_37
    replace hB := hB.trans (hb_37.mono hB.size)
    clear hb_37
    go_wp2_with (with_reducible refine so ?_)
    go_returns
    have q0 := kc_23.out
    have q1 := kc_24.out
    have q2 := kc_31.out
    have er : r = featK_ d.feat := by rw [← HR.out]; have hu := HU.out; simp [secK, idnK, usedK_of hu, q0, q1, q2] <;> rfl
    rw [er]
    exact ⟨rfl, hB⟩
   obtain ⟨ec_31, ec_31n, kc_31⟩ := fF hc_31; clear hc_31
   by_cases hc_38 : (d.kind : Int) = 8
   ·
    obtain ⟨ec_38, ec_38n, kc_38⟩ := fT hc_38; clear hc_38
    have ld_41 := G_4.c 0 (.int .i64 d.kind)
    go_wp2_with (first | (with_reducible refine so ?_) | (with_reducible refine ld 0 (secL U) G_21 Tryd.underlying43 ?_) | (with_reducible refine ld 0 (secL d) G_4 Tryd.underlying43 ?_) | (with_reducible refine ld 9 (adrL d.idn.adr) G_4 Tryd.underlying26 ?_))
    refine (ad_Check d.idn.adr _ HL).mono ?_; rintro e w_43 ⟨rfl, hb_44⟩
    clear ld_41
    replace G_4 := G_4.to hb_44 G_4.lt
    replace G_21 := G_21.to hb_44 G_21.lt
    replace HL := Laid.to HL hb_44
    replace hB := hB.trans (hb_44.mono hB.size)
    clear hb_44
    by_cases hc_45 : (adrK d.idn.adr : Int) = 0
    ·
     obtain ⟨ec_45, ec_45n, kc_45⟩ := fT hc_45; clear hc_45
     by_cases hc_46 : (d.idn.adr.kind : Int) = 1
     ·
      obtain ⟨ec_46, ec_46n, kc_46⟩ := fT hc_46; clear hc_46
      have ld_47 := G_4.c 9 (.int .i64 d.idn.adr.kind)
      go_wp2_with (with_reducible refine so ?_)
      go_returns
      have q0 := kc_23.out
      have q1 := kc_24.out
      have q2 := kc_31.out
      have q3 := kc_38.out
      have q4 := kc_45.out
      have q5 := kc_46.out
      have er : r = 0 := by rw [← HR.out]; have hu := HU.out; simp [secK, idnK, usedK_of hu, q0, q1, q2, q3, q4, q5] <;> rfl
      rw [er]
      exact ⟨rfl, hB⟩
     obtain ⟨ec_46, ec_46n, kc_46⟩ := fF hc_46; clear hc_46
     by_cases hc_48 : (d.idn.adr.kind : Int) = 2
     ·
      obtain ⟨ec_48, ec_48n, kc_48⟩ := fT hc_48; clear hc_48
      have ld_49 := G_4.c 9 (.int .i64 d.idn.adr.kind)
      go_wp2_with (with_reducible refine so ?_)
      go_returns
      have q0 := kc_23.out
      have q1 := kc_24.out
      have q2 := kc_31.out
      have q3 := kc_38.out
      have q4 := kc_45.out
      have q5 := kc_46.out
      have q6 := kc_48.out
      have er : r = 0 := by rw [← HR.out]; have hu := HU.out; simp [secK, idnK, usedK_of hu, q0, q1, q2, q3, q4, q5, q6] <;> rfl
      rw [er]
      exact ⟨rfl, hB⟩
     obtain ⟨ec_48, ec_48n, kc_48⟩ := fF hc_48; clear hc_48
     have ld_50 := G_4.c 9 (.int .i64 d.idn.adr.kind)
     go_wp2_with (with_reducible refine so ?_)
     go_returns
     have q0 := kc_23.out
     have q1 := kc_24.out
     have q2 := kc_31.out
     have q3 := kc_38.out
     have q4 := kc_45.out
     have q5 := kc_46.out
     have q6 := kc_48.out
     have er : r = 1 := by rw [← HR.out]; have hu := HU.out; simp [secK, idnK, usedK_of hu, q0, q1, q2, q3, q4, q5, q6] <;> rfl
     rw [er]
     exact ⟨rfl, hB⟩
    obtain ⟨ec_45, ec_45n, kc_45⟩ := fF hc_45; clear hc_45
    go_wp2_with (with_reducible refine so ?_)
    go_returns
    have q0 := kc_23.out
    have q1 := kc_24.out
    have q2 := kc_31.out
    have q3 := kc_38.out
    have q4 := kc_45.out
    have er : r = adrK d.idn.adr := by rw [← HR.out]; have hu := HU.out; simp [secK, idnK, usedK_of hu, q0, q1, q2, q3, q4] <;> rfl
    rw [er]
    exact ⟨rfl, hB⟩
   obtain ⟨ec_38, ec_38n, kc_38⟩ := fF hc_38; clear hc_38
   by_cases hc_51 : (d.kind : Int) = 5
   ·
    obtain ⟨ec_51, ec_51n, kc_51⟩ := fT hc_51; clear hc_51
    by_cases hc_52 : (d.reason : Int) < 1
    ·
     obtain ⟨ec_52m, ec_52, ec_52n, kc_52⟩ := lT hc_52; clear hc_52
     have ld_55 := G_4.c 0 (.int .i64 d.kind)
     have ld_56 := G_4.c 12 (.int .i64 d.reason)
     go_wp2_with (first | (with_reducible refine so ?_) | (with_reducible refine ld 0 (secL U) G_21 Tryd.underlying43 ?_) | (with_reducible refine ld 0 (secL d) G_4 Tryd.underlying43 ?_))
     go_returns
     have q0 := kc_23.out
     have q1 := kc_24.out
     have q2 := kc_31.out
     have q3 := kc_38.out
     have q4 := kc_51.out
     have q5 := kc_52.out
     have er : r = 5 := by rw [← HR.out]; have hu := HU.out; simp [secK, idnK, usedK_of hu, q0, q1, q2, q3, q4, q5] <;> rfl
     rw [er]
     exact ⟨rfl, hB⟩
    obtain ⟨ec_52m, ec_52, ec_52n, kc_52⟩ := lF hc_52; clear hc_52
    by_cases hc_57 : (255 : Int) < d.reason
    ·
     obtain ⟨ec_57m, ec_57, ec_57n, kc_57⟩ := lT hc_57; clear hc_57
     have ld_60 := G_4.c 0 (.int .i64 d.kind)
     have ld_61 := G_4.c 12 (.int .i64 d.reason)
     go_wp2_with (first | (with_reducible refine so ?_) | (with_reducible refine ld 0 (secL U) G_21 Tryd.underlying43 ?_) | (with_reducible refine ld 0 (secL d) G_4 Tryd.underlying43 ?_))
     go_returns
     have q0 := kc_23.out
     have q1 := kc_24.out
     have q2 := kc_31.out
     have q3 := kc_38.out
     have q4 := kc_51.out
     have q5 := kc_52.out
     have q6 := kc_57.out
     have er : r = 5 := by rw [← HR.out]; have hu := HU.out; simp [secK, idnK, usedK_of hu, q0, q1, q2, q3, q4, q5, q6] <;> rfl
     rw [er]
     exact ⟨rfl, hB⟩
    obtain ⟨ec_57m, ec_57, ec_57n, kc_57⟩ := lF hc_57; clear hc_57
    have ld_64 := G_4.c 0 (.int .i64 d.kind)
    have ld_65 := G_4.c 12 (.int .i64 d.reason)
    go_wp2_with (first | (with_reducible refine so ?_) | (with_reducible refine ld 0 (secL U) G_21 Tryd.underlying43 ?_) | (with_reducible refine ld 0 (secL d) G_4 Tryd.underlying43 ?_))
    go_returns
    have q0 := kc_23.out
    have q1 := kc_24.out
    have q2 := kc_31.out
    have q3 := kc_38.out
    have q4 := kc_51.out
    have q5 := kc_52.out
    have q6 := kc_57.out
    have er : r = 0 := by rw [← HR.out]; have hu := HU.out; simp [secK, idnK, usedK_of hu, q0, q1, q2, q3, q4, q5, q6] <;> rfl
    rw [er]
    exact ⟨rfl, hB⟩
   obtain ⟨ec_51, ec_51n, kc_51⟩ := fF hc_51; clear hc_51
   have ld_68 := G_4.c 0 (.int .i64 d.kind)
   go_wp2_with (first | (with_reducible refine so ?_) | (with_reducible refine ld 0 (secL U) G_21 Tryd.underlying43 ?_) | (with_reducible refine ld 0 (secL d) G_4 Tryd.underlying43 ?_))
   go_returns
   have q0 := kc_23.out
   have q1 := kc_24.out
   have q2 := kc_31.out
   have q3 := kc_38.out
   have q4 := kc_51.out
   have er : r = 0 := by rw [← HR.out]; have hu := HU.out; simp [secK, idnK, usedK_of hu, q0, q1, q2, q3, q4] <;> rfl
   rw [er]
   exact ⟨rfl, hB⟩
  have ec_23 : decide (U = d) = false := decide_eq_false hc_23
  have kc_23 := Lib.hid hc_23
  clear hc_23
  go_wp2_with (first | (with_reducible refine so ?_) | (with_reducible refine ld 0 (secL U) G_21 Tryd.underlying43 ?_) | (with_reducible refine ld 0 (secL d) G_4 Tryd.underlying43 ?_))
  go_returns
  have q0 := kc_23.out
  have er : r = 1 := by rw [← HR.out]; have hu := HU.out; simp [secK, idnK, usedK_of hu, q0] <;> rfl
  rw [er]
  exact ⟨rfl, hB⟩
end Go.Proofs.YtihmbcnccdiecaaDoor
