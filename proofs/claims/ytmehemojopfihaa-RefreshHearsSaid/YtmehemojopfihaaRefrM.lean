/- The law walk of RefreshHears. -/
import Derived.Test.YtmehemojopfihaaRefrF
import Derived.Test.YtmehemojopfihaaRefrH
import Derived.Test.YtmehemojopfihaaRefrL
namespace Go.Proofs.Ytmehemojopfihaa
set_option maxRecDepth 100000
open Go.ChangeShapes Go.WideShapes Go.ChangeAt Go.RowKit
set_option linter.unusedVariables false
set_option linter.unusedSimpArgs false

set_option maxHeartbeats 8000000 in
theorem hears_in (ph : Int) (a1 : BitVec 64) (a2 : Int) (a3 a4 a5 b1 : BitVec 64) (b2 : Int) (b3 b4 b5 : BitVec 64) (vi : BitVec 32) (vu : Bool) (vs : Int) (br bu : Bool) (bi : BitVec 32) (ix now : Int) (w : World) (ht : timelyB ⟨vi, vu, vs⟩ now = true) :
    Calls Try.prog 9 #[.agg #[.int .i64 ph, .int .u64 (W64 a1), .int .i64 a2, .int .u64 (W64 a3), .int .u64 (W64 a4), .int .u64 (W64 a5), .int .u64 (W64 b1), .int .i64 b2, .int .u64 (W64 b3), .int .u64 (W64 b4), .int .u64 (W64 b5)], .agg #[.int .u32 (W32 vi), .bool vu, .int .i64 vs], .agg #[.bool br, .bool bu, .int .u32 (W32 bi)], .int .i64 ix, .int .i64 now] w fun e w' => e = .returned (.bool true) ∧ Below w.heap.size w w' := by
  have hh : 0 ≤ vs ∧ vs ≤ now ∧ now ≤ 1099511627776 := of_decide_eq_true ht
  have h0 : 0 ≤ vs ∧ vs ≤ 1099511627776 := ⟨hh.1, Int.le_trans hh.2.1 hh.2.2⟩
  have h1 : 0 ≤ now ∧ now ≤ 1099511627776 := ⟨Int.le_trans hh.1 hh.2.1, hh.2.2⟩
  obtain ⟨⟨⟨p9, ⟨f1, f2, f3, f4, f5⟩, ⟨m1, m2, m3, m4, m5⟩⟩, ⟨oi, ou, os⟩⟩, hz⟩ : ∃ z, hearK ⟨ph, ⟨a1, a2, a3, a4, a5⟩, ⟨b1, b2, b3, b4, b5⟩⟩ ⟨vi, vu, vs⟩ ⟨br, bu, bi⟩ ix now = z := ⟨_, rfl⟩
  have C1 := Lib.hid (show ∀ W, Calls Try.prog 48 #[.agg #[.int .i64 ph, .int .u64 (W64 a1), .int .i64 a2, .int .u64 (W64 a3), .int .u64 (W64 a4), .int .u64 (W64 a5), .int .u64 (W64 b1), .int .i64 b2, .int .u64 (W64 b3), .int .u64 (W64 b4), .int .u64 (W64 b5)], .agg #[.int .u32 (W32 vi), .bool vu, .int .i64 vs], .agg #[.bool br, .bool bu, .int .u32 (W32 bi)], .int .i64 ix, .int .i64 now] W fun e w' => e = .returned (.tuple #[.agg #[.int .i64 p9, .int .u64 (W64 f1), .int .i64 f2, .int .u64 (W64 f3), .int .u64 (W64 f4), .int .u64 (W64 f5), .int .u64 (W64 m1), .int .i64 m2, .int .u64 (W64 m3), .int .u64 (W64 m4), .int .u64 (W64 m5)], .agg #[.int .u32 (W32 oi), .bool ou, .int .i64 os]]) ∧ Below W.heap.size W w' from fun W => by have := rf_Hear ⟨ph, ⟨a1, a2, a3, a4, a5⟩, ⟨b1, b2, b3, b4, b5⟩⟩ ⟨vi, vu, vs⟩ ⟨br, bu, bi⟩ ix now W h0 h1; rw [hz] at this; exact this)
  have C2 := Lib.hid (show ∀ W, Calls Try.prog 49 #[.agg #[.int .i64 ph, .int .u64 (W64 a1), .int .i64 a2, .int .u64 (W64 a3), .int .u64 (W64 a4), .int .u64 (W64 a5), .int .u64 (W64 b1), .int .i64 b2, .int .u64 (W64 b3), .int .u64 (W64 b4), .int .u64 (W64 b5)], .agg #[.int .u32 (W32 vi), .bool vu, .int .i64 vs], .agg #[.bool br, .bool bu, .int .u32 (W32 bi)], .int .i64 ix, .int .i64 now] W fun e w' => e = .returned (.tuple #[.agg #[.int .i64 p9, .int .u64 (W64 f1), .int .i64 f2, .int .u64 (W64 f3), .int .u64 (W64 f4), .int .u64 (W64 f5), .int .u64 (W64 m1), .int .i64 m2, .int .u64 (W64 m3), .int .u64 (W64 m4), .int .u64 (W64 m5)], .agg #[.int .u32 (W32 oi), .bool ou, .int .i64 os]]) ∧ Below W.heap.size W w' from fun W => by have := r52_Hear ⟨ph, ⟨a1, a2, a3, a4, a5⟩, ⟨b1, b2, b3, b4, b5⟩⟩ ⟨vi, vu, vs⟩ ⟨br, bu, bi⟩ ix now W h0 h1; rw [hz] at this; exact this)
  have CT := Lib.hid (show ∀ W, Calls Try.prog 37 #[.agg #[.int .u32 (W32 vi), .bool vu, .int .i64 vs], .int .i64 now] W fun e w' => e = .returned (.bool true) ∧ Below W.heap.size W w' from fun W => by have := law_timely ⟨vi, vu, vs⟩ now W; rw [ht] at this; exact this)
  clear hz ht hh h0 h1
  go_enter Try.func9, Try.ntmps9
  go_wp2_with (first | (with_reducible refine stop_store ?_) | (with_reducible refine stop_box ?_) | (with_reducible refine stop_alloc ?_) | (with_reducible refine stop_bslice ?_))
  unfold Kept
  refine go_mem (ty := 27) (cs := #[.int .i64 ph, .int .u64 (W64 a1), .int .i64 a2, .int .u64 (W64 a3), .int .u64 (W64 a4), .int .u64 (W64 a5), .int .u64 (W64 b1), .int .i64 b2, .int .u64 (W64 b3), .int .u64 (W64 b4), .int .u64 (W64 b5)]) (fun g => .pointer (some ⟨g, 0, none⟩)) rfl (by kernel_rfl) ?_
  intro g_1 w_2 z_6 l_5 hb_3 G_4
  have n_7 : w.heap.size ≤ g_1 := l_5
  have hB := hb_3
  clear hb_3 l_5 z_6
  go_wp2_with (first | (with_reducible refine stop_store ?_) | (with_reducible refine stop_box ?_) | (with_reducible refine stop_alloc ?_) | (with_reducible refine stop_bslice ?_))
  unfold Kept
  refine go_mem (ty := 59) (cs := #[.int .u32 (W32 vi), .bool vu, .int .i64 vs]) (fun g => .pointer (some ⟨g, 0, none⟩)) rfl (by kernel_rfl) ?_
  intro g_8 w_9 z_13 l_12 hb_10 G_11
  have n_14 : g_1 < g_8 := Nat.lt_of_lt_of_le G_4.lt l_12
  have n_15 : w.heap.size ≤ g_8 := Nat.le_trans hB.size l_12
  replace G_4 := G_4.to hb_10 G_4.lt
  replace hB := hB.trans (hb_10.mono hB.size)
  clear hb_10 l_12 z_13
  go_wp2_with (first | (with_reducible refine stop_store ?_) | (with_reducible refine stop_box ?_) | (with_reducible refine stop_alloc ?_) | (with_reducible refine stop_bslice ?_))
  unfold Kept
  refine go_mem (ty := 71) (cs := #[.bool br, .bool bu, .int .u32 (W32 bi)]) (fun g => .pointer (some ⟨g, 0, none⟩)) rfl (by kernel_rfl) ?_
  intro g_16 w_17 z_21 l_20 hb_18 G_19
  have n_22 : g_8 < g_16 := Nat.lt_of_lt_of_le G_11.lt l_20
  have n_23 : w.heap.size ≤ g_16 := Nat.le_trans hB.size l_20
  replace G_4 := G_4.to hb_18 G_4.lt
  replace G_11 := G_11.to hb_18 G_11.lt
  replace hB := hB.trans (hb_18.mono hB.size)
  clear hb_18 l_20 z_21
  go_wp2_with (first | (with_reducible refine stop_store ?_) | (with_reducible refine stop_box ?_) | (with_reducible refine stop_alloc ?_) | (with_reducible refine stop_bslice ?_) | ((with_reducible refine wpList_ld 0 [.int .u32 (W32 vi), .bool vu, .int .i64 vs] G_11 ?_ ?_ Try.underlying59 ?_ ?_ ?_); rfl; rfl; rfl; kernel_rfl) | ((with_reducible refine wpList_ldg 0 [.int .u32 (W32 vi), .bool vu, .int .i64 vs] G_11 ?_ ?_ Try.underlying59 ?_ ?_ ?_ ?_); rfl; rfl; rfl; kernel_rfl; rfl))
  refine (CT.out _).mono ?_; rintro e w_25 ⟨rfl, hb_26⟩
  replace G_4 := G_4.to hb_26 G_4.lt
  replace G_11 := G_11.to hb_26 G_11.lt
  replace G_19 := G_19.to hb_26 G_19.lt
  replace hB := hB.trans (hb_26.mono hB.size)
  clear hb_26
  go_wp2_with (first | (with_reducible refine stop_store ?_) | (with_reducible refine stop_box ?_) | (with_reducible refine stop_alloc ?_) | (with_reducible refine stop_bslice ?_) | ((with_reducible refine wpList_ld 0 [.int .i64 ph, .int .u64 (W64 a1), .int .i64 a2, .int .u64 (W64 a3), .int .u64 (W64 a4), .int .u64 (W64 a5), .int .u64 (W64 b1), .int .i64 b2, .int .u64 (W64 b3), .int .u64 (W64 b4), .int .u64 (W64 b5)] G_4 ?_ ?_ Try.underlying27 ?_ ?_ ?_); rfl; rfl; rfl; kernel_rfl) | ((with_reducible refine wpList_ldg 0 [.int .i64 ph, .int .u64 (W64 a1), .int .i64 a2, .int .u64 (W64 a3), .int .u64 (W64 a4), .int .u64 (W64 a5), .int .u64 (W64 b1), .int .i64 b2, .int .u64 (W64 b3), .int .u64 (W64 b4), .int .u64 (W64 b5)] G_4 ?_ ?_ Try.underlying27 ?_ ?_ ?_ ?_); rfl; rfl; rfl; kernel_rfl; rfl) | ((with_reducible refine wpList_ld 0 [.int .u32 (W32 vi), .bool vu, .int .i64 vs] G_11 ?_ ?_ Try.underlying59 ?_ ?_ ?_); rfl; rfl; rfl; kernel_rfl) | ((with_reducible refine wpList_ldg 0 [.int .u32 (W32 vi), .bool vu, .int .i64 vs] G_11 ?_ ?_ Try.underlying59 ?_ ?_ ?_ ?_); rfl; rfl; rfl; kernel_rfl; rfl) | ((with_reducible refine wpList_ld 0 [.bool br, .bool bu, .int .u32 (W32 bi)] G_19 ?_ ?_ Try.underlying71 ?_ ?_ ?_); rfl; rfl; rfl; kernel_rfl))
  refine (C1.out _).mono ?_; rintro e w_30 ⟨rfl, hb_31⟩
  replace G_4 := G_4.to hb_31 G_4.lt
  replace G_11 := G_11.to hb_31 G_11.lt
  replace G_19 := G_19.to hb_31 G_19.lt
  replace hB := hB.trans (hb_31.mono hB.size)
  clear hb_31
  go_wp2_with (first | (with_reducible refine stop_store ?_) | (with_reducible refine stop_box ?_) | (with_reducible refine stop_alloc ?_) | (with_reducible refine stop_bslice ?_))
  unfold Kept
  refine go_mem (ty := 27) (cs := #[.int .i64 0, .int .u64 0, .int .i64 0, .int .u64 0, .int .u64 0, .int .u64 0, .int .u64 0, .int .i64 0, .int .u64 0, .int .u64 0, .int .u64 0]) (fun g => .pointer (some ⟨g, 0, none⟩)) rfl (by kernel_rfl) ?_
  intro g_32 w_33 z_37 l_36 hb_34 G_35
  have n_38 : g_16 < g_32 := Nat.lt_of_lt_of_le G_19.lt l_36
  have n_39 : w.heap.size ≤ g_32 := Nat.le_trans hB.size l_36
  replace G_4 := G_4.to hb_34 G_4.lt
  replace G_11 := G_11.to hb_34 G_11.lt
  replace G_19 := G_19.to hb_34 G_19.lt
  replace hB := hB.trans (hb_34.mono hB.size)
  clear hb_34 l_36 z_37
  go_wp2_with (first | (with_reducible refine stop_store ?_) | (with_reducible refine stop_box ?_) | (with_reducible refine stop_alloc ?_) | (with_reducible refine stop_bslice ?_))
  unfold Kept
  refine go_mem (ty := 59) (cs := #[.int .u32 0, .bool false, .int .i64 0]) (fun g => .pointer (some ⟨g, 0, none⟩)) rfl (by kernel_rfl) ?_
  intro g_40 w_41 z_45 l_44 hb_42 G_43
  have n_46 : g_32 < g_40 := Nat.lt_of_lt_of_le G_35.lt l_44
  have n_47 : w.heap.size ≤ g_40 := Nat.le_trans hB.size l_44
  replace G_4 := G_4.to hb_42 G_4.lt
  replace G_11 := G_11.to hb_42 G_11.lt
  replace G_19 := G_19.to hb_42 G_19.lt
  replace G_35 := G_35.to hb_42 G_35.lt
  replace hB := hB.trans (hb_42.mono hB.size)
  clear hb_42 l_44 z_45
  go_wp2_with (first | (with_reducible refine stop_store ?_) | (with_reducible refine stop_box ?_) | (with_reducible refine stop_alloc ?_) | (with_reducible refine stop_bslice ?_))
  unfold Kept
  refine wpList_st 0 #[.int .i64 p9, .int .u64 (W64 f1), .int .i64 f2, .int .u64 (W64 f3), .int .u64 (W64 f4), .int .u64 (W64 f5), .int .u64 (W64 m1), .int .i64 m2, .int .u64 (W64 m3), .int .u64 (W64 m4), .int .u64 (W64 m5)] #[.int .i64 p9, .int .u64 (W64 f1), .int .i64 f2, .int .u64 (W64 f3), .int .u64 (W64 f4), .int .u64 (W64 f5), .int .u64 (W64 m1), .int .i64 m2, .int .u64 (W64 m3), .int .u64 (W64 m4), .int .u64 (W64 m5)] G_35 rfl rfl (by kernel_rfl) rfl (of_decide_eq_true rfl) rfl ?_
  intro w_48 G_50 hU_49
  replace G_4 := hU_49.blk G_4 (by omega)
  replace G_11 := hU_49.blk G_11 (by omega)
  replace G_19 := hU_49.blk G_19 (by omega)
  replace G_43 := hU_49.blk G_43 (by omega)
  replace hB := hU_49.below hB (by omega)
  clear G_35 hU_49
  go_wp2_with (first | (with_reducible refine stop_store ?_) | (with_reducible refine stop_box ?_) | (with_reducible refine stop_alloc ?_) | (with_reducible refine stop_bslice ?_))
  unfold Kept
  refine wpList_st 0 #[.int .u32 (W32 oi), .bool ou, .int .i64 os] #[.int .u32 (W32 oi), .bool ou, .int .i64 os] G_43 rfl rfl (by kernel_rfl) rfl (of_decide_eq_true rfl) rfl ?_
  intro w_51 G_53 hU_52
  replace G_4 := hU_52.blk G_4 (by omega)
  replace G_11 := hU_52.blk G_11 (by omega)
  replace G_19 := hU_52.blk G_19 (by omega)
  replace G_50 := hU_52.blk G_50 (by omega)
  replace hB := hU_52.below hB (by omega)
  clear G_43 hU_52
  go_wp2_with (first | (with_reducible refine stop_store ?_) | (with_reducible refine stop_box ?_) | (with_reducible refine stop_alloc ?_) | (with_reducible refine stop_bslice ?_) | ((with_reducible refine wpList_ld 0 [.int .i64 ph, .int .u64 (W64 a1), .int .i64 a2, .int .u64 (W64 a3), .int .u64 (W64 a4), .int .u64 (W64 a5), .int .u64 (W64 b1), .int .i64 b2, .int .u64 (W64 b3), .int .u64 (W64 b4), .int .u64 (W64 b5)] G_4 ?_ ?_ Try.underlying27 ?_ ?_ ?_); rfl; rfl; rfl; kernel_rfl) | ((with_reducible refine wpList_ldg 0 [.int .i64 ph, .int .u64 (W64 a1), .int .i64 a2, .int .u64 (W64 a3), .int .u64 (W64 a4), .int .u64 (W64 a5), .int .u64 (W64 b1), .int .i64 b2, .int .u64 (W64 b3), .int .u64 (W64 b4), .int .u64 (W64 b5)] G_4 ?_ ?_ Try.underlying27 ?_ ?_ ?_ ?_); rfl; rfl; rfl; kernel_rfl; rfl) | ((with_reducible refine wpList_ld 0 [.int .u32 (W32 vi), .bool vu, .int .i64 vs] G_11 ?_ ?_ Try.underlying59 ?_ ?_ ?_); rfl; rfl; rfl; kernel_rfl) | ((with_reducible refine wpList_ldg 0 [.int .u32 (W32 vi), .bool vu, .int .i64 vs] G_11 ?_ ?_ Try.underlying59 ?_ ?_ ?_ ?_); rfl; rfl; rfl; kernel_rfl; rfl) | ((with_reducible refine wpList_ld 0 [.bool br, .bool bu, .int .u32 (W32 bi)] G_19 ?_ ?_ Try.underlying71 ?_ ?_ ?_); rfl; rfl; rfl; kernel_rfl))
  refine (C2.out _).mono ?_; rintro e w_57 ⟨rfl, hb_58⟩
  replace G_4 := G_4.to hb_58 G_4.lt
  replace G_11 := G_11.to hb_58 G_11.lt
  replace G_19 := G_19.to hb_58 G_19.lt
  replace G_50 := G_50.to hb_58 G_50.lt
  replace G_53 := G_53.to hb_58 G_53.lt
  replace hB := hB.trans (hb_58.mono hB.size)
  clear hb_58
  go_wp2_with (first | (with_reducible refine stop_store ?_) | (with_reducible refine stop_box ?_) | (with_reducible refine stop_alloc ?_) | (with_reducible refine stop_bslice ?_))
  unfold Kept
  refine go_mem (ty := 27) (cs := #[.int .i64 0, .int .u64 0, .int .i64 0, .int .u64 0, .int .u64 0, .int .u64 0, .int .u64 0, .int .i64 0, .int .u64 0, .int .u64 0, .int .u64 0]) (fun g => .pointer (some ⟨g, 0, none⟩)) rfl (by kernel_rfl) ?_
  intro g_59 w_60 z_64 l_63 hb_61 G_62
  have n_65 : g_40 < g_59 := Nat.lt_of_lt_of_le G_53.lt l_63
  have n_66 : w.heap.size ≤ g_59 := Nat.le_trans hB.size l_63
  replace G_4 := G_4.to hb_61 G_4.lt
  replace G_11 := G_11.to hb_61 G_11.lt
  replace G_19 := G_19.to hb_61 G_19.lt
  replace G_50 := G_50.to hb_61 G_50.lt
  replace G_53 := G_53.to hb_61 G_53.lt
  replace hB := hB.trans (hb_61.mono hB.size)
  clear hb_61 l_63 z_64
  go_wp2_with (first | (with_reducible refine stop_store ?_) | (with_reducible refine stop_box ?_) | (with_reducible refine stop_alloc ?_) | (with_reducible refine stop_bslice ?_))
  unfold Kept
  refine go_mem (ty := 59) (cs := #[.int .u32 0, .bool false, .int .i64 0]) (fun g => .pointer (some ⟨g, 0, none⟩)) rfl (by kernel_rfl) ?_
  intro g_67 w_68 z_72 l_71 hb_69 G_70
  have n_73 : g_59 < g_67 := Nat.lt_of_lt_of_le G_62.lt l_71
  have n_74 : w.heap.size ≤ g_67 := Nat.le_trans hB.size l_71
  replace G_4 := G_4.to hb_69 G_4.lt
  replace G_11 := G_11.to hb_69 G_11.lt
  replace G_19 := G_19.to hb_69 G_19.lt
  replace G_50 := G_50.to hb_69 G_50.lt
  replace G_53 := G_53.to hb_69 G_53.lt
  replace G_62 := G_62.to hb_69 G_62.lt
  replace hB := hB.trans (hb_69.mono hB.size)
  clear hb_69 l_71 z_72
  go_wp2_with (first | (with_reducible refine stop_store ?_) | (with_reducible refine stop_box ?_) | (with_reducible refine stop_alloc ?_) | (with_reducible refine stop_bslice ?_))
  unfold Kept
  refine wpList_st 0 #[.int .i64 p9, .int .u64 (W64 f1), .int .i64 f2, .int .u64 (W64 f3), .int .u64 (W64 f4), .int .u64 (W64 f5), .int .u64 (W64 m1), .int .i64 m2, .int .u64 (W64 m3), .int .u64 (W64 m4), .int .u64 (W64 m5)] #[.int .i64 p9, .int .u64 (W64 f1), .int .i64 f2, .int .u64 (W64 f3), .int .u64 (W64 f4), .int .u64 (W64 f5), .int .u64 (W64 m1), .int .i64 m2, .int .u64 (W64 m3), .int .u64 (W64 m4), .int .u64 (W64 m5)] G_62 rfl rfl (by kernel_rfl) rfl (of_decide_eq_true rfl) rfl ?_
  intro w_75 G_77 hU_76
  replace G_4 := hU_76.blk G_4 (by omega)
  replace G_11 := hU_76.blk G_11 (by omega)
  replace G_19 := hU_76.blk G_19 (by omega)
  replace G_50 := hU_76.blk G_50 (by omega)
  replace G_53 := hU_76.blk G_53 (by omega)
  replace G_70 := hU_76.blk G_70 (by omega)
  replace hB := hU_76.below hB (by omega)
  clear G_62 hU_76
  go_wp2_with (first | (with_reducible refine stop_store ?_) | (with_reducible refine stop_box ?_) | (with_reducible refine stop_alloc ?_) | (with_reducible refine stop_bslice ?_))
  unfold Kept
  refine wpList_st 0 #[.int .u32 (W32 oi), .bool ou, .int .i64 os] #[.int .u32 (W32 oi), .bool ou, .int .i64 os] G_70 rfl rfl (by kernel_rfl) rfl (of_decide_eq_true rfl) rfl ?_
  intro w_78 G_80 hU_79
  replace G_4 := hU_79.blk G_4 (by omega)
  replace G_11 := hU_79.blk G_11 (by omega)
  replace G_19 := hU_79.blk G_19 (by omega)
  replace G_50 := hU_79.blk G_50 (by omega)
  replace G_53 := hU_79.blk G_53 (by omega)
  replace G_77 := hU_79.blk G_77 (by omega)
  replace hB := hU_79.below hB (by omega)
  clear G_70 hU_79
  go_wp2_with (first | (with_reducible refine stop_store ?_) | (with_reducible refine stop_box ?_) | (with_reducible refine stop_alloc ?_) | (with_reducible refine stop_bslice ?_))
  refine (lives52 _).mono ?_; rintro e w_81 ⟨rfl, hb_82⟩
  replace G_4 := G_4.to hb_82 G_4.lt
  replace G_11 := G_11.to hb_82 G_11.lt
  replace G_19 := G_19.to hb_82 G_19.lt
  replace G_50 := G_50.to hb_82 G_50.lt
  replace G_53 := G_53.to hb_82 G_53.lt
  replace G_77 := G_77.to hb_82 G_77.lt
  replace G_80 := G_80.to hb_82 G_80.lt
  replace hB := hB.trans (hb_82.mono hB.size)
  clear hb_82
  go_wp2_with (first | (with_reducible refine stop_store ?_) | (with_reducible refine stop_box ?_) | (with_reducible refine stop_alloc ?_) | (with_reducible refine stop_bslice ?_) | ((with_reducible refine wpList_ld 0 [.int .i64 p9, .int .u64 (W64 f1), .int .i64 f2, .int .u64 (W64 f3), .int .u64 (W64 f4), .int .u64 (W64 f5), .int .u64 (W64 m1), .int .i64 m2, .int .u64 (W64 m3), .int .u64 (W64 m4), .int .u64 (W64 m5)] G_50 ?_ ?_ Try.underlying27 ?_ ?_ ?_); rfl; rfl; rfl; kernel_rfl) | ((with_reducible refine wpList_ldg 0 [.int .i64 p9, .int .u64 (W64 f1), .int .i64 f2, .int .u64 (W64 f3), .int .u64 (W64 f4), .int .u64 (W64 f5), .int .u64 (W64 m1), .int .i64 m2, .int .u64 (W64 m3), .int .u64 (W64 m4), .int .u64 (W64 m5)] G_50 ?_ ?_ Try.underlying27 ?_ ?_ ?_ ?_); rfl; rfl; rfl; kernel_rfl; rfl) | ((with_reducible refine wpList_ld 0 [.int .i64 p9, .int .u64 (W64 f1), .int .i64 f2, .int .u64 (W64 f3), .int .u64 (W64 f4), .int .u64 (W64 f5), .int .u64 (W64 m1), .int .i64 m2, .int .u64 (W64 m3), .int .u64 (W64 m4), .int .u64 (W64 m5)] G_77 ?_ ?_ Try.underlying27 ?_ ?_ ?_); rfl; rfl; rfl; kernel_rfl) | ((with_reducible refine wpList_ldg 0 [.int .i64 p9, .int .u64 (W64 f1), .int .i64 f2, .int .u64 (W64 f3), .int .u64 (W64 f4), .int .u64 (W64 f5), .int .u64 (W64 m1), .int .i64 m2, .int .u64 (W64 m3), .int .u64 (W64 m4), .int .u64 (W64 m5)] G_77 ?_ ?_ Try.underlying27 ?_ ?_ ?_ ?_); rfl; rfl; rfl; kernel_rfl; rfl) | ((with_reducible refine wpList_ld 0 [.int .u32 (W32 oi), .bool ou, .int .i64 os] G_53 ?_ ?_ Try.underlying59 ?_ ?_ ?_); rfl; rfl; rfl; kernel_rfl) | ((with_reducible refine wpList_ldg 0 [.int .u32 (W32 oi), .bool ou, .int .i64 os] G_53 ?_ ?_ Try.underlying59 ?_ ?_ ?_ ?_); rfl; rfl; rfl; kernel_rfl; rfl) | ((with_reducible refine wpList_ld 0 [.int .u32 (W32 oi), .bool ou, .int .i64 os] G_80 ?_ ?_ Try.underlying59 ?_ ?_ ?_); rfl; rfl; rfl; kernel_rfl) | ((with_reducible refine wpList_ldg 0 [.int .u32 (W32 oi), .bool ou, .int .i64 os] G_80 ?_ ?_ Try.underlying59 ?_ ?_ ?_ ?_); rfl; rfl; rfl; kernel_rfl; rfl))
  go_returns
  exact ⟨rfl, hB⟩
set_option maxHeartbeats 8000000 in
theorem hears_off (ph : Int) (a1 : BitVec 64) (a2 : Int) (a3 a4 a5 b1 : BitVec 64) (b2 : Int) (b3 b4 b5 : BitVec 64) (vi : BitVec 32) (vu : Bool) (vs : Int) (br bu : Bool) (bi : BitVec 32) (ix now : Int) (w : World) (ht : timelyB ⟨vi, vu, vs⟩ now = false) :
    Calls Try.prog 9 #[.agg #[.int .i64 ph, .int .u64 (W64 a1), .int .i64 a2, .int .u64 (W64 a3), .int .u64 (W64 a4), .int .u64 (W64 a5), .int .u64 (W64 b1), .int .i64 b2, .int .u64 (W64 b3), .int .u64 (W64 b4), .int .u64 (W64 b5)], .agg #[.int .u32 (W32 vi), .bool vu, .int .i64 vs], .agg #[.bool br, .bool bu, .int .u32 (W32 bi)], .int .i64 ix, .int .i64 now] w fun e w' => e = .returned (.bool true) ∧ Below w.heap.size w w' := by
  have CT := Lib.hid (show ∀ W, Calls Try.prog 37 #[.agg #[.int .u32 (W32 vi), .bool vu, .int .i64 vs], .int .i64 now] W fun e w' => e = .returned (.bool false) ∧ Below W.heap.size W w' from fun W => by have := law_timely ⟨vi, vu, vs⟩ now W; rw [ht] at this; exact this)
  clear ht
  go_enter Try.func9, Try.ntmps9
  go_wp2_with (first | (with_reducible refine stop_store ?_) | (with_reducible refine stop_box ?_) | (with_reducible refine stop_alloc ?_) | (with_reducible refine stop_bslice ?_))
  unfold Kept
  refine go_mem (ty := 27) (cs := #[.int .i64 ph, .int .u64 (W64 a1), .int .i64 a2, .int .u64 (W64 a3), .int .u64 (W64 a4), .int .u64 (W64 a5), .int .u64 (W64 b1), .int .i64 b2, .int .u64 (W64 b3), .int .u64 (W64 b4), .int .u64 (W64 b5)]) (fun g => .pointer (some ⟨g, 0, none⟩)) rfl (by kernel_rfl) ?_
  intro g_1 w_2 z_6 l_5 hb_3 G_4
  have n_7 : w.heap.size ≤ g_1 := l_5
  have hB := hb_3
  clear hb_3 l_5 z_6
  go_wp2_with (first | (with_reducible refine stop_store ?_) | (with_reducible refine stop_box ?_) | (with_reducible refine stop_alloc ?_) | (with_reducible refine stop_bslice ?_))
  unfold Kept
  refine go_mem (ty := 59) (cs := #[.int .u32 (W32 vi), .bool vu, .int .i64 vs]) (fun g => .pointer (some ⟨g, 0, none⟩)) rfl (by kernel_rfl) ?_
  intro g_8 w_9 z_13 l_12 hb_10 G_11
  have n_14 : g_1 < g_8 := Nat.lt_of_lt_of_le G_4.lt l_12
  have n_15 : w.heap.size ≤ g_8 := Nat.le_trans hB.size l_12
  replace G_4 := G_4.to hb_10 G_4.lt
  replace hB := hB.trans (hb_10.mono hB.size)
  clear hb_10 l_12 z_13
  go_wp2_with (first | (with_reducible refine stop_store ?_) | (with_reducible refine stop_box ?_) | (with_reducible refine stop_alloc ?_) | (with_reducible refine stop_bslice ?_))
  unfold Kept
  refine go_mem (ty := 71) (cs := #[.bool br, .bool bu, .int .u32 (W32 bi)]) (fun g => .pointer (some ⟨g, 0, none⟩)) rfl (by kernel_rfl) ?_
  intro g_16 w_17 z_21 l_20 hb_18 G_19
  have n_22 : g_8 < g_16 := Nat.lt_of_lt_of_le G_11.lt l_20
  have n_23 : w.heap.size ≤ g_16 := Nat.le_trans hB.size l_20
  replace G_4 := G_4.to hb_18 G_4.lt
  replace G_11 := G_11.to hb_18 G_11.lt
  replace hB := hB.trans (hb_18.mono hB.size)
  clear hb_18 l_20 z_21
  go_wp2_with (first | (with_reducible refine stop_store ?_) | (with_reducible refine stop_box ?_) | (with_reducible refine stop_alloc ?_) | (with_reducible refine stop_bslice ?_) | ((with_reducible refine wpList_ld 0 [.int .u32 (W32 vi), .bool vu, .int .i64 vs] G_11 ?_ ?_ Try.underlying59 ?_ ?_ ?_); rfl; rfl; rfl; kernel_rfl) | ((with_reducible refine wpList_ldg 0 [.int .u32 (W32 vi), .bool vu, .int .i64 vs] G_11 ?_ ?_ Try.underlying59 ?_ ?_ ?_ ?_); rfl; rfl; rfl; kernel_rfl; rfl))
  refine (CT.out _).mono ?_; rintro e w_25 ⟨rfl, hb_26⟩
  replace G_4 := G_4.to hb_26 G_4.lt
  replace G_11 := G_11.to hb_26 G_11.lt
  replace G_19 := G_19.to hb_26 G_19.lt
  replace hB := hB.trans (hb_26.mono hB.size)
  clear hb_26
  go_wp2_with (first | (with_reducible refine stop_store ?_) | (with_reducible refine stop_box ?_) | (with_reducible refine stop_alloc ?_) | (with_reducible refine stop_bslice ?_))
  refine (lives52 _).mono ?_; rintro e w_27 ⟨rfl, hb_28⟩
  replace G_4 := G_4.to hb_28 G_4.lt
  replace G_11 := G_11.to hb_28 G_11.lt
  replace G_19 := G_19.to hb_28 G_19.lt
  replace hB := hB.trans (hb_28.mono hB.size)
  clear hb_28
  go_wp2_with (first | (with_reducible refine stop_store ?_) | (with_reducible refine stop_box ?_) | (with_reducible refine stop_alloc ?_) | (with_reducible refine stop_bslice ?_))
  go_returns
  exact ⟨rfl, hB⟩
theorem law_RefreshHears (k : KS) (v : IV) (b : Bea) (ix now : Int) (w : World) :
    Calls Try.prog 9 #[.agg (ksA k), .agg (ivA v), .agg (beA b), .int .i64 ix, .int .i64 now] w fun e w' => e = .returned (.bool true) ∧ Below w.heap.size w w' := by
  obtain ⟨ph, ⟨a1, a2, a3, a4, a5⟩, ⟨b1, b2, b3, b4, b5⟩⟩ := k
  obtain ⟨vi, vu, vs⟩ := v
  obtain ⟨br, bu, bi⟩ := b
  rcases ht : timelyB ⟨vi, vu, vs⟩ now with _ | _
  · exact hears_off ph a1 a2 a3 a4 a5 b1 b2 b3 b4 b5 vi vu vs br bu bi ix now w ht
  · exact hears_in ph a1 a2 a3 a4 a5 b1 b2 b3 b4 b5 vi vu vs br bu bi ix now w ht
end Go.Proofs.Ytmehemojopfihaa
