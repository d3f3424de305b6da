/- Encode of the reference of layer 52: the bytes of a beacon. -/
import Derived.Test.YtmehemojopfihaaApp
import Derived.Test.YtmehemojopfihaaRefrC
namespace Go.Proofs.Ytmehemojopfihaa
set_option maxRecDepth 100000
open Go.ChangeShapes Go.WideShapes Go.ChangeAt Go.RowKit
set_option linter.unusedVariables false
set_option linter.unusedSimpArgs false

theorem retB_at {f : Nat} {args : Array Value} {W : World} {bs : List (BitVec 8)} {n base : Nat} (h : Calls Try.prog f args W (RetB W bs)) (hn : bs.length = n) (hb : base ≤ W.heap.size) :
    Calls Try.prog f args W fun e w' => ∃ (A : Option Addr) (c : Nat), e = .returned (.slice A n c) ∧ w'.ownsRow base 5 1 (.slice A n c) n (bcells bs) ∧ Below W.heap.size W w' := by
  subst hn
  exact h.mono fun e w' ⟨A, c, he, ho, hbl⟩ => ⟨A, c, he, own_mono ho hb, hbl⟩
set_option maxHeartbeats 1000000 in
theorem r52_Encode_false_false (a1 : BitVec 64) (a2 : Int) (a3 a4 a5 : BitVec 64) (ix : BitVec 32) (w : World) :
    Calls Try.prog 56 #[.agg #[.int .u64 (W64 a1), .int .i64 a2, .int .u64 (W64 a3), .int .u64 (W64 a4), .int .u64 (W64 a5)], .agg #[.bool false, .bool false, .int .u32 (W32 ix)]] w (RetB w (beaB ⟨a1, a2, a3, a4, a5⟩ ⟨false, false, ix⟩)) := by
  obtain ⟨i0, hi0, hz0, hz1, hz2⟩ := info_parts info_u8
  obtain ⟨tg, htg⟩ : ∃ tg, tag a5 ([0#8] ++ numB 4 (ix.setWidth 64)) = tg := ⟨_, rfl⟩
  have hsp : beaB ⟨a1, a2, a3, a4, a5⟩ ⟨false, false, ix⟩ = ([0#8] ++ numB 4 (ix.setWidth 64)) ++ numB 8 tg := by rw [← htg]; rfl
  rw [hsp]
  have HT := Lib.hid (fun W A c (h : RdB W A ([0#8] ++ numB 4 (ix.setWidth 64))) (hc : 5 ≤ c) => by
    have := ref6_Tag a5 A c _ W h (by rw [List.length_append, numB_length]; decide) (by rw [List.length_append, numB_length]; exact hc)
    rw [htg] at this
    exact this)
  clear hsp htg
  go_enter Try.func56, Try.ntmps56
  go_wp2_with (first | (with_reducible refine stop_store ?_) | (with_reducible refine stop_box ?_) | (with_reducible refine stop_alloc ?_) | (with_reducible refine stop_bslice ?_) | (with_reducible refine stop_append ?_))
  unfold Kept
  refine go_mem (ty := 25) (cs := #[.int .u64 (W64 a1), .int .i64 a2, .int .u64 (W64 a3), .int .u64 (W64 a4), .int .u64 (W64 a5)]) (fun g => .pointer (some ⟨g, 0, none⟩)) rfl (by kernel_rfl) ?_
  intro g_1 w_2 z_6 l_5 hb_3 G_4
  have n_7 : w.heap.size ≤ g_1 := l_5
  have hB := hb_3
  clear hb_3 l_5 z_6
  go_wp2_with (first | (with_reducible refine stop_store ?_) | (with_reducible refine stop_box ?_) | (with_reducible refine stop_alloc ?_) | (with_reducible refine stop_bslice ?_) | (with_reducible refine stop_append ?_))
  unfold Kept
  refine go_mem (ty := 71) (cs := #[.bool false, .bool false, .int .u32 (W32 ix)]) (fun g => .pointer (some ⟨g, 0, none⟩)) rfl (by kernel_rfl) ?_
  intro g_8 w_9 z_13 l_12 hb_10 G_11
  have n_14 : g_1 < g_8 := Nat.lt_of_lt_of_le G_4.lt l_12
  have n_15 : w.heap.size ≤ g_8 := Nat.le_trans hB.size l_12
  replace G_4 := G_4.to hb_10 G_4.lt
  replace hB := hB.trans (hb_10.mono hB.size)
  clear hb_10 l_12 z_13
  have ld_16 : w_9.cell? ⟨g_8, 0, none⟩ = some (.bool false) := G_11.cell 0
  have ld_17 : w_9.cell? ⟨g_8, 1, none⟩ = some (.bool false) := G_11.cell 1
  go_wp2_with (first | (with_reducible refine stop_store ?_) | (with_reducible refine stop_box ?_) | (with_reducible refine stop_alloc ?_) | (with_reducible refine stop_bslice ?_) | (with_reducible refine stop_append ?_))
  unfold Kept
  refine go_mem (ty := 5) (cs := #[.int .u8 0]) (fun g => .slice (some ⟨g, 0, none⟩) 1 1) rfl (by kernel_rfl) ?_
  intro g_18 w_19 z_23 l_22 hb_20 G_21
  clear ld_16 ld_17
  have n_24 : g_8 < g_18 := Nat.lt_of_lt_of_le G_11.lt l_22
  have n_25 : w.heap.size ≤ g_18 := Nat.le_trans hB.size l_22
  replace G_4 := G_4.to hb_20 G_4.lt
  replace G_11 := G_11.to hb_20 G_11.lt
  replace hB := hB.trans (hb_20.mono hB.size)
  clear hb_20 l_22 z_23
  have ld_26 : w_19.cell? ⟨g_8, 2, none⟩ = some (.int .u32 (W32 ix)) := G_11.cell 2
  go_wp2_with (first | (with_reducible refine stop_store ?_) | (with_reducible refine stop_box ?_) | (with_reducible refine stop_alloc ?_) | (with_reducible refine stop_bslice ?_) | (with_reducible refine stop_append ?_))
  refine (retB_at (ref2_Num 4 (ix.setWidth 64) _ (by decide) (by decide)) (numB_length _ _) hB.size).mono ?_; rintro e w_27 ⟨A6_5, c6_5, rfl, R6_5, hb_28⟩
  clear ld_26
  replace G_4 := G_4.to hb_28 G_4.lt
  replace G_11 := G_11.to hb_28 G_11.lt
  replace G_21 := G_21.to hb_28 G_21.lt
  replace hB := hB.trans (hb_28.mono hB.size)
  clear hb_28
  go_wp2_with (first | (with_reducible refine stop_store ?_) | (with_reducible refine stop_box ?_) | (with_reducible refine stop_alloc ?_) | (with_reducible refine stop_bslice ?_) | (with_reducible refine stop_append ?_))
  unfold Kept
  refine wpList_append_rd _ rfl _ _ 45 rfl w.heap.size 5 i0 _ 1 1 Try.underlying45 hi0 hz0 hz1 hz2 rfl (by omega) (.slice (some ⟨g_18, 0, none⟩) 1 1) 1 (bcells [0#8]) rfl (own_of_blk (l := [0#8]) G_21 (by omega) (by decide)) A6_5 4 c6_5 (bcells (numB 4 (ix.setWidth 64))) rfl (Rd.of_own R6_5) (R6_5.1) ((bcells_one _)) (by simp only [maxLen]; omega) (by omega) hB.size ?_
  intro A_29 c_30 w_31 ho_32 hb_33 hg_34
  replace ho_32 : w_31.ownsRow w.heap.size 5 1 (.slice A_29 5 c_30) 5 ((bcells ([0#8] ++ (numB 4 (ix.setWidth 64))))) := by rw [bcells_append]; exact ho_32
  replace G_4 := Blk.own G_4 (own_of_blk (l := [0#8]) G_21 (by omega) (by decide)) (by decide) hg_34
  replace G_11 := Blk.own G_11 (own_of_blk (l := [0#8]) G_21 (by omega) (by decide)) (by decide) hg_34
  clear R6_5
  replace hB := hB.trans hb_33
  clear G_21
  clear hg_34 hb_33
  have ld_35 : w_31.cell? ⟨g_1, 4, none⟩ = some (.int .u64 (W64 a5)) := G_4.cell 4
  go_wp2_with (first | (with_reducible refine stop_store ?_) | (with_reducible refine stop_box ?_) | (with_reducible refine stop_alloc ?_) | (with_reducible refine stop_bslice ?_) | (with_reducible refine stop_append ?_))
  refine (HT.out _ _ _ (Rd.of_own ho_32) (own_cap ho_32).1).mono ?_; rintro e w_36 ⟨rfl, hb_37⟩
  clear ld_35
  replace G_4 := G_4.to hb_37 G_4.lt
  replace G_11 := G_11.to hb_37 G_11.lt
  replace ho_32 := own_to ho_32 hb_37
  replace hB := hB.trans (hb_37.mono hB.size)
  clear hb_37
  go_wp2_with (first | (with_reducible refine stop_store ?_) | (with_reducible refine stop_box ?_) | (with_reducible refine stop_alloc ?_) | (with_reducible refine stop_bslice ?_) | (with_reducible refine stop_append ?_))
  refine (retB_at (ref2_Num 8 tg _ (by decide) (by decide)) (numB_length _ _) hB.size).mono ?_; rintro e w_38 ⟨A7_5, c7_5, rfl, R7_5, hb_39⟩
  replace G_4 := G_4.to hb_39 G_4.lt
  replace G_11 := G_11.to hb_39 G_11.lt
  replace ho_32 := own_to ho_32 hb_39
  replace hB := hB.trans (hb_39.mono hB.size)
  clear hb_39
  go_wp2_with (first | (with_reducible refine stop_store ?_) | (with_reducible refine stop_box ?_) | (with_reducible refine stop_alloc ?_) | (with_reducible refine stop_bslice ?_) | (with_reducible refine stop_append ?_))
  unfold Kept
  refine wpList_append_rd _ rfl _ _ 45 rfl w.heap.size 5 i0 _ 1 1 Try.underlying45 hi0 hz0 hz1 hz2 rfl (by omega) (.slice A_29 5 c_30) 5 (bcells ([0#8] ++ (numB 4 (ix.setWidth 64)))) rfl (ho_32) A7_5 8 c7_5 (bcells (numB 8 tg)) rfl (Rd.of_own R7_5) (R7_5.1) ((bcells_one _)) (by simp only [maxLen]; omega) (by omega) hB.size ?_
  intro A_40 c_41 w_42 ho_43 hb_44 hg_45
  replace ho_43 : w_42.ownsRow w.heap.size 5 1 (.slice A_40 13 c_41) 13 ((bcells (([0#8] ++ (numB 4 (ix.setWidth 64))) ++ (numB 8 tg)))) := by rw [bcells_append]; exact ho_43
  replace G_4 := Blk.own G_4 (ho_32) (by decide) hg_45
  replace G_11 := Blk.own G_11 (ho_32) (by decide) hg_45
  clear R7_5
  replace hB := hB.trans hb_44
  clear ho_32
  clear hg_45 hb_44
  go_wp2_with (first | (with_reducible refine stop_store ?_) | (with_reducible refine stop_box ?_) | (with_reducible refine stop_alloc ?_) | (with_reducible refine stop_bslice ?_) | (with_reducible refine stop_append ?_))
  go_returns
  exact ⟨A_40, _, rfl, ho_43, hB⟩
set_option maxHeartbeats 1000000 in
theorem r52_Encode_false_true (a1 : BitVec 64) (a2 : Int) (a3 a4 a5 : BitVec 64) (ix : BitVec 32) (w : World) :
    Calls Try.prog 56 #[.agg #[.int .u64 (W64 a1), .int .i64 a2, .int .u64 (W64 a3), .int .u64 (W64 a4), .int .u64 (W64 a5)], .agg #[.bool false, .bool true, .int .u32 (W32 ix)]] w (RetB w (beaB ⟨a1, a2, a3, a4, a5⟩ ⟨false, true, ix⟩)) := by
  obtain ⟨i0, hi0, hz0, hz1, hz2⟩ := info_parts info_u8
  obtain ⟨tg, htg⟩ : ∃ tg, tag a5 ([2#8] ++ numB 4 (ix.setWidth 64)) = tg := ⟨_, rfl⟩
  have hsp : beaB ⟨a1, a2, a3, a4, a5⟩ ⟨false, true, ix⟩ = ([2#8] ++ numB 4 (ix.setWidth 64)) ++ numB 8 tg := by rw [← htg]; rfl
  rw [hsp]
  have HT := Lib.hid (fun W A c (h : RdB W A ([2#8] ++ numB 4 (ix.setWidth 64))) (hc : 5 ≤ c) => by
    have := ref6_Tag a5 A c _ W h (by rw [List.length_append, numB_length]; decide) (by rw [List.length_append, numB_length]; exact hc)
    rw [htg] at this
    exact this)
  clear hsp htg
  go_enter Try.func56, Try.ntmps56
  go_wp2_with (first | (with_reducible refine stop_store ?_) | (with_reducible refine stop_box ?_) | (with_reducible refine stop_alloc ?_) | (with_reducible refine stop_bslice ?_) | (with_reducible refine stop_append ?_))
  unfold Kept
  refine go_mem (ty := 25) (cs := #[.int .u64 (W64 a1), .int .i64 a2, .int .u64 (W64 a3), .int .u64 (W64 a4), .int .u64 (W64 a5)]) (fun g => .pointer (some ⟨g, 0, none⟩)) rfl (by kernel_rfl) ?_
  intro g_1 w_2 z_6 l_5 hb_3 G_4
  have n_7 : w.heap.size ≤ g_1 := l_5
  have hB := hb_3
  clear hb_3 l_5 z_6
  go_wp2_with (first | (with_reducible refine stop_store ?_) | (with_reducible refine stop_box ?_) | (with_reducible refine stop_alloc ?_) | (with_reducible refine stop_bslice ?_) | (with_reducible refine stop_append ?_))
  unfold Kept
  refine go_mem (ty := 71) (cs := #[.bool false, .bool true, .int .u32 (W32 ix)]) (fun g => .pointer (some ⟨g, 0, none⟩)) rfl (by kernel_rfl) ?_
  intro g_8 w_9 z_13 l_12 hb_10 G_11
  have n_14 : g_1 < g_8 := Nat.lt_of_lt_of_le G_4.lt l_12
  have n_15 : w.heap.size ≤ g_8 := Nat.le_trans hB.size l_12
  replace G_4 := G_4.to hb_10 G_4.lt
  replace hB := hB.trans (hb_10.mono hB.size)
  clear hb_10 l_12 z_13
  have ld_16 : w_9.cell? ⟨g_8, 0, none⟩ = some (.bool false) := G_11.cell 0
  have ld_17 : w_9.cell? ⟨g_8, 1, none⟩ = some (.bool true) := G_11.cell 1
  go_wp2_with (first | (with_reducible refine stop_store ?_) | (with_reducible refine stop_box ?_) | (with_reducible refine stop_alloc ?_) | (with_reducible refine stop_bslice ?_) | (with_reducible refine stop_append ?_))
  unfold Kept
  refine go_mem (ty := 5) (cs := #[.int .u8 2]) (fun g => .slice (some ⟨g, 0, none⟩) 1 1) rfl (by kernel_rfl) ?_
  intro g_18 w_19 z_23 l_22 hb_20 G_21
  clear ld_16 ld_17
  have n_24 : g_8 < g_18 := Nat.lt_of_lt_of_le G_11.lt l_22
  have n_25 : w.heap.size ≤ g_18 := Nat.le_trans hB.size l_22
  replace G_4 := G_4.to hb_20 G_4.lt
  replace G_11 := G_11.to hb_20 G_11.lt
  replace hB := hB.trans (hb_20.mono hB.size)
  clear hb_20 l_22 z_23
  have ld_26 : w_19.cell? ⟨g_8, 2, none⟩ = some (.int .u32 (W32 ix)) := G_11.cell 2
  go_wp2_with (first | (with_reducible refine stop_store ?_) | (with_reducible refine stop_box ?_) | (with_reducible refine stop_alloc ?_) | (with_reducible refine stop_bslice ?_) | (with_reducible refine stop_append ?_))
  refine (retB_at (ref2_Num 4 (ix.setWidth 64) _ (by decide) (by decide)) (numB_length _ _) hB.size).mono ?_; rintro e w_27 ⟨A6_5, c6_5, rfl, R6_5, hb_28⟩
  clear ld_26
  replace G_4 := G_4.to hb_28 G_4.lt
  replace G_11 := G_11.to hb_28 G_11.lt
  replace G_21 := G_21.to hb_28 G_21.lt
  replace hB := hB.trans (hb_28.mono hB.size)
  clear hb_28
  go_wp2_with (first | (with_reducible refine stop_store ?_) | (with_reducible refine stop_box ?_) | (with_reducible refine stop_alloc ?_) | (with_reducible refine stop_bslice ?_) | (with_reducible refine stop_append ?_))
  unfold Kept
  refine wpList_append_rd _ rfl _ _ 45 rfl w.heap.size 5 i0 _ 1 1 Try.underlying45 hi0 hz0 hz1 hz2 rfl (by omega) (.slice (some ⟨g_18, 0, none⟩) 1 1) 1 (bcells [2#8]) rfl (own_of_blk (l := [2#8]) G_21 (by omega) (by decide)) A6_5 4 c6_5 (bcells (numB 4 (ix.setWidth 64))) rfl (Rd.of_own R6_5) (R6_5.1) ((bcells_one _)) (by simp only [maxLen]; omega) (by omega) hB.size ?_
  intro A_29 c_30 w_31 ho_32 hb_33 hg_34
  replace ho_32 : w_31.ownsRow w.heap.size 5 1 (.slice A_29 5 c_30) 5 ((bcells ([2#8] ++ (numB 4 (ix.setWidth 64))))) := by rw [bcells_append]; exact ho_32
  replace G_4 := Blk.own G_4 (own_of_blk (l := [2#8]) G_21 (by omega) (by decide)) (by decide) hg_34
  replace G_11 := Blk.own G_11 (own_of_blk (l := [2#8]) G_21 (by omega) (by decide)) (by decide) hg_34
  clear R6_5
  replace hB := hB.trans hb_33
  clear G_21
  clear hg_34 hb_33
  have ld_35 : w_31.cell? ⟨g_1, 4, none⟩ = some (.int .u64 (W64 a5)) := G_4.cell 4
  go_wp2_with (first | (with_reducible refine stop_store ?_) | (with_reducible refine stop_box ?_) | (with_reducible refine stop_alloc ?_) | (with_reducible refine stop_bslice ?_) | (with_reducible refine stop_append ?_))
  refine (HT.out _ _ _ (Rd.of_own ho_32) (own_cap ho_32).1).mono ?_; rintro e w_36 ⟨rfl, hb_37⟩
  clear ld_35
  replace G_4 := G_4.to hb_37 G_4.lt
  replace G_11 := G_11.to hb_37 G_11.lt
  replace ho_32 := own_to ho_32 hb_37
  replace hB := hB.trans (hb_37.mono hB.size)
  clear hb_37
  go_wp2_with (first | (with_reducible refine stop_store ?_) | (with_reducible refine stop_box ?_) | (with_reducible refine stop_alloc ?_) | (with_reducible refine stop_bslice ?_) | (with_reducible refine stop_append ?_))
  refine (retB_at (ref2_Num 8 tg _ (by decide) (by decide)) (numB_length _ _) hB.size).mono ?_; rintro e w_38 ⟨A7_5, c7_5, rfl, R7_5, hb_39⟩
  replace G_4 := G_4.to hb_39 G_4.lt
  replace G_11 := G_11.to hb_39 G_11.lt
  replace ho_32 := own_to ho_32 hb_39
  replace hB := hB.trans (hb_39.mono hB.size)
  clear hb_39
  go_wp2_with (first | (with_reducible refine stop_store ?_) | (with_reducible refine stop_box ?_) | (with_reducible refine stop_alloc ?_) | (with_reducible refine stop_bslice ?_) | (with_reducible refine stop_append ?_))
  unfold Kept
  refine wpList_append_rd _ rfl _ _ 45 rfl w.heap.size 5 i0 _ 1 1 Try.underlying45 hi0 hz0 hz1 hz2 rfl (by omega) (.slice A_29 5 c_30) 5 (bcells ([2#8] ++ (numB 4 (ix.setWidth 64)))) rfl (ho_32) A7_5 8 c7_5 (bcells (numB 8 tg)) rfl (Rd.of_own R7_5) (R7_5.1) ((bcells_one _)) (by simp only [maxLen]; omega) (by omega) hB.size ?_
  intro A_40 c_41 w_42 ho_43 hb_44 hg_45
  replace ho_43 : w_42.ownsRow w.heap.size 5 1 (.slice A_40 13 c_41) 13 ((bcells (([2#8] ++ (numB 4 (ix.setWidth 64))) ++ (numB 8 tg)))) := by rw [bcells_append]; exact ho_43
  replace G_4 := Blk.own G_4 (ho_32) (by decide) hg_45
  replace G_11 := Blk.own G_11 (ho_32) (by decide) hg_45
  clear R7_5
  replace hB := hB.trans hb_44
  clear ho_32
  clear hg_45 hb_44
  go_wp2_with (first | (with_reducible refine stop_store ?_) | (with_reducible refine stop_box ?_) | (with_reducible refine stop_alloc ?_) | (with_reducible refine stop_bslice ?_) | (with_reducible refine stop_append ?_))
  go_returns
  exact ⟨A_40, _, rfl, ho_43, hB⟩
set_option maxHeartbeats 1000000 in
theorem r52_Encode_true_false (a1 : BitVec 64) (a2 : Int) (a3 a4 a5 : BitVec 64) (ix : BitVec 32) (w : World) :
    Calls Try.prog 56 #[.agg #[.int .u64 (W64 a1), .int .i64 a2, .int .u64 (W64 a3), .int .u64 (W64 a4), .int .u64 (W64 a5)], .agg #[.bool true, .bool false, .int .u32 (W32 ix)]] w (RetB w (beaB ⟨a1, a2, a3, a4, a5⟩ ⟨true, false, ix⟩)) := by
  obtain ⟨i0, hi0, hz0, hz1, hz2⟩ := info_parts info_u8
  obtain ⟨tg, htg⟩ : ∃ tg, tag a5 ([1#8] ++ numB 4 (ix.setWidth 64)) = tg := ⟨_, rfl⟩
  have hsp : beaB ⟨a1, a2, a3, a4, a5⟩ ⟨true, false, ix⟩ = ([1#8] ++ numB 4 (ix.setWidth 64)) ++ numB 8 tg := by rw [← htg]; rfl
  rw [hsp]
  have HT := Lib.hid (fun W A c (h : RdB W A ([1#8] ++ numB 4 (ix.setWidth 64))) (hc : 5 ≤ c) => by
    have := ref6_Tag a5 A c _ W h (by rw [List.length_append, numB_length]; decide) (by rw [List.length_append, numB_length]; exact hc)
    rw [htg] at this
    exact this)
  clear hsp htg
  go_enter Try.func56, Try.ntmps56
  go_wp2_with (first | (with_reducible refine stop_store ?_) | (with_reducible refine stop_box ?_) | (with_reducible refine stop_alloc ?_) | (with_reducible refine stop_bslice ?_) | (with_reducible refine stop_append ?_))
  unfold Kept
  refine go_mem (ty := 25) (cs := #[.int .u64 (W64 a1), .int .i64 a2, .int .u64 (W64 a3), .int .u64 (W64 a4), .int .u64 (W64 a5)]) (fun g => .pointer (some ⟨g, 0, none⟩)) rfl (by kernel_rfl) ?_
  intro g_1 w_2 z_6 l_5 hb_3 G_4
  have n_7 : w.heap.size ≤ g_1 := l_5
  have hB := hb_3
  clear hb_3 l_5 z_6
  go_wp2_with (first | (with_reducible refine stop_store ?_) | (with_reducible refine stop_box ?_) | (with_reducible refine stop_alloc ?_) | (with_reducible refine stop_bslice ?_) | (with_reducible refine stop_append ?_))
  unfold Kept
  refine go_mem (ty := 71) (cs := #[.bool true, .bool false, .int .u32 (W32 ix)]) (fun g => .pointer (some ⟨g, 0, none⟩)) rfl (by kernel_rfl) ?_
  intro g_8 w_9 z_13 l_12 hb_10 G_11
  have n_14 : g_1 < g_8 := Nat.lt_of_lt_of_le G_4.lt l_12
  have n_15 : w.heap.size ≤ g_8 := Nat.le_trans hB.size l_12
  replace G_4 := G_4.to hb_10 G_4.lt
  replace hB := hB.trans (hb_10.mono hB.size)
  clear hb_10 l_12 z_13
  have ld_16 : w_9.cell? ⟨g_8, 0, none⟩ = some (.bool true) := G_11.cell 0
  have ld_17 : w_9.cell? ⟨g_8, 1, none⟩ = some (.bool false) := G_11.cell 1
  go_wp2_with (first | (with_reducible refine stop_store ?_) | (with_reducible refine stop_box ?_) | (with_reducible refine stop_alloc ?_) | (with_reducible refine stop_bslice ?_) | (with_reducible refine stop_append ?_))
  unfold Kept
  refine go_mem (ty := 5) (cs := #[.int .u8 1]) (fun g => .slice (some ⟨g, 0, none⟩) 1 1) rfl (by kernel_rfl) ?_
  intro g_18 w_19 z_23 l_22 hb_20 G_21
  clear ld_16 ld_17
  have n_24 : g_8 < g_18 := Nat.lt_of_lt_of_le G_11.lt l_22
  have n_25 : w.heap.size ≤ g_18 := Nat.le_trans hB.size l_22
  replace G_4 := G_4.to hb_20 G_4.lt
  replace G_11 := G_11.to hb_20 G_11.lt
  replace hB := hB.trans (hb_20.mono hB.size)
  clear hb_20 l_22 z_23
  have ld_26 : w_19.cell? ⟨g_8, 2, none⟩ = some (.int .u32 (W32 ix)) := G_11.cell 2
  go_wp2_with (first | (with_reducible refine stop_store ?_) | (with_reducible refine stop_box ?_) | (with_reducible refine stop_alloc ?_) | (with_reducible refine stop_bslice ?_) | (with_reducible refine stop_append ?_))
  refine (retB_at (ref2_Num 4 (ix.setWidth 64) _ (by decide) (by decide)) (numB_length _ _) hB.size).mono ?_; rintro e w_27 ⟨A6_5, c6_5, rfl, R6_5, hb_28⟩
  clear ld_26
  replace G_4 := G_4.to hb_28 G_4.lt
  replace G_11 := G_11.to hb_28 G_11.lt
  replace G_21 := G_21.to hb_28 G_21.lt
  replace hB := hB.trans (hb_28.mono hB.size)
  clear hb_28
  go_wp2_with (first | (with_reducible refine stop_store ?_) | (with_reducible refine stop_box ?_) | (with_reducible refine stop_alloc ?_) | (with_reducible refine stop_bslice ?_) | (with_reducible refine stop_append ?_))
  unfold Kept
  refine wpList_append_rd _ rfl _ _ 45 rfl w.heap.size 5 i0 _ 1 1 Try.underlying45 hi0 hz0 hz1 hz2 rfl (by omega) (.slice (some ⟨g_18, 0, none⟩) 1 1) 1 (bcells [1#8]) rfl (own_of_blk (l := [1#8]) G_21 (by omega) (by decide)) A6_5 4 c6_5 (bcells (numB 4 (ix.setWidth 64))) rfl (Rd.of_own R6_5) (R6_5.1) ((bcells_one _)) (by simp only [maxLen]; omega) (by omega) hB.size ?_
  intro A_29 c_30 w_31 ho_32 hb_33 hg_34
  replace ho_32 : w_31.ownsRow w.heap.size 5 1 (.slice A_29 5 c_30) 5 ((bcells ([1#8] ++ (numB 4 (ix.setWidth 64))))) := by rw [bcells_append]; exact ho_32
  replace G_4 := Blk.own G_4 (own_of_blk (l := [1#8]) G_21 (by omega) (by decide)) (by decide) hg_34
  replace G_11 := Blk.own G_11 (own_of_blk (l := [1#8]) G_21 (by omega) (by decide)) (by decide) hg_34
  clear R6_5
  replace hB := hB.trans hb_33
  clear G_21
  clear hg_34 hb_33
  have ld_35 : w_31.cell? ⟨g_1, 4, none⟩ = some (.int .u64 (W64 a5)) := G_4.cell 4
  go_wp2_with (first | (with_reducible refine stop_store ?_) | (with_reducible refine stop_box ?_) | (with_reducible refine stop_alloc ?_) | (with_reducible refine stop_bslice ?_) | (with_reducible refine stop_append ?_))
  refine (HT.out _ _ _ (Rd.of_own ho_32) (own_cap ho_32).1).mono ?_; rintro e w_36 ⟨rfl, hb_37⟩
  clear ld_35
  replace G_4 := G_4.to hb_37 G_4.lt
  replace G_11 := G_11.to hb_37 G_11.lt
  replace ho_32 := own_to ho_32 hb_37
  replace hB := hB.trans (hb_37.mono hB.size)
  clear hb_37
  go_wp2_with (first | (with_reducible refine stop_store ?_) | (with_reducible refine stop_box ?_) | (with_reducible refine stop_alloc ?_) | (with_reducible refine stop_bslice ?_) | (with_reducible refine stop_append ?_))
  refine (retB_at (ref2_Num 8 tg _ (by decide) (by decide)) (numB_length _ _) hB.size).mono ?_; rintro e w_38 ⟨A7_5, c7_5, rfl, R7_5, hb_39⟩
  replace G_4 := G_4.to hb_39 G_4.lt
  replace G_11 := G_11.to hb_39 G_11.lt
  replace ho_32 := own_to ho_32 hb_39
  replace hB := hB.trans (hb_39.mono hB.size)
  clear hb_39
  go_wp2_with (first | (with_reducible refine stop_store ?_) | (with_reducible refine stop_box ?_) | (with_reducible refine stop_alloc ?_) | (with_reducible refine stop_bslice ?_) | (with_reducible refine stop_append ?_))
  unfold Kept
  refine wpList_append_rd _ rfl _ _ 45 rfl w.heap.size 5 i0 _ 1 1 Try.underlying45 hi0 hz0 hz1 hz2 rfl (by omega) (.slice A_29 5 c_30) 5 (bcells ([1#8] ++ (numB 4 (ix.setWidth 64)))) rfl (ho_32) A7_5 8 c7_5 (bcells (numB 8 tg)) rfl (Rd.of_own R7_5) (R7_5.1) ((bcells_one _)) (by simp only [maxLen]; omega) (by omega) hB.size ?_
  intro A_40 c_41 w_42 ho_43 hb_44 hg_45
  replace ho_43 : w_42.ownsRow w.heap.size 5 1 (.slice A_40 13 c_41) 13 ((bcells (([1#8] ++ (numB 4 (ix.setWidth 64))) ++ (numB 8 tg)))) := by rw [bcells_append]; exact ho_43
  replace G_4 := Blk.own G_4 (ho_32) (by decide) hg_45
  replace G_11 := Blk.own G_11 (ho_32) (by decide) hg_45
  clear R7_5
  replace hB := hB.trans hb_44
  clear ho_32
  clear hg_45 hb_44
  go_wp2_with (first | (with_reducible refine stop_store ?_) | (with_reducible refine stop_box ?_) | (with_reducible refine stop_alloc ?_) | (with_reducible refine stop_bslice ?_) | (with_reducible refine stop_append ?_))
  go_returns
  exact ⟨A_40, _, rfl, ho_43, hB⟩
set_option maxHeartbeats 1000000 in
theorem r52_Encode_true_true (a1 : BitVec 64) (a2 : Int) (a3 a4 a5 : BitVec 64) (ix : BitVec 32) (w : World) :
    Calls Try.prog 56 #[.agg #[.int .u64 (W64 a1), .int .i64 a2, .int .u64 (W64 a3), .int .u64 (W64 a4), .int .u64 (W64 a5)], .agg #[.bool true, .bool true, .int .u32 (W32 ix)]] w (RetB w (beaB ⟨a1, a2, a3, a4, a5⟩ ⟨true, true, ix⟩)) := by
  obtain ⟨i0, hi0, hz0, hz1, hz2⟩ := info_parts info_u8
  obtain ⟨tg, htg⟩ : ∃ tg, tag a5 ([3#8] ++ numB 4 (ix.setWidth 64)) = tg := ⟨_, rfl⟩
  have hsp : beaB ⟨a1, a2, a3, a4, a5⟩ ⟨true, true, ix⟩ = ([3#8] ++ numB 4 (ix.setWidth 64)) ++ numB 8 tg := by rw [← htg]; rfl
  rw [hsp]
  have HT := Lib.hid (fun W A c (h : RdB W A ([3#8] ++ numB 4 (ix.setWidth 64))) (hc : 5 ≤ c) => by
    have := ref6_Tag a5 A c _ W h (by rw [List.length_append, numB_length]; decide) (by rw [List.length_append, numB_length]; exact hc)
    rw [htg] at this
    exact this)
  clear hsp htg
  go_enter Try.func56, Try.ntmps56
  go_wp2_with (first | (with_reducible refine stop_store ?_) | (with_reducible refine stop_box ?_) | (with_reducible refine stop_alloc ?_) | (with_reducible refine stop_bslice ?_) | (with_reducible refine stop_append ?_))
  unfold Kept
  refine go_mem (ty := 25) (cs := #[.int .u64 (W64 a1), .int .i64 a2, .int .u64 (W64 a3), .int .u64 (W64 a4), .int .u64 (W64 a5)]) (fun g => .pointer (some ⟨g, 0, none⟩)) rfl (by kernel_rfl) ?_
  intro g_1 w_2 z_6 l_5 hb_3 G_4
  have n_7 : w.heap.size ≤ g_1 := l_5
  have hB := hb_3
  clear hb_3 l_5 z_6
  go_wp2_with (first | (with_reducible refine stop_store ?_) | (with_reducible refine stop_box ?_) | (with_reducible refine stop_alloc ?_) | (with_reducible refine stop_bslice ?_) | (with_reducible refine stop_append ?_))
  unfold Kept
  refine go_mem (ty := 71) (cs := #[.bool true, .bool true, .int .u32 (W32 ix)]) (fun g => .pointer (some ⟨g, 0, none⟩)) rfl (by kernel_rfl) ?_
  intro g_8 w_9 z_13 l_12 hb_10 G_11
  have n_14 : g_1 < g_8 := Nat.lt_of_lt_of_le G_4.lt l_12
  have n_15 : w.heap.size ≤ g_8 := Nat.le_trans hB.size l_12
  replace G_4 := G_4.to hb_10 G_4.lt
  replace hB := hB.trans (hb_10.mono hB.size)
  clear hb_10 l_12 z_13
  have ld_16 : w_9.cell? ⟨g_8, 0, none⟩ = some (.bool true) := G_11.cell 0
  have ld_17 : w_9.cell? ⟨g_8, 1, none⟩ = some (.bool true) := G_11.cell 1
  go_wp2_with (first | (with_reducible refine stop_store ?_) | (with_reducible refine stop_box ?_) | (with_reducible refine stop_alloc ?_) | (with_reducible refine stop_bslice ?_) | (with_reducible refine stop_append ?_))
  unfold Kept
  refine go_mem (ty := 5) (cs := #[.int .u8 3]) (fun g => .slice (some ⟨g, 0, none⟩) 1 1) rfl (by kernel_rfl) ?_
  intro g_18 w_19 z_23 l_22 hb_20 G_21
  clear ld_16 ld_17
  have n_24 : g_8 < g_18 := Nat.lt_of_lt_of_le G_11.lt l_22
  have n_25 : w.heap.size ≤ g_18 := Nat.le_trans hB.size l_22
  replace G_4 := G_4.to hb_20 G_4.lt
  replace G_11 := G_11.to hb_20 G_11.lt
  replace hB := hB.trans (hb_20.mono hB.size)
  clear hb_20 l_22 z_23
  have ld_26 : w_19.cell? ⟨g_8, 2, none⟩ = some (.int .u32 (W32 ix)) := G_11.cell 2
  go_wp2_with (first | (with_reducible refine stop_store ?_) | (with_reducible refine stop_box ?_) | (with_reducible refine stop_alloc ?_) | (with_reducible refine stop_bslice ?_) | (with_reducible refine stop_append ?_))
  refine (retB_at (ref2_Num 4 (ix.setWidth 64) _ (by decide) (by decide)) (numB_length _ _) hB.size).mono ?_; rintro e w_27 ⟨A6_5, c6_5, rfl, R6_5, hb_28⟩
  clear ld_26
  replace G_4 := G_4.to hb_28 G_4.lt
  replace G_11 := G_11.to hb_28 G_11.lt
  replace G_21 := G_21.to hb_28 G_21.lt
  replace hB := hB.trans (hb_28.mono hB.size)
  clear hb_28
  go_wp2_with (first | (with_reducible refine stop_store ?_) | (with_reducible refine stop_box ?_) | (with_reducible refine stop_alloc ?_) | (with_reducible refine stop_bslice ?_) | (with_reducible refine stop_append ?_))
  unfold Kept
  refine wpList_append_rd _ rfl _ _ 45 rfl w.heap.size 5 i0 _ 1 1 Try.underlying45 hi0 hz0 hz1 hz2 rfl (by omega) (.slice (some ⟨g_18, 0, none⟩) 1 1) 1 (bcells [3#8]) rfl (own_of_blk (l := [3#8]) G_21 (by omega) (by decide)) A6_5 4 c6_5 (bcells (numB 4 (ix.setWidth 64))) rfl (Rd.of_own R6_5) (R6_5.1) ((bcells_one _)) (by simp only [maxLen]; omega) (by omega) hB.size ?_
  intro A_29 c_30 w_31 ho_32 hb_33 hg_34
  replace ho_32 : w_31.ownsRow w.heap.size 5 1 (.slice A_29 5 c_30) 5 ((bcells ([3#8] ++ (numB 4 (ix.setWidth 64))))) := by rw [bcells_append]; exact ho_32
  replace G_4 := Blk.own G_4 (own_of_blk (l := [3#8]) G_21 (by omega) (by decide)) (by decide) hg_34
  replace G_11 := Blk.own G_11 (own_of_blk (l := [3#8]) G_21 (by omega) (by decide)) (by decide) hg_34
  clear R6_5
  replace hB := hB.trans hb_33
  clear G_21
  clear hg_34 hb_33
  have ld_35 : w_31.cell? ⟨g_1, 4, none⟩ = some (.int .u64 (W64 a5)) := G_4.cell 4
  go_wp2_with (first | (with_reducible refine stop_store ?_) | (with_reducible refine stop_box ?_) | (with_reducible refine stop_alloc ?_) | (with_reducible refine stop_bslice ?_) | (with_reducible refine stop_append ?_))
  refine (HT.out _ _ _ (Rd.of_own ho_32) (own_cap ho_32).1).mono ?_; rintro e w_36 ⟨rfl, hb_37⟩
  clear ld_35
  replace G_4 := G_4.to hb_37 G_4.lt
  replace G_11 := G_11.to hb_37 G_11.lt
  replace ho_32 := own_to ho_32 hb_37
  replace hB := hB.trans (hb_37.mono hB.size)
  clear hb_37
  go_wp2_with (first | (with_reducible refine stop_store ?_) | (with_reducible refine stop_box ?_) | (with_reducible refine stop_alloc ?_) | (with_reducible refine stop_bslice ?_) | (with_reducible refine stop_append ?_))
  refine (retB_at (ref2_Num 8 tg _ (by decide) (by decide)) (numB_length _ _) hB.size).mono ?_; rintro e w_38 ⟨A7_5, c7_5, rfl, R7_5, hb_39⟩
  replace G_4 := G_4.to hb_39 G_4.lt
  replace G_11 := G_11.to hb_39 G_11.lt
  replace ho_32 := own_to ho_32 hb_39
  replace hB := hB.trans (hb_39.mono hB.size)
  clear hb_39
  go_wp2_with (first | (with_reducible refine stop_store ?_) | (with_reducible refine stop_box ?_) | (with_reducible refine stop_alloc ?_) | (with_reducible refine stop_bslice ?_) | (with_reducible refine stop_append ?_))
  unfold Kept
  refine wpList_append_rd _ rfl _ _ 45 rfl w.heap.size 5 i0 _ 1 1 Try.underlying45 hi0 hz0 hz1 hz2 rfl (by omega) (.slice A_29 5 c_30) 5 (bcells ([3#8] ++ (numB 4 (ix.setWidth 64)))) rfl (ho_32) A7_5 8 c7_5 (bcells (numB 8 tg)) rfl (Rd.of_own R7_5) (R7_5.1) ((bcells_one _)) (by simp only [maxLen]; omega) (by omega) hB.size ?_
  intro A_40 c_41 w_42 ho_43 hb_44 hg_45
  replace ho_43 : w_42.ownsRow w.heap.size 5 1 (.slice A_40 13 c_41) 13 ((bcells (([3#8] ++ (numB 4 (ix.setWidth 64))) ++ (numB 8 tg)))) := by rw [bcells_append]; exact ho_43
  replace G_4 := Blk.own G_4 (ho_32) (by decide) hg_45
  replace G_11 := Blk.own G_11 (ho_32) (by decide) hg_45
  clear R7_5
  replace hB := hB.trans hb_44
  clear ho_32
  clear hg_45 hb_44
  go_wp2_with (first | (with_reducible refine stop_store ?_) | (with_reducible refine stop_box ?_) | (with_reducible refine stop_alloc ?_) | (with_reducible refine stop_bslice ?_) | (with_reducible refine stop_append ?_))
  go_returns
  exact ⟨A_40, _, rfl, ho_43, hB⟩
theorem r52_Encode (k : NK) (b : Bea) (w : World) :
    Calls Try.prog 56 #[.agg (nkA k), .agg (beA b)] w (RetB w (beaB k b)) := by
  obtain ⟨a1, a2, a3, a4, a5⟩ := k
  obtain ⟨rf, up, ix⟩ := b
  cases rf <;> cases up
  · exact r52_Encode_false_false a1 a2 a3 a4 a5 ix w
  · exact r52_Encode_false_true a1 a2 a3 a4 a5 ix w
  · exact r52_Encode_true_false a1 a2 a3 a4 a5 ix w
  · exact r52_Encode_true_true a1 a2 a3 a4 a5 ix w
end Go.Proofs.Ytmehemojopfihaa
