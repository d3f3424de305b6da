/- Law walks of layer 48 (netpdu). -/
import Derived.Test.YtbkaeoaepmeceaaNetG
namespace Go.Proofs.Ytbkaeoaepmeceaa
set_option maxRecDepth 100000
open Go.ChangeShapes Go.WideShapes Go.ChangeAt Go.RowKit
set_option linter.unusedVariables false
set_option linter.unusedSimpArgs false

theorem enc0 : ∃ rt, encN ⟨1#64, 5, 2#64, 3#64, 0#64⟩ ⟨7#32, 5, false, 4, 9#32, 1#16, 2#16, [6#8]⟩ = (133#8 :: rt, 0) ∧ (133#8 :: rt).length = 14 ∧ decN ⟨1#64, 5, 2#64, 3#64, 0#64⟩ 7#32 (133#8 :: rt) = (⟨7#32, 5, false, 4, 9#32, 1#16, 2#16, [6#8]⟩, 0) := by
  have hck : checkN ⟨7#32, 5, false, 4, 9#32, 1#16, 2#16, [6#8]⟩ = 0 := by decide
  have hd := dec_enc ⟨1#64, 5, 2#64, 3#64, 0#64⟩ ⟨7#32, 5, false, 4, 9#32, 1#16, 2#16, [6#8]⟩ hck rfl
  have hl := encB_length ⟨1#64, 5, 2#64, 3#64, 0#64⟩ ⟨7#32, 5, false, 4, 9#32, 1#16, 2#16, [6#8]⟩
  have hh := (encB_drop ⟨1#64, 5, 2#64, 3#64, 0#64⟩ ⟨7#32, 5, false, 4, 9#32, 1#16, 2#16, [6#8]⟩).2.2
  have he : encN ⟨1#64, 5, 2#64, 3#64, 0#64⟩ ⟨7#32, 5, false, 4, 9#32, 1#16, 2#16, [6#8]⟩ = (encB ⟨1#64, 5, 2#64, 3#64, 0#64⟩ ⟨7#32, 5, false, 4, 9#32, 1#16, 2#16, [6#8]⟩, 0) := by unfold encN; rw [hck, if_neg (by decide), if_neg (by decide)]
  rcases hb : encB ⟨1#64, 5, 2#64, 3#64, 0#64⟩ ⟨7#32, 5, false, 4, 9#32, 1#16, 2#16, [6#8]⟩ with _ | ⟨b, rt⟩
  · rw [hb] at hl; simp at hl
  · rw [hb] at hd hl hh he
    have hb0 : b = 133#8 := by rw [show b = headN 7#32 5 from hh]; decide
    subst hb0
    exact ⟨rt, he, hl, hd⟩
set_option maxHeartbeats 4000000 in
theorem lives48  (w : World) :
    Calls Try.prog 25 #[] w fun e w' => e = .returned (.bool true) ∧ Below w.heap.size w w' := by
  obtain ⟨rt, henc, hlen, hdec⟩ := enc0
  have CE := Lib.hid (fun W A' c' (h : RdB W A' [6#8]) => show Calls Try.prog 32 #[.agg #[.int .u64 1, .int .i64 5, .int .u64 2, .int .u64 3, .int .u64 0], .agg #[.int .u32 7, .int .i64 5, .bool false, .int .i64 4, .int .u32 9, .int .u16 1, .int .u16 2, .slice A' 1 c']] W fun e w' => ∃ q qo c1, e = .returned (.tuple #[.slice (some ⟨q, qo, none⟩) 14 c1, .int .i64 0]) ∧ RdB w' (some ⟨q, qo, none⟩) (133#8 :: rt) ∧ 14 ≤ c1 ∧ Below W.heap.size W w' from by
    have := net_EncodeA ⟨1#64, 5, 2#64, 3#64, 0#64⟩ ⟨7#32, 5, false, 4, 9#32, 1#16, 2#16, [6#8]⟩ A' c' W h
    rw [henc] at this
    refine this.mono ?_
    rintro e w' ⟨A, c, rfl, hr, hc, hb⟩
    dsimp only at hr hc
    obtain ⟨q, qo, rfl, _, _⟩ := Rd.open_ hr (by rw [bcells_length]; exact Nat.succ_pos _)
    rw [hlen] at hc
    exact ⟨q, qo, c, by dsimp only; rw [hlen], hr, hc, hb⟩)
  have CD := Lib.hid (fun W B d (h : RdB W B (133#8 :: rt)) (hd : 14 ≤ d) => show Calls Try.prog 34 #[.agg #[.int .u64 1, .int .i64 5, .int .u64 2, .int .u64 3, .int .u64 0], .int .u32 7, .slice B 14 d] W fun e w' => ∃ A1 c1, e = .returned (.tuple #[.agg #[.int .u32 7, .int .i64 5, .bool false, .int .i64 4, .int .u32 9, .int .u16 1, .int .u16 2, .slice A1 1 c1], .int .i64 0]) ∧ RdB w' A1 [6#8] ∧ Below W.heap.size W w' from by
    have := net_Decode ⟨1#64, 5, 2#64, 3#64, 0#64⟩ 7#32 B d (133#8 :: rt) W h (by rw [hlen]; exact hd)
    rw [hdec, hlen] at this
    exact this.mono fun e w' ⟨A, c, he, hr, _, hb⟩ => ⟨A, c, he, hr, hb⟩)
  have CH := Lib.hid (fun W g (h : RdB W (some ⟨g, 0, none⟩) [133#8]) => show Calls Try.prog 36 #[.slice (some ⟨g, 0, none⟩) 1 1] W fun e w' => e = .returned (.tuple #[.int .i64 1, .int .i64 5, .int .i64 0]) ∧ Below W.heap.size W w' from net_Hint (some ⟨g, 0, none⟩) 1 [133#8] W h)
  have CM := Lib.hid (fun W A1 c1 A2 c2 (h1 : RdB W A1 [6#8]) (h2 : RdB W A2 [6#8]) => show Calls Try.prog 38 #[.agg #[.int .u32 7, .int .i64 5, .bool false, .int .i64 4, .int .u32 9, .int .u16 1, .int .u16 2, .slice A1 1 c1], .agg #[.int .u32 7, .int .i64 5, .bool false, .int .i64 4, .int .u32 9, .int .u16 1, .int .u16 2, .slice A2 1 c2]] W fun e w' => e = .returned (.bool true) ∧ Below W.heap.size W w' from by
    have := r48_Same ⟨7#32, 5, false, 4, 9#32, 1#16, 2#16, [6#8]⟩ ⟨7#32, 5, false, 4, 9#32, 1#16, 2#16, [6#8]⟩ A1 c1 A2 c2 W h1 h2
    rw [decide_eq_true rfl] at this
    exact this)
  have CN1 := Lib.hid (fun W => show Calls Try.prog 28 #[.int .u16 1] W fun e w' => e = .returned (.bool true) ∧ Below W.heap.size W w' from net_Node 1#16 W)
  have CN2 := Lib.hid (fun W => show Calls Try.prog 28 #[.int .u16 32768] W fun e w' => e = .returned (.bool false) ∧ Below W.heap.size W w' from net_Node 32768#16 W)
  have CG1 := Lib.hid (fun W => show Calls Try.prog 30 #[.int .u16 49152] W fun e w' => e = .returned (.bool true) ∧ Below W.heap.size W w' from net_Group 49152#16 W)
  have CG2 := Lib.hid (fun W => show Calls Try.prog 30 #[.int .u16 49151] W fun e w' => e = .returned (.bool false) ∧ Below W.heap.size W w' from net_Group 49151#16 W)
  clear henc hlen hdec
  go_enter Try.func25, Try.ntmps25
  have hB := Below.refl w.heap.size w
  go_wp2_with (first | (with_reducible refine stop_store ?_) | (with_reducible refine stop_box ?_) | (with_reducible refine stop_alloc ?_) | (with_reducible refine stop_bslice ?_))
  unfold Kept
  refine go_mem (ty := 25) (cs := #[.int .u64 0, .int .i64 0, .int .u64 0, .int .u64 0, .int .u64 0]) (fun g => .pointer (some ⟨g, 0, none⟩)) rfl (by kernel_rfl) ?_
  intro g_1 w_2 z_6 l_5 hb_3 G_4
  have n_7 : w.heap.size ≤ g_1 := Nat.le_trans hB.size l_5
  replace hB := hB.trans (hb_3.mono hB.size)
  clear hb_3 l_5 z_6
  go_wp2_with (first | (with_reducible refine stop_store ?_) | (with_reducible refine stop_box ?_) | (with_reducible refine stop_alloc ?_) | (with_reducible refine stop_bslice ?_))
  unfold Kept
  refine wpList_st 0 #[.int .u64 1, .int .i64 5, .int .u64 2, .int .u64 3, .int .u64 0] #[.int .u64 1, .int .i64 5, .int .u64 2, .int .u64 3, .int .u64 0] G_4 rfl rfl (by kernel_rfl) rfl (of_decide_eq_true rfl) rfl ?_
  intro w_8 G_10 hU_9
  replace hB := hU_9.below hB (by omega)
  clear G_4 hU_9
  go_wp2_with (first | (with_reducible refine stop_store ?_) | (with_reducible refine stop_box ?_) | (with_reducible refine stop_alloc ?_) | (with_reducible refine stop_bslice ?_))
  unfold Kept
  refine go_mem (ty := 5) (cs := #[.int .u8 6]) (fun g => .slice (some ⟨g, 0, none⟩) 1 1) rfl (by kernel_rfl) ?_
  intro g_11 w_12 z_16 l_15 hb_13 G_14
  have n_17 : g_1 < g_11 := Nat.lt_of_lt_of_le G_10.lt l_15
  have n_18 : w.heap.size ≤ g_11 := Nat.le_trans hB.size l_15
  replace G_10 := G_10.to hb_13 G_10.lt
  replace hB := hB.trans (hb_13.mono hB.size)
  clear hb_13 l_15 z_16
  go_wp2_with (first | (with_reducible refine stop_store ?_) | (with_reducible refine stop_box ?_) | (with_reducible refine stop_alloc ?_) | (with_reducible refine stop_bslice ?_))
  unfold Kept
  refine go_mem (ty := 44) (cs := #[.int .u32 0, .int .i64 0, .bool false, .int .i64 0, .int .u32 0, .int .u16 0, .int .u16 0, .slice none 0 0]) (fun g => .pointer (some ⟨g, 0, none⟩)) rfl (by kernel_rfl) ?_
  intro g_19 w_20 z_24 l_23 hb_21 G_22
  have n_25 : g_11 < g_19 := Nat.lt_of_lt_of_le G_14.lt l_23
  have n_26 : w.heap.size ≤ g_19 := Nat.le_trans hB.size l_23
  replace G_10 := G_10.to hb_21 G_10.lt
  replace G_14 := G_14.to hb_21 G_14.lt
  replace hB := hB.trans (hb_21.mono hB.size)
  clear hb_21 l_23 z_24
  go_wp2_with (first | (with_reducible refine stop_store ?_) | (with_reducible refine stop_box ?_) | (with_reducible refine stop_alloc ?_) | (with_reducible refine stop_bslice ?_))
  unfold Kept
  refine wpList_st 0 #[.int .u32 7, .int .i64 5, .bool false, .int .i64 4, .int .u32 9, .int .u16 1, .int .u16 2, .slice (some ⟨g_11, 0, none⟩) 1 1] #[.int .u32 7, .int .i64 5, .bool false, .int .i64 4, .int .u32 9, .int .u16 1, .int .u16 2, .slice (some ⟨g_11, 0, none⟩) 1 1] G_22 rfl rfl (by kernel_rfl) rfl (of_decide_eq_true rfl) rfl ?_
  intro w_27 G_29 hU_28
  replace G_10 := hU_28.blk G_10 (by omega)
  replace G_14 := hU_28.blk G_14 (by omega)
  replace hB := hU_28.below hB (by omega)
  clear G_22 hU_28
  go_wp2_with (first | (with_reducible refine stop_store ?_) | (with_reducible refine stop_box ?_) | (with_reducible refine stop_alloc ?_) | (with_reducible refine stop_bslice ?_) | ((with_reducible refine wpList_ld 0 [.int .u64 1, .int .i64 5, .int .u64 2, .int .u64 3, .int .u64 0] G_10 ?_ ?_ Try.underlying25 ?_ ?_ ?_); rfl; rfl; rfl; kernel_rfl) | ((with_reducible refine wpList_ld 0 [.int .u32 7, .int .i64 5, .bool false, .int .i64 4, .int .u32 9, .int .u16 1, .int .u16 2, .slice (some ⟨g_11, 0, none⟩) 1 1] G_29 ?_ ?_ Try.underlying44 ?_ ?_ ?_); rfl; rfl; rfl; kernel_rfl) | ((with_reducible refine wpList_ldg 0 [.int .u32 7, .int .i64 5, .bool false, .int .i64 4, .int .u32 9, .int .u16 1, .int .u16 2, .slice (some ⟨g_11, 0, none⟩) 1 1] G_29 ?_ ?_ Try.underlying44 ?_ ?_ ?_ ?_); rfl; rfl; rfl; kernel_rfl; rfl))
  refine (CE.out _ (some ⟨g_11, 0, none⟩) 1 (rd_blk G_14)).mono ?_; rintro e w_32 ⟨q, qo, c1, rfl, RE, lE, hb_33⟩
  replace G_10 := G_10.to hb_33 G_10.lt
  replace G_14 := G_14.to hb_33 G_14.lt
  replace G_29 := G_29.to hb_33 G_29.lt
  replace hB := hB.trans (hb_33.mono hB.size)
  clear hb_33
  go_wp2_with (first | (with_reducible refine stop_store ?_) | (with_reducible refine stop_box ?_) | (with_reducible refine stop_alloc ?_) | (with_reducible refine stop_bslice ?_) | ((with_reducible refine wpList_ld 0 [.int .u64 1, .int .i64 5, .int .u64 2, .int .u64 3, .int .u64 0] G_10 ?_ ?_ Try.underlying25 ?_ ?_ ?_); rfl; rfl; rfl; kernel_rfl))
  refine (CD.out _ _ _ RE lE).mono ?_; rintro e w_35 ⟨A2, c2, rfl, RD, hb_36⟩
  replace G_10 := G_10.to hb_36 G_10.lt
  replace G_14 := G_14.to hb_36 G_14.lt
  replace G_29 := G_29.to hb_36 G_29.lt
  replace RE := Rd.to RE hb_36
  replace hB := hB.trans (hb_36.mono hB.size)
  clear hb_36
  go_wp2_with (first | (with_reducible refine stop_store ?_) | (with_reducible refine stop_box ?_) | (with_reducible refine stop_alloc ?_) | (with_reducible refine stop_bslice ?_))
  unfold Kept
  refine go_mem (ty := 44) (cs := #[.int .u32 0, .int .i64 0, .bool false, .int .i64 0, .int .u32 0, .int .u16 0, .int .u16 0, .slice none 0 0]) (fun g => .pointer (some ⟨g, 0, none⟩)) rfl (by kernel_rfl) ?_
  intro g_37 w_38 z_42 l_41 hb_39 G_40
  have n_43 : g_19 < g_37 := Nat.lt_of_lt_of_le G_29.lt l_41
  have n_44 : w.heap.size ≤ g_37 := Nat.le_trans hB.size l_41
  replace G_10 := G_10.to hb_39 G_10.lt
  replace G_14 := G_14.to hb_39 G_14.lt
  replace G_29 := G_29.to hb_39 G_29.lt
  replace RE := Rd.to RE hb_39
  replace RD := Rd.to RD hb_39
  replace hB := hB.trans (hb_39.mono hB.size)
  clear hb_39 l_41 z_42
  go_wp2_with (first | (with_reducible refine stop_store ?_) | (with_reducible refine stop_box ?_) | (with_reducible refine stop_alloc ?_) | (with_reducible refine stop_bslice ?_))
  unfold Kept
  refine wpList_st 0 #[.int .u32 7, .int .i64 5, .bool false, .int .i64 4, .int .u32 9, .int .u16 1, .int .u16 2, .slice A2 1 c2] #[.int .u32 7, .int .i64 5, .bool false, .int .i64 4, .int .u32 9, .int .u16 1, .int .u16 2, .slice A2 1 c2] G_40 rfl rfl (by kernel_rfl) rfl (of_decide_eq_true rfl) rfl ?_
  intro w_45 G_47 hU_46
  replace G_10 := hU_46.blk G_10 (by omega)
  replace G_14 := hU_46.blk G_14 (by omega)
  replace G_29 := hU_46.blk G_29 (by omega)
  replace RE := RdB.upd RE G_40 hU_46 (by rfl)
  replace RD := RdB.upd RD G_40 hU_46 (by rfl)
  replace hB := hU_46.below hB (by omega)
  clear G_40 hU_46
  go_wp2_with (first | (with_reducible refine stop_store ?_) | (with_reducible refine stop_box ?_) | (with_reducible refine stop_alloc ?_) | (with_reducible refine stop_bslice ?_))
  unfold Kept
  refine go_mem (ty := 5) (cs := #[.int .u8 133]) (fun g => .slice (some ⟨g, 0, none⟩) 1 1) rfl (by kernel_rfl) ?_
  intro g_48 w_49 z_53 l_52 hb_50 G_51
  have n_54 : g_37 < g_48 := Nat.lt_of_lt_of_le G_47.lt l_52
  have n_55 : w.heap.size ≤ g_48 := Nat.le_trans hB.size l_52
  replace G_10 := G_10.to hb_50 G_10.lt
  replace G_14 := G_14.to hb_50 G_14.lt
  replace G_29 := G_29.to hb_50 G_29.lt
  replace G_47 := G_47.to hb_50 G_47.lt
  replace RE := Rd.to RE hb_50
  replace RD := Rd.to RD hb_50
  replace hB := hB.trans (hb_50.mono hB.size)
  clear hb_50 l_52 z_53
  go_wp2_with (first | (with_reducible refine stop_store ?_) | (with_reducible refine stop_box ?_) | (with_reducible refine stop_alloc ?_) | (with_reducible refine stop_bslice ?_))
  refine (CH.out _ _ (rd_blk G_51)).mono ?_; rintro e w_56 ⟨rfl, hb_57⟩
  replace G_10 := G_10.to hb_57 G_10.lt
  replace G_14 := G_14.to hb_57 G_14.lt
  replace G_29 := G_29.to hb_57 G_29.lt
  replace G_47 := G_47.to hb_57 G_47.lt
  replace G_51 := G_51.to hb_57 G_51.lt
  replace RE := Rd.to RE hb_57
  replace RD := Rd.to RD hb_57
  replace hB := hB.trans (hb_57.mono hB.size)
  clear hb_57
  have ld_58 : w_56.cell? ⟨q, qo, none⟩ = some (.int .u8 133) := (rg_at RE 0 1 [.int .u8 133] rfl (Nat.succ_pos _)).2 0 _ rfl
  go_wp2_with (first | (with_reducible refine stop_store ?_) | (with_reducible refine stop_box ?_) | (with_reducible refine stop_alloc ?_) | (with_reducible refine stop_bslice ?_) | ((with_reducible refine wpList_ld 0 [.int .u32 7, .int .i64 5, .bool false, .int .i64 4, .int .u32 9, .int .u16 1, .int .u16 2, .slice (some ⟨g_11, 0, none⟩) 1 1] G_29 ?_ ?_ Try.underlying44 ?_ ?_ ?_); rfl; rfl; rfl; kernel_rfl) | ((with_reducible refine wpList_ldg 0 [.int .u32 7, .int .i64 5, .bool false, .int .i64 4, .int .u32 9, .int .u16 1, .int .u16 2, .slice (some ⟨g_11, 0, none⟩) 1 1] G_29 ?_ ?_ Try.underlying44 ?_ ?_ ?_ ?_); rfl; rfl; rfl; kernel_rfl; rfl) | ((with_reducible refine wpList_ld 0 [.int .u32 7, .int .i64 5, .bool false, .int .i64 4, .int .u32 9, .int .u16 1, .int .u16 2, .slice A2 1 c2] G_47 ?_ ?_ Try.underlying44 ?_ ?_ ?_); rfl; rfl; rfl; kernel_rfl) | ((with_reducible refine wpList_ldg 0 [.int .u32 7, .int .i64 5, .bool false, .int .i64 4, .int .u32 9, .int .u16 1, .int .u16 2, .slice A2 1 c2] G_47 ?_ ?_ Try.underlying44 ?_ ?_ ?_ ?_); rfl; rfl; rfl; kernel_rfl; rfl))
  refine (CM.out _ _ _ _ _ (rd_blk G_14) (RD)).mono ?_; rintro e w_61 ⟨rfl, hb_62⟩
  clear ld_58
  replace G_10 := G_10.to hb_62 G_10.lt
  replace G_14 := G_14.to hb_62 G_14.lt
  replace G_29 := G_29.to hb_62 G_29.lt
  replace G_47 := G_47.to hb_62 G_47.lt
  replace G_51 := G_51.to hb_62 G_51.lt
  replace RE := Rd.to RE hb_62
  replace RD := Rd.to RD hb_62
  replace hB := hB.trans (hb_62.mono hB.size)
  clear hb_62
  go_wp2_with (first | (with_reducible refine stop_store ?_) | (with_reducible refine stop_box ?_) | (with_reducible refine stop_alloc ?_) | (with_reducible refine stop_bslice ?_))
  refine (CN1.out _).mono ?_; rintro e w_63 ⟨rfl, hb_64⟩
  replace G_10 := G_10.to hb_64 G_10.lt
  replace G_14 := G_14.to hb_64 G_14.lt
  replace G_29 := G_29.to hb_64 G_29.lt
  replace G_47 := G_47.to hb_64 G_47.lt
  replace G_51 := G_51.to hb_64 G_51.lt
  replace RE := Rd.to RE hb_64
  replace RD := Rd.to RD hb_64
  replace hB := hB.trans (hb_64.mono hB.size)
  clear hb_64
  go_wp2_with (first | (with_reducible refine stop_store ?_) | (with_reducible refine stop_box ?_) | (with_reducible refine stop_alloc ?_) | (with_reducible refine stop_bslice ?_))
  refine (CN2.out _).mono ?_; rintro e w_65 ⟨rfl, hb_66⟩
  replace G_10 := G_10.to hb_66 G_10.lt
  replace G_14 := G_14.to hb_66 G_14.lt
  replace G_29 := G_29.to hb_66 G_29.lt
  replace G_47 := G_47.to hb_66 G_47.lt
  replace G_51 := G_51.to hb_66 G_51.lt
  replace RE := Rd.to RE hb_66
  replace RD := Rd.to RD hb_66
  replace hB := hB.trans (hb_66.mono hB.size)
  clear hb_66
  go_wp2_with (first | (with_reducible refine stop_store ?_) | (with_reducible refine stop_box ?_) | (with_reducible refine stop_alloc ?_) | (with_reducible refine stop_bslice ?_))
  refine (CG1.out _).mono ?_; rintro e w_67 ⟨rfl, hb_68⟩
  replace G_10 := G_10.to hb_68 G_10.lt
  replace G_14 := G_14.to hb_68 G_14.lt
  replace G_29 := G_29.to hb_68 G_29.lt
  replace G_47 := G_47.to hb_68 G_47.lt
  replace G_51 := G_51.to hb_68 G_51.lt
  replace RE := Rd.to RE hb_68
  replace RD := Rd.to RD hb_68
  replace hB := hB.trans (hb_68.mono hB.size)
  clear hb_68
  go_wp2_with (first | (with_reducible refine stop_store ?_) | (with_reducible refine stop_box ?_) | (with_reducible refine stop_alloc ?_) | (with_reducible refine stop_bslice ?_))
  refine (CG2.out _).mono ?_; rintro e w_69 ⟨rfl, hb_70⟩
  replace G_10 := G_10.to hb_70 G_10.lt
  replace G_14 := G_14.to hb_70 G_14.lt
  replace G_29 := G_29.to hb_70 G_29.lt
  replace G_47 := G_47.to hb_70 G_47.lt
  replace G_51 := G_51.to hb_70 G_51.lt
  replace RE := Rd.to RE hb_70
  replace RD := Rd.to RD hb_70
  replace hB := hB.trans (hb_70.mono hB.size)
  clear hb_70
  go_wp2_with (first | (with_reducible refine stop_store ?_) | (with_reducible refine stop_box ?_) | (with_reducible refine stop_alloc ?_) | (with_reducible refine stop_bslice ?_))
  go_returns
  exact ⟨rfl, hB⟩
set_option maxHeartbeats 1000000 in
theorem nchk_g (iv : BitVec 32) (nid : Int) (ctl : Bool) (ttl : Int) (seq : BitVec 32) (src dst : BitVec 16) (A : Option Addr) (c : Nat) (pay : List (BitVec 8)) (a : BitVec 16) (w : World) (hl : 100 < pay.length) :
    Calls Try.prog 8 #[.agg #[.int .u32 (W32 iv), .int .i64 nid, .bool ctl, .int .i64 ttl, .int .u32 (W32 seq), .int .u16 (W16 src), .int .u16 (W16 dst), .slice A pay.length c], .int .u16 (W16 a)] w fun e w' => e = .returned (.bool true) ∧ Below w.heap.size w w' := by
  have i9 : decide ((100 : Int) < ((pay.length : Nat) : Int)) = true := by simp; omega
  clear hl
  go_enter Try.func8, Try.ntmps8
  go_wp2_with (first | (with_reducible refine stop_store ?_) | (with_reducible refine stop_box ?_) | (with_reducible refine stop_alloc ?_) | (with_reducible refine stop_bslice ?_))
  unfold Kept
  refine go_mem (ty := 44) (cs := #[.int .u32 (W32 iv), .int .i64 nid, .bool ctl, .int .i64 ttl, .int .u32 (W32 seq), .int .u16 (W16 src), .int .u16 (W16 dst), .slice A pay.length c]) (fun g => .pointer (some ⟨g, 0, none⟩)) rfl (by kernel_rfl) ?_
  intro g_1 w_2 z_6 l_5 hb_3 G_4
  have n_7 : w.heap.size ≤ g_1 := l_5
  have hB := hb_3
  clear hb_3 l_5 z_6
  have ld_8 : w_2.cell? ⟨g_1, 7, none⟩ = some (.slice A pay.length c) := G_4.cell 7
  go_wp2_with (first | (with_reducible refine stop_store ?_) | (with_reducible refine stop_box ?_) | (with_reducible refine stop_alloc ?_) | (with_reducible refine stop_bslice ?_))
  refine (lives48 _).mono ?_; rintro e w_9 ⟨rfl, hb_10⟩
  clear ld_8
  replace G_4 := G_4.to hb_10 G_4.lt
  replace hB := hB.trans (hb_10.mono hB.size)
  clear hb_10
  go_wp2_with (first | (with_reducible refine stop_store ?_) | (with_reducible refine stop_box ?_) | (with_reducible refine stop_alloc ?_) | (with_reducible refine stop_bslice ?_))
  go_returns
  exact ⟨rfl, hB⟩
set_option maxHeartbeats 4000000 in
theorem nchk_m (iv : BitVec 32) (nid : Int) (ctl : Bool) (ttl : Int) (seq : BitVec 32) (src dst : BitVec 16) (A : Option Addr) (c : Nat) (pay : List (BitVec 8)) (a : BitVec 16) (w : World) (hl : pay.length ≤ 100) :
    Calls Try.prog 8 #[.agg #[.int .u32 (W32 iv), .int .i64 nid, .bool ctl, .int .i64 ttl, .int .u32 (W32 seq), .int .u16 (W16 src), .int .u16 (W16 dst), .slice A pay.length c], .int .u16 (W16 a)] w fun e w' => e = .returned (.bool true) ∧ Below w.heap.size w w' := by
  obtain ⟨ck, hck⟩ : ∃ x, checkN ⟨iv, nid, ctl, ttl, seq, src, dst, pay⟩ = x := ⟨_, rfl⟩
  obtain ⟨na, hna⟩ : ∃ x, nodeK a = x := ⟨_, rfl⟩
  obtain ⟨ga, hga⟩ : ∃ x, groupK a = x := ⟨_, rfl⟩
  have C0 := Lib.hid (fun W => show Calls Try.prog 26 #[.agg #[.int .u32 (W32 iv), .int .i64 nid, .bool ctl, .int .i64 ttl, .int .u32 (W32 seq), .int .u16 (W16 src), .int .u16 (W16 dst), .slice A pay.length c]] W fun e w' => e = .returned (.int .i64 ck) ∧ Below W.heap.size W w' from by have := net_Check ⟨iv, nid, ctl, ttl, seq, src, dst, pay⟩ A c W (by dsimp only; omega); rw [hck] at this; exact this)
  have N0 := Lib.hid (fun W => net_Node a W)
  have G0 := Lib.hid (fun W => net_Group a W)
  rw [hna] at N0
  rw [hga] at G0
  have C1 := Lib.hid (fun W => show Calls Try.prog 27 #[.agg #[.int .u32 (W32 iv), .int .i64 nid, .bool ctl, .int .i64 ttl, .int .u32 (W32 seq), .int .u16 (W16 src), .int .u16 (W16 dst), .slice A pay.length c]] W fun e w' => e = .returned (.int .i64 ck) ∧ Below W.heap.size W w' from by have := r48_Check ⟨iv, nid, ctl, ttl, seq, src, dst, pay⟩ A c W (by dsimp only; omega); rw [hck] at this; exact this)
  have N1 := Lib.hid (fun W => r48_Node a W)
  have G1 := Lib.hid (fun W => r48_Group a W)
  rw [hna] at N1
  rw [hga] at G1
  have i9 : decide ((100 : Int) < ((pay.length : Nat) : Int)) = false := by simp; omega
  clear hck hna hga hl
  go_enter Try.func8, Try.ntmps8
  go_wp2_with (first | (with_reducible refine stop_store ?_) | (with_reducible refine stop_box ?_) | (with_reducible refine stop_alloc ?_) | (with_reducible refine stop_bslice ?_))
  unfold Kept
  refine go_mem (ty := 44) (cs := #[.int .u32 (W32 iv), .int .i64 nid, .bool ctl, .int .i64 ttl, .int .u32 (W32 seq), .int .u16 (W16 src), .int .u16 (W16 dst), .slice A pay.length c]) (fun g => .pointer (some ⟨g, 0, none⟩)) rfl (by kernel_rfl) ?_
  intro g_1 w_2 z_6 l_5 hb_3 G_4
  have n_7 : w.heap.size ≤ g_1 := l_5
  have hB := hb_3
  clear hb_3 l_5 z_6
  have ld_8 : w_2.cell? ⟨g_1, 7, none⟩ = some (.slice A pay.length c) := G_4.cell 7
  go_wp2_with (first | (with_reducible refine stop_store ?_) | (with_reducible refine stop_box ?_) | (with_reducible refine stop_alloc ?_) | (with_reducible refine stop_bslice ?_))
  clear ld_8
  have hst : Stable fun W => Below w.heap.size w W ∧ Blk W g_1 44 #[.int .u32 (W32 iv), .int .i64 nid, .bool ctl, .int .i64 ttl, .int .u32 (W32 seq), .int .u16 (W16 src), .int .u16 (W16 dst), .slice A pay.length c] := stable_and (stable_below _ _ (Nat.le_refl _)) (stable_blk _ _ _)
  refine wp_region_v _ 23 hst ⟨hB.drew, G_4⟩ ?_
  clear hB G_4
  refine wpU_take (v := ?_) 0 hst (fun _ h => h) rfl ?_ ?_; rotate_left; (intro W hS K hK; clear hS; go_simp; refine (lives48 _).mono ?_; rintro e w9 ⟨rfl, hb⟩; refine CallPost.mk ?_; exact hK.out _ (hb)); simp only [Act.put, List.setIfInBounds_toArray, List.set_cons_zero, List.set_cons_succ]
  refine wpU_take (v := ?_) 1 hst (fun _ h => h) rfl ?_ ?_; rotate_left; (intro W hS K hK; clear hS; go_simp; exact hK.out _ (Below.refl _ _)); simp only [Act.put, List.setIfInBounds_toArray, List.set_cons_zero, List.set_cons_succ]
  refine wpU_take (v := .agg #[.int .u32 (W32 iv), .int .i64 nid, .bool ctl, .int .i64 ttl, .int .u32 (W32 seq), .int .u16 (W16 src), .int .u16 (W16 dst), .slice A pay.length c]) 2 hst (fun _ h => h) rfl (fun W hS K hK => calm_load rfl rfl (load_part hS.2 0 [.int .u32 (W32 iv), .int .i64 nid, .bool ctl, .int .i64 ttl, .int .u32 (W32 seq), .int .u16 (W16 src), .int .u16 (W16 dst), .slice A pay.length c] rfl Try.underlying44 rfl (by kernel_rfl)) (hK.out _ (Below.refl _ _))) ?_; simp only [Act.put, List.setIfInBounds_toArray, List.set_cons_zero, List.set_cons_succ]
  refine wpU_take (v := .agg #[.int .u32 (W32 iv), .int .i64 nid, .bool ctl, .int .i64 ttl, .int .u32 (W32 seq), .int .u16 (W16 src), .int .u16 (W16 dst), .slice A pay.length c]) 4 hst (fun _ h => h) rfl (fun W hS K hK => calm_load rfl rfl (load_part hS.2 0 [.int .u32 (W32 iv), .int .i64 nid, .bool ctl, .int .i64 ttl, .int .u32 (W32 seq), .int .u16 (W16 src), .int .u16 (W16 dst), .slice A pay.length c] rfl Try.underlying44 rfl (by kernel_rfl)) (hK.out _ (Below.refl _ _))) ?_; simp only [Act.put, List.setIfInBounds_toArray, List.set_cons_zero, List.set_cons_succ]
  refine wpU_take (v := ?_) 3 hst (fun _ h => h) rfl ?_ ?_; rotate_left; (intro W hS K hK; clear hS; go_simp; refine (C0.out _).mono ?_; rintro e w9 ⟨rfl, hb⟩; refine CallPost.mk ?_; exact hK.out _ (hb)); simp only [Act.put, List.setIfInBounds_toArray, List.set_cons_zero, List.set_cons_succ]
  refine wpU_take (v := ?_) 5 hst (fun _ h => h) rfl ?_ ?_; rotate_left; (intro W hS K hK; clear hS; go_simp; refine (C1.out _).mono ?_; rintro e w9 ⟨rfl, hb⟩; refine CallPost.mk ?_; exact hK.out _ (hb)); simp only [Act.put, List.setIfInBounds_toArray, List.set_cons_zero, List.set_cons_succ]
  refine wpU_take (v := ?_) 6 hst (fun _ h => h) rfl ?_ ?_; rotate_left; (intro W hS K hK; clear hS; go_simp; exact hK.out _ (Below.refl _ _)); simp only [Act.put, List.setIfInBounds_toArray, List.set_cons_zero, List.set_cons_succ]
  refine wpU_take (v := ?_) 7 hst (fun _ h => h) rfl ?_ ?_; rotate_left; (intro W hS K hK; clear hS; go_simp; exact hK.out _ (Below.refl _ _)); simp only [Act.put, List.setIfInBounds_toArray, List.set_cons_zero, List.set_cons_succ]
  refine wpU_take (v := ?_) 8 hst (fun _ h => h) rfl ?_ ?_; rotate_left; (intro W hS K hK; clear hS; go_simp; exact hK.out _ (Below.refl _ _)); simp only [Act.put, List.setIfInBounds_toArray, List.set_cons_zero, List.set_cons_succ]
  refine wpU_take (v := ?_) 9 hst (fun _ h => h) rfl ?_ ?_; rotate_left; (intro W hS K hK; clear hS; go_simp; exact hK.out _ (Below.refl _ _)); simp only [Act.put, List.setIfInBounds_toArray, List.set_cons_zero, List.set_cons_succ]
  refine wpU_take (v := ?_) 11 hst (fun _ h => h) rfl ?_ ?_; rotate_left; (intro W hS K hK; clear hS; go_simp; exact hK.out _ (Below.refl _ _)); simp only [Act.put, List.setIfInBounds_toArray, List.set_cons_zero, List.set_cons_succ]
  refine wpU_take (v := ?_) 10 hst (fun _ h => h) rfl ?_ ?_; rotate_left; (intro W hS K hK; clear hS; go_simp; refine (N0.out _).mono ?_; rintro e w9 ⟨rfl, hb⟩; refine CallPost.mk ?_; exact hK.out _ (hb)); simp only [Act.put, List.setIfInBounds_toArray, List.set_cons_zero, List.set_cons_succ]
  refine wpU_take (v := ?_) 12 hst (fun _ h => h) rfl ?_ ?_; rotate_left; (intro W hS K hK; clear hS; go_simp; refine (N1.out _).mono ?_; rintro e w9 ⟨rfl, hb⟩; refine CallPost.mk ?_; exact hK.out _ (hb)); simp only [Act.put, List.setIfInBounds_toArray, List.set_cons_zero, List.set_cons_succ]
  refine wpU_take (v := ?_) 13 hst (fun _ h => h) rfl ?_ ?_; rotate_left; (intro W hS K hK; clear hS; go_simp; exact hK.out _ (Below.refl _ _)); simp only [Act.put, List.setIfInBounds_toArray, List.set_cons_zero, List.set_cons_succ]
  refine wpU_take (v := ?_) 14 hst (fun _ h => h) rfl ?_ ?_; rotate_left; (intro W hS K hK; clear hS; go_simp; exact hK.out _ (Below.refl _ _)); simp only [Act.put, List.setIfInBounds_toArray, List.set_cons_zero, List.set_cons_succ]
  refine wpU_take (v := ?_) 15 hst (fun _ h => h) rfl ?_ ?_; rotate_left; (intro W hS K hK; clear hS; go_simp; exact hK.out _ (Below.refl _ _)); simp only [Act.put, List.setIfInBounds_toArray, List.set_cons_zero, List.set_cons_succ]
  refine wpU_take (v := ?_) 16 hst (fun _ h => h) rfl ?_ ?_; rotate_left; (intro W hS K hK; clear hS; go_simp; exact hK.out _ (Below.refl _ _)); simp only [Act.put, List.setIfInBounds_toArray, List.set_cons_zero, List.set_cons_succ]
  refine wpU_take (v := ?_) 18 hst (fun _ h => h) rfl ?_ ?_; rotate_left; (intro W hS K hK; clear hS; go_simp; exact hK.out _ (Below.refl _ _)); simp only [Act.put, List.setIfInBounds_toArray, List.set_cons_zero, List.set_cons_succ]
  refine wpU_take (v := ?_) 17 hst (fun _ h => h) rfl ?_ ?_; rotate_left; (intro W hS K hK; clear hS; go_simp; refine (G0.out _).mono ?_; rintro e w9 ⟨rfl, hb⟩; refine CallPost.mk ?_; exact hK.out _ (hb)); simp only [Act.put, List.setIfInBounds_toArray, List.set_cons_zero, List.set_cons_succ]
  refine wpU_take (v := ?_) 19 hst (fun _ h => h) rfl ?_ ?_; rotate_left; (intro W hS K hK; clear hS; go_simp; refine (G1.out _).mono ?_; rintro e w9 ⟨rfl, hb⟩; refine CallPost.mk ?_; exact hK.out _ (hb)); simp only [Act.put, List.setIfInBounds_toArray, List.set_cons_zero, List.set_cons_succ]
  refine wpU_take (v := ?_) 20 hst (fun _ h => h) rfl ?_ ?_; rotate_left; (intro W hS K hK; clear hS; go_simp; exact hK.out _ (Below.refl _ _)); simp only [Act.put, List.setIfInBounds_toArray, List.set_cons_zero, List.set_cons_succ]
  refine wpU_take (v := ?_) 21 hst (fun _ h => h) rfl ?_ ?_; rotate_left; (intro W hS K hK; clear hS; go_simp; exact hK.out _ (Below.refl _ _)); simp only [Act.put, List.setIfInBounds_toArray, List.set_cons_zero, List.set_cons_succ]
  refine wpU_take (v := ?_) 22 hst (fun _ h => h) rfl ?_ ?_; rotate_left; (intro W hS K hK; clear hS; go_simp; exact hK.out _ (Below.refl _ _)); simp only [Act.put, List.setIfInBounds_toArray, List.set_cons_zero, List.set_cons_succ]
  refine wpU_done (fun w_9 hS => ?_)
  obtain ⟨hB, G_4⟩ := hS
  clear hst
  go_wp2_with (first | (with_reducible refine stop_store ?_) | (with_reducible refine stop_box ?_) | (with_reducible refine stop_alloc ?_) | (with_reducible refine stop_bslice ?_))
  go_returns
  exact ⟨rfl, hB⟩
theorem law_NetpduChecks (iv : BitVec 32) (nid : Int) (wnid : (Lit.int .i64 nid).wf = true) (ctl : Bool) (ttl : Int) (wttl : (Lit.int .i64 ttl).wf = true) (seq : BitVec 32) (src dst : BitVec 16) (A : Option Addr) (c : Nat) (pay : List (BitVec 8)) (a : BitVec 16) (w : World) (hr : RdB w A pay) (hc : pay.length ≤ c) :
    Calls Try.prog 8 #[.agg #[.int .u32 (W32 iv), .int .i64 nid, .bool ctl, .int .i64 ttl, .int .u32 (W32 seq), .int .u16 (W16 src), .int .u16 (W16 dst), .slice A pay.length c], .int .u16 (W16 a)] w fun e w' => e = .returned (.bool true) ∧ Below w.heap.size w w' := by
  rcases Nat.lt_or_ge 100 pay.length with h | h
  · exact nchk_g iv nid ctl ttl seq src dst A c pay a w h
  · exact nchk_m iv nid ctl ttl seq src dst A c pay a w h
set_option maxHeartbeats 1000000 in
theorem nenc_g (k1 : BitVec 64) (k2 : Int) (k3 k4 k5 : BitVec 64) (iv : BitVec 32) (nid : Int) (ctl : Bool) (ttl : Int) (seq : BitVec 32) (src dst : BitVec 16) (A : Option Addr) (c : Nat) (pay : List (BitVec 8)) (w : World) (hl : 100 < pay.length) :
    Calls Try.prog 9 #[.agg #[.int .u64 (W64 k1), .int .i64 k2, .int .u64 (W64 k3), .int .u64 (W64 k4), .int .u64 (W64 k5)], .agg #[.int .u32 (W32 iv), .int .i64 nid, .bool ctl, .int .i64 ttl, .int .u32 (W32 seq), .int .u16 (W16 src), .int .u16 (W16 dst), .slice A pay.length c]] w fun e w' => e = .returned (.bool true) ∧ Below w.heap.size w w' := by
  have i9 : decide ((100 : Int) < ((pay.length : Nat) : Int)) = true := by simp; omega
  clear hl
  go_enter Try.func9, Try.ntmps9
  go_wp2_with (first | (with_reducible refine stop_store ?_) | (with_reducible refine stop_box ?_) | (with_reducible refine stop_alloc ?_) | (with_reducible refine stop_bslice ?_))
  unfold Kept
  refine go_mem (ty := 25) (cs := #[.int .u64 (W64 k1), .int .i64 k2, .int .u64 (W64 k3), .int .u64 (W64 k4), .int .u64 (W64 k5)]) (fun g => .pointer (some ⟨g, 0, none⟩)) rfl (by kernel_rfl) ?_
  intro g_1 w_2 z_6 l_5 hb_3 G_4
  have n_7 : w.heap.size ≤ g_1 := l_5
  have hB := hb_3
  clear hb_3 l_5 z_6
  go_wp2_with (first | (with_reducible refine stop_store ?_) | (with_reducible refine stop_box ?_) | (with_reducible refine stop_alloc ?_) | (with_reducible refine stop_bslice ?_))
  unfold Kept
  refine go_mem (ty := 44) (cs := #[.int .u32 (W32 iv), .int .i64 nid, .bool ctl, .int .i64 ttl, .int .u32 (W32 seq), .int .u16 (W16 src), .int .u16 (W16 dst), .slice A pay.length c]) (fun g => .pointer (some ⟨g, 0, none⟩)) rfl (by kernel_rfl) ?_
  intro g_8 w_9 z_13 l_12 hb_10 G_11
  have n_14 : g_1 < g_8 := Nat.lt_of_lt_of_le G_4.lt l_12
  have n_15 : w.heap.size ≤ g_8 := Nat.le_trans hB.size l_12
  replace G_4 := G_4.to hb_10 G_4.lt
  replace hB := hB.trans (hb_10.mono hB.size)
  clear hb_10 l_12 z_13
  have ld_16 : w_9.cell? ⟨g_8, 7, none⟩ = some (.slice A pay.length c) := G_11.cell 7
  go_wp2_with (first | (with_reducible refine stop_store ?_) | (with_reducible refine stop_box ?_) | (with_reducible refine stop_alloc ?_) | (with_reducible refine stop_bslice ?_))
  refine (lives48 _).mono ?_; rintro e w_17 ⟨rfl, hb_18⟩
  clear ld_16
  replace G_4 := G_4.to hb_18 G_4.lt
  replace G_11 := G_11.to hb_18 G_11.lt
  replace hB := hB.trans (hb_18.mono hB.size)
  clear hb_18
  go_wp2_with (first | (with_reducible refine stop_store ?_) | (with_reducible refine stop_box ?_) | (with_reducible refine stop_alloc ?_) | (with_reducible refine stop_bslice ?_))
  go_returns
  exact ⟨rfl, hB⟩
set_option maxHeartbeats 4000000 in
theorem nenc_m (k1 : BitVec 64) (k2 : Int) (k3 k4 k5 : BitVec 64) (iv : BitVec 32) (nid : Int) (ctl : Bool) (ttl : Int) (seq : BitVec 32) (src dst : BitVec 16) (A : Option Addr) (c : Nat) (pay : List (BitVec 8)) (w : World) (hl : pay.length ≤ 100) (hr : RdB w A pay) (hc : pay.length ≤ c) :
    Calls Try.prog 9 #[.agg #[.int .u64 (W64 k1), .int .i64 k2, .int .u64 (W64 k3), .int .u64 (W64 k4), .int .u64 (W64 k5)], .agg #[.int .u32 (W32 iv), .int .i64 nid, .bool ctl, .int .i64 ttl, .int .u32 (W32 seq), .int .u16 (W16 src), .int .u16 (W16 dst), .slice A pay.length c]] w fun e w' => e = .returned (.bool true) ∧ Below w.heap.size w w' := by
  obtain ⟨⟨L, en⟩, henc⟩ : ∃ x, encN ⟨k1, k2, k3, k4, k5⟩ ⟨iv, nid, ctl, ttl, seq, src, dst, pay⟩ = x := ⟨_, rfl⟩
  have hpl : (⟨iv, nid, ctl, ttl, seq, src, dst, pay⟩ : NP).pay.length ≤ 1048576 := by dsimp only; omega
  have C0 := Lib.hid (fun W A' c' (h : RdB W A' pay) => show Calls Try.prog 32 #[.agg #[.int .u64 (W64 k1), .int .i64 k2, .int .u64 (W64 k3), .int .u64 (W64 k4), .int .u64 (W64 k5)], .agg #[.int .u32 (W32 iv), .int .i64 nid, .bool ctl, .int .i64 ttl, .int .u32 (W32 seq), .int .u16 (W16 src), .int .u16 (W16 dst), .slice A' pay.length c']] W fun e w' => ∃ A1 c1, e = .returned (.tuple #[.slice A1 L.length c1, .int .i64 en]) ∧ RdB w' A1 L ∧ L.length ≤ c1 ∧ Below W.heap.size W w' from by
    have := net_EncodeA ⟨k1, k2, k3, k4, k5⟩ ⟨iv, nid, ctl, ttl, seq, src, dst, pay⟩ A' c' W h
    rw [henc] at this
    exact this)
  have C1 := Lib.hid (fun W A' c' (h : RdB W A' pay) => show Calls Try.prog 33 #[.agg #[.int .u64 (W64 k1), .int .i64 k2, .int .u64 (W64 k3), .int .u64 (W64 k4), .int .u64 (W64 k5)], .agg #[.int .u32 (W32 iv), .int .i64 nid, .bool ctl, .int .i64 ttl, .int .u32 (W32 seq), .int .u16 (W16 src), .int .u16 (W16 dst), .slice A' pay.length c']] W fun e w' => ∃ A1 c1, e = .returned (.tuple #[.slice A1 L.length c1, .int .i64 en]) ∧ RdB w' A1 L ∧ L.length ≤ c1 ∧ Below W.heap.size W w' from by
    have := r48_Encode ⟨k1, k2, k3, k4, k5⟩ ⟨iv, nid, ctl, ttl, seq, src, dst, pay⟩ A' c' W (by assumption) h
    rw [henc] at this
    exact this)
  have i9 : decide ((100 : Int) < ((pay.length : Nat) : Int)) = false := by simp; omega
  clear hpl hl henc
  go_enter Try.func9, Try.ntmps9
  have hB := Below.refl w.heap.size w
  go_wp2_with (first | (with_reducible refine stop_store ?_) | (with_reducible refine stop_box ?_) | (with_reducible refine stop_alloc ?_) | (with_reducible refine stop_bslice ?_))
  unfold Kept
  refine go_mem (ty := 25) (cs := #[.int .u64 (W64 k1), .int .i64 k2, .int .u64 (W64 k3), .int .u64 (W64 k4), .int .u64 (W64 k5)]) (fun g => .pointer (some ⟨g, 0, none⟩)) rfl (by kernel_rfl) ?_
  intro g_1 w_2 z_6 l_5 hb_3 G_4
  have n_7 : w.heap.size ≤ g_1 := Nat.le_trans hB.size l_5
  replace hB := hB.trans (hb_3.mono hB.size)
  clear hb_3 l_5 z_6
  go_wp2_with (first | (with_reducible refine stop_store ?_) | (with_reducible refine stop_box ?_) | (with_reducible refine stop_alloc ?_) | (with_reducible refine stop_bslice ?_))
  unfold Kept
  refine go_mem (ty := 44) (cs := #[.int .u32 (W32 iv), .int .i64 nid, .bool ctl, .int .i64 ttl, .int .u32 (W32 seq), .int .u16 (W16 src), .int .u16 (W16 dst), .slice A pay.length c]) (fun g => .pointer (some ⟨g, 0, none⟩)) rfl (by kernel_rfl) ?_
  intro g_8 w_9 z_13 l_12 hb_10 G_11
  have n_14 : g_1 < g_8 := Nat.lt_of_lt_of_le G_4.lt l_12
  have n_15 : w.heap.size ≤ g_8 := Nat.le_trans hB.size l_12
  replace G_4 := G_4.to hb_10 G_4.lt
  replace hB := hB.trans (hb_10.mono hB.size)
  clear hb_10 l_12 z_13
  have ld_16 : w_9.cell? ⟨g_8, 7, none⟩ = some (.slice A pay.length c) := G_11.cell 7
  go_wp2_with (first | (with_reducible refine stop_store ?_) | (with_reducible refine stop_box ?_) | (with_reducible refine stop_alloc ?_) | (with_reducible refine stop_bslice ?_) | ((with_reducible refine wpList_ld 0 [.int .u64 (W64 k1), .int .i64 k2, .int .u64 (W64 k3), .int .u64 (W64 k4), .int .u64 (W64 k5)] G_4 ?_ ?_ Try.underlying25 ?_ ?_ ?_); rfl; rfl; rfl; kernel_rfl) | ((with_reducible refine wpList_ld 0 [.int .u32 (W32 iv), .int .i64 nid, .bool ctl, .int .i64 ttl, .int .u32 (W32 seq), .int .u16 (W16 src), .int .u16 (W16 dst), .slice A pay.length c] G_11 ?_ ?_ Try.underlying44 ?_ ?_ ?_); rfl; rfl; rfl; kernel_rfl))
  refine (C0.out _ A c (Rd.to hr hB)).mono ?_; rintro e w_19 ⟨A3_2, c3_2, rfl, R3_2, l3_2, hb_20⟩
  clear ld_16
  replace G_4 := G_4.to hb_20 G_4.lt
  replace G_11 := G_11.to hb_20 G_11.lt
  replace hB := hB.trans (hb_20.mono hB.size)
  clear hb_20
  go_wp2_with (first | (with_reducible refine stop_store ?_) | (with_reducible refine stop_box ?_) | (with_reducible refine stop_alloc ?_) | (with_reducible refine stop_bslice ?_) | ((with_reducible refine wpList_ld 0 [.int .u64 (W64 k1), .int .i64 k2, .int .u64 (W64 k3), .int .u64 (W64 k4), .int .u64 (W64 k5)] G_4 ?_ ?_ Try.underlying25 ?_ ?_ ?_); rfl; rfl; rfl; kernel_rfl) | ((with_reducible refine wpList_ld 0 [.int .u32 (W32 iv), .int .i64 nid, .bool ctl, .int .i64 ttl, .int .u32 (W32 seq), .int .u16 (W16 src), .int .u16 (W16 dst), .slice A pay.length c] G_11 ?_ ?_ Try.underlying44 ?_ ?_ ?_); rfl; rfl; rfl; kernel_rfl))
  refine (C1.out _ A c (Rd.to hr hB)).mono ?_; rintro e w_23 ⟨A4_2, c4_2, rfl, R4_2, l4_2, hb_24⟩
  replace G_4 := G_4.to hb_24 G_4.lt
  replace G_11 := G_11.to hb_24 G_11.lt
  replace R3_2 := Rd.to R3_2 hb_24
  replace hB := hB.trans (hb_24.mono hB.size)
  clear hb_24
  go_wp2_with (first | (with_reducible refine stop_store ?_) | (with_reducible refine stop_box ?_) | (with_reducible refine stop_alloc ?_) | (with_reducible refine stop_bslice ?_))
  refine (lives48 _).mono ?_; rintro e w_25 ⟨rfl, hb_26⟩
  replace G_4 := G_4.to hb_26 G_4.lt
  replace G_11 := G_11.to hb_26 G_11.lt
  replace R3_2 := Rd.to R3_2 hb_26
  replace R4_2 := Rd.to R4_2 hb_26
  replace hB := hB.trans (hb_26.mono hB.size)
  clear hb_26
  go_wp2_with (first | (with_reducible refine stop_store ?_) | (with_reducible refine stop_box ?_) | (with_reducible refine stop_alloc ?_) | (with_reducible refine stop_bslice ?_))
  refine (same_t rfl (R3_2) (R4_2) (rfl) (rfl)).mono ?_; rintro e w_27 ⟨rfl, rfl⟩
  go_wp2_with (first | (with_reducible refine stop_store ?_) | (with_reducible refine stop_box ?_) | (with_reducible refine stop_alloc ?_) | (with_reducible refine stop_bslice ?_))
  go_returns
  exact ⟨rfl, hB⟩
theorem law_NetpduEncodes (k1 : BitVec 64) (k2 : Int) (wk2 : (Lit.int .i64 k2).wf = true) (k3 k4 k5 : BitVec 64) (iv : BitVec 32) (nid : Int) (wnid : (Lit.int .i64 nid).wf = true) (ctl : Bool) (ttl : Int) (wttl : (Lit.int .i64 ttl).wf = true) (seq : BitVec 32) (src dst : BitVec 16) (A : Option Addr) (c : Nat) (pay : List (BitVec 8)) (w : World) (hr : RdB w A pay) (hc : pay.length ≤ c) :
    Calls Try.prog 9 #[.agg #[.int .u64 (W64 k1), .int .i64 k2, .int .u64 (W64 k3), .int .u64 (W64 k4), .int .u64 (W64 k5)], .agg #[.int .u32 (W32 iv), .int .i64 nid, .bool ctl, .int .i64 ttl, .int .u32 (W32 seq), .int .u16 (W16 src), .int .u16 (W16 dst), .slice A pay.length c]] w fun e w' => e = .returned (.bool true) ∧ Below w.heap.size w w' := by
  rcases Nat.lt_or_ge 100 pay.length with h | h
  · exact nenc_g k1 k2 k3 k4 k5 iv nid ctl ttl seq src dst A c pay w h
  · exact nenc_m k1 k2 k3 k4 k5 iv nid ctl ttl seq src dst A c pay w h hr hc
set_option maxHeartbeats 1000000 in
theorem NetpduDecodes_g (k1 : BitVec 64) (k2 : Int) (k3 k4 k5 : BitVec 64) (iv : BitVec 32) (S : Option Addr) (d : Nat) (bs : List (BitVec 8)) (w : World) (hl : 100 < bs.length) :
    Calls Try.prog 10 #[.agg #[.int .u64 (W64 k1), .int .i64 k2, .int .u64 (W64 k3), .int .u64 (W64 k4), .int .u64 (W64 k5)], .int .u32 (W32 iv), .slice S bs.length d] w fun e w' => e = .returned (.bool true) ∧ Below w.heap.size w w' := by
  have i9 : decide ((100 : Int) < ((bs.length : Nat) : Int)) = true := by simp; omega
  clear hl
  go_enter Try.func10, Try.ntmps10
  go_wp2_with (first | (with_reducible refine stop_store ?_) | (with_reducible refine stop_box ?_) | (with_reducible refine stop_alloc ?_) | (with_reducible refine stop_bslice ?_))
  unfold Kept
  refine go_mem (ty := 25) (cs := #[.int .u64 (W64 k1), .int .i64 k2, .int .u64 (W64 k3), .int .u64 (W64 k4), .int .u64 (W64 k5)]) (fun g => .pointer (some ⟨g, 0, none⟩)) rfl (by kernel_rfl) ?_
  intro g_1 w_2 z_6 l_5 hb_3 G_4
  have n_7 : w.heap.size ≤ g_1 := l_5
  have hB := hb_3
  clear hb_3 l_5 z_6
  go_wp2_with (first | (with_reducible refine stop_store ?_) | (with_reducible refine stop_box ?_) | (with_reducible refine stop_alloc ?_) | (with_reducible refine stop_bslice ?_))
  refine (lives48 _).mono ?_; rintro e w_8 ⟨rfl, hb_9⟩
  replace G_4 := G_4.to hb_9 G_4.lt
  replace hB := hB.trans (hb_9.mono hB.size)
  clear hb_9
  go_wp2_with (first | (with_reducible refine stop_store ?_) | (with_reducible refine stop_box ?_) | (with_reducible refine stop_alloc ?_) | (with_reducible refine stop_bslice ?_))
  go_returns
  exact ⟨rfl, hB⟩
set_option maxHeartbeats 1000000 in
theorem NetpduOne_g (k1 : BitVec 64) (k2 : Int) (k3 k4 k5 : BitVec 64) (iv : BitVec 32) (S : Option Addr) (d : Nat) (bs : List (BitVec 8)) (w : World) (hl : 100 < bs.length) :
    Calls Try.prog 12 #[.agg #[.int .u64 (W64 k1), .int .i64 k2, .int .u64 (W64 k3), .int .u64 (W64 k4), .int .u64 (W64 k5)], .int .u32 (W32 iv), .slice S bs.length d] w fun e w' => e = .returned (.bool true) ∧ Below w.heap.size w w' := by
  have i9 : decide ((100 : Int) < ((bs.length : Nat) : Int)) = true := by simp; omega
  clear hl
  go_enter Try.func12, Try.ntmps12
  go_wp2_with (first | (with_reducible refine stop_store ?_) | (with_reducible refine stop_box ?_) | (with_reducible refine stop_alloc ?_) | (with_reducible refine stop_bslice ?_))
  unfold Kept
  refine go_mem (ty := 25) (cs := #[.int .u64 (W64 k1), .int .i64 k2, .int .u64 (W64 k3), .int .u64 (W64 k4), .int .u64 (W64 k5)]) (fun g => .pointer (some ⟨g, 0, none⟩)) rfl (by kernel_rfl) ?_
  intro g_1 w_2 z_6 l_5 hb_3 G_4
  have n_7 : w.heap.size ≤ g_1 := l_5
  have hB := hb_3
  clear hb_3 l_5 z_6
  go_wp2_with (first | (with_reducible refine stop_store ?_) | (with_reducible refine stop_box ?_) | (with_reducible refine stop_alloc ?_) | (with_reducible refine stop_bslice ?_))
  refine (lives48 _).mono ?_; rintro e w_8 ⟨rfl, hb_9⟩
  replace G_4 := G_4.to hb_9 G_4.lt
  replace hB := hB.trans (hb_9.mono hB.size)
  clear hb_9
  go_wp2_with (first | (with_reducible refine stop_store ?_) | (with_reducible refine stop_box ?_) | (with_reducible refine stop_alloc ?_) | (with_reducible refine stop_bslice ?_))
  go_returns
  exact ⟨rfl, hB⟩
set_option maxHeartbeats 4000000 in
theorem NetpduDecodes_m (k1 : BitVec 64) (k2 : Int) (k3 k4 k5 : BitVec 64) (iv : BitVec 32) (S : Option Addr) (d : Nat) (bs : List (BitVec 8)) (w : World) (hl : bs.length ≤ 100) (hr : RdB w S bs) (hd : bs.length ≤ d) :
    Calls Try.prog 10 #[.agg #[.int .u64 (W64 k1), .int .i64 k2, .int .u64 (W64 k3), .int .u64 (W64 k4), .int .u64 (W64 k5)], .int .u32 (W32 iv), .slice S bs.length d] w fun e w' => e = .returned (.bool true) ∧ Below w.heap.size w w' := by
  obtain ⟨⟨q, en⟩, hdec⟩ : ∃ x, decN ⟨k1, k2, k3, k4, k5⟩ iv bs = x := ⟨_, rfl⟩
  obtain ⟨⟨hx, hy, hz⟩, hh⟩ : ∃ x, hintN bs = x := ⟨_, rfl⟩
  have C0 := Lib.hid (fun W B d (h : RdB W B bs) (hd : bs.length ≤ d) => show Calls Try.prog 34 #[.agg #[.int .u64 (W64 k1), .int .i64 k2, .int .u64 (W64 k3), .int .u64 (W64 k4), .int .u64 (W64 k5)], .int .u32 (W32 iv), .slice B bs.length d] W fun e w' => ∃ A1 c1, e = .returned (.tuple #[.agg #[.int .u32 (W32 q.iv), .int .i64 q.nid, .bool q.ctl, .int .i64 q.ttl, .int .u32 (W32 q.seq), .int .u16 (W16 q.src), .int .u16 (W16 q.dst), .slice A1 q.pay.length c1], .int .i64 en]) ∧ RdB w' A1 q.pay ∧ q.pay.length ≤ c1 ∧ Below W.heap.size W w' from by
    have := net_Decode ⟨k1, k2, k3, k4, k5⟩ iv B d bs W h hd
    rw [hdec] at this
    exact this)
  have C1 := Lib.hid (fun W B d (h : RdB W B bs) (hd : bs.length ≤ d) => show Calls Try.prog 35 #[.agg #[.int .u64 (W64 k1), .int .i64 k2, .int .u64 (W64 k3), .int .u64 (W64 k4), .int .u64 (W64 k5)], .int .u32 (W32 iv), .slice B bs.length d] W fun e w' => ∃ A1 c1, e = .returned (.tuple #[.agg #[.int .u32 (W32 q.iv), .int .i64 q.nid, .bool q.ctl, .int .i64 q.ttl, .int .u32 (W32 q.seq), .int .u16 (W16 q.src), .int .u16 (W16 q.dst), .slice A1 q.pay.length c1], .int .i64 en]) ∧ RdB w' A1 q.pay ∧ q.pay.length ≤ c1 ∧ Below W.heap.size W w' from by
    have := r48_Decode ⟨k1, k2, k3, k4, k5⟩ iv B d bs W h hd
    rw [hdec] at this
    exact this)
  have CM := Lib.hid (fun W A1 c1 A2 c2 (h1 : RdB W A1 q.pay) (h2 : RdB W A2 q.pay) => show Calls Try.prog 38 #[.agg #[.int .u32 (W32 q.iv), .int .i64 q.nid, .bool q.ctl, .int .i64 q.ttl, .int .u32 (W32 q.seq), .int .u16 (W16 q.src), .int .u16 (W16 q.dst), .slice A1 q.pay.length c1], .agg #[.int .u32 (W32 q.iv), .int .i64 q.nid, .bool q.ctl, .int .i64 q.ttl, .int .u32 (W32 q.seq), .int .u16 (W16 q.src), .int .u16 (W16 q.dst), .slice A2 q.pay.length c2]] W fun e w' => e = .returned (.bool true) ∧ Below W.heap.size W w' from by
    have := r48_Same q q A1 c1 A2 c2 W h1 h2
    rw [decide_eq_true rfl] at this
    exact this)
  
  have H0 := Lib.hid (fun W (h : RdB W S bs) => show Calls Try.prog 36 #[.slice S bs.length d] W fun e w' => e = .returned (.tuple #[.int .i64 hx, .int .i64 hy, .int .i64 hz]) ∧ Below W.heap.size W w' from by have := net_Hint S d bs W h; rw [hh] at this; exact this)
  have H1 := Lib.hid (fun W (h : RdB W S bs) => show Calls Try.prog 37 #[.slice S bs.length d] W fun e w' => e = .returned (.tuple #[.int .i64 hx, .int .i64 hy, .int .i64 hz]) ∧ Below W.heap.size W w' from by have := r48_Hint S d bs W h; rw [hh] at this; exact this)
  have i9 : decide ((100 : Int) < ((bs.length : Nat) : Int)) = false := by simp; omega
  clear hl hdec hh
  go_enter Try.func10, Try.ntmps10
  have hB := Below.refl w.heap.size w
  go_wp2_with (first | (with_reducible refine stop_store ?_) | (with_reducible refine stop_box ?_) | (with_reducible refine stop_alloc ?_) | (with_reducible refine stop_bslice ?_))
  unfold Kept
  refine go_mem (ty := 25) (cs := #[.int .u64 (W64 k1), .int .i64 k2, .int .u64 (W64 k3), .int .u64 (W64 k4), .int .u64 (W64 k5)]) (fun g => .pointer (some ⟨g, 0, none⟩)) rfl (by kernel_rfl) ?_
  intro g_1 w_2 z_6 l_5 hb_3 G_4
  have n_7 : w.heap.size ≤ g_1 := Nat.le_trans hB.size l_5
  replace hB := hB.trans (hb_3.mono hB.size)
  clear hb_3 l_5 z_6
  go_wp2_with (first | (with_reducible refine stop_store ?_) | (with_reducible refine stop_box ?_) | (with_reducible refine stop_alloc ?_) | (with_reducible refine stop_bslice ?_) | ((with_reducible refine wpList_ld 0 [.int .u64 (W64 k1), .int .i64 k2, .int .u64 (W64 k3), .int .u64 (W64 k4), .int .u64 (W64 k5)] G_4 ?_ ?_ Try.underlying25 ?_ ?_ ?_); rfl; rfl; rfl; kernel_rfl))
  refine (C0.out _ S d (Rd.to hr hB) hd).mono ?_; rintro e w_9 ⟨A3_3, c3_3, rfl, R3_3, l3_3, hb_10⟩
  replace G_4 := G_4.to hb_10 G_4.lt
  replace hB := hB.trans (hb_10.mono hB.size)
  clear hb_10
  go_wp2_with (first | (with_reducible refine stop_store ?_) | (with_reducible refine stop_box ?_) | (with_reducible refine stop_alloc ?_) | (with_reducible refine stop_bslice ?_))
  unfold Kept
  refine go_mem (ty := 44) (cs := #[.int .u32 0, .int .i64 0, .bool false, .int .i64 0, .int .u32 0, .int .u16 0, .int .u16 0, .slice none 0 0]) (fun g => .pointer (some ⟨g, 0, none⟩)) rfl (by kernel_rfl) ?_
  intro g_11 w_12 z_16 l_15 hb_13 G_14
  have n_17 : g_1 < g_11 := Nat.lt_of_lt_of_le G_4.lt l_15
  have n_18 : w.heap.size ≤ g_11 := Nat.le_trans hB.size l_15
  replace G_4 := G_4.to hb_13 G_4.lt
  replace R3_3 := Rd.to R3_3 hb_13
  replace hB := hB.trans (hb_13.mono hB.size)
  clear hb_13 l_15 z_16
  go_wp2_with (first | (with_reducible refine stop_store ?_) | (with_reducible refine stop_box ?_) | (with_reducible refine stop_alloc ?_) | (with_reducible refine stop_bslice ?_))
  unfold Kept
  refine wpList_st 0 #[.int .u32 (W32 q.iv), .int .i64 q.nid, .bool q.ctl, .int .i64 q.ttl, .int .u32 (W32 q.seq), .int .u16 (W16 q.src), .int .u16 (W16 q.dst), .slice A3_3 q.pay.length c3_3] #[.int .u32 (W32 q.iv), .int .i64 q.nid, .bool q.ctl, .int .i64 q.ttl, .int .u32 (W32 q.seq), .int .u16 (W16 q.src), .int .u16 (W16 q.dst), .slice A3_3 q.pay.length c3_3] G_14 rfl rfl (by kernel_rfl) rfl (of_decide_eq_true rfl) rfl ?_
  intro w_19 G_21 hU_20
  replace G_4 := hU_20.blk G_4 (by omega)
  replace R3_3 := RdB.upd R3_3 G_14 hU_20 (by rfl)
  replace hB := hU_20.below hB (by omega)
  clear G_14 hU_20
  go_wp2_with (first | (with_reducible refine stop_store ?_) | (with_reducible refine stop_box ?_) | (with_reducible refine stop_alloc ?_) | (with_reducible refine stop_bslice ?_) | ((with_reducible refine wpList_ld 0 [.int .u64 (W64 k1), .int .i64 k2, .int .u64 (W64 k3), .int .u64 (W64 k4), .int .u64 (W64 k5)] G_4 ?_ ?_ Try.underlying25 ?_ ?_ ?_); rfl; rfl; rfl; kernel_rfl))
  refine (C1.out _ S d (Rd.to hr hB) hd).mono ?_; rintro e w_23 ⟨A4_3, c4_3, rfl, R4_3, l4_3, hb_24⟩
  replace G_4 := G_4.to hb_24 G_4.lt
  replace G_21 := G_21.to hb_24 G_21.lt
  replace R3_3 := Rd.to R3_3 hb_24
  replace hB := hB.trans (hb_24.mono hB.size)
  clear hb_24
  go_wp2_with (first | (with_reducible refine stop_store ?_) | (with_reducible refine stop_box ?_) | (with_reducible refine stop_alloc ?_) | (with_reducible refine stop_bslice ?_))
  unfold Kept
  refine go_mem (ty := 44) (cs := #[.int .u32 0, .int .i64 0, .bool false, .int .i64 0, .int .u32 0, .int .u16 0, .int .u16 0, .slice none 0 0]) (fun g => .pointer (some ⟨g, 0, none⟩)) rfl (by kernel_rfl) ?_
  intro g_25 w_26 z_30 l_29 hb_27 G_28
  have n_31 : g_11 < g_25 := Nat.lt_of_lt_of_le G_21.lt l_29
  have n_32 : w.heap.size ≤ g_25 := Nat.le_trans hB.size l_29
  replace G_4 := G_4.to hb_27 G_4.lt
  replace G_21 := G_21.to hb_27 G_21.lt
  replace R3_3 := Rd.to R3_3 hb_27
  replace R4_3 := Rd.to R4_3 hb_27
  replace hB := hB.trans (hb_27.mono hB.size)
  clear hb_27 l_29 z_30
  go_wp2_with (first | (with_reducible refine stop_store ?_) | (with_reducible refine stop_box ?_) | (with_reducible refine stop_alloc ?_) | (with_reducible refine stop_bslice ?_))
  unfold Kept
  refine wpList_st 0 #[.int .u32 (W32 q.iv), .int .i64 q.nid, .bool q.ctl, .int .i64 q.ttl, .int .u32 (W32 q.seq), .int .u16 (W16 q.src), .int .u16 (W16 q.dst), .slice A4_3 q.pay.length c4_3] #[.int .u32 (W32 q.iv), .int .i64 q.nid, .bool q.ctl, .int .i64 q.ttl, .int .u32 (W32 q.seq), .int .u16 (W16 q.src), .int .u16 (W16 q.dst), .slice A4_3 q.pay.length c4_3] G_28 rfl rfl (by kernel_rfl) rfl (of_decide_eq_true rfl) rfl ?_
  intro w_33 G_35 hU_34
  replace G_4 := hU_34.blk G_4 (by omega)
  replace G_21 := hU_34.blk G_21 (by omega)
  replace R3_3 := RdB.upd R3_3 G_28 hU_34 (by rfl)
  replace R4_3 := RdB.upd R4_3 G_28 hU_34 (by rfl)
  replace hB := hU_34.below hB (by omega)
  clear G_28 hU_34
  go_wp2_with (first | (with_reducible refine stop_store ?_) | (with_reducible refine stop_box ?_) | (with_reducible refine stop_alloc ?_) | (with_reducible refine stop_bslice ?_))
  refine (H0.out _ (Rd.to hr hB)).mono ?_; rintro e w_36 ⟨rfl, hb_37⟩
  replace G_4 := G_4.to hb_37 G_4.lt
  replace G_21 := G_21.to hb_37 G_21.lt
  replace G_35 := G_35.to hb_37 G_35.lt
  replace R3_3 := Rd.to R3_3 hb_37
  replace R4_3 := Rd.to R4_3 hb_37
  replace hB := hB.trans (hb_37.mono hB.size)
  clear hb_37
  go_wp2_with (first | (with_reducible refine stop_store ?_) | (with_reducible refine stop_box ?_) | (with_reducible refine stop_alloc ?_) | (with_reducible refine stop_bslice ?_))
  refine (H1.out _ (Rd.to hr hB)).mono ?_; rintro e w_38 ⟨rfl, hb_39⟩
  replace G_4 := G_4.to hb_39 G_4.lt
  replace G_21 := G_21.to hb_39 G_21.lt
  replace G_35 := G_35.to hb_39 G_35.lt
  replace R3_3 := Rd.to R3_3 hb_39
  replace R4_3 := Rd.to R4_3 hb_39
  replace hB := hB.trans (hb_39.mono hB.size)
  clear hb_39
  go_wp2_with (first | (with_reducible refine stop_store ?_) | (with_reducible refine stop_box ?_) | (with_reducible refine stop_alloc ?_) | (with_reducible refine stop_bslice ?_))
  refine (lives48 _).mono ?_; rintro e w_40 ⟨rfl, hb_41⟩
  replace G_4 := G_4.to hb_41 G_4.lt
  replace G_21 := G_21.to hb_41 G_21.lt
  replace G_35 := G_35.to hb_41 G_35.lt
  replace R3_3 := Rd.to R3_3 hb_41
  replace R4_3 := Rd.to R4_3 hb_41
  replace hB := hB.trans (hb_41.mono hB.size)
  clear hb_41
  go_wp2_with (first | (with_reducible refine stop_store ?_) | (with_reducible refine stop_box ?_) | (with_reducible refine stop_alloc ?_) | (with_reducible refine stop_bslice ?_) | ((with_reducible refine wpList_ld 0 [.int .u32 (W32 q.iv), .int .i64 q.nid, .bool q.ctl, .int .i64 q.ttl, .int .u32 (W32 q.seq), .int .u16 (W16 q.src), .int .u16 (W16 q.dst), .slice A3_3 q.pay.length c3_3] G_21 ?_ ?_ Try.underlying44 ?_ ?_ ?_); rfl; rfl; rfl; kernel_rfl) | ((with_reducible refine wpList_ldg 0 [.int .u32 (W32 q.iv), .int .i64 q.nid, .bool q.ctl, .int .i64 q.ttl, .int .u32 (W32 q.seq), .int .u16 (W16 q.src), .int .u16 (W16 q.dst), .slice A3_3 q.pay.length c3_3] G_21 ?_ ?_ Try.underlying44 ?_ ?_ ?_ ?_); rfl; rfl; rfl; kernel_rfl; rfl) | ((with_reducible refine wpList_ld 0 [.int .u32 (W32 q.iv), .int .i64 q.nid, .bool q.ctl, .int .i64 q.ttl, .int .u32 (W32 q.seq), .int .u16 (W16 q.src), .int .u16 (W16 q.dst), .slice A4_3 q.pay.length c4_3] G_35 ?_ ?_ Try.underlying44 ?_ ?_ ?_); rfl; rfl; rfl; kernel_rfl) | ((with_reducible refine wpList_ldg 0 [.int .u32 (W32 q.iv), .int .i64 q.nid, .bool q.ctl, .int .i64 q.ttl, .int .u32 (W32 q.seq), .int .u16 (W16 q.src), .int .u16 (W16 q.dst), .slice A4_3 q.pay.length c4_3] G_35 ?_ ?_ Try.underlying44 ?_ ?_ ?_ ?_); rfl; rfl; rfl; kernel_rfl; rfl))
  refine (CM.out _ _ _ _ _ (R3_3) (R4_3)).mono ?_; rintro e w_44 ⟨rfl, hb_45⟩
  replace G_4 := G_4.to hb_45 G_4.lt
  replace G_21 := G_21.to hb_45 G_21.lt
  replace G_35 := G_35.to hb_45 G_35.lt
  replace R3_3 := Rd.to R3_3 hb_45
  replace R4_3 := Rd.to R4_3 hb_45
  replace hB := hB.trans (hb_45.mono hB.size)
  clear hb_45
  go_wp2_with (first | (with_reducible refine stop_store ?_) | (with_reducible refine stop_box ?_) | (with_reducible refine stop_alloc ?_) | (with_reducible refine stop_bslice ?_))
  go_returns
  exact ⟨rfl, hB⟩
set_option maxHeartbeats 4000000 in
theorem NetpduOne_e (k1 : BitVec 64) (k2 : Int) (k3 k4 k5 : BitVec 64) (iv : BitVec 32) (S : Option Addr) (d : Nat) (bs : List (BitVec 8)) (en : Int) (w : World) (hl : bs.length ≤ 100) (hr : RdB w S bs) (hd : bs.length ≤ d) (hdec : decN ⟨k1, k2, k3, k4, k5⟩ iv bs = (np0, en)) (hen : en ≠ 0) :
    Calls Try.prog 12 #[.agg #[.int .u64 (W64 k1), .int .i64 k2, .int .u64 (W64 k3), .int .u64 (W64 k4), .int .u64 (W64 k5)], .int .u32 (W32 iv), .slice S bs.length d] w fun e w' => e = .returned (.bool true) ∧ Below w.heap.size w w' := by
  have C0 := Lib.hid (fun W B d (h : RdB W B bs) (hd : bs.length ≤ d) => show Calls Try.prog 34 #[.agg #[.int .u64 (W64 k1), .int .i64 k2, .int .u64 (W64 k3), .int .u64 (W64 k4), .int .u64 (W64 k5)], .int .u32 (W32 iv), .slice B bs.length d] W fun e w' => ∃ A1 c1, e = .returned (.tuple #[.agg #[.int .u32 (W32 np0.iv), .int .i64 np0.nid, .bool np0.ctl, .int .i64 np0.ttl, .int .u32 (W32 np0.seq), .int .u16 (W16 np0.src), .int .u16 (W16 np0.dst), .slice A1 np0.pay.length c1], .int .i64 en]) ∧ RdB w' A1 np0.pay ∧ np0.pay.length ≤ c1 ∧ Below W.heap.size W w' from by
    have := net_Decode ⟨k1, k2, k3, k4, k5⟩ iv B d bs W h hd
    rw [hdec] at this
    exact this)
  
  replace C0 := Lib.hid (fun W B d h hd => show Calls Try.prog 34 #[.agg #[.int .u64 (W64 k1), .int .i64 k2, .int .u64 (W64 k3), .int .u64 (W64 k4), .int .u64 (W64 k5)], .int .u32 (W32 iv), .slice B bs.length d] W fun e w' => ∃ A1 c1, e = .returned (.tuple #[.agg #[.int .u32 0, .int .i64 0, .bool false, .int .i64 0, .int .u32 0, .int .u16 0, .int .u16 0, .slice A1 0 c1], .int .i64 en]) ∧ RdB w' A1 [] ∧ 0 ≤ c1 ∧ Below W.heap.size W w' from C0.out W B d h hd)
  have CM := Lib.hid (fun W A1 c1 A2 c2 (h1 : RdB W A1 []) (h2 : RdB W A2 []) => show Calls Try.prog 38 #[.agg #[.int .u32 0, .int .i64 0, .bool false, .int .i64 0, .int .u32 0, .int .u16 0, .int .u16 0, .slice A1 0 c1], .agg #[.int .u32 0, .int .i64 0, .bool false, .int .i64 0, .int .u32 0, .int .u16 0, .int .u16 0, .slice A2 0 c2]] W fun e w' => e = .returned (.bool true) ∧ Below W.heap.size W w' from by
    have := r48_Same np0 np0 A1 c1 A2 c2 W h1 h2
    rw [decide_eq_true rfl] at this
    exact this)
  have e9 : ((en : Int) != 0) = true := by simpa using hen
  have e8 : ((en : Int) == 0) = false := by simpa using hen
  have i9 : decide ((100 : Int) < ((bs.length : Nat) : Int)) = false := by simp; omega
  clear hl hdec hen
  go_enter Try.func12, Try.ntmps12
  have hB := Below.refl w.heap.size w
  go_wp2_with (first | (with_reducible refine stop_store ?_) | (with_reducible refine stop_box ?_) | (with_reducible refine stop_alloc ?_) | (with_reducible refine stop_bslice ?_))
  unfold Kept
  refine go_mem (ty := 25) (cs := #[.int .u64 (W64 k1), .int .i64 k2, .int .u64 (W64 k3), .int .u64 (W64 k4), .int .u64 (W64 k5)]) (fun g => .pointer (some ⟨g, 0, none⟩)) rfl (by kernel_rfl) ?_
  intro g_1 w_2 z_6 l_5 hb_3 G_4
  have n_7 : w.heap.size ≤ g_1 := Nat.le_trans hB.size l_5
  replace hB := hB.trans (hb_3.mono hB.size)
  clear hb_3 l_5 z_6
  go_wp2_with (first | (with_reducible refine stop_store ?_) | (with_reducible refine stop_box ?_) | (with_reducible refine stop_alloc ?_) | (with_reducible refine stop_bslice ?_) | ((with_reducible refine wpList_ld 0 [.int .u64 (W64 k1), .int .i64 k2, .int .u64 (W64 k3), .int .u64 (W64 k4), .int .u64 (W64 k5)] G_4 ?_ ?_ Try.underlying25 ?_ ?_ ?_); rfl; rfl; rfl; kernel_rfl))
  refine (C0.out _ _ _ (Rd.to hr hB) hd).mono ?_; rintro e w_9 ⟨A1, c1, rfl, R1, l1, hb_10⟩
  replace G_4 := G_4.to hb_10 G_4.lt
  replace hB := hB.trans (hb_10.mono hB.size)
  clear hb_10
  go_wp2_with (first | (with_reducible refine stop_store ?_) | (with_reducible refine stop_box ?_) | (with_reducible refine stop_alloc ?_) | (with_reducible refine stop_bslice ?_))
  unfold Kept
  refine go_mem (ty := 44) (cs := #[.int .u32 0, .int .i64 0, .bool false, .int .i64 0, .int .u32 0, .int .u16 0, .int .u16 0, .slice none 0 0]) (fun g => .pointer (some ⟨g, 0, none⟩)) rfl (by kernel_rfl) ?_
  intro g_11 w_12 z_16 l_15 hb_13 G_14
  have n_17 : g_1 < g_11 := Nat.lt_of_lt_of_le G_4.lt l_15
  have n_18 : w.heap.size ≤ g_11 := Nat.le_trans hB.size l_15
  replace G_4 := G_4.to hb_13 G_4.lt
  replace R1 := Rd.to R1 hb_13
  replace hB := hB.trans (hb_13.mono hB.size)
  clear hb_13 l_15 z_16
  go_wp2_with (first | (with_reducible refine stop_store ?_) | (with_reducible refine stop_box ?_) | (with_reducible refine stop_alloc ?_) | (with_reducible refine stop_bslice ?_))
  unfold Kept
  refine wpList_st 0 #[.int .u32 0, .int .i64 0, .bool false, .int .i64 0, .int .u32 0, .int .u16 0, .int .u16 0, .slice A1 0 c1] #[.int .u32 0, .int .i64 0, .bool false, .int .i64 0, .int .u32 0, .int .u16 0, .int .u16 0, .slice A1 0 c1] G_14 rfl rfl (by kernel_rfl) rfl (of_decide_eq_true rfl) rfl ?_
  intro w_19 G_21 hU_20
  replace G_4 := hU_20.blk G_4 (by omega)
  replace R1 := RdB.upd R1 G_14 hU_20 (by rfl)
  replace hB := hU_20.below hB (by omega)
  clear G_14 hU_20
  go_wp2_with (first | (with_reducible refine stop_store ?_) | (with_reducible refine stop_box ?_) | (with_reducible refine stop_alloc ?_) | (with_reducible refine stop_bslice ?_))
  refine (lives48 _).mono ?_; rintro e w_22 ⟨rfl, hb_23⟩
  replace G_4 := G_4.to hb_23 G_4.lt
  replace G_21 := G_21.to hb_23 G_21.lt
  replace R1 := Rd.to R1 hb_23
  replace hB := hB.trans (hb_23.mono hB.size)
  clear hb_23
  go_wp2_with (first | (with_reducible refine stop_store ?_) | (with_reducible refine stop_box ?_) | (with_reducible refine stop_alloc ?_) | (with_reducible refine stop_bslice ?_) | ((with_reducible refine wpList_ld 0 [.int .u32 0, .int .i64 0, .bool false, .int .i64 0, .int .u32 0, .int .u16 0, .int .u16 0, .slice A1 0 c1] G_21 ?_ ?_ Try.underlying44 ?_ ?_ ?_); rfl; rfl; rfl; kernel_rfl) | ((with_reducible refine wpList_ldg 0 [.int .u32 0, .int .i64 0, .bool false, .int .i64 0, .int .u32 0, .int .u16 0, .int .u16 0, .slice A1 0 c1] G_21 ?_ ?_ Try.underlying44 ?_ ?_ ?_ ?_); rfl; rfl; rfl; kernel_rfl; rfl))
  refine (CM.out _ _ _ _ _ R1 (bcell_nil _)).mono ?_; rintro e w_25 ⟨rfl, hb_26⟩
  replace G_4 := G_4.to hb_26 G_4.lt
  replace G_21 := G_21.to hb_26 G_21.lt
  replace R1 := Rd.to R1 hb_26
  replace hB := hB.trans (hb_26.mono hB.size)
  clear hb_26
  go_wp2_with (first | (with_reducible refine stop_store ?_) | (with_reducible refine stop_box ?_) | (with_reducible refine stop_alloc ?_) | (with_reducible refine stop_bslice ?_))
  go_returns
  exact ⟨rfl, hB⟩
set_option maxHeartbeats 4000000 in
theorem NetpduOne_o (k1 : BitVec 64) (k2 : Int) (k3 k4 k5 : BitVec 64) (iv : BitVec 32) (S : Option Addr) (d : Nat) (bs : List (BitVec 8)) (q : NP) (w : World) (hl : bs.length ≤ 100) (hr : RdB w S bs) (hd : bs.length ≤ d) (hdec : decN ⟨k1, k2, k3, k4, k5⟩ iv bs = (q, 0)) :
    Calls Try.prog 12 #[.agg #[.int .u64 (W64 k1), .int .i64 k2, .int .u64 (W64 k3), .int .u64 (W64 k4), .int .u64 (W64 k5)], .int .u32 (W32 iv), .slice S bs.length d] w fun e w' => e = .returned (.bool true) ∧ Below w.heap.size w w' := by
  obtain ⟨henc, hiv, hck, -⟩ := enc_dec ⟨k1, k2, k3, k4, k5⟩ iv bs q hdec
  have C0 := Lib.hid (fun W B d (h : RdB W B bs) (hd : bs.length ≤ d) => show Calls Try.prog 34 #[.agg #[.int .u64 (W64 k1), .int .i64 k2, .int .u64 (W64 k3), .int .u64 (W64 k4), .int .u64 (W64 k5)], .int .u32 (W32 iv), .slice B bs.length d] W fun e w' => ∃ A1 c1, e = .returned (.tuple #[.agg #[.int .u32 (W32 q.iv), .int .i64 q.nid, .bool q.ctl, .int .i64 q.ttl, .int .u32 (W32 q.seq), .int .u16 (W16 q.src), .int .u16 (W16 q.dst), .slice A1 q.pay.length c1], .int .i64 0]) ∧ RdB w' A1 q.pay ∧ q.pay.length ≤ c1 ∧ Below W.heap.size W w' from by
    have := net_Decode ⟨k1, k2, k3, k4, k5⟩ iv B d bs W h hd
    rw [hdec] at this
    exact this)
  have C1 := Lib.hid (fun W A' c' (h : RdB W A' q.pay) => show Calls Try.prog 32 #[.agg #[.int .u64 (W64 k1), .int .i64 k2, .int .u64 (W64 k3), .int .u64 (W64 k4), .int .u64 (W64 k5)], .agg #[.int .u32 (W32 q.iv), .int .i64 q.nid, .bool q.ctl, .int .i64 q.ttl, .int .u32 (W32 q.seq), .int .u16 (W16 q.src), .int .u16 (W16 q.dst), .slice A' q.pay.length c']] W fun e w' => ∃ A1 c1, e = .returned (.tuple #[.slice A1 bs.length c1, .int .i64 0]) ∧ RdB w' A1 bs ∧ bs.length ≤ c1 ∧ Below W.heap.size W w' from by
    have := net_EncodeA ⟨k1, k2, k3, k4, k5⟩ q A' c' W h
    rw [henc] at this
    exact this)
  have CK := Lib.hid (fun W A1 c1 => show Calls Try.prog 26 #[.agg #[.int .u32 (W32 q.iv), .int .i64 q.nid, .bool q.ctl, .int .i64 q.ttl, .int .u32 (W32 q.seq), .int .u16 (W16 q.src), .int .u16 (W16 q.dst), .slice A1 q.pay.length c1]] W fun e w' => e = .returned (.int .i64 0) ∧ Below W.heap.size W w' from by
    have := net_Check q A1 c1 W (by have := (check_ok' hck).2.2.2.2.2.2; omega)
    rw [hck] at this
    exact this)
  
  have ei : (W32 q.iv == W32 iv) = true := by rw [hiv]; simp
  have i9 : decide ((100 : Int) < ((bs.length : Nat) : Int)) = false := by simp; omega
  clear hl hdec henc hck hiv
  go_enter Try.func12, Try.ntmps12
  have hB := Below.refl w.heap.size w
  go_wp2_with (first | (with_reducible refine stop_store ?_) | (with_reducible refine stop_box ?_) | (with_reducible refine stop_alloc ?_) | (with_reducible refine stop_bslice ?_))
  unfold Kept
  refine go_mem (ty := 25) (cs := #[.int .u64 (W64 k1), .int .i64 k2, .int .u64 (W64 k3), .int .u64 (W64 k4), .int .u64 (W64 k5)]) (fun g => .pointer (some ⟨g, 0, none⟩)) rfl (by kernel_rfl) ?_
  intro g_1 w_2 z_6 l_5 hb_3 G_4
  have n_7 : w.heap.size ≤ g_1 := Nat.le_trans hB.size l_5
  replace hB := hB.trans (hb_3.mono hB.size)
  clear hb_3 l_5 z_6
  go_wp2_with (first | (with_reducible refine stop_store ?_) | (with_reducible refine stop_box ?_) | (with_reducible refine stop_alloc ?_) | (with_reducible refine stop_bslice ?_) | ((with_reducible refine wpList_ld 0 [.int .u64 (W64 k1), .int .i64 k2, .int .u64 (W64 k3), .int .u64 (W64 k4), .int .u64 (W64 k5)] G_4 ?_ ?_ Try.underlying25 ?_ ?_ ?_); rfl; rfl; rfl; kernel_rfl))
  refine (C0.out _ S d (Rd.to hr hB) hd).mono ?_; rintro e w_9 ⟨A3_3, c3_3, rfl, R3_3, l3_3, hb_10⟩
  replace G_4 := G_4.to hb_10 G_4.lt
  replace hB := hB.trans (hb_10.mono hB.size)
  clear hb_10
  go_wp2_with (first | (with_reducible refine stop_store ?_) | (with_reducible refine stop_box ?_) | (with_reducible refine stop_alloc ?_) | (with_reducible refine stop_bslice ?_))
  unfold Kept
  refine go_mem (ty := 44) (cs := #[.int .u32 0, .int .i64 0, .bool false, .int .i64 0, .int .u32 0, .int .u16 0, .int .u16 0, .slice none 0 0]) (fun g => .pointer (some ⟨g, 0, none⟩)) rfl (by kernel_rfl) ?_
  intro g_11 w_12 z_16 l_15 hb_13 G_14
  have n_17 : g_1 < g_11 := Nat.lt_of_lt_of_le G_4.lt l_15
  have n_18 : w.heap.size ≤ g_11 := Nat.le_trans hB.size l_15
  replace G_4 := G_4.to hb_13 G_4.lt
  replace R3_3 := Rd.to R3_3 hb_13
  replace hB := hB.trans (hb_13.mono hB.size)
  clear hb_13 l_15 z_16
  go_wp2_with (first | (with_reducible refine stop_store ?_) | (with_reducible refine stop_box ?_) | (with_reducible refine stop_alloc ?_) | (with_reducible refine stop_bslice ?_))
  unfold Kept
  refine wpList_st 0 #[.int .u32 (W32 q.iv), .int .i64 q.nid, .bool q.ctl, .int .i64 q.ttl, .int .u32 (W32 q.seq), .int .u16 (W16 q.src), .int .u16 (W16 q.dst), .slice A3_3 q.pay.length c3_3] #[.int .u32 (W32 q.iv), .int .i64 q.nid, .bool q.ctl, .int .i64 q.ttl, .int .u32 (W32 q.seq), .int .u16 (W16 q.src), .int .u16 (W16 q.dst), .slice A3_3 q.pay.length c3_3] G_14 rfl rfl (by kernel_rfl) rfl (of_decide_eq_true rfl) rfl ?_
  intro w_19 G_21 hU_20
  replace G_4 := hU_20.blk G_4 (by omega)
  replace R3_3 := RdB.upd R3_3 G_14 hU_20 (by rfl)
  replace hB := hU_20.below hB (by omega)
  clear G_14 hU_20
  go_wp2_with (first | (with_reducible refine stop_store ?_) | (with_reducible refine stop_box ?_) | (with_reducible refine stop_alloc ?_) | (with_reducible refine stop_bslice ?_) | ((with_reducible refine wpList_ld 0 [.int .u64 (W64 k1), .int .i64 k2, .int .u64 (W64 k3), .int .u64 (W64 k4), .int .u64 (W64 k5)] G_4 ?_ ?_ Try.underlying25 ?_ ?_ ?_); rfl; rfl; rfl; kernel_rfl) | ((with_reducible refine wpList_ld 0 [.int .u32 (W32 q.iv), .int .i64 q.nid, .bool q.ctl, .int .i64 q.ttl, .int .u32 (W32 q.seq), .int .u16 (W16 q.src), .int .u16 (W16 q.dst), .slice A3_3 q.pay.length c3_3] G_21 ?_ ?_ Try.underlying44 ?_ ?_ ?_); rfl; rfl; rfl; kernel_rfl) | ((with_reducible refine wpList_ldg 0 [.int .u32 (W32 q.iv), .int .i64 q.nid, .bool q.ctl, .int .i64 q.ttl, .int .u32 (W32 q.seq), .int .u16 (W16 q.src), .int .u16 (W16 q.dst), .slice A3_3 q.pay.length c3_3] G_21 ?_ ?_ Try.underlying44 ?_ ?_ ?_ ?_); rfl; rfl; rfl; kernel_rfl; rfl))
  refine (C1.out _ A3_3 c3_3 (R3_3)).mono ?_; rintro e w_24 ⟨A6_2, c6_2, rfl, R6_2, l6_2, hb_25⟩
  replace G_4 := G_4.to hb_25 G_4.lt
  replace G_21 := G_21.to hb_25 G_21.lt
  replace R3_3 := Rd.to R3_3 hb_25
  replace hB := hB.trans (hb_25.mono hB.size)
  clear hb_25
  go_wp2_with (first | (with_reducible refine stop_store ?_) | (with_reducible refine stop_box ?_) | (with_reducible refine stop_alloc ?_) | (with_reducible refine stop_bslice ?_))
  refine (lives48 _).mono ?_; rintro e w_26 ⟨rfl, hb_27⟩
  replace G_4 := G_4.to hb_27 G_4.lt
  replace G_21 := G_21.to hb_27 G_21.lt
  replace R3_3 := Rd.to R3_3 hb_27
  replace R6_2 := Rd.to R6_2 hb_27
  replace hB := hB.trans (hb_27.mono hB.size)
  clear hb_27
  go_wp2_with (first | (with_reducible refine stop_store ?_) | (with_reducible refine stop_box ?_) | (with_reducible refine stop_alloc ?_) | (with_reducible refine stop_bslice ?_))
  refine (same_t rfl (R6_2) (Rd.to hr hB) (rfl) (rfl)).mono ?_; rintro e w_28 ⟨rfl, rfl⟩
  go_wp2_with (first | (with_reducible refine stop_store ?_) | (with_reducible refine stop_box ?_) | (with_reducible refine stop_alloc ?_) | (with_reducible refine stop_bslice ?_) | ((with_reducible refine wpList_ld 0 [.int .u32 (W32 q.iv), .int .i64 q.nid, .bool q.ctl, .int .i64 q.ttl, .int .u32 (W32 q.seq), .int .u16 (W16 q.src), .int .u16 (W16 q.dst), .slice A3_3 q.pay.length c3_3] G_21 ?_ ?_ Try.underlying44 ?_ ?_ ?_); rfl; rfl; rfl; kernel_rfl) | ((with_reducible refine wpList_ldg 0 [.int .u32 (W32 q.iv), .int .i64 q.nid, .bool q.ctl, .int .i64 q.ttl, .int .u32 (W32 q.seq), .int .u16 (W16 q.src), .int .u16 (W16 q.dst), .slice A3_3 q.pay.length c3_3] G_21 ?_ ?_ Try.underlying44 ?_ ?_ ?_ ?_); rfl; rfl; rfl; kernel_rfl; rfl))
  refine (CK.out _ _ _).mono ?_; rintro e w_31 ⟨rfl, hb_32⟩
  replace G_4 := G_4.to hb_32 G_4.lt
  replace G_21 := G_21.to hb_32 G_21.lt
  replace R3_3 := Rd.to R3_3 hb_32
  replace R6_2 := Rd.to R6_2 hb_32
  replace hB := hB.trans (hb_32.mono hB.size)
  clear hb_32
  have ld_33 : w_31.cell? ⟨g_11, 0, none⟩ = some (.int .u32 (W32 q.iv)) := G_21.cell 0
  go_wp2_with (first | (with_reducible refine stop_store ?_) | (with_reducible refine stop_box ?_) | (with_reducible refine stop_alloc ?_) | (with_reducible refine stop_bslice ?_))
  go_returns
  exact ⟨rfl, hB⟩
theorem law_NetpduDecodes (k1 : BitVec 64) (k2 : Int) (wk2 : (Lit.int .i64 k2).wf = true) (k3 k4 k5 : BitVec 64) (iv : BitVec 32) (S : Option Addr) (d : Nat) (bs : List (BitVec 8)) (w : World) (hr : RdB w S bs) (hd : bs.length ≤ d) :
    Calls Try.prog 10 #[.agg #[.int .u64 (W64 k1), .int .i64 k2, .int .u64 (W64 k3), .int .u64 (W64 k4), .int .u64 (W64 k5)], .int .u32 (W32 iv), .slice S bs.length d] w fun e w' => e = .returned (.bool true) ∧ Below w.heap.size w w' := by
  rcases Nat.lt_or_ge 100 bs.length with h | h
  · exact NetpduDecodes_g k1 k2 k3 k4 k5 iv S d bs w h
  · exact NetpduDecodes_m k1 k2 k3 k4 k5 iv S d bs w h hr hd
theorem law_NetpduOne (k1 : BitVec 64) (k2 : Int) (wk2 : (Lit.int .i64 k2).wf = true) (k3 k4 k5 : BitVec 64) (iv : BitVec 32) (S : Option Addr) (d : Nat) (bs : List (BitVec 8)) (w : World) (hr : RdB w S bs) (hd : bs.length ≤ d) :
    Calls Try.prog 12 #[.agg #[.int .u64 (W64 k1), .int .i64 k2, .int .u64 (W64 k3), .int .u64 (W64 k4), .int .u64 (W64 k5)], .int .u32 (W32 iv), .slice S bs.length d] w fun e w' => e = .returned (.bool true) ∧ Below w.heap.size w w' := by
  rcases Nat.lt_or_ge 100 bs.length with h | h
  · exact NetpduOne_g k1 k2 k3 k4 k5 iv S d bs w h
  · obtain ⟨⟨q, en⟩, hdec⟩ : ∃ x, decN ⟨k1, k2, k3, k4, k5⟩ iv bs = x := ⟨_, rfl⟩
    by_cases he : en = 0
    · subst he
      exact NetpduOne_o k1 k2 k3 k4 k5 iv S d bs q w h hr hd hdec
    · have := dec_err ⟨k1, k2, k3, k4, k5⟩ iv bs (by rw [hdec]; exact he)
      rw [hdec] at this
      dsimp only at this
      subst this
      exact NetpduOne_e k1 k2 k3 k4 k5 iv S d bs en w h hr hd hdec he
end Go.Proofs.Ytbkaeoaepmeceaa
