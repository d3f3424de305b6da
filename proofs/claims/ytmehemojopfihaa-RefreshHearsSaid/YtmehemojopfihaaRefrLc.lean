/- Hear of the reference (layer 52), part c. -/
import Derived.Test.YtmehemojopfihaaRefrJ
import Derived.Test.YtmehemojopfihaaRefrH
import Derived.Test.YtmehemojopfihaaRefrL0
namespace Go.Proofs.Ytmehemojopfihaa
set_option maxRecDepth 100000
open Go.ChangeShapes Go.WideShapes Go.ChangeAt Go.RowKit
set_option linter.unusedVariables false
set_option linter.unusedSimpArgs false

set_option maxHeartbeats 16000000 in
theorem r52_Hear_c (ph : Int) (a1 : BitVec 64) (a2 : Int) (a3 a4 a5 b1 : BitVec 64) (b2 : Int) (b3 b4 b5 : BitVec 64) (vi : BitVec 32) (vu : Bool) (vs : Int) (br bu : Bool) (bi : BitVec 32) (now : Int) (ks : List NK) (i : Nat) (w : World) (h0 : 0 ≤ vs ∧ vs ≤ 1099511627776) (h1 : 0 ≤ now ∧ now ≤ 1099511627776) (hks : recvK ⟨ph, ⟨a1, a2, a3, a4, a5⟩, ⟨b1, b2, b3, b4, b5⟩⟩ = ks) (hi : i < ks.length) (h43 : (1 : Int) < ks.length) (h44 : ¬ ks[i] = ⟨b1, b2, b3, b4, b5⟩) :
    Calls Try.prog 49 #[.agg #[.int .i64 ph, .int .u64 (W64 a1), .int .i64 a2, .int .u64 (W64 a3), .int .u64 (W64 a4), .int .u64 (W64 a5), .int .u64 (W64 b1), .int .i64 b2, .int .u64 (W64 b3), .int .u64 (W64 b4), .int .u64 (W64 b5)], .agg #[.int .u32 (W32 vi), .bool vu, .int .i64 vs], .agg #[.bool br, .bool bu, .int .u32 (W32 bi)], .int .i64 ((i : Int)), .int .i64 now] w fun e w' => e = .returned (.tuple #[.agg (ksA (hearK ⟨ph, ⟨a1, a2, a3, a4, a5⟩, ⟨b1, b2, b3, b4, b5⟩⟩ ⟨vi, vu, vs⟩ ⟨br, bu, bi⟩ (i : Int) now).1), .agg (ivA (hearK ⟨ph, ⟨a1, a2, a3, a4, a5⟩, ⟨b1, b2, b3, b4, b5⟩⟩ ⟨vi, vu, vs⟩ ⟨br, bu, bi⟩ (i : Int) now).2)]) ∧ Below w.heap.size w w' := by
  have CR := Lib.hid (show ∀ W, Calls Try.prog 24 #[.agg #[.int .i64 ph, .int .u64 (W64 a1), .int .i64 a2, .int .u64 (W64 a3), .int .u64 (W64 a4), .int .u64 (W64 a5), .int .u64 (W64 b1), .int .i64 b2, .int .u64 (W64 b3), .int .u64 (W64 b4), .int .u64 (W64 b5)]] W fun e w' => ∃ b, e = .returned (.slice (some ⟨b, 0, none⟩) ks.length ks.length) ∧ Rd w' (some ⟨b, 0, none⟩) (nksL ks) ∧ Below W.heap.size W w' from fun W => by have := r52_Recv ⟨ph, ⟨a1, a2, a3, a4, a5⟩, ⟨b1, b2, b3, b4, b5⟩⟩ _ rfl W; rw [hks] at this; exact this)
  have L := Lib.hid (show ∀ W, Calls Try.prog 76 #[.agg #[.int .u32 (W32 vi), .bool vu, .int .i64 vs], .int .i64 now] W fun e w' => e = .returned (.bool (lastB vs now)) ∧ Below W.heap.size W w' from fun W => r52_lastedB ⟨vi, vu, vs⟩ now W h0 h1)
  obtain ⟨lb, hlb⟩ : ∃ z, lastB vs now = z := ⟨_, rfl⟩
  rw [hlb] at L
  have HLB := Lib.hid hlb
  have HKS := Lib.hid hks
  have hn1 : 1 ≤ ks.length := by rw [← hks]; exact (recv_len _).1
  have hn2 : ks.length ≤ 2 := by rw [← hks]; exact (recv_len _).2
  have i0 : decide ((i : Int) < 0) = false := decide_eq_false (by omega)
  have i1 : decide ((ks.length : Int) ≤ (i : Int)) = false := decide_eq_false (by omega)
  have i2 : decide (ks.length ≤ i) = false := decide_eq_false (by omega)
  obtain ⟨⟨x_1, x_2, x_3, x_4, x_5⟩, hx⟩ : ∃ z, ks[i] = z := ⟨_, rfl⟩
  have HX := Lib.hid hx
  have e43m : (1 : Int) < ((ks.length : Nat) : Int) := h43
  have e43 : decide ((1 : Int) < ((ks.length : Nat) : Int)) = true := decide_eq_true h43
  have e43n : decide ((((ks.length : Nat) : Int) : Int) ≤ 1) = false := decide_eq_false (Int.not_le.2 h43)
  have kh43 := Lib.hid h43
  clear h43
  rw [hx] at h44
  have eh44 : ((W64 x_1 == W64 b1 && (x_2 == b2 && (W64 x_3 == W64 b3 && (W64 x_4 == W64 b4 && (W64 x_5 == W64 b5)))))) = false := by rw [Bool.eq_false_iff]; intro hh; apply h44; simp only [Bool.and_eq_true, beq_iff_eq, W64_eq] at hh; obtain ⟨i1, i2, i3, i4, i5⟩ := hh; rw [i1, i2, i3, i4, i5]
  have kh44 := Lib.hid h44
  clear h44
  clear hx
  clear hlb hks h0 h1
  go_enter Try.func49, Try.ntmps49
  go_wp2_with (first | (with_reducible refine stop_store ?_) | (with_reducible refine stop_box ?_) | (with_reducible refine stop_alloc ?_) | (with_reducible refine stop_bslice ?_))
  unfold Kept
  refine go_mem (ty := 27) (cs := #[.int .i64 ph, .int .u64 (W64 a1), .int .i64 a2, .int .u64 (W64 a3), .int .u64 (W64 a4), .int .u64 (W64 a5), .int .u64 (W64 b1), .int .i64 b2, .int .u64 (W64 b3), .int .u64 (W64 b4), .int .u64 (W64 b5)]) (fun g => .pointer (some ⟨g, 0, none⟩)) rfl (by kernel_rfl) ?_
  intro g_1 w_2 z_6 l_5 hb_3 G_4
  have n_7 : w.heap.size ≤ g_1 := l_5
  have hB := hb_3
  clear hb_3 l_5 z_6
  go_wp2_with (first | (with_reducible refine stop_store ?_) | (with_reducible refine stop_box ?_) | (with_reducible refine stop_alloc ?_) | (with_reducible refine stop_bslice ?_))
  unfold Kept
  refine go_mem (ty := 59) (cs := #[.int .u32 (W32 vi), .bool vu, .int .i64 vs]) (fun g => .pointer (some ⟨g, 0, none⟩)) rfl (by kernel_rfl) ?_
  intro g_8 w_9 z_13 l_12 hb_10 G_11
  have n_14 : g_1 < g_8 := Nat.lt_of_lt_of_le G_4.lt l_12
  have n_15 : w.heap.size ≤ g_8 := Nat.le_trans hB.size l_12
  replace G_4 := G_4.to hb_10 G_4.lt
  replace hB := hB.trans (hb_10.mono hB.size)
  clear hb_10 l_12 z_13
  go_wp2_with (first | (with_reducible refine stop_store ?_) | (with_reducible refine stop_box ?_) | (with_reducible refine stop_alloc ?_) | (with_reducible refine stop_bslice ?_))
  unfold Kept
  refine go_mem (ty := 71) (cs := #[.bool br, .bool bu, .int .u32 (W32 bi)]) (fun g => .pointer (some ⟨g, 0, none⟩)) rfl (by kernel_rfl) ?_
  intro g_16 w_17 z_21 l_20 hb_18 G_19
  have n_22 : g_8 < g_16 := Nat.lt_of_lt_of_le G_11.lt l_20
  have n_23 : w.heap.size ≤ g_16 := Nat.le_trans hB.size l_20
  replace G_4 := G_4.to hb_18 G_4.lt
  replace G_11 := G_11.to hb_18 G_11.lt
  replace hB := hB.trans (hb_18.mono hB.size)
  clear hb_18 l_20 z_21
  go_wp2_with (first | (with_reducible refine stop_store ?_) | (with_reducible refine stop_box ?_) | (with_reducible refine stop_alloc ?_) | (with_reducible refine stop_bslice ?_))
  unfold Kept
  refine go_mem (ty := 27) (cs := #[.int .i64 0, .int .u64 0, .int .i64 0, .int .u64 0, .int .u64 0, .int .u64 0, .int .u64 0, .int .i64 0, .int .u64 0, .int .u64 0, .int .u64 0]) (fun g => .pointer (some ⟨g, 0, none⟩)) rfl (by kernel_rfl) ?_
  intro g_24 w_25 z_29 l_28 hb_26 G_27
  have n_30 : g_16 < g_24 := Nat.lt_of_lt_of_le G_19.lt l_28
  have n_31 : w.heap.size ≤ g_24 := Nat.le_trans hB.size l_28
  replace G_4 := G_4.to hb_26 G_4.lt
  replace G_11 := G_11.to hb_26 G_11.lt
  replace G_19 := G_19.to hb_26 G_19.lt
  replace hB := hB.trans (hb_26.mono hB.size)
  clear hb_26 l_28 z_29
  go_wp2_with (first | (with_reducible refine stop_store ?_) | (with_reducible refine stop_box ?_) | (with_reducible refine stop_alloc ?_) | (with_reducible refine stop_bslice ?_))
  unfold Kept
  refine go_mem (ty := 59) (cs := #[.int .u32 0, .bool false, .int .i64 0]) (fun g => .pointer (some ⟨g, 0, none⟩)) rfl (by kernel_rfl) ?_
  intro g_32 w_33 z_37 l_36 hb_34 G_35
  have n_38 : g_24 < g_32 := Nat.lt_of_lt_of_le G_27.lt l_36
  have n_39 : w.heap.size ≤ g_32 := Nat.le_trans hB.size l_36
  replace G_4 := G_4.to hb_34 G_4.lt
  replace G_11 := G_11.to hb_34 G_11.lt
  replace G_19 := G_19.to hb_34 G_19.lt
  replace G_27 := G_27.to hb_34 G_27.lt
  replace hB := hB.trans (hb_34.mono hB.size)
  clear hb_34 l_36 z_37
  go_wp2_with (first | (with_reducible refine stop_store ?_) | (with_reducible refine stop_box ?_) | (with_reducible refine stop_alloc ?_) | (with_reducible refine stop_bslice ?_) | ((with_reducible refine wpList_ld 0 [.int .i64 ph, .int .u64 (W64 a1), .int .i64 a2, .int .u64 (W64 a3), .int .u64 (W64 a4), .int .u64 (W64 a5), .int .u64 (W64 b1), .int .i64 b2, .int .u64 (W64 b3), .int .u64 (W64 b4), .int .u64 (W64 b5)] G_4 ?_ ?_ Try.underlying27 ?_ ?_ ?_); rfl; rfl; rfl; kernel_rfl))
  refine (CR.out _).mono ?_; rintro e w_41 ⟨rb, rfl, RK, hb_42⟩
  replace G_4 := G_4.to hb_42 G_4.lt
  replace G_11 := G_11.to hb_42 G_11.lt
  replace G_19 := G_19.to hb_42 G_19.lt
  replace G_27 := G_27.to hb_42 G_27.lt
  replace G_35 := G_35.to hb_42 G_35.lt
  replace hB := hB.trans (hb_42.mono hB.size)
  clear hb_42
  have RX := rg_of_nk RK i hi
  rw [HX.out] at RX
  replace RX : Rg rb (i * 5) [.int .u64 (W64 x_1), .int .i64 x_2, .int .u64 (W64 x_3), .int .u64 (W64 x_4), .int .u64 (W64 x_5)] w_41 := RX
  clear RK
  go_wp2_with (first | (with_reducible refine stop_store ?_) | (with_reducible refine stop_box ?_) | (with_reducible refine stop_alloc ?_) | (with_reducible refine stop_bslice ?_))
  have hst : Stable fun W => Below w.heap.size w W ∧ Blk W g_1 27 #[.int .i64 ph, .int .u64 (W64 a1), .int .i64 a2, .int .u64 (W64 a3), .int .u64 (W64 a4), .int .u64 (W64 a5), .int .u64 (W64 b1), .int .i64 b2, .int .u64 (W64 b3), .int .u64 (W64 b4), .int .u64 (W64 b5)] ∧ Blk W g_8 59 #[.int .u32 (W32 vi), .bool vu, .int .i64 vs] ∧ Blk W g_16 71 #[.bool br, .bool bu, .int .u32 (W32 bi)] ∧ Blk W g_24 27 #[.int .i64 0, .int .u64 0, .int .i64 0, .int .u64 0, .int .u64 0, .int .u64 0, .int .u64 0, .int .i64 0, .int .u64 0, .int .u64 0, .int .u64 0] ∧ Blk W g_32 59 #[.int .u32 0, .bool false, .int .i64 0] ∧ Rg rb (i * 5) [.int .u64 (W64 x_1), .int .i64 x_2, .int .u64 (W64 x_3), .int .u64 (W64 x_4), .int .u64 (W64 x_5)] W := stable_and (stable_below _ _ (Nat.le_refl _)) (stable_and (stable_blk _ _ _) (stable_and (stable_blk _ _ _) (stable_and (stable_blk _ _ _) (stable_and (stable_blk _ _ _) (stable_and (stable_blk _ _ _) (stable_rg _ _ _))))))
  refine wp_region_v _ 12 hst ⟨hB.drew, G_4, G_11, G_19, G_27, G_35, RX⟩ ?_
  clear hB G_4 G_11 G_19 G_27 G_35 RX
  refine wpU_take (v := ?_) 0 hst (fun _ h => h) rfl ?_ ?_; rotate_left; (intro W hS K hK; clear hS; go_simp; exact hK.out _ (Below.refl _ _)); simp only [Act.put, List.setIfInBounds_toArray, List.set_cons_zero, List.set_cons_succ]
  refine wpU_take (v := ?_) 1 hst (fun _ h => h) rfl ?_ ?_; rotate_left; (intro W hS K hK; clear hS; go_simp; exact hK.out _ (Below.refl _ _)); simp only [Act.put, List.setIfInBounds_toArray, List.set_cons_zero, List.set_cons_succ]
  refine wpU_take (v := ?_) 2 hst (fun _ h => h) rfl ?_ ?_; rotate_left; (intro W hS K hK; clear hS; go_simp; exact hK.out _ (Below.refl _ _)); simp only [Act.put, List.setIfInBounds_toArray, List.set_cons_zero, List.set_cons_succ]
  refine wpU_take (v := ?_) 3 hst (fun _ h => h) rfl ?_ ?_; rotate_left; (intro W hS K hK; clear hS; go_simp; exact hK.out _ (Below.refl _ _)); simp only [Act.put, List.setIfInBounds_toArray, List.set_cons_zero, List.set_cons_succ]
  refine wpU_take (v := ?_) 4 hst (fun _ h => h) rfl ?_ ?_; rotate_left; (intro W hS K hK; clear hS; go_simp; exact hK.out _ (Below.refl _ _)); simp only [Act.put, List.setIfInBounds_toArray, List.set_cons_zero, List.set_cons_succ]
  refine wpU_take (v := ?_) 5 hst (fun _ h => h) rfl ?_ ?_; rotate_left; (intro W hS K hK; clear hS; go_simp; exact hK.out _ (Below.refl _ _)); simp only [Act.put, List.setIfInBounds_toArray, List.set_cons_zero, List.set_cons_succ]
  refine wpU_take (v := ?_) 6 hst (fun _ h => h) rfl ?_ ?_; rotate_left; (intro W hS K hK; clear hS; go_simp; exact hK.out _ (Below.refl _ _)); simp only [Act.put, List.setIfInBounds_toArray, List.set_cons_zero, List.set_cons_succ]
  refine wpU_take (v := .agg #[.int .u64 (W64 x_1), .int .i64 x_2, .int .u64 (W64 x_3), .int .u64 (W64 x_4), .int .u64 (W64 x_5)]) 7 hst (fun _ h => h) rfl (fun W hS K hK => calm_load rfl rfl (run_loadVar_mid W rb (i * 5) 25 [.int .u64 (W64 x_1), .int .i64 x_2, .int .u64 (W64 x_3), .int .u64 (W64 x_4), .int .u64 (W64 x_5)] _ (range_part hS.2.2.2.2.2.2.2 0 [.int .u64 (W64 x_1), .int .i64 x_2, .int .u64 (W64 x_3), .int .u64 (W64 x_4), .int .u64 (W64 x_5)] rfl) Try.underlying25 rfl (by kernel_rfl)) (hK.out _ (Below.refl _ _))) ?_; simp only [Act.put, List.setIfInBounds_toArray, List.set_cons_zero, List.set_cons_succ]
  refine wpU_take (v := ?_) 8 hst (fun _ h => h) rfl ?_ ?_; rotate_left; (intro W hS K hK; clear hS; go_simp; exact hK.out _ (Below.refl _ _)); simp only [Act.put, List.setIfInBounds_toArray, List.set_cons_zero, List.set_cons_succ]
  refine wpU_take (v := .agg #[.int .u64 (W64 b1), .int .i64 b2, .int .u64 (W64 b3), .int .u64 (W64 b4), .int .u64 (W64 b5)]) 9 hst (fun _ h => h) rfl (fun W hS K hK => calm_load rfl rfl (load_part hS.2.1 6 [.int .u64 (W64 b1), .int .i64 b2, .int .u64 (W64 b3), .int .u64 (W64 b4), .int .u64 (W64 b5)] rfl Try.underlying25 rfl (by kernel_rfl)) (hK.out _ (Below.refl _ _))) ?_; simp only [Act.put, List.setIfInBounds_toArray, List.set_cons_zero, List.set_cons_succ]
  refine wpU_take (v := ?_) 10 hst (fun _ h => h) rfl ?_ ?_; rotate_left; (intro W hS K hK; clear hS; go_simp; exact hK.out _ (Below.refl _ _)); simp only [Act.put, List.setIfInBounds_toArray, List.set_cons_zero, List.set_cons_succ]
  refine wpU_take (v := ?_) 11 hst (fun _ h => h) rfl ?_ ?_; rotate_left; (intro W hS K hK; clear hS; go_simp; exact hK.out _ (Below.refl _ _)); simp only [Act.put, List.setIfInBounds_toArray, List.set_cons_zero, List.set_cons_succ]
  refine wpU_done (fun w_43 hS => ?_)
  obtain ⟨hB, G_4, G_11, G_19, G_27, G_35, RX⟩ := hS
  clear hst
  go_upto_if 37 with (first | (with_reducible refine stop_store ?_) | (with_reducible refine stop_box ?_) | (with_reducible refine stop_alloc ?_) | (with_reducible refine stop_bslice ?_))
  try simp only [Act.put, List.setIfInBounds_toArray, List.set_cons_zero, List.set_cons_succ]
  go_cut [] from 110 (fun WX => ∃ k9 : KS, hearK ⟨ph, ⟨a1, a2, a3, a4, a5⟩, ⟨b1, b2, b3, b4, b5⟩⟩ ⟨vi, vu, vs⟩ ⟨br, bu, bi⟩ (i : Int) now = (k9, hearIVK ⟨vi, vu, vs⟩ ⟨br, bu, bi⟩ now) ∧ Below w.heap.size w WX ∧ Blk WX g_1 27 (ksA k9) ∧ Blk WX g_8 59 #[.int .u32 (W32 vi), .bool vu, .int .i64 vs] ∧ Blk WX g_16 71 #[.bool br, .bool bu, .int .u32 (W32 bi)] ∧ Blk WX g_24 27 #[.int .i64 0, .int .u64 0, .int .i64 0, .int .u64 0, .int .u64 0, .int .u64 0, .int .u64 0, .int .i64 0, .int .u64 0, .int .u64 0, .int .u64 0] ∧ Blk WX g_32 59 #[.int .u32 0, .bool false, .int .i64 0])
  case first =>
    go_wp2_with (first | (with_reducible refine stop_store ?_) | (with_reducible refine stop_box ?_) | (with_reducible refine stop_alloc ?_) | (with_reducible refine stop_bslice ?_))
    go_meet
    case rel => exact ⟨⟨ph, ⟨a1, a2, a3, a4, a5⟩, ⟨b1, b2, b3, b4, b5⟩⟩, hear_noB _ _ _ i now ks ⟨x_1, x_2, x_3, x_4, x_5⟩ HKS.out hi HX.out kh44.out, hB, G_4, G_11, G_19, G_27, G_35⟩
  case rest =>
    clear G_4 G_11 G_19 G_27 G_35 RX hB
    obtain ⟨k9, hsp, hB, H0, H1, H2, H3, H4⟩ := hcut
    obtain ⟨pp, ⟨f1, f2, f3, f4, f5⟩, ⟨m1, m2, m3, m4, m5⟩⟩ := k9
    have HSP := Lib.hid hsp
    clear hsp
    replace H0 : Blk wc g_1 27 #[.int .i64 pp, .int .u64 (W64 f1), .int .i64 f2, .int .u64 (W64 f3), .int .u64 (W64 f4), .int .u64 (W64 f5), .int .u64 (W64 m1), .int .i64 m2, .int .u64 (W64 m3), .int .u64 (W64 m4), .int .u64 (W64 m5)] := H0
    by_cases hc_44 : bi = vi
    ·
      subst hc_44
      cases vu
      case false =>
        skip
        have ld_46 : wc.cell? ⟨g_16, 2, none⟩ = some (.int .u32 (W32 bi)) := H2.cell 2
        have ld_47 : wc.cell? ⟨g_8, 0, none⟩ = some (.int .u32 (W32 bi)) := H1.cell 0
        have ld_48 : wc.cell? ⟨g_8, 1, none⟩ = some (.bool false) := H1.cell 1
        go_wp2_with (first | (with_reducible refine stop_store ?_) | (with_reducible refine stop_box ?_) | (with_reducible refine stop_alloc ?_) | (with_reducible refine stop_bslice ?_))
        clear ld_46 ld_47 ld_48
        have hst : Stable fun W => Below w.heap.size w W ∧ Blk W g_1 27 #[.int .i64 pp, .int .u64 (W64 f1), .int .i64 f2, .int .u64 (W64 f3), .int .u64 (W64 f4), .int .u64 (W64 f5), .int .u64 (W64 m1), .int .i64 m2, .int .u64 (W64 m3), .int .u64 (W64 m4), .int .u64 (W64 m5)] ∧ Blk W g_8 59 #[.int .u32 (W32 bi), .bool false, .int .i64 vs] ∧ Blk W g_16 71 #[.bool br, .bool bu, .int .u32 (W32 bi)] ∧ Room g_24 27 11 W ∧ Room g_32 59 3 W := stable_and (stable_below _ _ (Nat.le_refl _)) (stable_and (stable_blk _ _ _) (stable_and (stable_blk _ _ _) (stable_and (stable_blk _ _ _) (stable_and (stable_room _ _ _) (stable_room _ _ _)))))
        refine wp_region_v _ 4 hst ⟨hB.drew, H0, H1, H2, ⟨_, rfl, rfl, H3⟩, ⟨_, rfl, rfl, H4⟩⟩ ?_
        clear hB H0 H1 H2 H3 H4
        refine wpU_take (v := .agg #[.int .i64 pp, .int .u64 (W64 f1), .int .i64 f2, .int .u64 (W64 f3), .int .u64 (W64 f4), .int .u64 (W64 f5), .int .u64 (W64 m1), .int .i64 m2, .int .u64 (W64 m3), .int .u64 (W64 m4), .int .u64 (W64 m5)]) 0 hst (fun _ h => h) rfl (fun W hS K hK => calm_load rfl rfl (load_part hS.2.1 0 [.int .i64 pp, .int .u64 (W64 f1), .int .i64 f2, .int .u64 (W64 f3), .int .u64 (W64 f4), .int .u64 (W64 f5), .int .u64 (W64 m1), .int .i64 m2, .int .u64 (W64 m3), .int .u64 (W64 m4), .int .u64 (W64 m5)] rfl Try.underlying27 rfl (by kernel_rfl)) (hK.out _ (Below.refl _ _))) ?_; simp only [Act.put, List.setIfInBounds_toArray, List.set_cons_zero, List.set_cons_succ]
        refine wpU_take (v := .agg #[.int .u32 (W32 bi), .bool false, .int .i64 vs]) 1 hst (fun _ h => h) rfl (fun W hS K hK => calm_load rfl rfl (load_part hS.2.2.1 0 [.int .u32 (W32 bi), .bool false, .int .i64 vs] rfl Try.underlying59 rfl (by kernel_rfl)) (hK.out _ (Below.refl _ _))) ?_; simp only [Act.put, List.setIfInBounds_toArray, List.set_cons_zero, List.set_cons_succ]
        refine wpV_st 2 hst (fun _ h => h) #[.int .i64 pp, .int .u64 (W64 f1), .int .i64 f2, .int .u64 (W64 f3), .int .u64 (W64 f4), .int .u64 (W64 f5), .int .u64 (W64 m1), .int .i64 m2, .int .u64 (W64 m3), .int .u64 (W64 m4), .int .u64 (W64 m5)] rfl rfl rfl rfl (fun W hS => hS.2.2.2.2.1) (fun W W' h hU hG => ?_) (by kernel_rfl) rfl (fun hst => ?_)
        · obtain ⟨h0_0, h0_1, h0_2, h0_3, ⟨ch0_4, ah0_4, bh0_4, h0_4⟩, ⟨ch0_5, ah0_5, bh0_5, h0_5⟩⟩ := h
          exact ⟨hU.below h0_0 (by omega), hU.blk h0_1 (by omega), hU.blk h0_2 (by omega), hU.blk h0_3 (by omega), ⟨_, rfl, rfl, hG⟩, ⟨ch0_5, ah0_5, bh0_5, hU.blk h0_5 (by omega)⟩⟩
        refine wpV_st 3 hst (fun _ h => h.1) #[.int .u32 (W32 bi), .bool false, .int .i64 vs] rfl rfl rfl rfl (fun W hS => hS.1.2.2.2.2.2) (fun W W' h hU hG => ?_) (by kernel_rfl) rfl (fun hst => ?_)
        · obtain ⟨⟨h0_0, h0_1, h0_2, h0_3, ⟨ch0_4, ah0_4, bh0_4, h0_4⟩, ⟨ch0_5, ah0_5, bh0_5, h0_5⟩⟩, h1_0⟩ := h
          exact ⟨⟨hU.below h0_0 (by omega), hU.blk h0_1 (by omega), hU.blk h0_2 (by omega), hU.blk h0_3 (by omega), ⟨ch0_4, ah0_4, bh0_4, hU.blk h0_4 (by omega)⟩, ⟨_, rfl, rfl, hG⟩⟩, hU.blk h1_0 (by omega)⟩
        refine wpU_done (fun w_49 hS => ?_)
        obtain ⟨⟨⟨hB, H0, H1, H2, -, -⟩, H3s⟩, H4s⟩ := hS
        clear hst
        go_wp2_with (first | (with_reducible refine stop_store ?_) | (with_reducible refine stop_box ?_) | (with_reducible refine stop_alloc ?_) | (with_reducible refine stop_bslice ?_))
        refine bodyPost_ret (results_cc rfl rfl rfl (load_blk H3s Try.underlying27 rfl (by kernel_rfl)) (load_blk H4s Try.underlying59 rfl (by kernel_rfl))) rfl ?_
        refine ⟨?_, hB⟩
        have er : hearIVK ⟨bi, false, vs⟩ ⟨br, bu, bi⟩ now = ⟨bi, false, vs⟩ := by have hlb := HLB.out; simp [hearIVK, hlb]
        rw [HSP.out, er]
        rfl
      case true =>
        skip
        cases bu
        case false =>
          skip
          have ld_51 : wc.cell? ⟨g_16, 2, none⟩ = some (.int .u32 (W32 bi)) := H2.cell 2
          have ld_52 : wc.cell? ⟨g_8, 0, none⟩ = some (.int .u32 (W32 bi)) := H1.cell 0
          have ld_53 : wc.cell? ⟨g_8, 1, none⟩ = some (.bool true) := H1.cell 1
          have ld_54 : wc.cell? ⟨g_16, 1, none⟩ = some (.bool false) := H2.cell 1
          go_wp2_with (first | (with_reducible refine stop_store ?_) | (with_reducible refine stop_box ?_) | (with_reducible refine stop_alloc ?_) | (with_reducible refine stop_bslice ?_) | ((with_reducible refine wpList_ld 0 [.int .u32 (W32 bi), .bool true, .int .i64 vs] H1 ?_ ?_ Try.underlying59 ?_ ?_ ?_); rfl; rfl; rfl; kernel_rfl) | ((with_reducible refine wpList_ldg 0 [.int .u32 (W32 bi), .bool true, .int .i64 vs] H1 ?_ ?_ Try.underlying59 ?_ ?_ ?_ ?_); rfl; rfl; rfl; kernel_rfl; rfl))
          refine (L.out _).mono ?_; rintro e w_56 ⟨rfl, hb_57⟩
          clear ld_51 ld_52 ld_53 ld_54
          replace H0 := H0.to hb_57 H0.lt
          replace H1 := H1.to hb_57 H1.lt
          replace H2 := H2.to hb_57 H2.lt
          replace H3 := H3.to hb_57 H3.lt
          replace H4 := H4.to hb_57 H4.lt
          replace hB := hB.trans (hb_57.mono hB.size)
          clear hb_57
          cases lb
          case false =>
            skip
            have ld_59 : w_56.cell? ⟨g_16, 2, none⟩ = some (.int .u32 (W32 bi)) := H2.cell 2
            have ld_60 : w_56.cell? ⟨g_8, 0, none⟩ = some (.int .u32 (W32 bi)) := H1.cell 0
            go_wp2_with (first | (with_reducible refine stop_store ?_) | (with_reducible refine stop_box ?_) | (with_reducible refine stop_alloc ?_) | (with_reducible refine stop_bslice ?_))
            clear ld_59 ld_60
            have hst : Stable fun W => Below w.heap.size w W ∧ Blk W g_1 27 #[.int .i64 pp, .int .u64 (W64 f1), .int .i64 f2, .int .u64 (W64 f3), .int .u64 (W64 f4), .int .u64 (W64 f5), .int .u64 (W64 m1), .int .i64 m2, .int .u64 (W64 m3), .int .u64 (W64 m4), .int .u64 (W64 m5)] ∧ Blk W g_8 59 #[.int .u32 (W32 bi), .bool true, .int .i64 vs] ∧ Blk W g_16 71 #[.bool br, .bool false, .int .u32 (W32 bi)] ∧ Room g_24 27 11 W ∧ Room g_32 59 3 W := stable_and (stable_below _ _ (Nat.le_refl _)) (stable_and (stable_blk _ _ _) (stable_and (stable_blk _ _ _) (stable_and (stable_blk _ _ _) (stable_and (stable_room _ _ _) (stable_room _ _ _)))))
            refine wp_region_v _ 4 hst ⟨hB.drew, H0, H1, H2, ⟨_, rfl, rfl, H3⟩, ⟨_, rfl, rfl, H4⟩⟩ ?_
            clear hB H0 H1 H2 H3 H4
            refine wpU_take (v := .agg #[.int .i64 pp, .int .u64 (W64 f1), .int .i64 f2, .int .u64 (W64 f3), .int .u64 (W64 f4), .int .u64 (W64 f5), .int .u64 (W64 m1), .int .i64 m2, .int .u64 (W64 m3), .int .u64 (W64 m4), .int .u64 (W64 m5)]) 0 hst (fun _ h => h) rfl (fun W hS K hK => calm_load rfl rfl (load_part hS.2.1 0 [.int .i64 pp, .int .u64 (W64 f1), .int .i64 f2, .int .u64 (W64 f3), .int .u64 (W64 f4), .int .u64 (W64 f5), .int .u64 (W64 m1), .int .i64 m2, .int .u64 (W64 m3), .int .u64 (W64 m4), .int .u64 (W64 m5)] rfl Try.underlying27 rfl (by kernel_rfl)) (hK.out _ (Below.refl _ _))) ?_; simp only [Act.put, List.setIfInBounds_toArray, List.set_cons_zero, List.set_cons_succ]
            refine wpU_take (v := .agg #[.int .u32 (W32 bi), .bool true, .int .i64 vs]) 1 hst (fun _ h => h) rfl (fun W hS K hK => calm_load rfl rfl (load_part hS.2.2.1 0 [.int .u32 (W32 bi), .bool true, .int .i64 vs] rfl Try.underlying59 rfl (by kernel_rfl)) (hK.out _ (Below.refl _ _))) ?_; simp only [Act.put, List.setIfInBounds_toArray, List.set_cons_zero, List.set_cons_succ]
            refine wpV_st 2 hst (fun _ h => h) #[.int .i64 pp, .int .u64 (W64 f1), .int .i64 f2, .int .u64 (W64 f3), .int .u64 (W64 f4), .int .u64 (W64 f5), .int .u64 (W64 m1), .int .i64 m2, .int .u64 (W64 m3), .int .u64 (W64 m4), .int .u64 (W64 m5)] rfl rfl rfl rfl (fun W hS => hS.2.2.2.2.1) (fun W W' h hU hG => ?_) (by kernel_rfl) rfl (fun hst => ?_)
            · obtain ⟨h0_0, h0_1, h0_2, h0_3, ⟨ch0_4, ah0_4, bh0_4, h0_4⟩, ⟨ch0_5, ah0_5, bh0_5, h0_5⟩⟩ := h
              exact ⟨hU.below h0_0 (by omega), hU.blk h0_1 (by omega), hU.blk h0_2 (by omega), hU.blk h0_3 (by omega), ⟨_, rfl, rfl, hG⟩, ⟨ch0_5, ah0_5, bh0_5, hU.blk h0_5 (by omega)⟩⟩
            refine wpV_st 3 hst (fun _ h => h.1) #[.int .u32 (W32 bi), .bool true, .int .i64 vs] rfl rfl rfl rfl (fun W hS => hS.1.2.2.2.2.2) (fun W W' h hU hG => ?_) (by kernel_rfl) rfl (fun hst => ?_)
            · obtain ⟨⟨h0_0, h0_1, h0_2, h0_3, ⟨ch0_4, ah0_4, bh0_4, h0_4⟩, ⟨ch0_5, ah0_5, bh0_5, h0_5⟩⟩, h1_0⟩ := h
              exact ⟨⟨hU.below h0_0 (by omega), hU.blk h0_1 (by omega), hU.blk h0_2 (by omega), hU.blk h0_3 (by omega), ⟨ch0_4, ah0_4, bh0_4, hU.blk h0_4 (by omega)⟩, ⟨_, rfl, rfl, hG⟩⟩, hU.blk h1_0 (by omega)⟩
            refine wpU_done (fun w_61 hS => ?_)
            obtain ⟨⟨⟨hB, H0, H1, H2, -, -⟩, H3s⟩, H4s⟩ := hS
            clear hst
            go_wp2_with (first | (with_reducible refine stop_store ?_) | (with_reducible refine stop_box ?_) | (with_reducible refine stop_alloc ?_) | (with_reducible refine stop_bslice ?_))
            refine bodyPost_ret (results_cc rfl rfl rfl (load_blk H3s Try.underlying27 rfl (by kernel_rfl)) (load_blk H4s Try.underlying59 rfl (by kernel_rfl))) rfl ?_
            refine ⟨?_, hB⟩
            have er : hearIVK ⟨bi, true, vs⟩ ⟨br, false, bi⟩ now = ⟨bi, true, vs⟩ := by have hlb := HLB.out; simp [hearIVK, hlb]
            rw [HSP.out, er]
            rfl
          case true =>
            skip
            go_wp2_with (first | (with_reducible refine stop_store ?_) | (with_reducible refine stop_box ?_) | (with_reducible refine stop_alloc ?_) | (with_reducible refine stop_bslice ?_))
            have hst : Stable fun W => Below w.heap.size w W ∧ Blk W g_1 27 #[.int .i64 pp, .int .u64 (W64 f1), .int .i64 f2, .int .u64 (W64 f3), .int .u64 (W64 f4), .int .u64 (W64 f5), .int .u64 (W64 m1), .int .i64 m2, .int .u64 (W64 m3), .int .u64 (W64 m4), .int .u64 (W64 m5)] ∧ Blk W g_8 59 #[.int .u32 (W32 bi), .bool true, .int .i64 vs] ∧ Blk W g_16 71 #[.bool br, .bool false, .int .u32 (W32 bi)] ∧ Room g_24 27 11 W ∧ Room g_32 59 3 W := stable_and (stable_below _ _ (Nat.le_refl _)) (stable_and (stable_blk _ _ _) (stable_and (stable_blk _ _ _) (stable_and (stable_blk _ _ _) (stable_and (stable_room _ _ _) (stable_room _ _ _)))))
            refine wp_region_v _ 7 hst ⟨hB.drew, H0, H1, H2, ⟨_, rfl, rfl, H3⟩, ⟨_, rfl, rfl, H4⟩⟩ ?_
            clear hB H0 H1 H2 H3 H4
            refine wpU_take (v := .agg #[.int .i64 pp, .int .u64 (W64 f1), .int .i64 f2, .int .u64 (W64 f3), .int .u64 (W64 f4), .int .u64 (W64 f5), .int .u64 (W64 m1), .int .i64 m2, .int .u64 (W64 m3), .int .u64 (W64 m4), .int .u64 (W64 m5)]) 0 hst (fun _ h => h) rfl (fun W hS K hK => calm_load rfl rfl (load_part hS.2.1 0 [.int .i64 pp, .int .u64 (W64 f1), .int .i64 f2, .int .u64 (W64 f3), .int .u64 (W64 f4), .int .u64 (W64 f5), .int .u64 (W64 m1), .int .i64 m2, .int .u64 (W64 m3), .int .u64 (W64 m4), .int .u64 (W64 m5)] rfl Try.underlying27 rfl (by kernel_rfl)) (hK.out _ (Below.refl _ _))) ?_; simp only [Act.put, List.setIfInBounds_toArray, List.set_cons_zero, List.set_cons_succ]
            refine wpU_take (v := ?_) 1 hst (fun _ h => h) rfl ?_ ?_; rotate_left; (intro W hS K hK; clear hS; go_simp; exact hK.out _ (Below.refl _ _)); simp only [Act.put, List.setIfInBounds_toArray, List.set_cons_zero, List.set_cons_succ]
            refine wpU_take (v := ?_) 2 hst (fun _ h => h) rfl ?_ ?_; rotate_left; (intro W hS K hK; have ld : W.cell? ⟨g_8, 0, none⟩ = some (.int .u32 (W32 bi)) := hS.2.2.1.cell 0; clear hS; go_simp; exact hK.out _ (Below.refl _ _)); simp only [Act.put, List.setIfInBounds_toArray, List.set_cons_zero, List.set_cons_succ]
            refine wpU_take (v := ?_) 3 hst (fun _ h => h) rfl ?_ ?_; rotate_left; (intro W hS K hK; clear hS; go_simp; exact hK.out _ (Below.refl _ _)); simp only [Act.put, List.setIfInBounds_toArray, List.set_cons_zero, List.set_cons_succ]
            refine wpU_take (v := ?_) 4 hst (fun _ h => h) rfl ?_ ?_; rotate_left; (intro W hS K hK; clear hS; go_simp; exact hK.out _ (Below.refl _ _)); simp only [Act.put, List.setIfInBounds_toArray, List.set_cons_zero, List.set_cons_succ]
            refine wpV_st 5 hst (fun _ h => h) #[.int .i64 pp, .int .u64 (W64 f1), .int .i64 f2, .int .u64 (W64 f3), .int .u64 (W64 f4), .int .u64 (W64 f5), .int .u64 (W64 m1), .int .i64 m2, .int .u64 (W64 m3), .int .u64 (W64 m4), .int .u64 (W64 m5)] rfl rfl rfl rfl (fun W hS => hS.2.2.2.2.1) (fun W W' h hU hG => ?_) (by kernel_rfl) rfl (fun hst => ?_)
            · obtain ⟨h0_0, h0_1, h0_2, h0_3, ⟨ch0_4, ah0_4, bh0_4, h0_4⟩, ⟨ch0_5, ah0_5, bh0_5, h0_5⟩⟩ := h
              exact ⟨hU.below h0_0 (by omega), hU.blk h0_1 (by omega), hU.blk h0_2 (by omega), hU.blk h0_3 (by omega), ⟨_, rfl, rfl, hG⟩, ⟨ch0_5, ah0_5, bh0_5, hU.blk h0_5 (by omega)⟩⟩
            refine wpV_st 6 hst (fun _ h => h.1) #[.int .u32 (W32 bi), .bool false, .int .i64 now] rfl rfl rfl rfl (fun W hS => hS.1.2.2.2.2.2) (fun W W' h hU hG => ?_) (by kernel_rfl) rfl (fun hst => ?_)
            · obtain ⟨⟨h0_0, h0_1, h0_2, h0_3, ⟨ch0_4, ah0_4, bh0_4, h0_4⟩, ⟨ch0_5, ah0_5, bh0_5, h0_5⟩⟩, h1_0⟩ := h
              exact ⟨⟨hU.below h0_0 (by omega), hU.blk h0_1 (by omega), hU.blk h0_2 (by omega), hU.blk h0_3 (by omega), ⟨ch0_4, ah0_4, bh0_4, hU.blk h0_4 (by omega)⟩, ⟨_, rfl, rfl, hG⟩⟩, hU.blk h1_0 (by omega)⟩
            refine wpU_done (fun w_62 hS => ?_)
            obtain ⟨⟨⟨hB, H0, H1, H2, -, -⟩, H3s⟩, H4s⟩ := hS
            clear hst
            go_wp2_with (first | (with_reducible refine stop_store ?_) | (with_reducible refine stop_box ?_) | (with_reducible refine stop_alloc ?_) | (with_reducible refine stop_bslice ?_))
            refine bodyPost_ret (results_cc rfl rfl rfl (load_blk H3s Try.underlying27 rfl (by kernel_rfl)) (load_blk H4s Try.underlying59 rfl (by kernel_rfl))) rfl ?_
            refine ⟨?_, hB⟩
            have er : hearIVK ⟨bi, true, vs⟩ ⟨br, false, bi⟩ now = ⟨bi, false, now⟩ := by have hlb := HLB.out; simp [hearIVK, hlb]
            rw [HSP.out, er]
            rfl
        case true =>
          skip
          have ld_63 : wc.cell? ⟨g_16, 2, none⟩ = some (.int .u32 (W32 bi)) := H2.cell 2
          have ld_64 : wc.cell? ⟨g_8, 0, none⟩ = some (.int .u32 (W32 bi)) := H1.cell 0
          have ld_65 : wc.cell? ⟨g_8, 1, none⟩ = some (.bool true) := H1.cell 1
          have ld_66 : wc.cell? ⟨g_16, 1, none⟩ = some (.bool true) := H2.cell 1
          go_wp2_with (first | (with_reducible refine stop_store ?_) | (with_reducible refine stop_box ?_) | (with_reducible refine stop_alloc ?_) | (with_reducible refine stop_bslice ?_))
          clear ld_63 ld_64 ld_65 ld_66
          have hst : Stable fun W => Below w.heap.size w W ∧ Blk W g_1 27 #[.int .i64 pp, .int .u64 (W64 f1), .int .i64 f2, .int .u64 (W64 f3), .int .u64 (W64 f4), .int .u64 (W64 f5), .int .u64 (W64 m1), .int .i64 m2, .int .u64 (W64 m3), .int .u64 (W64 m4), .int .u64 (W64 m5)] ∧ Blk W g_8 59 #[.int .u32 (W32 bi), .bool true, .int .i64 vs] ∧ Blk W g_16 71 #[.bool br, .bool true, .int .u32 (W32 bi)] ∧ Room g_24 27 11 W ∧ Room g_32 59 3 W := stable_and (stable_below _ _ (Nat.le_refl _)) (stable_and (stable_blk _ _ _) (stable_and (stable_blk _ _ _) (stable_and (stable_blk _ _ _) (stable_and (stable_room _ _ _) (stable_room _ _ _)))))
          refine wp_region_v _ 4 hst ⟨hB.drew, H0, H1, H2, ⟨_, rfl, rfl, H3⟩, ⟨_, rfl, rfl, H4⟩⟩ ?_
          clear hB H0 H1 H2 H3 H4
          refine wpU_take (v := .agg #[.int .i64 pp, .int .u64 (W64 f1), .int .i64 f2, .int .u64 (W64 f3), .int .u64 (W64 f4), .int .u64 (W64 f5), .int .u64 (W64 m1), .int .i64 m2, .int .u64 (W64 m3), .int .u64 (W64 m4), .int .u64 (W64 m5)]) 0 hst (fun _ h => h) rfl (fun W hS K hK => calm_load rfl rfl (load_part hS.2.1 0 [.int .i64 pp, .int .u64 (W64 f1), .int .i64 f2, .int .u64 (W64 f3), .int .u64 (W64 f4), .int .u64 (W64 f5), .int .u64 (W64 m1), .int .i64 m2, .int .u64 (W64 m3), .int .u64 (W64 m4), .int .u64 (W64 m5)] rfl Try.underlying27 rfl (by kernel_rfl)) (hK.out _ (Below.refl _ _))) ?_; simp only [Act.put, List.setIfInBounds_toArray, List.set_cons_zero, List.set_cons_succ]
          refine wpU_take (v := .agg #[.int .u32 (W32 bi), .bool true, .int .i64 vs]) 1 hst (fun _ h => h) rfl (fun W hS K hK => calm_load rfl rfl (load_part hS.2.2.1 0 [.int .u32 (W32 bi), .bool true, .int .i64 vs] rfl Try.underlying59 rfl (by kernel_rfl)) (hK.out _ (Below.refl _ _))) ?_; simp only [Act.put, List.setIfInBounds_toArray, List.set_cons_zero, List.set_cons_succ]
          refine wpV_st 2 hst (fun _ h => h) #[.int .i64 pp, .int .u64 (W64 f1), .int .i64 f2, .int .u64 (W64 f3), .int .u64 (W64 f4), .int .u64 (W64 f5), .int .u64 (W64 m1), .int .i64 m2, .int .u64 (W64 m3), .int .u64 (W64 m4), .int .u64 (W64 m5)] rfl rfl rfl rfl (fun W hS => hS.2.2.2.2.1) (fun W W' h hU hG => ?_) (by kernel_rfl) rfl (fun hst => ?_)
          · obtain ⟨h0_0, h0_1, h0_2, h0_3, ⟨ch0_4, ah0_4, bh0_4, h0_4⟩, ⟨ch0_5, ah0_5, bh0_5, h0_5⟩⟩ := h
            exact ⟨hU.below h0_0 (by omega), hU.blk h0_1 (by omega), hU.blk h0_2 (by omega), hU.blk h0_3 (by omega), ⟨_, rfl, rfl, hG⟩, ⟨ch0_5, ah0_5, bh0_5, hU.blk h0_5 (by omega)⟩⟩
          refine wpV_st 3 hst (fun _ h => h.1) #[.int .u32 (W32 bi), .bool true, .int .i64 vs] rfl rfl rfl rfl (fun W hS => hS.1.2.2.2.2.2) (fun W W' h hU hG => ?_) (by kernel_rfl) rfl (fun hst => ?_)
          · obtain ⟨⟨h0_0, h0_1, h0_2, h0_3, ⟨ch0_4, ah0_4, bh0_4, h0_4⟩, ⟨ch0_5, ah0_5, bh0_5, h0_5⟩⟩, h1_0⟩ := h
            exact ⟨⟨hU.below h0_0 (by omega), hU.blk h0_1 (by omega), hU.blk h0_2 (by omega), hU.blk h0_3 (by omega), ⟨ch0_4, ah0_4, bh0_4, hU.blk h0_4 (by omega)⟩, ⟨_, rfl, rfl, hG⟩⟩, hU.blk h1_0 (by omega)⟩
          refine wpU_done (fun w_67 hS => ?_)
          obtain ⟨⟨⟨hB, H0, H1, H2, -, -⟩, H3s⟩, H4s⟩ := hS
          clear hst
          go_wp2_with (first | (with_reducible refine stop_store ?_) | (with_reducible refine stop_box ?_) | (with_reducible refine stop_alloc ?_) | (with_reducible refine stop_bslice ?_))
          refine bodyPost_ret (results_cc rfl rfl rfl (load_blk H3s Try.underlying27 rfl (by kernel_rfl)) (load_blk H4s Try.underlying59 rfl (by kernel_rfl))) rfl ?_
          refine ⟨?_, hB⟩
          have er : hearIVK ⟨bi, true, vs⟩ ⟨br, true, bi⟩ now = ⟨bi, true, vs⟩ := by have hlb := HLB.out; simp [hearIVK, hlb]
          rw [HSP.out, er]
          rfl
    ·
      have ec_44 : ((W32 bi : Int) == W32 vi) = false := by have this : (W32 bi == W32 vi) = false := (by rw [W32_beq]; simpa using hc_44); exact this
      have ec_44n : ((W32 bi : Int) != W32 vi) = true := by have this : (W32 bi != W32 vi) = true := (by rw [W32_bne]; simpa using hc_44); exact this
      have kc_44 := Lib.hid hc_44
      clear hc_44
      by_cases hc_68 : vi < bi
      ·
        have ec_68 : decide ((W32 vi : Int) < W32 bi) = true := decide_eq_true (show W32 vi < W32 bi by rw [W32_lt]; exact hc_68)
        have ec_68n : decide ((W32 bi : Int) ≤ W32 vi) = false := decide_eq_false (fun hh => absurd (show W32 bi ≤ W32 vi from hh) (by rw [W32_le]; exact BitVec.not_le.2 hc_68))
        have kc_68 := Lib.hid hc_68
        clear hc_68
        by_cases hc_69 : 42#32 < bi - vi
        ·
          have ec_69 : decide ((42 : Int) < W32 (bi - vi)) = true := decide_eq_true (show W32 (42#32) < W32 (bi - vi) by rw [W32_lt]; exact hc_69)
          have ec_69n : decide ((W32 (bi - vi) : Int) ≤ 42) = false := decide_eq_false (fun hh => absurd (show W32 (bi - vi) ≤ W32 (42#32) from hh) (by rw [W32_le]; exact BitVec.not_le.2 hc_69))
          have kc_69 := Lib.hid hc_69
          clear hc_69
          have ld_70 : wc.cell? ⟨g_16, 2, none⟩ = some (.int .u32 (W32 bi)) := H2.cell 2
          have ld_71 : wc.cell? ⟨g_8, 0, none⟩ = some (.int .u32 (W32 vi)) := H1.cell 0
          go_wp2_with (first | (with_reducible refine stop_store ?_) | (with_reducible refine stop_box ?_) | (with_reducible refine stop_alloc ?_) | (with_reducible refine stop_bslice ?_))
          clear ld_70 ld_71
          have hst : Stable fun W => Below w.heap.size w W ∧ Blk W g_1 27 #[.int .i64 pp, .int .u64 (W64 f1), .int .i64 f2, .int .u64 (W64 f3), .int .u64 (W64 f4), .int .u64 (W64 f5), .int .u64 (W64 m1), .int .i64 m2, .int .u64 (W64 m3), .int .u64 (W64 m4), .int .u64 (W64 m5)] ∧ Blk W g_8 59 #[.int .u32 (W32 vi), .bool vu, .int .i64 vs] ∧ Blk W g_16 71 #[.bool br, .bool bu, .int .u32 (W32 bi)] ∧ Room g_24 27 11 W ∧ Room g_32 59 3 W := stable_and (stable_below _ _ (Nat.le_refl _)) (stable_and (stable_blk _ _ _) (stable_and (stable_blk _ _ _) (stable_and (stable_blk _ _ _) (stable_and (stable_room _ _ _) (stable_room _ _ _)))))
          refine wp_region_v _ 4 hst ⟨hB.drew, H0, H1, H2, ⟨_, rfl, rfl, H3⟩, ⟨_, rfl, rfl, H4⟩⟩ ?_
          clear hB H0 H1 H2 H3 H4
          refine wpU_take (v := .agg #[.int .i64 pp, .int .u64 (W64 f1), .int .i64 f2, .int .u64 (W64 f3), .int .u64 (W64 f4), .int .u64 (W64 f5), .int .u64 (W64 m1), .int .i64 m2, .int .u64 (W64 m3), .int .u64 (W64 m4), .int .u64 (W64 m5)]) 0 hst (fun _ h => h) rfl (fun W hS K hK => calm_load rfl rfl (load_part hS.2.1 0 [.int .i64 pp, .int .u64 (W64 f1), .int .i64 f2, .int .u64 (W64 f3), .int .u64 (W64 f4), .int .u64 (W64 f5), .int .u64 (W64 m1), .int .i64 m2, .int .u64 (W64 m3), .int .u64 (W64 m4), .int .u64 (W64 m5)] rfl Try.underlying27 rfl (by kernel_rfl)) (hK.out _ (Below.refl _ _))) ?_; simp only [Act.put, List.setIfInBounds_toArray, List.set_cons_zero, List.set_cons_succ]
          refine wpU_take (v := .agg #[.int .u32 (W32 vi), .bool vu, .int .i64 vs]) 1 hst (fun _ h => h) rfl (fun W hS K hK => calm_load rfl rfl (load_part hS.2.2.1 0 [.int .u32 (W32 vi), .bool vu, .int .i64 vs] rfl Try.underlying59 rfl (by kernel_rfl)) (hK.out _ (Below.refl _ _))) ?_; simp only [Act.put, List.setIfInBounds_toArray, List.set_cons_zero, List.set_cons_succ]
          refine wpV_st 2 hst (fun _ h => h) #[.int .i64 pp, .int .u64 (W64 f1), .int .i64 f2, .int .u64 (W64 f3), .int .u64 (W64 f4), .int .u64 (W64 f5), .int .u64 (W64 m1), .int .i64 m2, .int .u64 (W64 m3), .int .u64 (W64 m4), .int .u64 (W64 m5)] rfl rfl rfl rfl (fun W hS => hS.2.2.2.2.1) (fun W W' h hU hG => ?_) (by kernel_rfl) rfl (fun hst => ?_)
          · obtain ⟨h0_0, h0_1, h0_2, h0_3, ⟨ch0_4, ah0_4, bh0_4, h0_4⟩, ⟨ch0_5, ah0_5, bh0_5, h0_5⟩⟩ := h
            exact ⟨hU.below h0_0 (by omega), hU.blk h0_1 (by omega), hU.blk h0_2 (by omega), hU.blk h0_3 (by omega), ⟨_, rfl, rfl, hG⟩, ⟨ch0_5, ah0_5, bh0_5, hU.blk h0_5 (by omega)⟩⟩
          refine wpV_st 3 hst (fun _ h => h.1) #[.int .u32 (W32 vi), .bool vu, .int .i64 vs] rfl rfl rfl rfl (fun W hS => hS.1.2.2.2.2.2) (fun W W' h hU hG => ?_) (by kernel_rfl) rfl (fun hst => ?_)
          · obtain ⟨⟨h0_0, h0_1, h0_2, h0_3, ⟨ch0_4, ah0_4, bh0_4, h0_4⟩, ⟨ch0_5, ah0_5, bh0_5, h0_5⟩⟩, h1_0⟩ := h
            exact ⟨⟨hU.below h0_0 (by omega), hU.blk h0_1 (by omega), hU.blk h0_2 (by omega), hU.blk h0_3 (by omega), ⟨ch0_4, ah0_4, bh0_4, hU.blk h0_4 (by omega)⟩, ⟨_, rfl, rfl, hG⟩⟩, hU.blk h1_0 (by omega)⟩
          refine wpU_done (fun w_72 hS => ?_)
          obtain ⟨⟨⟨hB, H0, H1, H2, -, -⟩, H3s⟩, H4s⟩ := hS
          clear hst
          go_wp2_with (first | (with_reducible refine stop_store ?_) | (with_reducible refine stop_box ?_) | (with_reducible refine stop_alloc ?_) | (with_reducible refine stop_bslice ?_))
          refine bodyPost_ret (results_cc rfl rfl rfl (load_blk H3s Try.underlying27 rfl (by kernel_rfl)) (load_blk H4s Try.underlying59 rfl (by kernel_rfl))) rfl ?_
          refine ⟨?_, hB⟩
          have er : hearIVK ⟨vi, vu, vs⟩ ⟨br, bu, bi⟩ now = ⟨vi, vu, vs⟩ := by have q2 := kc_44.out; have q3 := kc_68.out; have r3 := BitVec.not_le.2 q3; have q4 := kc_69.out; have r4 := BitVec.not_le.2 q4; have hlb := HLB.out; simp [hearIVK, hlb, q2, q3, r3, q4, r4]
          rw [HSP.out, er]
          rfl
        ·
          have ec_69 : decide ((42 : Int) < W32 (bi - vi)) = false := decide_eq_false (fun hh => hc_69 (by have h2 : W32 (42#32) < W32 (bi - vi) := hh; rw [W32_lt] at h2; exact h2))
          have ec_69n : decide ((W32 (bi - vi) : Int) ≤ 42) = true := decide_eq_true (show W32 (bi - vi) ≤ W32 (42#32) by rw [W32_le]; exact BitVec.not_lt.1 hc_69)
          have kc_69 := Lib.hid hc_69
          clear hc_69
          by_cases hc_73 : bi - vi = 1#32
          ·
            have ec_73 : ((W32 (bi - vi) : Int) == 1) = true := by have this : (W32 (bi - vi) == W32 (1#32)) = true := (by rw [W32_beq]; simpa using hc_73); exact this
            have ec_73n : ((W32 (bi - vi) : Int) != 1) = false := by have this : (W32 (bi - vi) != W32 (1#32)) = false := (by rw [W32_bne]; simpa using hc_73); exact this
            have kc_73 := Lib.hid hc_73
            clear hc_73
            cases bu
            case false =>
              skip
              have ld_75 : wc.cell? ⟨g_16, 2, none⟩ = some (.int .u32 (W32 bi)) := H2.cell 2
              have ld_76 : wc.cell? ⟨g_8, 0, none⟩ = some (.int .u32 (W32 vi)) := H1.cell 0
              have ld_77 : wc.cell? ⟨g_16, 1, none⟩ = some (.bool false) := H2.cell 1
              go_wp2_with (first | (with_reducible refine stop_store ?_) | (with_reducible refine stop_box ?_) | (with_reducible refine stop_alloc ?_) | (with_reducible refine stop_bslice ?_))
              clear ld_75 ld_76 ld_77
              have hst : Stable fun W => Below w.heap.size w W ∧ Blk W g_1 27 #[.int .i64 pp, .int .u64 (W64 f1), .int .i64 f2, .int .u64 (W64 f3), .int .u64 (W64 f4), .int .u64 (W64 f5), .int .u64 (W64 m1), .int .i64 m2, .int .u64 (W64 m3), .int .u64 (W64 m4), .int .u64 (W64 m5)] ∧ Blk W g_8 59 #[.int .u32 (W32 vi), .bool vu, .int .i64 vs] ∧ Blk W g_16 71 #[.bool br, .bool false, .int .u32 (W32 bi)] ∧ Room g_24 27 11 W ∧ Room g_32 59 3 W := stable_and (stable_below _ _ (Nat.le_refl _)) (stable_and (stable_blk _ _ _) (stable_and (stable_blk _ _ _) (stable_and (stable_blk _ _ _) (stable_and (stable_room _ _ _) (stable_room _ _ _)))))
              refine wp_region_v _ 9 hst ⟨hB.drew, H0, H1, H2, ⟨_, rfl, rfl, H3⟩, ⟨_, rfl, rfl, H4⟩⟩ ?_
              clear hB H0 H1 H2 H3 H4
              refine wpU_take (v := .agg #[.int .i64 pp, .int .u64 (W64 f1), .int .i64 f2, .int .u64 (W64 f3), .int .u64 (W64 f4), .int .u64 (W64 f5), .int .u64 (W64 m1), .int .i64 m2, .int .u64 (W64 m3), .int .u64 (W64 m4), .int .u64 (W64 m5)]) 0 hst (fun _ h => h) rfl (fun W hS K hK => calm_load rfl rfl (load_part hS.2.1 0 [.int .i64 pp, .int .u64 (W64 f1), .int .i64 f2, .int .u64 (W64 f3), .int .u64 (W64 f4), .int .u64 (W64 f5), .int .u64 (W64 m1), .int .i64 m2, .int .u64 (W64 m3), .int .u64 (W64 m4), .int .u64 (W64 m5)] rfl Try.underlying27 rfl (by kernel_rfl)) (hK.out _ (Below.refl _ _))) ?_; simp only [Act.put, List.setIfInBounds_toArray, List.set_cons_zero, List.set_cons_succ]
              refine wpU_take (v := ?_) 1 hst (fun _ h => h) rfl ?_ ?_; rotate_left; (intro W hS K hK; clear hS; go_simp; exact hK.out _ (Below.refl _ _)); simp only [Act.put, List.setIfInBounds_toArray, List.set_cons_zero, List.set_cons_succ]
              refine wpU_take (v := ?_) 2 hst (fun _ h => h) rfl ?_ ?_; rotate_left; (intro W hS K hK; have ld : W.cell? ⟨g_16, 2, none⟩ = some (.int .u32 (W32 bi)) := hS.2.2.2.1.cell 2; clear hS; go_simp; exact hK.out _ (Below.refl _ _)); simp only [Act.put, List.setIfInBounds_toArray, List.set_cons_zero, List.set_cons_succ]
              refine wpU_take (v := ?_) 3 hst (fun _ h => h) rfl ?_ ?_; rotate_left; (intro W hS K hK; clear hS; go_simp; exact hK.out _ (Below.refl _ _)); simp only [Act.put, List.setIfInBounds_toArray, List.set_cons_zero, List.set_cons_succ]
              refine wpU_take (v := ?_) 4 hst (fun _ h => h) rfl ?_ ?_; rotate_left; (intro W hS K hK; have ld : W.cell? ⟨g_16, 1, none⟩ = some (.bool false) := hS.2.2.2.1.cell 1; clear hS; go_simp; exact hK.out _ (Below.refl _ _)); simp only [Act.put, List.setIfInBounds_toArray, List.set_cons_zero, List.set_cons_succ]
              refine wpU_take (v := ?_) 5 hst (fun _ h => h) rfl ?_ ?_; rotate_left; (intro W hS K hK; clear hS; go_simp; exact hK.out _ (Below.refl _ _)); simp only [Act.put, List.setIfInBounds_toArray, List.set_cons_zero, List.set_cons_succ]
              refine wpU_take (v := ?_) 6 hst (fun _ h => h) rfl ?_ ?_; rotate_left; (intro W hS K hK; clear hS; go_simp; exact hK.out _ (Below.refl _ _)); simp only [Act.put, List.setIfInBounds_toArray, List.set_cons_zero, List.set_cons_succ]
              refine wpV_st 7 hst (fun _ h => h) #[.int .i64 pp, .int .u64 (W64 f1), .int .i64 f2, .int .u64 (W64 f3), .int .u64 (W64 f4), .int .u64 (W64 f5), .int .u64 (W64 m1), .int .i64 m2, .int .u64 (W64 m3), .int .u64 (W64 m4), .int .u64 (W64 m5)] rfl rfl rfl rfl (fun W hS => hS.2.2.2.2.1) (fun W W' h hU hG => ?_) (by kernel_rfl) rfl (fun hst => ?_)
              · obtain ⟨h0_0, h0_1, h0_2, h0_3, ⟨ch0_4, ah0_4, bh0_4, h0_4⟩, ⟨ch0_5, ah0_5, bh0_5, h0_5⟩⟩ := h
                exact ⟨hU.below h0_0 (by omega), hU.blk h0_1 (by omega), hU.blk h0_2 (by omega), hU.blk h0_3 (by omega), ⟨_, rfl, rfl, hG⟩, ⟨ch0_5, ah0_5, bh0_5, hU.blk h0_5 (by omega)⟩⟩
              refine wpV_st 8 hst (fun _ h => h.1) #[.int .u32 (W32 bi), .bool false, .int .i64 now] rfl rfl rfl rfl (fun W hS => hS.1.2.2.2.2.2) (fun W W' h hU hG => ?_) (by kernel_rfl) rfl (fun hst => ?_)
              · obtain ⟨⟨h0_0, h0_1, h0_2, h0_3, ⟨ch0_4, ah0_4, bh0_4, h0_4⟩, ⟨ch0_5, ah0_5, bh0_5, h0_5⟩⟩, h1_0⟩ := h
                exact ⟨⟨hU.below h0_0 (by omega), hU.blk h0_1 (by omega), hU.blk h0_2 (by omega), hU.blk h0_3 (by omega), ⟨ch0_4, ah0_4, bh0_4, hU.blk h0_4 (by omega)⟩, ⟨_, rfl, rfl, hG⟩⟩, hU.blk h1_0 (by omega)⟩
              refine wpU_done (fun w_78 hS => ?_)
              obtain ⟨⟨⟨hB, H0, H1, H2, -, -⟩, H3s⟩, H4s⟩ := hS
              clear hst
              go_wp2_with (first | (with_reducible refine stop_store ?_) | (with_reducible refine stop_box ?_) | (with_reducible refine stop_alloc ?_) | (with_reducible refine stop_bslice ?_))
              refine bodyPost_ret (results_cc rfl rfl rfl (load_blk H3s Try.underlying27 rfl (by kernel_rfl)) (load_blk H4s Try.underlying59 rfl (by kernel_rfl))) rfl ?_
              refine ⟨?_, hB⟩
              have er : hearIVK ⟨vi, vu, vs⟩ ⟨br, false, bi⟩ now = ⟨bi, false, now⟩ := by have q2 := kc_44.out; have q3 := kc_68.out; have r3 := BitVec.not_le.2 q3; have q4 := kc_69.out; have r4 := BitVec.not_lt.1 q4; have q5 := kc_73.out; have hlb := HLB.out; simp [hearIVK, hlb, q2, q3, r3, q4, r4, q5]
              rw [HSP.out, er]
              rfl
            case true =>
              skip
              have ld_79 : wc.cell? ⟨g_16, 2, none⟩ = some (.int .u32 (W32 bi)) := H2.cell 2
              have ld_80 : wc.cell? ⟨g_8, 0, none⟩ = some (.int .u32 (W32 vi)) := H1.cell 0
              have ld_81 : wc.cell? ⟨g_16, 1, none⟩ = some (.bool true) := H2.cell 1
              go_wp2_with (first | (with_reducible refine stop_store ?_) | (with_reducible refine stop_box ?_) | (with_reducible refine stop_alloc ?_) | (with_reducible refine stop_bslice ?_) | ((with_reducible refine wpList_ld 0 [.int .u32 (W32 vi), .bool vu, .int .i64 vs] H1 ?_ ?_ Try.underlying59 ?_ ?_ ?_); rfl; rfl; rfl; kernel_rfl) | ((with_reducible refine wpList_ldg 0 [.int .u32 (W32 vi), .bool vu, .int .i64 vs] H1 ?_ ?_ Try.underlying59 ?_ ?_ ?_ ?_); rfl; rfl; rfl; kernel_rfl; rfl))
              refine (L.out _).mono ?_; rintro e w_83 ⟨rfl, hb_84⟩
              clear ld_79 ld_80 ld_81
              replace H0 := H0.to hb_84 H0.lt
              replace H1 := H1.to hb_84 H1.lt
              replace H2 := H2.to hb_84 H2.lt
              replace H3 := H3.to hb_84 H3.lt
              replace H4 := H4.to hb_84 H4.lt
              replace hB := hB.trans (hb_84.mono hB.size)
              clear hb_84
              cases lb
              case false =>
                skip
                go_wp2_with (first | (with_reducible refine stop_store ?_) | (with_reducible refine stop_box ?_) | (with_reducible refine stop_alloc ?_) | (with_reducible refine stop_bslice ?_))
                have hst : Stable fun W => Below w.heap.size w W ∧ Blk W g_1 27 #[.int .i64 pp, .int .u64 (W64 f1), .int .i64 f2, .int .u64 (W64 f3), .int .u64 (W64 f4), .int .u64 (W64 f5), .int .u64 (W64 m1), .int .i64 m2, .int .u64 (W64 m3), .int .u64 (W64 m4), .int .u64 (W64 m5)] ∧ Blk W g_8 59 #[.int .u32 (W32 vi), .bool vu, .int .i64 vs] ∧ Blk W g_16 71 #[.bool br, .bool true, .int .u32 (W32 bi)] ∧ Room g_24 27 11 W ∧ Room g_32 59 3 W := stable_and (stable_below _ _ (Nat.le_refl _)) (stable_and (stable_blk _ _ _) (stable_and (stable_blk _ _ _) (stable_and (stable_blk _ _ _) (stable_and (stable_room _ _ _) (stable_room _ _ _)))))
                refine wp_region_v _ 4 hst ⟨hB.drew, H0, H1, H2, ⟨_, rfl, rfl, H3⟩, ⟨_, rfl, rfl, H4⟩⟩ ?_
                clear hB H0 H1 H2 H3 H4
                refine wpU_take (v := .agg #[.int .i64 pp, .int .u64 (W64 f1), .int .i64 f2, .int .u64 (W64 f3), .int .u64 (W64 f4), .int .u64 (W64 f5), .int .u64 (W64 m1), .int .i64 m2, .int .u64 (W64 m3), .int .u64 (W64 m4), .int .u64 (W64 m5)]) 0 hst (fun _ h => h) rfl (fun W hS K hK => calm_load rfl rfl (load_part hS.2.1 0 [.int .i64 pp, .int .u64 (W64 f1), .int .i64 f2, .int .u64 (W64 f3), .int .u64 (W64 f4), .int .u64 (W64 f5), .int .u64 (W64 m1), .int .i64 m2, .int .u64 (W64 m3), .int .u64 (W64 m4), .int .u64 (W64 m5)] rfl Try.underlying27 rfl (by kernel_rfl)) (hK.out _ (Below.refl _ _))) ?_; simp only [Act.put, List.setIfInBounds_toArray, List.set_cons_zero, List.set_cons_succ]
                refine wpU_take (v := .agg #[.int .u32 (W32 vi), .bool vu, .int .i64 vs]) 1 hst (fun _ h => h) rfl (fun W hS K hK => calm_load rfl rfl (load_part hS.2.2.1 0 [.int .u32 (W32 vi), .bool vu, .int .i64 vs] rfl Try.underlying59 rfl (by kernel_rfl)) (hK.out _ (Below.refl _ _))) ?_; simp only [Act.put, List.setIfInBounds_toArray, List.set_cons_zero, List.set_cons_succ]
                refine wpV_st 2 hst (fun _ h => h) #[.int .i64 pp, .int .u64 (W64 f1), .int .i64 f2, .int .u64 (W64 f3), .int .u64 (W64 f4), .int .u64 (W64 f5), .int .u64 (W64 m1), .int .i64 m2, .int .u64 (W64 m3), .int .u64 (W64 m4), .int .u64 (W64 m5)] rfl rfl rfl rfl (fun W hS => hS.2.2.2.2.1) (fun W W' h hU hG => ?_) (by kernel_rfl) rfl (fun hst => ?_)
                · obtain ⟨h0_0, h0_1, h0_2, h0_3, ⟨ch0_4, ah0_4, bh0_4, h0_4⟩, ⟨ch0_5, ah0_5, bh0_5, h0_5⟩⟩ := h
                  exact ⟨hU.below h0_0 (by omega), hU.blk h0_1 (by omega), hU.blk h0_2 (by omega), hU.blk h0_3 (by omega), ⟨_, rfl, rfl, hG⟩, ⟨ch0_5, ah0_5, bh0_5, hU.blk h0_5 (by omega)⟩⟩
                refine wpV_st 3 hst (fun _ h => h.1) #[.int .u32 (W32 vi), .bool vu, .int .i64 vs] rfl rfl rfl rfl (fun W hS => hS.1.2.2.2.2.2) (fun W W' h hU hG => ?_) (by kernel_rfl) rfl (fun hst => ?_)
                · obtain ⟨⟨h0_0, h0_1, h0_2, h0_3, ⟨ch0_4, ah0_4, bh0_4, h0_4⟩, ⟨ch0_5, ah0_5, bh0_5, h0_5⟩⟩, h1_0⟩ := h
                  exact ⟨⟨hU.below h0_0 (by omega), hU.blk h0_1 (by omega), hU.blk h0_2 (by omega), hU.blk h0_3 (by omega), ⟨ch0_4, ah0_4, bh0_4, hU.blk h0_4 (by omega)⟩, ⟨_, rfl, rfl, hG⟩⟩, hU.blk h1_0 (by omega)⟩
                refine wpU_done (fun w_86 hS => ?_)
                obtain ⟨⟨⟨hB, H0, H1, H2, -, -⟩, H3s⟩, H4s⟩ := hS
                clear hst
                go_wp2_with (first | (with_reducible refine stop_store ?_) | (with_reducible refine stop_box ?_) | (with_reducible refine stop_alloc ?_) | (with_reducible refine stop_bslice ?_))
                refine bodyPost_ret (results_cc rfl rfl rfl (load_blk H3s Try.underlying27 rfl (by kernel_rfl)) (load_blk H4s Try.underlying59 rfl (by kernel_rfl))) rfl ?_
                refine ⟨?_, hB⟩
                have er : hearIVK ⟨vi, vu, vs⟩ ⟨br, true, bi⟩ now = ⟨vi, vu, vs⟩ := by have q2 := kc_44.out; have q3 := kc_68.out; have r3 := BitVec.not_le.2 q3; have q4 := kc_69.out; have r4 := BitVec.not_lt.1 q4; have q5 := kc_73.out; have hlb := HLB.out; simp [hearIVK, hlb, q2, q3, r3, q4, r4, q5]
                rw [HSP.out, er]
                rfl
              case true =>
                skip
                go_wp2_with (first | (with_reducible refine stop_store ?_) | (with_reducible refine stop_box ?_) | (with_reducible refine stop_alloc ?_) | (with_reducible refine stop_bslice ?_))
                have hst : Stable fun W => Below w.heap.size w W ∧ Blk W g_1 27 #[.int .i64 pp, .int .u64 (W64 f1), .int .i64 f2, .int .u64 (W64 f3), .int .u64 (W64 f4), .int .u64 (W64 f5), .int .u64 (W64 m1), .int .i64 m2, .int .u64 (W64 m3), .int .u64 (W64 m4), .int .u64 (W64 m5)] ∧ Blk W g_8 59 #[.int .u32 (W32 vi), .bool vu, .int .i64 vs] ∧ Blk W g_16 71 #[.bool br, .bool true, .int .u32 (W32 bi)] ∧ Room g_24 27 11 W ∧ Room g_32 59 3 W := stable_and (stable_below _ _ (Nat.le_refl _)) (stable_and (stable_blk _ _ _) (stable_and (stable_blk _ _ _) (stable_and (stable_blk _ _ _) (stable_and (stable_room _ _ _) (stable_room _ _ _)))))
                refine wp_region_v _ 9 hst ⟨hB.drew, H0, H1, H2, ⟨_, rfl, rfl, H3⟩, ⟨_, rfl, rfl, H4⟩⟩ ?_
                clear hB H0 H1 H2 H3 H4
                refine wpU_take (v := .agg #[.int .i64 pp, .int .u64 (W64 f1), .int .i64 f2, .int .u64 (W64 f3), .int .u64 (W64 f4), .int .u64 (W64 f5), .int .u64 (W64 m1), .int .i64 m2, .int .u64 (W64 m3), .int .u64 (W64 m4), .int .u64 (W64 m5)]) 0 hst (fun _ h => h) rfl (fun W hS K hK => calm_load rfl rfl (load_part hS.2.1 0 [.int .i64 pp, .int .u64 (W64 f1), .int .i64 f2, .int .u64 (W64 f3), .int .u64 (W64 f4), .int .u64 (W64 f5), .int .u64 (W64 m1), .int .i64 m2, .int .u64 (W64 m3), .int .u64 (W64 m4), .int .u64 (W64 m5)] rfl Try.underlying27 rfl (by kernel_rfl)) (hK.out _ (Below.refl _ _))) ?_; simp only [Act.put, List.setIfInBounds_toArray, List.set_cons_zero, List.set_cons_succ]
                refine wpU_take (v := ?_) 1 hst (fun _ h => h) rfl ?_ ?_; rotate_left; (intro W hS K hK; clear hS; go_simp; exact hK.out _ (Below.refl _ _)); simp only [Act.put, List.setIfInBounds_toArray, List.set_cons_zero, List.set_cons_succ]
                refine wpU_take (v := ?_) 2 hst (fun _ h => h) rfl ?_ ?_; rotate_left; (intro W hS K hK; have ld : W.cell? ⟨g_16, 2, none⟩ = some (.int .u32 (W32 bi)) := hS.2.2.2.1.cell 2; clear hS; go_simp; exact hK.out _ (Below.refl _ _)); simp only [Act.put, List.setIfInBounds_toArray, List.set_cons_zero, List.set_cons_succ]
                refine wpU_take (v := ?_) 3 hst (fun _ h => h) rfl ?_ ?_; rotate_left; (intro W hS K hK; clear hS; go_simp; exact hK.out _ (Below.refl _ _)); simp only [Act.put, List.setIfInBounds_toArray, List.set_cons_zero, List.set_cons_succ]
                refine wpU_take (v := ?_) 4 hst (fun _ h => h) rfl ?_ ?_; rotate_left; (intro W hS K hK; have ld : W.cell? ⟨g_16, 1, none⟩ = some (.bool true) := hS.2.2.2.1.cell 1; clear hS; go_simp; exact hK.out _ (Below.refl _ _)); simp only [Act.put, List.setIfInBounds_toArray, List.set_cons_zero, List.set_cons_succ]
                refine wpU_take (v := ?_) 5 hst (fun _ h => h) rfl ?_ ?_; rotate_left; (intro W hS K hK; clear hS; go_simp; exact hK.out _ (Below.refl _ _)); simp only [Act.put, List.setIfInBounds_toArray, List.set_cons_zero, List.set_cons_succ]
                refine wpU_take (v := ?_) 6 hst (fun _ h => h) rfl ?_ ?_; rotate_left; (intro W hS K hK; clear hS; go_simp; exact hK.out _ (Below.refl _ _)); simp only [Act.put, List.setIfInBounds_toArray, List.set_cons_zero, List.set_cons_succ]
                refine wpV_st 7 hst (fun _ h => h) #[.int .i64 pp, .int .u64 (W64 f1), .int .i64 f2, .int .u64 (W64 f3), .int .u64 (W64 f4), .int .u64 (W64 f5), .int .u64 (W64 m1), .int .i64 m2, .int .u64 (W64 m3), .int .u64 (W64 m4), .int .u64 (W64 m5)] rfl rfl rfl rfl (fun W hS => hS.2.2.2.2.1) (fun W W' h hU hG => ?_) (by kernel_rfl) rfl (fun hst => ?_)
                · obtain ⟨h0_0, h0_1, h0_2, h0_3, ⟨ch0_4, ah0_4, bh0_4, h0_4⟩, ⟨ch0_5, ah0_5, bh0_5, h0_5⟩⟩ := h
                  exact ⟨hU.below h0_0 (by omega), hU.blk h0_1 (by omega), hU.blk h0_2 (by omega), hU.blk h0_3 (by omega), ⟨_, rfl, rfl, hG⟩, ⟨ch0_5, ah0_5, bh0_5, hU.blk h0_5 (by omega)⟩⟩
                refine wpV_st 8 hst (fun _ h => h.1) #[.int .u32 (W32 bi), .bool true, .int .i64 now] rfl rfl rfl rfl (fun W hS => hS.1.2.2.2.2.2) (fun W W' h hU hG => ?_) (by kernel_rfl) rfl (fun hst => ?_)
                · obtain ⟨⟨h0_0, h0_1, h0_2, h0_3, ⟨ch0_4, ah0_4, bh0_4, h0_4⟩, ⟨ch0_5, ah0_5, bh0_5, h0_5⟩⟩, h1_0⟩ := h
                  exact ⟨⟨hU.below h0_0 (by omega), hU.blk h0_1 (by omega), hU.blk h0_2 (by omega), hU.blk h0_3 (by omega), ⟨ch0_4, ah0_4, bh0_4, hU.blk h0_4 (by omega)⟩, ⟨_, rfl, rfl, hG⟩⟩, hU.blk h1_0 (by omega)⟩
                refine wpU_done (fun w_87 hS => ?_)
                obtain ⟨⟨⟨hB, H0, H1, H2, -, -⟩, H3s⟩, H4s⟩ := hS
                clear hst
                go_wp2_with (first | (with_reducible refine stop_store ?_) | (with_reducible refine stop_box ?_) | (with_reducible refine stop_alloc ?_) | (with_reducible refine stop_bslice ?_))
                refine bodyPost_ret (results_cc rfl rfl rfl (load_blk H3s Try.underlying27 rfl (by kernel_rfl)) (load_blk H4s Try.underlying59 rfl (by kernel_rfl))) rfl ?_
                refine ⟨?_, hB⟩
                have er : hearIVK ⟨vi, vu, vs⟩ ⟨br, true, bi⟩ now = ⟨bi, true, now⟩ := by have q2 := kc_44.out; have q3 := kc_68.out; have r3 := BitVec.not_le.2 q3; have q4 := kc_69.out; have r4 := BitVec.not_lt.1 q4; have q5 := kc_73.out; have hlb := HLB.out; simp [hearIVK, hlb, q2, q3, r3, q4, r4, q5]
                rw [HSP.out, er]
                rfl
          ·
            have ec_73 : ((W32 (bi - vi) : Int) == 1) = false := by have this : (W32 (bi - vi) == W32 (1#32)) = false := (by rw [W32_beq]; simpa using hc_73); exact this
            have ec_73n : ((W32 (bi - vi) : Int) != 1) = true := by have this : (W32 (bi - vi) != W32 (1#32)) = true := (by rw [W32_bne]; simpa using hc_73); exact this
            have kc_73 := Lib.hid hc_73
            clear hc_73
            have ld_88 : wc.cell? ⟨g_16, 2, none⟩ = some (.int .u32 (W32 bi)) := H2.cell 2
            have ld_89 : wc.cell? ⟨g_8, 0, none⟩ = some (.int .u32 (W32 vi)) := H1.cell 0
            go_wp2_with (first | (with_reducible refine stop_store ?_) | (with_reducible refine stop_box ?_) | (with_reducible refine stop_alloc ?_) | (with_reducible refine stop_bslice ?_))
            clear ld_88 ld_89
            have hst : Stable fun W => Below w.heap.size w W ∧ Blk W g_1 27 #[.int .i64 pp, .int .u64 (W64 f1), .int .i64 f2, .int .u64 (W64 f3), .int .u64 (W64 f4), .int .u64 (W64 f5), .int .u64 (W64 m1), .int .i64 m2, .int .u64 (W64 m3), .int .u64 (W64 m4), .int .u64 (W64 m5)] ∧ Blk W g_8 59 #[.int .u32 (W32 vi), .bool vu, .int .i64 vs] ∧ Blk W g_16 71 #[.bool br, .bool bu, .int .u32 (W32 bi)] ∧ Room g_24 27 11 W ∧ Room g_32 59 3 W := stable_and (stable_below _ _ (Nat.le_refl _)) (stable_and (stable_blk _ _ _) (stable_and (stable_blk _ _ _) (stable_and (stable_blk _ _ _) (stable_and (stable_room _ _ _) (stable_room _ _ _)))))
            refine wp_region_v _ 9 hst ⟨hB.drew, H0, H1, H2, ⟨_, rfl, rfl, H3⟩, ⟨_, rfl, rfl, H4⟩⟩ ?_
            clear hB H0 H1 H2 H3 H4
            refine wpU_take (v := .agg #[.int .i64 pp, .int .u64 (W64 f1), .int .i64 f2, .int .u64 (W64 f3), .int .u64 (W64 f4), .int .u64 (W64 f5), .int .u64 (W64 m1), .int .i64 m2, .int .u64 (W64 m3), .int .u64 (W64 m4), .int .u64 (W64 m5)]) 0 hst (fun _ h => h) rfl (fun W hS K hK => calm_load rfl rfl (load_part hS.2.1 0 [.int .i64 pp, .int .u64 (W64 f1), .int .i64 f2, .int .u64 (W64 f3), .int .u64 (W64 f4), .int .u64 (W64 f5), .int .u64 (W64 m1), .int .i64 m2, .int .u64 (W64 m3), .int .u64 (W64 m4), .int .u64 (W64 m5)] rfl Try.underlying27 rfl (by kernel_rfl)) (hK.out _ (Below.refl _ _))) ?_; simp only [Act.put, List.setIfInBounds_toArray, List.set_cons_zero, List.set_cons_succ]
            refine wpU_take (v := ?_) 1 hst (fun _ h => h) rfl ?_ ?_; rotate_left; (intro W hS K hK; clear hS; go_simp; exact hK.out _ (Below.refl _ _)); simp only [Act.put, List.setIfInBounds_toArray, List.set_cons_zero, List.set_cons_succ]
            refine wpU_take (v := ?_) 2 hst (fun _ h => h) rfl ?_ ?_; rotate_left; (intro W hS K hK; have ld : W.cell? ⟨g_16, 2, none⟩ = some (.int .u32 (W32 bi)) := hS.2.2.2.1.cell 2; clear hS; go_simp; exact hK.out _ (Below.refl _ _)); simp only [Act.put, List.setIfInBounds_toArray, List.set_cons_zero, List.set_cons_succ]
            refine wpU_take (v := ?_) 3 hst (fun _ h => h) rfl ?_ ?_; rotate_left; (intro W hS K hK; clear hS; go_simp; exact hK.out _ (Below.refl _ _)); simp only [Act.put, List.setIfInBounds_toArray, List.set_cons_zero, List.set_cons_succ]
            refine wpU_take (v := ?_) 4 hst (fun _ h => h) rfl ?_ ?_; rotate_left; (intro W hS K hK; have ld : W.cell? ⟨g_16, 1, none⟩ = some (.bool bu) := hS.2.2.2.1.cell 1; clear hS; go_simp; exact hK.out _ (Below.refl _ _)); simp only [Act.put, List.setIfInBounds_toArray, List.set_cons_zero, List.set_cons_succ]
            refine wpU_take (v := ?_) 5 hst (fun _ h => h) rfl ?_ ?_; rotate_left; (intro W hS K hK; clear hS; go_simp; exact hK.out _ (Below.refl _ _)); simp only [Act.put, List.setIfInBounds_toArray, List.set_cons_zero, List.set_cons_succ]
            refine wpU_take (v := ?_) 6 hst (fun _ h => h) rfl ?_ ?_; rotate_left; (intro W hS K hK; clear hS; go_simp; exact hK.out _ (Below.refl _ _)); simp only [Act.put, List.setIfInBounds_toArray, List.set_cons_zero, List.set_cons_succ]
            refine wpV_st 7 hst (fun _ h => h) #[.int .i64 pp, .int .u64 (W64 f1), .int .i64 f2, .int .u64 (W64 f3), .int .u64 (W64 f4), .int .u64 (W64 f5), .int .u64 (W64 m1), .int .i64 m2, .int .u64 (W64 m3), .int .u64 (W64 m4), .int .u64 (W64 m5)] rfl rfl rfl rfl (fun W hS => hS.2.2.2.2.1) (fun W W' h hU hG => ?_) (by kernel_rfl) rfl (fun hst => ?_)
            · obtain ⟨h0_0, h0_1, h0_2, h0_3, ⟨ch0_4, ah0_4, bh0_4, h0_4⟩, ⟨ch0_5, ah0_5, bh0_5, h0_5⟩⟩ := h
              exact ⟨hU.below h0_0 (by omega), hU.blk h0_1 (by omega), hU.blk h0_2 (by omega), hU.blk h0_3 (by omega), ⟨_, rfl, rfl, hG⟩, ⟨ch0_5, ah0_5, bh0_5, hU.blk h0_5 (by omega)⟩⟩
            refine wpV_st 8 hst (fun _ h => h.1) #[.int .u32 (W32 bi), .bool bu, .int .i64 now] rfl rfl rfl rfl (fun W hS => hS.1.2.2.2.2.2) (fun W W' h hU hG => ?_) (by kernel_rfl) rfl (fun hst => ?_)
            · obtain ⟨⟨h0_0, h0_1, h0_2, h0_3, ⟨ch0_4, ah0_4, bh0_4, h0_4⟩, ⟨ch0_5, ah0_5, bh0_5, h0_5⟩⟩, h1_0⟩ := h
              exact ⟨⟨hU.below h0_0 (by omega), hU.blk h0_1 (by omega), hU.blk h0_2 (by omega), hU.blk h0_3 (by omega), ⟨ch0_4, ah0_4, bh0_4, hU.blk h0_4 (by omega)⟩, ⟨_, rfl, rfl, hG⟩⟩, hU.blk h1_0 (by omega)⟩
            refine wpU_done (fun w_90 hS => ?_)
            obtain ⟨⟨⟨hB, H0, H1, H2, -, -⟩, H3s⟩, H4s⟩ := hS
            clear hst
            go_wp2_with (first | (with_reducible refine stop_store ?_) | (with_reducible refine stop_box ?_) | (with_reducible refine stop_alloc ?_) | (with_reducible refine stop_bslice ?_))
            refine bodyPost_ret (results_cc rfl rfl rfl (load_blk H3s Try.underlying27 rfl (by kernel_rfl)) (load_blk H4s Try.underlying59 rfl (by kernel_rfl))) rfl ?_
            refine ⟨?_, hB⟩
            have er : hearIVK ⟨vi, vu, vs⟩ ⟨br, bu, bi⟩ now = ⟨bi, bu, now⟩ := by have q2 := kc_44.out; have q3 := kc_68.out; have r3 := BitVec.not_le.2 q3; have q4 := kc_69.out; have r4 := BitVec.not_lt.1 q4; have q5 := kc_73.out; have hlb := HLB.out; simp [hearIVK, hlb, q2, q3, r3, q4, r4, q5]
            rw [HSP.out, er]
            rfl
      ·
        have ec_68 : decide ((W32 vi : Int) < W32 bi) = false := decide_eq_false (fun hh => hc_68 (by have h2 : W32 vi < W32 bi := hh; rw [W32_lt] at h2; exact h2))
        have ec_68n : decide ((W32 bi : Int) ≤ W32 vi) = true := decide_eq_true (show W32 bi ≤ W32 vi by rw [W32_le]; exact BitVec.not_lt.1 hc_68)
        have kc_68 := Lib.hid hc_68
        clear hc_68
        have ld_91 : wc.cell? ⟨g_16, 2, none⟩ = some (.int .u32 (W32 bi)) := H2.cell 2
        have ld_92 : wc.cell? ⟨g_8, 0, none⟩ = some (.int .u32 (W32 vi)) := H1.cell 0
        go_wp2_with (first | (with_reducible refine stop_store ?_) | (with_reducible refine stop_box ?_) | (with_reducible refine stop_alloc ?_) | (with_reducible refine stop_bslice ?_))
        clear ld_91 ld_92
        have hst : Stable fun W => Below w.heap.size w W ∧ Blk W g_1 27 #[.int .i64 pp, .int .u64 (W64 f1), .int .i64 f2, .int .u64 (W64 f3), .int .u64 (W64 f4), .int .u64 (W64 f5), .int .u64 (W64 m1), .int .i64 m2, .int .u64 (W64 m3), .int .u64 (W64 m4), .int .u64 (W64 m5)] ∧ Blk W g_8 59 #[.int .u32 (W32 vi), .bool vu, .int .i64 vs] ∧ Blk W g_16 71 #[.bool br, .bool bu, .int .u32 (W32 bi)] ∧ Room g_24 27 11 W ∧ Room g_32 59 3 W := stable_and (stable_below _ _ (Nat.le_refl _)) (stable_and (stable_blk _ _ _) (stable_and (stable_blk _ _ _) (stable_and (stable_blk _ _ _) (stable_and (stable_room _ _ _) (stable_room _ _ _)))))
        refine wp_region_v _ 4 hst ⟨hB.drew, H0, H1, H2, ⟨_, rfl, rfl, H3⟩, ⟨_, rfl, rfl, H4⟩⟩ ?_
        clear hB H0 H1 H2 H3 H4
        refine wpU_take (v := .agg #[.int .i64 pp, .int .u64 (W64 f1), .int .i64 f2, .int .u64 (W64 f3), .int .u64 (W64 f4), .int .u64 (W64 f5), .int .u64 (W64 m1), .int .i64 m2, .int .u64 (W64 m3), .int .u64 (W64 m4), .int .u64 (W64 m5)]) 0 hst (fun _ h => h) rfl (fun W hS K hK => calm_load rfl rfl (load_part hS.2.1 0 [.int .i64 pp, .int .u64 (W64 f1), .int .i64 f2, .int .u64 (W64 f3), .int .u64 (W64 f4), .int .u64 (W64 f5), .int .u64 (W64 m1), .int .i64 m2, .int .u64 (W64 m3), .int .u64 (W64 m4), .int .u64 (W64 m5)] rfl Try.underlying27 rfl (by kernel_rfl)) (hK.out _ (Below.refl _ _))) ?_; simp only [Act.put, List.setIfInBounds_toArray, List.set_cons_zero, List.set_cons_succ]
        refine wpU_take (v := .agg #[.int .u32 (W32 vi), .bool vu, .int .i64 vs]) 1 hst (fun _ h => h) rfl (fun W hS K hK => calm_load rfl rfl (load_part hS.2.2.1 0 [.int .u32 (W32 vi), .bool vu, .int .i64 vs] rfl Try.underlying59 rfl (by kernel_rfl)) (hK.out _ (Below.refl _ _))) ?_; simp only [Act.put, List.setIfInBounds_toArray, List.set_cons_zero, List.set_cons_succ]
        refine wpV_st 2 hst (fun _ h => h) #[.int .i64 pp, .int .u64 (W64 f1), .int .i64 f2, .int .u64 (W64 f3), .int .u64 (W64 f4), .int .u64 (W64 f5), .int .u64 (W64 m1), .int .i64 m2, .int .u64 (W64 m3), .int .u64 (W64 m4), .int .u64 (W64 m5)] rfl rfl rfl rfl (fun W hS => hS.2.2.2.2.1) (fun W W' h hU hG => ?_) (by kernel_rfl) rfl (fun hst => ?_)
        · obtain ⟨h0_0, h0_1, h0_2, h0_3, ⟨ch0_4, ah0_4, bh0_4, h0_4⟩, ⟨ch0_5, ah0_5, bh0_5, h0_5⟩⟩ := h
          exact ⟨hU.below h0_0 (by omega), hU.blk h0_1 (by omega), hU.blk h0_2 (by omega), hU.blk h0_3 (by omega), ⟨_, rfl, rfl, hG⟩, ⟨ch0_5, ah0_5, bh0_5, hU.blk h0_5 (by omega)⟩⟩
        refine wpV_st 3 hst (fun _ h => h.1) #[.int .u32 (W32 vi), .bool vu, .int .i64 vs] rfl rfl rfl rfl (fun W hS => hS.1.2.2.2.2.2) (fun W W' h hU hG => ?_) (by kernel_rfl) rfl (fun hst => ?_)
        · obtain ⟨⟨h0_0, h0_1, h0_2, h0_3, ⟨ch0_4, ah0_4, bh0_4, h0_4⟩, ⟨ch0_5, ah0_5, bh0_5, h0_5⟩⟩, h1_0⟩ := h
          exact ⟨⟨hU.below h0_0 (by omega), hU.blk h0_1 (by omega), hU.blk h0_2 (by omega), hU.blk h0_3 (by omega), ⟨ch0_4, ah0_4, bh0_4, hU.blk h0_4 (by omega)⟩, ⟨_, rfl, rfl, hG⟩⟩, hU.blk h1_0 (by omega)⟩
        refine wpU_done (fun w_93 hS => ?_)
        obtain ⟨⟨⟨hB, H0, H1, H2, -, -⟩, H3s⟩, H4s⟩ := hS
        clear hst
        go_wp2_with (first | (with_reducible refine stop_store ?_) | (with_reducible refine stop_box ?_) | (with_reducible refine stop_alloc ?_) | (with_reducible refine stop_bslice ?_))
        refine bodyPost_ret (results_cc rfl rfl rfl (load_blk H3s Try.underlying27 rfl (by kernel_rfl)) (load_blk H4s Try.underlying59 rfl (by kernel_rfl))) rfl ?_
        refine ⟨?_, hB⟩
        have er : hearIVK ⟨vi, vu, vs⟩ ⟨br, bu, bi⟩ now = ⟨vi, vu, vs⟩ := by have q2 := kc_44.out; have q3 := kc_68.out; have r3 := BitVec.not_lt.1 q3; have hlb := HLB.out; simp [hearIVK, hlb, q2, q3, r3]
        rw [HSP.out, er]
        rfl
end Go.Proofs.Ytmehemojopfihaa
