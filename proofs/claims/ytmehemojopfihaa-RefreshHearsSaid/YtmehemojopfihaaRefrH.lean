/- Contracts of layer 52 (refresh): Hear of the code and of the reference. -/
import Derived.Test.YtmehemojopfihaaRefrG
import Derived.Test.YtmehemojopfihaaRegT
namespace Go.Proofs.Ytmehemojopfihaa
set_option maxRecDepth 100000
open Go.ChangeShapes Go.WideShapes Go.ChangeAt Go.RowKit
set_option linter.unusedVariables false
set_option linter.unusedSimpArgs false

theorem rf_RecvB (k : KS) (L : List Value) (n : Nat) (hL : nksL (recvK k) = L) (hn : (recvK k).length = n) (W : World) : Calls Try.prog 23 #[.agg (ksA k)] W fun e w' => ∃ b, W.heap.size ≤ b ∧ e = .returned (.slice (some ⟨b, 0, none⟩) n n) ∧ Blk w' b 25 L.toArray ∧ Below W.heap.size W w' := by
  subst hL hn
  refine (rf_Receiving k W).mono ?_
  rintro e w' ⟨rfl, rfl⟩
  have h := Blk.new (W.alloc (.cells (ksA k) 27)) 25 (nksL (recvK k)).toArray
  have e : (W.alloc (.cells (ksA k) 27)).heap.size = W.heap.size + 1 := by simp
  rw [e] at h
  exact ⟨W.heap.size + 1, Nat.le_succ _, rfl, h, ((Below.refl _ _).alloc (Nat.le_refl _) _).alloc (by simp) _⟩
theorem r52_RecvB (k : KS) (L : List Value) (n : Nat) (hL : nksL (recvK k) = L) (hn : (recvK k).length = n) (W : World) : Calls Try.prog 24 #[.agg (ksA k)] W fun e w' => ∃ b, W.heap.size ≤ b ∧ e = .returned (.slice (some ⟨b, 0, none⟩) n n) ∧ Blk w' b 25 L.toArray ∧ Below W.heap.size W w' := by
  subst hL hn
  refine (r52_Receiving k W).mono ?_
  rintro e w' ⟨rfl, rfl⟩
  have h := Blk.new (W.alloc (.cells (ksA k) 27)) 25 (nksL (recvK k)).toArray
  have e : (W.alloc (.cells (ksA k) 27)).heap.size = W.heap.size + 1 := by simp
  rw [e] at h
  exact ⟨W.heap.size + 1, Nat.le_succ _, rfl, h, ((Below.refl _ _).alloc (Nat.le_refl _) _).alloc (by simp) _⟩
theorem r52_lastedB (v : IV) (now : Int) (w : World) (h0 : 0 ≤ v.since ∧ v.since ≤ 1099511627776) (h1 : 0 ≤ now ∧ now ≤ 1099511627776) :
    Calls Try.prog 76 #[.agg (ivA v), .int .i64 now] w fun e w' => e = .returned (.bool (lastB v.since now)) ∧ Below w.heap.size w w' :=
  (r52_lasted v now w h0 h1).mono fun e w' ⟨h, k⟩ => ⟨h, by rw [k]; exact (Below.refl _ _).alloc (Nat.le_refl _) _⟩
set_option maxHeartbeats 2000000 in
theorem rf_Hear_nN (a1 : BitVec 64) (a2 : Int) (a3 a4 a5 b1 : BitVec 64) (b2 : Int) (b3 b4 b5 : BitVec 64) (vi : BitVec 32) (vu : Bool) (vs : Int) (br bu : Bool) (bi : BitVec 32) (now : Int) (ix : Int) (w : World) (h0 : 0 ≤ vs ∧ vs ≤ 1099511627776) (h1 : 0 ≤ now ∧ now ≤ 1099511627776) (hi : ix < 0) :
    Calls Try.prog 48 #[.agg #[.int .i64 1, .int .u64 (W64 a1), .int .i64 a2, .int .u64 (W64 a3), .int .u64 (W64 a4), .int .u64 (W64 a5), .int .u64 (W64 b1), .int .i64 b2, .int .u64 (W64 b3), .int .u64 (W64 b4), .int .u64 (W64 b5)], .agg #[.int .u32 (W32 vi), .bool vu, .int .i64 vs], .agg #[.bool br, .bool bu, .int .u32 (W32 bi)], .int .i64 ix, .int .i64 now] w fun e w' => e = .returned (.tuple #[.agg (ksA (hearK ⟨1, ⟨a1, a2, a3, a4, a5⟩, ⟨b1, b2, b3, b4, b5⟩⟩ ⟨vi, vu, vs⟩ ⟨br, bu, bi⟩ ix now).1), .agg (ivA (hearK ⟨1, ⟨a1, a2, a3, a4, a5⟩, ⟨b1, b2, b3, b4, b5⟩⟩ ⟨vi, vu, vs⟩ ⟨br, bu, bi⟩ ix now).2)]) ∧ Below w.heap.size w w' := by
  obtain ⟨r, hr⟩ : ∃ r, hearK ⟨1, ⟨a1, a2, a3, a4, a5⟩, ⟨b1, b2, b3, b4, b5⟩⟩ ⟨vi, vu, vs⟩ ⟨br, bu, bi⟩ ix now = r := ⟨_, rfl⟩
  rw [hr]
  have HR := Lib.hid hr
  clear hr
  have R := Lib.hid (fun W => rf_RecvB ⟨1, ⟨a1, a2, a3, a4, a5⟩, ⟨b1, b2, b3, b4, b5⟩⟩ [.int .u64 (W64 a1), .int .i64 a2, .int .u64 (W64 a3), .int .u64 (W64 a4), .int .u64 (W64 a5), .int .u64 (W64 b1), .int .i64 b2, .int .u64 (W64 b3), .int .u64 (W64 b4), .int .u64 (W64 b5)] 2 (by simp [recvK, nksL, nkA]) (by simp [recvK]) W)
  have PH2 := Lib.hid (fun W => rf_Phase ⟨1, ⟨a1, a2, a3, a4, a5⟩, ⟨b1, b2, b3, b4, b5⟩⟩ 2 W); have PH3 := Lib.hid (fun W => rf_Phase ⟨1, ⟨a1, a2, a3, a4, a5⟩, ⟨b1, b2, b3, b4, b5⟩⟩ 3 W); unfold ksA at PH2 PH3; dsimp only at PH2 PH3
  have HV := Lib.hid (fun W => rf_hearIV ⟨vi, vu, vs⟩ ⟨br, bu, bi⟩ now W h0 h1)
  unfold ksA at R
  unfold ivA beA at HV
  dsimp only at R HV
  have i0 : decide (ix < 0) = true := by simpa using hi
  clear h0 h1
  have HI := Lib.hid hi
  clear hi
  obtain ⟨⟨xi, xu, xs⟩, hx⟩ : ∃ x, hearIVK ⟨vi, vu, vs⟩ ⟨br, bu, bi⟩ now = x := ⟨_, rfl⟩
  rw [hx] at HV
  have HX := Lib.hid hx
  clear hx
  go_enter Try.func48, Try.ntmps48
  go_wp2_with (first | (with_reducible refine stop_store ?_) | (with_reducible refine stop_box ?_) | (with_reducible refine stop_alloc ?_) | (with_reducible refine stop_bslice ?_))
  unfold Kept
  refine go_mem (ty := 27) (cs := #[.int .i64 1, .int .u64 (W64 a1), .int .i64 a2, .int .u64 (W64 a3), .int .u64 (W64 a4), .int .u64 (W64 a5), .int .u64 (W64 b1), .int .i64 b2, .int .u64 (W64 b3), .int .u64 (W64 b4), .int .u64 (W64 b5)]) (fun g => .pointer (some ⟨g, 0, none⟩)) rfl (by kernel_rfl) ?_
  intro g_1 w_2 z_6 l_5 hb_3 G_4
  have n_7 : w.heap.size ≤ g_1 := l_5
  have hB := hb_3
  clear hb_3 l_5 z_6
  go_wp2_with (first | (with_reducible refine stop_store ?_) | (with_reducible refine stop_box ?_) | (with_reducible refine stop_alloc ?_) | (with_reducible refine stop_bslice ?_))
  unfold Kept
  refine go_mem (ty := 59) (cs := #[.int .u32 (W32 vi), .bool vu, .int .i64 vs]) (fun g => .pointer (some ⟨g, 0, none⟩)) rfl (by kernel_rfl) ?_
  intro g_8 w_9 z_13 l_12 hb_10 G_11
  have n_14 : g_1 < g_8 := Nat.lt_of_lt_of_le G_4.lt l_12
  have n_15 : w.heap.size ≤ g_8 := Nat.le_trans hB.size l_12
  replace G_4 := G_4.to hb_10 G_4.lt
  replace hB := hB.trans (hb_10.mono hB.size)
  clear hb_10 l_12 z_13
  go_wp2_with (first | (with_reducible refine stop_store ?_) | (with_reducible refine stop_box ?_) | (with_reducible refine stop_alloc ?_) | (with_reducible refine stop_bslice ?_))
  unfold Kept
  refine go_mem (ty := 71) (cs := #[.bool br, .bool bu, .int .u32 (W32 bi)]) (fun g => .pointer (some ⟨g, 0, none⟩)) rfl (by kernel_rfl) ?_
  intro g_16 w_17 z_21 l_20 hb_18 G_19
  have n_22 : g_8 < g_16 := Nat.lt_of_lt_of_le G_11.lt l_20
  have n_23 : w.heap.size ≤ g_16 := Nat.le_trans hB.size l_20
  replace G_4 := G_4.to hb_18 G_4.lt
  replace G_11 := G_11.to hb_18 G_11.lt
  replace hB := hB.trans (hb_18.mono hB.size)
  clear hb_18 l_20 z_21
  go_wp2_with (first | (with_reducible refine stop_store ?_) | (with_reducible refine stop_box ?_) | (with_reducible refine stop_alloc ?_) | (with_reducible refine stop_bslice ?_))
  unfold Kept
  refine go_mem (ty := 27) (cs := #[.int .i64 0, .int .u64 0, .int .i64 0, .int .u64 0, .int .u64 0, .int .u64 0, .int .u64 0, .int .i64 0, .int .u64 0, .int .u64 0, .int .u64 0]) (fun g => .pointer (some ⟨g, 0, none⟩)) rfl (by kernel_rfl) ?_
  intro g_24 w_25 z_29 l_28 hb_26 G_27
  have n_30 : g_16 < g_24 := Nat.lt_of_lt_of_le G_19.lt l_28
  have n_31 : w.heap.size ≤ g_24 := Nat.le_trans hB.size l_28
  replace G_4 := G_4.to hb_26 G_4.lt
  replace G_11 := G_11.to hb_26 G_11.lt
  replace G_19 := G_19.to hb_26 G_19.lt
  replace hB := hB.trans (hb_26.mono hB.size)
  clear hb_26 l_28 z_29
  go_wp2_with (first | (with_reducible refine stop_store ?_) | (with_reducible refine stop_box ?_) | (with_reducible refine stop_alloc ?_) | (with_reducible refine stop_bslice ?_))
  unfold Kept
  refine go_mem (ty := 59) (cs := #[.int .u32 0, .bool false, .int .i64 0]) (fun g => .pointer (some ⟨g, 0, none⟩)) rfl (by kernel_rfl) ?_
  intro g_32 w_33 z_37 l_36 hb_34 G_35
  have n_38 : g_24 < g_32 := Nat.lt_of_lt_of_le G_27.lt l_36
  have n_39 : w.heap.size ≤ g_32 := Nat.le_trans hB.size l_36
  replace G_4 := G_4.to hb_34 G_4.lt
  replace G_11 := G_11.to hb_34 G_11.lt
  replace G_19 := G_19.to hb_34 G_19.lt
  replace G_27 := G_27.to hb_34 G_27.lt
  replace hB := hB.trans (hb_34.mono hB.size)
  clear hb_34 l_36 z_37
  go_wp2_with (first | (with_reducible refine stop_store ?_) | (with_reducible refine stop_box ?_) | (with_reducible refine stop_alloc ?_) | (with_reducible refine stop_bslice ?_) | ((with_reducible refine wpList_ld 0 [.int .i64 1, .int .u64 (W64 a1), .int .i64 a2, .int .u64 (W64 a3), .int .u64 (W64 a4), .int .u64 (W64 a5), .int .u64 (W64 b1), .int .i64 b2, .int .u64 (W64 b3), .int .u64 (W64 b4), .int .u64 (W64 b5)] G_4 ?_ ?_ Try.underlying27 ?_ ?_ ?_); rfl; rfl; rfl; kernel_rfl))
  refine (R.out _).mono ?_; rintro e w_45 ⟨g_40, l_42, rfl, G_41, hb_46⟩
  have n_43 : g_32 < g_40 := Nat.lt_of_lt_of_le G_35.lt l_42
  clear l_42
  replace G_4 := G_4.to hb_46 G_4.lt
  replace G_11 := G_11.to hb_46 G_11.lt
  replace G_19 := G_19.to hb_46 G_19.lt
  replace G_27 := G_27.to hb_46 G_27.lt
  replace G_35 := G_35.to hb_46 G_35.lt
  replace hB := hB.trans (hb_46.mono hB.size)
  clear hb_46
  go_wp2_with (first | (with_reducible refine stop_store ?_) | (with_reducible refine stop_box ?_) | (with_reducible refine stop_alloc ?_) | (with_reducible refine stop_bslice ?_))
  have hst : Stable fun W => Below w.heap.size w W ∧ Blk W g_1 27 #[.int .i64 1, .int .u64 (W64 a1), .int .i64 a2, .int .u64 (W64 a3), .int .u64 (W64 a4), .int .u64 (W64 a5), .int .u64 (W64 b1), .int .i64 b2, .int .u64 (W64 b3), .int .u64 (W64 b4), .int .u64 (W64 b5)] ∧ Blk W g_8 59 #[.int .u32 (W32 vi), .bool vu, .int .i64 vs] ∧ Blk W g_16 71 #[.bool br, .bool bu, .int .u32 (W32 bi)] ∧ Room g_24 27 11 W ∧ Room g_32 59 3 W ∧ Blk W g_40 25 #[.int .u64 (W64 a1), .int .i64 a2, .int .u64 (W64 a3), .int .u64 (W64 a4), .int .u64 (W64 a5), .int .u64 (W64 b1), .int .i64 b2, .int .u64 (W64 b3), .int .u64 (W64 b4), .int .u64 (W64 b5)] := stable_and (stable_below _ _ (Nat.le_refl _)) (stable_and (stable_blk _ _ _) (stable_and (stable_blk _ _ _) (stable_and (stable_blk _ _ _) (stable_and (stable_room _ _ _) (stable_and (stable_room _ _ _) (stable_blk _ _ _))))))
  refine wp_region_v _ 4 hst ⟨hB.drew, G_4, G_11, G_19, ⟨_, rfl, rfl, G_27⟩, ⟨_, rfl, rfl, G_35⟩, G_41⟩ ?_
  clear hB G_4 G_11 G_19 G_27 G_35 G_41
  refine wpU_take (v := .agg #[.int .i64 1, .int .u64 (W64 a1), .int .i64 a2, .int .u64 (W64 a3), .int .u64 (W64 a4), .int .u64 (W64 a5), .int .u64 (W64 b1), .int .i64 b2, .int .u64 (W64 b3), .int .u64 (W64 b4), .int .u64 (W64 b5)]) 0 hst (fun _ h => h) rfl (fun W hS K hK => calm_load rfl rfl (load_part hS.2.1 0 [.int .i64 1, .int .u64 (W64 a1), .int .i64 a2, .int .u64 (W64 a3), .int .u64 (W64 a4), .int .u64 (W64 a5), .int .u64 (W64 b1), .int .i64 b2, .int .u64 (W64 b3), .int .u64 (W64 b4), .int .u64 (W64 b5)] rfl Try.underlying27 rfl (by kernel_rfl)) (hK.out _ (Below.refl _ _))) ?_; simp only [Act.put, List.setIfInBounds_toArray, List.set_cons_zero, List.set_cons_succ]
  refine wpU_take (v := .agg #[.int .u32 (W32 vi), .bool vu, .int .i64 vs]) 1 hst (fun _ h => h) rfl (fun W hS K hK => calm_load rfl rfl (load_part hS.2.2.1 0 [.int .u32 (W32 vi), .bool vu, .int .i64 vs] rfl Try.underlying59 rfl (by kernel_rfl)) (hK.out _ (Below.refl _ _))) ?_; simp only [Act.put, List.setIfInBounds_toArray, List.set_cons_zero, List.set_cons_succ]
  refine wpV_st 2 hst (fun _ h => h) #[.int .i64 1, .int .u64 (W64 a1), .int .i64 a2, .int .u64 (W64 a3), .int .u64 (W64 a4), .int .u64 (W64 a5), .int .u64 (W64 b1), .int .i64 b2, .int .u64 (W64 b3), .int .u64 (W64 b4), .int .u64 (W64 b5)] rfl rfl rfl rfl (fun W hS => hS.2.2.2.2.1) (fun W W' h hU hG => ?_) (by kernel_rfl) rfl (fun hst => ?_)
  · obtain ⟨h0_0, h0_1, h0_2, h0_3, ⟨ch0_4, ah0_4, bh0_4, h0_4⟩, ⟨ch0_5, ah0_5, bh0_5, h0_5⟩, h0_6⟩ := h
    exact ⟨hU.below h0_0 (by omega), hU.blk h0_1 (by omega), hU.blk h0_2 (by omega), hU.blk h0_3 (by omega), ⟨_, rfl, rfl, hG⟩, ⟨ch0_5, ah0_5, bh0_5, hU.blk h0_5 (by omega)⟩, hU.blk h0_6 (by omega)⟩
  refine wpV_st 3 hst (fun _ h => h.1) #[.int .u32 (W32 vi), .bool vu, .int .i64 vs] rfl rfl rfl rfl (fun W hS => hS.1.2.2.2.2.2.1) (fun W W' h hU hG => ?_) (by kernel_rfl) rfl (fun hst => ?_)
  · obtain ⟨⟨h0_0, h0_1, h0_2, h0_3, ⟨ch0_4, ah0_4, bh0_4, h0_4⟩, ⟨ch0_5, ah0_5, bh0_5, h0_5⟩, h0_6⟩, h1_0⟩ := h
    exact ⟨⟨hU.below h0_0 (by omega), hU.blk h0_1 (by omega), hU.blk h0_2 (by omega), hU.blk h0_3 (by omega), ⟨ch0_4, ah0_4, bh0_4, hU.blk h0_4 (by omega)⟩, ⟨_, rfl, rfl, hG⟩, hU.blk h0_6 (by omega)⟩, hU.blk h1_0 (by omega)⟩
  refine wpU_done (fun w_47 hS => ?_)
  obtain ⟨⟨⟨hB, G_4, G_11, G_19, -, -, G_41⟩, G_27s⟩, G_35s⟩ := hS
  clear hst
  go_wp2_with (first | (with_reducible refine stop_store ?_) | (with_reducible refine stop_box ?_) | (with_reducible refine stop_alloc ?_) | (with_reducible refine stop_bslice ?_))
  refine bodyPost_ret (results_cc rfl rfl rfl (load_blk G_27s Try.underlying27 rfl (by kernel_rfl)) (load_blk G_35s Try.underlying59 rfl (by kernel_rfl))) rfl ?_
  refine ⟨?_, hB⟩
  have er : r = (⟨1, ⟨a1, a2, a3, a4, a5⟩, ⟨b1, b2, b3, b4, b5⟩⟩, ⟨vi, vu, vs⟩) := by
     have hi := HI.out; rw [← HR.out]; have hx := HX.out; simp [hearK, recvK, phaseK, nk0, hx, hi]
  rw [er]
  rfl
set_option maxHeartbeats 2000000 in
theorem rf_Hear_nB (a1 : BitVec 64) (a2 : Int) (a3 a4 a5 b1 : BitVec 64) (b2 : Int) (b3 b4 b5 : BitVec 64) (vi : BitVec 32) (vu : Bool) (vs : Int) (br bu : Bool) (bi : BitVec 32) (now : Int) (ix : Int) (w : World) (h0 : 0 ≤ vs ∧ vs ≤ 1099511627776) (h1 : 0 ≤ now ∧ now ≤ 1099511627776) (hi : 2 ≤ ix) :
    Calls Try.prog 48 #[.agg #[.int .i64 1, .int .u64 (W64 a1), .int .i64 a2, .int .u64 (W64 a3), .int .u64 (W64 a4), .int .u64 (W64 a5), .int .u64 (W64 b1), .int .i64 b2, .int .u64 (W64 b3), .int .u64 (W64 b4), .int .u64 (W64 b5)], .agg #[.int .u32 (W32 vi), .bool vu, .int .i64 vs], .agg #[.bool br, .bool bu, .int .u32 (W32 bi)], .int .i64 ix, .int .i64 now] w fun e w' => e = .returned (.tuple #[.agg (ksA (hearK ⟨1, ⟨a1, a2, a3, a4, a5⟩, ⟨b1, b2, b3, b4, b5⟩⟩ ⟨vi, vu, vs⟩ ⟨br, bu, bi⟩ ix now).1), .agg (ivA (hearK ⟨1, ⟨a1, a2, a3, a4, a5⟩, ⟨b1, b2, b3, b4, b5⟩⟩ ⟨vi, vu, vs⟩ ⟨br, bu, bi⟩ ix now).2)]) ∧ Below w.heap.size w w' := by
  obtain ⟨r, hr⟩ : ∃ r, hearK ⟨1, ⟨a1, a2, a3, a4, a5⟩, ⟨b1, b2, b3, b4, b5⟩⟩ ⟨vi, vu, vs⟩ ⟨br, bu, bi⟩ ix now = r := ⟨_, rfl⟩
  rw [hr]
  have HR := Lib.hid hr
  clear hr
  have R := Lib.hid (fun W => rf_RecvB ⟨1, ⟨a1, a2, a3, a4, a5⟩, ⟨b1, b2, b3, b4, b5⟩⟩ [.int .u64 (W64 a1), .int .i64 a2, .int .u64 (W64 a3), .int .u64 (W64 a4), .int .u64 (W64 a5), .int .u64 (W64 b1), .int .i64 b2, .int .u64 (W64 b3), .int .u64 (W64 b4), .int .u64 (W64 b5)] 2 (by simp [recvK, nksL, nkA]) (by simp [recvK]) W)
  have PH2 := Lib.hid (fun W => rf_Phase ⟨1, ⟨a1, a2, a3, a4, a5⟩, ⟨b1, b2, b3, b4, b5⟩⟩ 2 W); have PH3 := Lib.hid (fun W => rf_Phase ⟨1, ⟨a1, a2, a3, a4, a5⟩, ⟨b1, b2, b3, b4, b5⟩⟩ 3 W); unfold ksA at PH2 PH3; dsimp only at PH2 PH3
  have HV := Lib.hid (fun W => rf_hearIV ⟨vi, vu, vs⟩ ⟨br, bu, bi⟩ now W h0 h1)
  unfold ksA at R
  unfold ivA beA at HV
  dsimp only at R HV
  have i0 : decide (ix < 0) = false := by simp; omega
  have i1 : decide (2 ≤ ix) = true := by simpa using hi
  clear h0 h1
  have HI := Lib.hid hi
  clear hi
  obtain ⟨⟨xi, xu, xs⟩, hx⟩ : ∃ x, hearIVK ⟨vi, vu, vs⟩ ⟨br, bu, bi⟩ now = x := ⟨_, rfl⟩
  rw [hx] at HV
  have HX := Lib.hid hx
  clear hx
  go_enter Try.func48, Try.ntmps48
  go_wp2_with (first | (with_reducible refine stop_store ?_) | (with_reducible refine stop_box ?_) | (with_reducible refine stop_alloc ?_) | (with_reducible refine stop_bslice ?_))
  unfold Kept
  refine go_mem (ty := 27) (cs := #[.int .i64 1, .int .u64 (W64 a1), .int .i64 a2, .int .u64 (W64 a3), .int .u64 (W64 a4), .int .u64 (W64 a5), .int .u64 (W64 b1), .int .i64 b2, .int .u64 (W64 b3), .int .u64 (W64 b4), .int .u64 (W64 b5)]) (fun g => .pointer (some ⟨g, 0, none⟩)) rfl (by kernel_rfl) ?_
  intro g_1 w_2 z_6 l_5 hb_3 G_4
  have n_7 : w.heap.size ≤ g_1 := l_5
  have hB := hb_3
  clear hb_3 l_5 z_6
  go_wp2_with (first | (with_reducible refine stop_store ?_) | (with_reducible refine stop_box ?_) | (with_reducible refine stop_alloc ?_) | (with_reducible refine stop_bslice ?_))
  unfold Kept
  refine go_mem (ty := 59) (cs := #[.int .u32 (W32 vi), .bool vu, .int .i64 vs]) (fun g => .pointer (some ⟨g, 0, none⟩)) rfl (by kernel_rfl) ?_
  intro g_8 w_9 z_13 l_12 hb_10 G_11
  have n_14 : g_1 < g_8 := Nat.lt_of_lt_of_le G_4.lt l_12
  have n_15 : w.heap.size ≤ g_8 := Nat.le_trans hB.size l_12
  replace G_4 := G_4.to hb_10 G_4.lt
  replace hB := hB.trans (hb_10.mono hB.size)
  clear hb_10 l_12 z_13
  go_wp2_with (first | (with_reducible refine stop_store ?_) | (with_reducible refine stop_box ?_) | (with_reducible refine stop_alloc ?_) | (with_reducible refine stop_bslice ?_))
  unfold Kept
  refine go_mem (ty := 71) (cs := #[.bool br, .bool bu, .int .u32 (W32 bi)]) (fun g => .pointer (some ⟨g, 0, none⟩)) rfl (by kernel_rfl) ?_
  intro g_16 w_17 z_21 l_20 hb_18 G_19
  have n_22 : g_8 < g_16 := Nat.lt_of_lt_of_le G_11.lt l_20
  have n_23 : w.heap.size ≤ g_16 := Nat.le_trans hB.size l_20
  replace G_4 := G_4.to hb_18 G_4.lt
  replace G_11 := G_11.to hb_18 G_11.lt
  replace hB := hB.trans (hb_18.mono hB.size)
  clear hb_18 l_20 z_21
  go_wp2_with (first | (with_reducible refine stop_store ?_) | (with_reducible refine stop_box ?_) | (with_reducible refine stop_alloc ?_) | (with_reducible refine stop_bslice ?_))
  unfold Kept
  refine go_mem (ty := 27) (cs := #[.int .i64 0, .int .u64 0, .int .i64 0, .int .u64 0, .int .u64 0, .int .u64 0, .int .u64 0, .int .i64 0, .int .u64 0, .int .u64 0, .int .u64 0]) (fun g => .pointer (some ⟨g, 0, none⟩)) rfl (by kernel_rfl) ?_
  intro g_24 w_25 z_29 l_28 hb_26 G_27
  have n_30 : g_16 < g_24 := Nat.lt_of_lt_of_le G_19.lt l_28
  have n_31 : w.heap.size ≤ g_24 := Nat.le_trans hB.size l_28
  replace G_4 := G_4.to hb_26 G_4.lt
  replace G_11 := G_11.to hb_26 G_11.lt
  replace G_19 := G_19.to hb_26 G_19.lt
  replace hB := hB.trans (hb_26.mono hB.size)
  clear hb_26 l_28 z_29
  go_wp2_with (first | (with_reducible refine stop_store ?_) | (with_reducible refine stop_box ?_) | (with_reducible refine stop_alloc ?_) | (with_reducible refine stop_bslice ?_))
  unfold Kept
  refine go_mem (ty := 59) (cs := #[.int .u32 0, .bool false, .int .i64 0]) (fun g => .pointer (some ⟨g, 0, none⟩)) rfl (by kernel_rfl) ?_
  intro g_32 w_33 z_37 l_36 hb_34 G_35
  have n_38 : g_24 < g_32 := Nat.lt_of_lt_of_le G_27.lt l_36
  have n_39 : w.heap.size ≤ g_32 := Nat.le_trans hB.size l_36
  replace G_4 := G_4.to hb_34 G_4.lt
  replace G_11 := G_11.to hb_34 G_11.lt
  replace G_19 := G_19.to hb_34 G_19.lt
  replace G_27 := G_27.to hb_34 G_27.lt
  replace hB := hB.trans (hb_34.mono hB.size)
  clear hb_34 l_36 z_37
  go_wp2_with (first | (with_reducible refine stop_store ?_) | (with_reducible refine stop_box ?_) | (with_reducible refine stop_alloc ?_) | (with_reducible refine stop_bslice ?_) | ((with_reducible refine wpList_ld 0 [.int .i64 1, .int .u64 (W64 a1), .int .i64 a2, .int .u64 (W64 a3), .int .u64 (W64 a4), .int .u64 (W64 a5), .int .u64 (W64 b1), .int .i64 b2, .int .u64 (W64 b3), .int .u64 (W64 b4), .int .u64 (W64 b5)] G_4 ?_ ?_ Try.underlying27 ?_ ?_ ?_); rfl; rfl; rfl; kernel_rfl))
  refine (R.out _).mono ?_; rintro e w_45 ⟨g_40, l_42, rfl, G_41, hb_46⟩
  have n_43 : g_32 < g_40 := Nat.lt_of_lt_of_le G_35.lt l_42
  clear l_42
  replace G_4 := G_4.to hb_46 G_4.lt
  replace G_11 := G_11.to hb_46 G_11.lt
  replace G_19 := G_19.to hb_46 G_19.lt
  replace G_27 := G_27.to hb_46 G_27.lt
  replace G_35 := G_35.to hb_46 G_35.lt
  replace hB := hB.trans (hb_46.mono hB.size)
  clear hb_46
  go_wp2_with (first | (with_reducible refine stop_store ?_) | (with_reducible refine stop_box ?_) | (with_reducible refine stop_alloc ?_) | (with_reducible refine stop_bslice ?_))
  have hst : Stable fun W => Below w.heap.size w W ∧ Blk W g_1 27 #[.int .i64 1, .int .u64 (W64 a1), .int .i64 a2, .int .u64 (W64 a3), .int .u64 (W64 a4), .int .u64 (W64 a5), .int .u64 (W64 b1), .int .i64 b2, .int .u64 (W64 b3), .int .u64 (W64 b4), .int .u64 (W64 b5)] ∧ Blk W g_8 59 #[.int .u32 (W32 vi), .bool vu, .int .i64 vs] ∧ Blk W g_16 71 #[.bool br, .bool bu, .int .u32 (W32 bi)] ∧ Room g_24 27 11 W ∧ Room g_32 59 3 W ∧ Blk W g_40 25 #[.int .u64 (W64 a1), .int .i64 a2, .int .u64 (W64 a3), .int .u64 (W64 a4), .int .u64 (W64 a5), .int .u64 (W64 b1), .int .i64 b2, .int .u64 (W64 b3), .int .u64 (W64 b4), .int .u64 (W64 b5)] := stable_and (stable_below _ _ (Nat.le_refl _)) (stable_and (stable_blk _ _ _) (stable_and (stable_blk _ _ _) (stable_and (stable_blk _ _ _) (stable_and (stable_room _ _ _) (stable_and (stable_room _ _ _) (stable_blk _ _ _))))))
  refine wp_region_v _ 4 hst ⟨hB.drew, G_4, G_11, G_19, ⟨_, rfl, rfl, G_27⟩, ⟨_, rfl, rfl, G_35⟩, G_41⟩ ?_
  clear hB G_4 G_11 G_19 G_27 G_35 G_41
  refine wpU_take (v := .agg #[.int .i64 1, .int .u64 (W64 a1), .int .i64 a2, .int .u64 (W64 a3), .int .u64 (W64 a4), .int .u64 (W64 a5), .int .u64 (W64 b1), .int .i64 b2, .int .u64 (W64 b3), .int .u64 (W64 b4), .int .u64 (W64 b5)]) 0 hst (fun _ h => h) rfl (fun W hS K hK => calm_load rfl rfl (load_part hS.2.1 0 [.int .i64 1, .int .u64 (W64 a1), .int .i64 a2, .int .u64 (W64 a3), .int .u64 (W64 a4), .int .u64 (W64 a5), .int .u64 (W64 b1), .int .i64 b2, .int .u64 (W64 b3), .int .u64 (W64 b4), .int .u64 (W64 b5)] rfl Try.underlying27 rfl (by kernel_rfl)) (hK.out _ (Below.refl _ _))) ?_; simp only [Act.put, List.setIfInBounds_toArray, List.set_cons_zero, List.set_cons_succ]
  refine wpU_take (v := .agg #[.int .u32 (W32 vi), .bool vu, .int .i64 vs]) 1 hst (fun _ h => h) rfl (fun W hS K hK => calm_load rfl rfl (load_part hS.2.2.1 0 [.int .u32 (W32 vi), .bool vu, .int .i64 vs] rfl Try.underlying59 rfl (by kernel_rfl)) (hK.out _ (Below.refl _ _))) ?_; simp only [Act.put, List.setIfInBounds_toArray, List.set_cons_zero, List.set_cons_succ]
  refine wpV_st 2 hst (fun _ h => h) #[.int .i64 1, .int .u64 (W64 a1), .int .i64 a2, .int .u64 (W64 a3), .int .u64 (W64 a4), .int .u64 (W64 a5), .int .u64 (W64 b1), .int .i64 b2, .int .u64 (W64 b3), .int .u64 (W64 b4), .int .u64 (W64 b5)] rfl rfl rfl rfl (fun W hS => hS.2.2.2.2.1) (fun W W' h hU hG => ?_) (by kernel_rfl) rfl (fun hst => ?_)
  · obtain ⟨h0_0, h0_1, h0_2, h0_3, ⟨ch0_4, ah0_4, bh0_4, h0_4⟩, ⟨ch0_5, ah0_5, bh0_5, h0_5⟩, h0_6⟩ := h
    exact ⟨hU.below h0_0 (by omega), hU.blk h0_1 (by omega), hU.blk h0_2 (by omega), hU.blk h0_3 (by omega), ⟨_, rfl, rfl, hG⟩, ⟨ch0_5, ah0_5, bh0_5, hU.blk h0_5 (by omega)⟩, hU.blk h0_6 (by omega)⟩
  refine wpV_st 3 hst (fun _ h => h.1) #[.int .u32 (W32 vi), .bool vu, .int .i64 vs] rfl rfl rfl rfl (fun W hS => hS.1.2.2.2.2.2.1) (fun W W' h hU hG => ?_) (by kernel_rfl) rfl (fun hst => ?_)
  · obtain ⟨⟨h0_0, h0_1, h0_2, h0_3, ⟨ch0_4, ah0_4, bh0_4, h0_4⟩, ⟨ch0_5, ah0_5, bh0_5, h0_5⟩, h0_6⟩, h1_0⟩ := h
    exact ⟨⟨hU.below h0_0 (by omega), hU.blk h0_1 (by omega), hU.blk h0_2 (by omega), hU.blk h0_3 (by omega), ⟨ch0_4, ah0_4, bh0_4, hU.blk h0_4 (by omega)⟩, ⟨_, rfl, rfl, hG⟩, hU.blk h0_6 (by omega)⟩, hU.blk h1_0 (by omega)⟩
  refine wpU_done (fun w_47 hS => ?_)
  obtain ⟨⟨⟨hB, G_4, G_11, G_19, -, -, G_41⟩, G_27s⟩, G_35s⟩ := hS
  clear hst
  go_wp2_with (first | (with_reducible refine stop_store ?_) | (with_reducible refine stop_box ?_) | (with_reducible refine stop_alloc ?_) | (with_reducible refine stop_bslice ?_))
  refine bodyPost_ret (results_cc rfl rfl rfl (load_blk G_27s Try.underlying27 rfl (by kernel_rfl)) (load_blk G_35s Try.underlying59 rfl (by kernel_rfl))) rfl ?_
  refine ⟨?_, hB⟩
  have er : r = (⟨1, ⟨a1, a2, a3, a4, a5⟩, ⟨b1, b2, b3, b4, b5⟩⟩, ⟨vi, vu, vs⟩) := by
     have hi := HI.out; rw [← HR.out]; have hx := HX.out; simp [hearK, recvK, phaseK, nk0, hx, hi]
  rw [er]
  rfl
set_option maxHeartbeats 2000000 in
theorem rf_Hear_n0 (a1 : BitVec 64) (a2 : Int) (a3 a4 a5 b1 : BitVec 64) (b2 : Int) (b3 b4 b5 : BitVec 64) (vi : BitVec 32) (vu : Bool) (vs : Int) (br bu : Bool) (bi : BitVec 32) (now : Int) (w : World) (h0 : 0 ≤ vs ∧ vs ≤ 1099511627776) (h1 : 0 ≤ now ∧ now ≤ 1099511627776) :
    Calls Try.prog 48 #[.agg #[.int .i64 1, .int .u64 (W64 a1), .int .i64 a2, .int .u64 (W64 a3), .int .u64 (W64 a4), .int .u64 (W64 a5), .int .u64 (W64 b1), .int .i64 b2, .int .u64 (W64 b3), .int .u64 (W64 b4), .int .u64 (W64 b5)], .agg #[.int .u32 (W32 vi), .bool vu, .int .i64 vs], .agg #[.bool br, .bool bu, .int .u32 (W32 bi)], .int .i64 0, .int .i64 now] w fun e w' => e = .returned (.tuple #[.agg (ksA (hearK ⟨1, ⟨a1, a2, a3, a4, a5⟩, ⟨b1, b2, b3, b4, b5⟩⟩ ⟨vi, vu, vs⟩ ⟨br, bu, bi⟩ 0 now).1), .agg (ivA (hearK ⟨1, ⟨a1, a2, a3, a4, a5⟩, ⟨b1, b2, b3, b4, b5⟩⟩ ⟨vi, vu, vs⟩ ⟨br, bu, bi⟩ 0 now).2)]) ∧ Below w.heap.size w w' := by
  obtain ⟨r, hr⟩ : ∃ r, hearK ⟨1, ⟨a1, a2, a3, a4, a5⟩, ⟨b1, b2, b3, b4, b5⟩⟩ ⟨vi, vu, vs⟩ ⟨br, bu, bi⟩ 0 now = r := ⟨_, rfl⟩
  rw [hr]
  have HR := Lib.hid hr
  clear hr
  have R := Lib.hid (fun W => rf_RecvB ⟨1, ⟨a1, a2, a3, a4, a5⟩, ⟨b1, b2, b3, b4, b5⟩⟩ [.int .u64 (W64 a1), .int .i64 a2, .int .u64 (W64 a3), .int .u64 (W64 a4), .int .u64 (W64 a5), .int .u64 (W64 b1), .int .i64 b2, .int .u64 (W64 b3), .int .u64 (W64 b4), .int .u64 (W64 b5)] 2 (by simp [recvK, nksL, nkA]) (by simp [recvK]) W)
  have PH2 := Lib.hid (fun W => rf_Phase ⟨1, ⟨a1, a2, a3, a4, a5⟩, ⟨b1, b2, b3, b4, b5⟩⟩ 2 W); have PH3 := Lib.hid (fun W => rf_Phase ⟨1, ⟨a1, a2, a3, a4, a5⟩, ⟨b1, b2, b3, b4, b5⟩⟩ 3 W); unfold ksA at PH2 PH3; dsimp only at PH2 PH3
  have HV := Lib.hid (fun W => rf_hearIV ⟨vi, vu, vs⟩ ⟨br, bu, bi⟩ now W h0 h1)
  unfold ksA at R
  unfold ivA beA at HV
  dsimp only at R HV
  
  clear h0 h1
  obtain ⟨⟨xi, xu, xs⟩, hx⟩ : ∃ x, hearIVK ⟨vi, vu, vs⟩ ⟨br, bu, bi⟩ now = x := ⟨_, rfl⟩
  rw [hx] at HV
  have HX := Lib.hid hx
  clear hx
  go_enter Try.func48, Try.ntmps48
  go_wp2_with (first | (with_reducible refine stop_store ?_) | (with_reducible refine stop_box ?_) | (with_reducible refine stop_alloc ?_) | (with_reducible refine stop_bslice ?_))
  unfold Kept
  refine go_mem (ty := 27) (cs := #[.int .i64 1, .int .u64 (W64 a1), .int .i64 a2, .int .u64 (W64 a3), .int .u64 (W64 a4), .int .u64 (W64 a5), .int .u64 (W64 b1), .int .i64 b2, .int .u64 (W64 b3), .int .u64 (W64 b4), .int .u64 (W64 b5)]) (fun g => .pointer (some ⟨g, 0, none⟩)) rfl (by kernel_rfl) ?_
  intro g_1 w_2 z_6 l_5 hb_3 G_4
  have n_7 : w.heap.size ≤ g_1 := l_5
  have hB := hb_3
  clear hb_3 l_5 z_6
  go_wp2_with (first | (with_reducible refine stop_store ?_) | (with_reducible refine stop_box ?_) | (with_reducible refine stop_alloc ?_) | (with_reducible refine stop_bslice ?_))
  unfold Kept
  refine go_mem (ty := 59) (cs := #[.int .u32 (W32 vi), .bool vu, .int .i64 vs]) (fun g => .pointer (some ⟨g, 0, none⟩)) rfl (by kernel_rfl) ?_
  intro g_8 w_9 z_13 l_12 hb_10 G_11
  have n_14 : g_1 < g_8 := Nat.lt_of_lt_of_le G_4.lt l_12
  have n_15 : w.heap.size ≤ g_8 := Nat.le_trans hB.size l_12
  replace G_4 := G_4.to hb_10 G_4.lt
  replace hB := hB.trans (hb_10.mono hB.size)
  clear hb_10 l_12 z_13
  go_wp2_with (first | (with_reducible refine stop_store ?_) | (with_reducible refine stop_box ?_) | (with_reducible refine stop_alloc ?_) | (with_reducible refine stop_bslice ?_))
  unfold Kept
  refine go_mem (ty := 71) (cs := #[.bool br, .bool bu, .int .u32 (W32 bi)]) (fun g => .pointer (some ⟨g, 0, none⟩)) rfl (by kernel_rfl) ?_
  intro g_16 w_17 z_21 l_20 hb_18 G_19
  have n_22 : g_8 < g_16 := Nat.lt_of_lt_of_le G_11.lt l_20
  have n_23 : w.heap.size ≤ g_16 := Nat.le_trans hB.size l_20
  replace G_4 := G_4.to hb_18 G_4.lt
  replace G_11 := G_11.to hb_18 G_11.lt
  replace hB := hB.trans (hb_18.mono hB.size)
  clear hb_18 l_20 z_21
  go_wp2_with (first | (with_reducible refine stop_store ?_) | (with_reducible refine stop_box ?_) | (with_reducible refine stop_alloc ?_) | (with_reducible refine stop_bslice ?_))
  unfold Kept
  refine go_mem (ty := 27) (cs := #[.int .i64 0, .int .u64 0, .int .i64 0, .int .u64 0, .int .u64 0, .int .u64 0, .int .u64 0, .int .i64 0, .int .u64 0, .int .u64 0, .int .u64 0]) (fun g => .pointer (some ⟨g, 0, none⟩)) rfl (by kernel_rfl) ?_
  intro g_24 w_25 z_29 l_28 hb_26 G_27
  have n_30 : g_16 < g_24 := Nat.lt_of_lt_of_le G_19.lt l_28
  have n_31 : w.heap.size ≤ g_24 := Nat.le_trans hB.size l_28
  replace G_4 := G_4.to hb_26 G_4.lt
  replace G_11 := G_11.to hb_26 G_11.lt
  replace G_19 := G_19.to hb_26 G_19.lt
  replace hB := hB.trans (hb_26.mono hB.size)
  clear hb_26 l_28 z_29
  go_wp2_with (first | (with_reducible refine stop_store ?_) | (with_reducible refine stop_box ?_) | (with_reducible refine stop_alloc ?_) | (with_reducible refine stop_bslice ?_))
  unfold Kept
  refine go_mem (ty := 59) (cs := #[.int .u32 0, .bool false, .int .i64 0]) (fun g => .pointer (some ⟨g, 0, none⟩)) rfl (by kernel_rfl) ?_
  intro g_32 w_33 z_37 l_36 hb_34 G_35
  have n_38 : g_24 < g_32 := Nat.lt_of_lt_of_le G_27.lt l_36
  have n_39 : w.heap.size ≤ g_32 := Nat.le_trans hB.size l_36
  replace G_4 := G_4.to hb_34 G_4.lt
  replace G_11 := G_11.to hb_34 G_11.lt
  replace G_19 := G_19.to hb_34 G_19.lt
  replace G_27 := G_27.to hb_34 G_27.lt
  replace hB := hB.trans (hb_34.mono hB.size)
  clear hb_34 l_36 z_37
  go_wp2_with (first | (with_reducible refine stop_store ?_) | (with_reducible refine stop_box ?_) | (with_reducible refine stop_alloc ?_) | (with_reducible refine stop_bslice ?_) | ((with_reducible refine wpList_ld 0 [.int .i64 1, .int .u64 (W64 a1), .int .i64 a2, .int .u64 (W64 a3), .int .u64 (W64 a4), .int .u64 (W64 a5), .int .u64 (W64 b1), .int .i64 b2, .int .u64 (W64 b3), .int .u64 (W64 b4), .int .u64 (W64 b5)] G_4 ?_ ?_ Try.underlying27 ?_ ?_ ?_); rfl; rfl; rfl; kernel_rfl))
  refine (R.out _).mono ?_; rintro e w_45 ⟨g_40, l_42, rfl, G_41, hb_46⟩
  have n_43 : g_32 < g_40 := Nat.lt_of_lt_of_le G_35.lt l_42
  clear l_42
  replace G_4 := G_4.to hb_46 G_4.lt
  replace G_11 := G_11.to hb_46 G_11.lt
  replace G_19 := G_19.to hb_46 G_19.lt
  replace G_27 := G_27.to hb_46 G_27.lt
  replace G_35 := G_35.to hb_46 G_35.lt
  replace hB := hB.trans (hb_46.mono hB.size)
  clear hb_46
  by_cases hc_47 : (⟨a1, a2, a3, a4, a5⟩ : NK) = ⟨b1, b2, b3, b4, b5⟩
  ·
    have ec_47 : ((W64 a1 == W64 b1 && (a2 == b2 && (W64 a3 == W64 b3 && (W64 a4 == W64 b4 && (W64 a5 == W64 b5)))))) = true := by injection hc_47 with i1 i2 i3 i4 i5; subst i1 i2 i3 i4 i5; simp
    have kc_47 := Lib.hid hc_47
    clear hc_47
    go_wp2_with (first | (with_reducible refine stop_store ?_) | (with_reducible refine stop_box ?_) | (with_reducible refine stop_alloc ?_) | (with_reducible refine stop_bslice ?_))
    have hst : Stable fun W => Below w.heap.size w W ∧ Blk W g_1 27 #[.int .i64 1, .int .u64 (W64 a1), .int .i64 a2, .int .u64 (W64 a3), .int .u64 (W64 a4), .int .u64 (W64 a5), .int .u64 (W64 b1), .int .i64 b2, .int .u64 (W64 b3), .int .u64 (W64 b4), .int .u64 (W64 b5)] ∧ Blk W g_8 59 #[.int .u32 (W32 vi), .bool vu, .int .i64 vs] ∧ Blk W g_16 71 #[.bool br, .bool bu, .int .u32 (W32 bi)] ∧ Blk W g_24 27 #[.int .i64 0, .int .u64 0, .int .i64 0, .int .u64 0, .int .u64 0, .int .u64 0, .int .u64 0, .int .i64 0, .int .u64 0, .int .u64 0, .int .u64 0] ∧ Blk W g_32 59 #[.int .u32 0, .bool false, .int .i64 0] ∧ Blk W g_40 25 #[.int .u64 (W64 a1), .int .i64 a2, .int .u64 (W64 a3), .int .u64 (W64 a4), .int .u64 (W64 a5), .int .u64 (W64 b1), .int .i64 b2, .int .u64 (W64 b3), .int .u64 (W64 b4), .int .u64 (W64 b5)] := stable_and (stable_below _ _ (Nat.le_refl _)) (stable_and (stable_blk _ _ _) (stable_and (stable_blk _ _ _) (stable_and (stable_blk _ _ _) (stable_and (stable_blk _ _ _) (stable_and (stable_blk _ _ _) (stable_blk _ _ _))))))
    refine wp_region_v _ 12 hst ⟨hB.drew, G_4, G_11, G_19, G_27, G_35, G_41⟩ ?_
    clear hB G_4 G_11 G_19 G_27 G_35 G_41
    refine wpU_take (v := ?_) 0 hst (fun _ h => h) rfl ?_ ?_; rotate_left; (intro W hS K hK; clear hS; go_simp; exact hK.out _ (Below.refl _ _)); simp only [Act.put, List.setIfInBounds_toArray, List.set_cons_zero, List.set_cons_succ]
    refine wpU_take (v := ?_) 1 hst (fun _ h => h) rfl ?_ ?_; rotate_left; (intro W hS K hK; clear hS; go_simp; exact hK.out _ (Below.refl _ _)); simp only [Act.put, List.setIfInBounds_toArray, List.set_cons_zero, List.set_cons_succ]
    refine wpU_take (v := ?_) 2 hst (fun _ h => h) rfl ?_ ?_; rotate_left; (intro W hS K hK; clear hS; go_simp; exact hK.out _ (Below.refl _ _)); simp only [Act.put, List.setIfInBounds_toArray, List.set_cons_zero, List.set_cons_succ]
    refine wpU_take (v := ?_) 3 hst (fun _ h => h) rfl ?_ ?_; rotate_left; (intro W hS K hK; clear hS; go_simp; exact hK.out _ (Below.refl _ _)); simp only [Act.put, List.setIfInBounds_toArray, List.set_cons_zero, List.set_cons_succ]
    refine wpU_take (v := ?_) 4 hst (fun _ h => h) rfl ?_ ?_; rotate_left; (intro W hS K hK; clear hS; go_simp; exact hK.out _ (Below.refl _ _)); simp only [Act.put, List.setIfInBounds_toArray, List.set_cons_zero, List.set_cons_succ]
    refine wpU_take (v := ?_) 5 hst (fun _ h => h) rfl ?_ ?_; rotate_left; (intro W hS K hK; clear hS; go_simp; exact hK.out _ (Below.refl _ _)); simp only [Act.put, List.setIfInBounds_toArray, List.set_cons_zero, List.set_cons_succ]
    refine wpU_take (v := ?_) 6 hst (fun _ h => h) rfl ?_ ?_; rotate_left; (intro W hS K hK; clear hS; go_simp; exact hK.out _ (Below.refl _ _)); simp only [Act.put, List.setIfInBounds_toArray, List.set_cons_zero, List.set_cons_succ]
    refine wpU_take (v := .agg #[.int .u64 (W64 a1), .int .i64 a2, .int .u64 (W64 a3), .int .u64 (W64 a4), .int .u64 (W64 a5)]) 7 hst (fun _ h => h) rfl (fun W hS K hK => calm_load rfl rfl (load_part hS.2.2.2.2.2.2 0 [.int .u64 (W64 a1), .int .i64 a2, .int .u64 (W64 a3), .int .u64 (W64 a4), .int .u64 (W64 a5)] rfl Try.underlying25 rfl (by kernel_rfl)) (hK.out _ (Below.refl _ _))) ?_; simp only [Act.put, List.setIfInBounds_toArray, List.set_cons_zero, List.set_cons_succ]
    refine wpU_take (v := ?_) 8 hst (fun _ h => h) rfl ?_ ?_; rotate_left; (intro W hS K hK; clear hS; go_simp; exact hK.out _ (Below.refl _ _)); simp only [Act.put, List.setIfInBounds_toArray, List.set_cons_zero, List.set_cons_succ]
    refine wpU_take (v := .agg #[.int .u64 (W64 b1), .int .i64 b2, .int .u64 (W64 b3), .int .u64 (W64 b4), .int .u64 (W64 b5)]) 9 hst (fun _ h => h) rfl (fun W hS K hK => calm_load rfl rfl (load_part hS.2.1 6 [.int .u64 (W64 b1), .int .i64 b2, .int .u64 (W64 b3), .int .u64 (W64 b4), .int .u64 (W64 b5)] rfl Try.underlying25 rfl (by kernel_rfl)) (hK.out _ (Below.refl _ _))) ?_; simp only [Act.put, List.setIfInBounds_toArray, List.set_cons_zero, List.set_cons_succ]
    refine wpU_take (v := ?_) 10 hst (fun _ h => h) rfl ?_ ?_; rotate_left; (intro W hS K hK; clear hS; go_simp; exact hK.out _ (Below.refl _ _)); simp only [Act.put, List.setIfInBounds_toArray, List.set_cons_zero, List.set_cons_succ]
    refine wpU_take (v := ?_) 11 hst (fun _ h => h) rfl ?_ ?_; rotate_left; (intro W hS K hK; clear hS; go_simp; exact hK.out _ (Below.refl _ _)); simp only [Act.put, List.setIfInBounds_toArray, List.set_cons_zero, List.set_cons_succ]
    refine wpU_done (fun w_48 hS => ?_)
    obtain ⟨hB, G_4, G_11, G_19, G_27, G_35, G_41⟩ := hS
    clear hst
    cases br
    case false =>
      skip
      have ld_50 : w_48.cell? ⟨g_16, 0, none⟩ = some (.bool false) := G_19.cell 0
      go_wp2_with (first | (with_reducible refine stop_store ?_) | (with_reducible refine stop_box ?_) | (with_reducible refine stop_alloc ?_) | (with_reducible refine stop_bslice ?_) | ((with_reducible refine wpList_ld 0 [.int .i64 1, .int .u64 (W64 a1), .int .i64 a2, .int .u64 (W64 a3), .int .u64 (W64 a4), .int .u64 (W64 a5), .int .u64 (W64 b1), .int .i64 b2, .int .u64 (W64 b3), .int .u64 (W64 b4), .int .u64 (W64 b5)] G_4 ?_ ?_ Try.underlying27 ?_ ?_ ?_); rfl; rfl; rfl; kernel_rfl))
      refine (PH3.out _).mono ?_; rintro e w_52 ⟨rfl, hb_53⟩
      clear ld_50
      replace G_4 := G_4.to hb_53 G_4.lt
      replace G_11 := G_11.to hb_53 G_11.lt
      replace G_19 := G_19.to hb_53 G_19.lt
      replace G_27 := G_27.to hb_53 G_27.lt
      replace G_35 := G_35.to hb_53 G_35.lt
      replace G_41 := G_41.to hb_53 G_41.lt
      replace hB := hB.trans (hb_53.mono hB.size)
      clear hb_53
      go_wp2_with (first | (with_reducible refine stop_store ?_) | (with_reducible refine stop_box ?_) | (with_reducible refine stop_alloc ?_) | (with_reducible refine stop_bslice ?_))
      unfold Kept
      refine wpList_st 0 #[.int .i64 0, .int .u64 (W64 b1), .int .i64 b2, .int .u64 (W64 b3), .int .u64 (W64 b4), .int .u64 (W64 b5), .int .u64 0, .int .i64 0, .int .u64 0, .int .u64 0, .int .u64 0] #[.int .i64 0, .int .u64 (W64 b1), .int .i64 b2, .int .u64 (W64 b3), .int .u64 (W64 b4), .int .u64 (W64 b5), .int .u64 0, .int .i64 0, .int .u64 0, .int .u64 0, .int .u64 0] G_4 rfl rfl (by kernel_rfl) rfl (of_decide_eq_true rfl) rfl ?_
      intro w_54 G_56 hU_55
      replace G_11 := hU_55.blk G_11 (by omega)
      replace G_19 := hU_55.blk G_19 (by omega)
      replace G_27 := hU_55.blk G_27 (by omega)
      replace G_35 := hU_55.blk G_35 (by omega)
      replace G_41 := hU_55.blk G_41 (by omega)
      replace hB := hU_55.below hB (by omega)
      clear G_4 hU_55
      go_wp2_with (first | (with_reducible refine stop_store ?_) | (with_reducible refine stop_box ?_) | (with_reducible refine stop_alloc ?_) | (with_reducible refine stop_bslice ?_))
      have hst : Stable fun W => Below w.heap.size w W ∧ Blk W g_1 27 #[.int .i64 0, .int .u64 (W64 b1), .int .i64 b2, .int .u64 (W64 b3), .int .u64 (W64 b4), .int .u64 (W64 b5), .int .u64 0, .int .i64 0, .int .u64 0, .int .u64 0, .int .u64 0] ∧ Blk W g_8 59 #[.int .u32 (W32 vi), .bool vu, .int .i64 vs] ∧ Blk W g_16 71 #[.bool false, .bool bu, .int .u32 (W32 bi)] ∧ Room g_24 27 11 W ∧ Room g_32 59 3 W ∧ Blk W g_40 25 #[.int .u64 (W64 a1), .int .i64 a2, .int .u64 (W64 a3), .int .u64 (W64 a4), .int .u64 (W64 a5), .int .u64 (W64 b1), .int .i64 b2, .int .u64 (W64 b3), .int .u64 (W64 b4), .int .u64 (W64 b5)] := stable_and (stable_below _ _ (Nat.le_refl _)) (stable_and (stable_blk _ _ _) (stable_and (stable_blk _ _ _) (stable_and (stable_blk _ _ _) (stable_and (stable_room _ _ _) (stable_and (stable_room _ _ _) (stable_blk _ _ _))))))
      refine wp_region_v _ 7 hst ⟨hB.drew, G_56, G_11, G_19, ⟨_, rfl, rfl, G_27⟩, ⟨_, rfl, rfl, G_35⟩, G_41⟩ ?_
      clear hB G_56 G_11 G_19 G_27 G_35 G_41
      refine wpU_take (v := .agg #[.int .i64 0, .int .u64 (W64 b1), .int .i64 b2, .int .u64 (W64 b3), .int .u64 (W64 b4), .int .u64 (W64 b5), .int .u64 0, .int .i64 0, .int .u64 0, .int .u64 0, .int .u64 0]) 0 hst (fun _ h => h) rfl (fun W hS K hK => calm_load rfl rfl (load_part hS.2.1 0 [.int .i64 0, .int .u64 (W64 b1), .int .i64 b2, .int .u64 (W64 b3), .int .u64 (W64 b4), .int .u64 (W64 b5), .int .u64 0, .int .i64 0, .int .u64 0, .int .u64 0, .int .u64 0] rfl Try.underlying27 rfl (by kernel_rfl)) (hK.out _ (Below.refl _ _))) ?_; simp only [Act.put, List.setIfInBounds_toArray, List.set_cons_zero, List.set_cons_succ]
      refine wpU_take (v := .agg #[.int .u32 (W32 vi), .bool vu, .int .i64 vs]) 1 hst (fun _ h => h) rfl (fun W hS K hK => calm_load rfl rfl (load_part hS.2.2.1 0 [.int .u32 (W32 vi), .bool vu, .int .i64 vs] rfl Try.underlying59 rfl (by kernel_rfl)) (hK.out _ (Below.refl _ _))) ?_; simp only [Act.put, List.setIfInBounds_toArray, List.set_cons_zero, List.set_cons_succ]
      refine wpU_take (v := .agg #[.bool false, .bool bu, .int .u32 (W32 bi)]) 2 hst (fun _ h => h) rfl (fun W hS K hK => calm_load rfl rfl (load_part hS.2.2.2.1 0 [.bool false, .bool bu, .int .u32 (W32 bi)] rfl Try.underlying71 rfl (by kernel_rfl)) (hK.out _ (Below.refl _ _))) ?_; simp only [Act.put, List.setIfInBounds_toArray, List.set_cons_zero, List.set_cons_succ]
      refine wpU_take (v := ?_) 3 hst (fun _ h => h) rfl ?_ ?_; rotate_left; (intro W hS K hK; clear hS; go_simp; exact hK.out _ (Below.refl _ _)); simp only [Act.put, List.setIfInBounds_toArray, List.set_cons_zero, List.set_cons_succ]
      refine wpU_take (v := ?_) 4 hst (fun _ h => h) rfl ?_ ?_; rotate_left; (intro W hS K hK; clear hS; go_simp; refine (HV.out _).mono ?_; rintro e w9 ⟨rfl, hb⟩; refine CallPost.mk ?_; exact hK.out _ (hb)); simp only [Act.put, List.setIfInBounds_toArray, List.set_cons_zero, List.set_cons_succ]
      refine wpV_st 5 hst (fun _ h => h) #[.int .i64 0, .int .u64 (W64 b1), .int .i64 b2, .int .u64 (W64 b3), .int .u64 (W64 b4), .int .u64 (W64 b5), .int .u64 0, .int .i64 0, .int .u64 0, .int .u64 0, .int .u64 0] rfl rfl rfl rfl (fun W hS => hS.2.2.2.2.1) (fun W W' h hU hG => ?_) (by kernel_rfl) rfl (fun hst => ?_)
      · obtain ⟨h0_0, h0_1, h0_2, h0_3, ⟨ch0_4, ah0_4, bh0_4, h0_4⟩, ⟨ch0_5, ah0_5, bh0_5, h0_5⟩, h0_6⟩ := h
        exact ⟨hU.below h0_0 (by omega), hU.blk h0_1 (by omega), hU.blk h0_2 (by omega), hU.blk h0_3 (by omega), ⟨_, rfl, rfl, hG⟩, ⟨ch0_5, ah0_5, bh0_5, hU.blk h0_5 (by omega)⟩, hU.blk h0_6 (by omega)⟩
      refine wpV_st 6 hst (fun _ h => h.1) #[.int .u32 (W32 xi), .bool xu, .int .i64 xs] rfl rfl rfl rfl (fun W hS => hS.1.2.2.2.2.2.1) (fun W W' h hU hG => ?_) (by kernel_rfl) rfl (fun hst => ?_)
      · obtain ⟨⟨h0_0, h0_1, h0_2, h0_3, ⟨ch0_4, ah0_4, bh0_4, h0_4⟩, ⟨ch0_5, ah0_5, bh0_5, h0_5⟩, h0_6⟩, h1_0⟩ := h
        exact ⟨⟨hU.below h0_0 (by omega), hU.blk h0_1 (by omega), hU.blk h0_2 (by omega), hU.blk h0_3 (by omega), ⟨ch0_4, ah0_4, bh0_4, hU.blk h0_4 (by omega)⟩, ⟨_, rfl, rfl, hG⟩, hU.blk h0_6 (by omega)⟩, hU.blk h1_0 (by omega)⟩
      refine wpU_done (fun w_57 hS => ?_)
      obtain ⟨⟨⟨hB, G_56, G_11, G_19, -, -, G_41⟩, G_27s⟩, G_35s⟩ := hS
      clear hst
      go_wp2_with (first | (with_reducible refine stop_store ?_) | (with_reducible refine stop_box ?_) | (with_reducible refine stop_alloc ?_) | (with_reducible refine stop_bslice ?_))
      refine bodyPost_ret (results_cc rfl rfl rfl (load_blk G_27s Try.underlying27 rfl (by kernel_rfl)) (load_blk G_35s Try.underlying59 rfl (by kernel_rfl))) rfl ?_
      refine ⟨?_, hB⟩
      have er : r = (⟨0, ⟨b1, b2, b3, b4, b5⟩, ⟨0#64, 0, 0#64, 0#64, 0#64⟩⟩, ⟨xi, xu, xs⟩) := by
        have q0 := kc_47.out; rw [← HR.out]; have hx := HX.out; simp [hearK, recvK, phaseK, nk0, hx, q0]
      rw [er]
      rfl
    case true =>
      skip
      have ld_58 : w_48.cell? ⟨g_16, 0, none⟩ = some (.bool true) := G_19.cell 0
      go_wp2_with (first | (with_reducible refine stop_store ?_) | (with_reducible refine stop_box ?_) | (with_reducible refine stop_alloc ?_) | (with_reducible refine stop_bslice ?_) | ((with_reducible refine wpList_ld 0 [.int .i64 1, .int .u64 (W64 a1), .int .i64 a2, .int .u64 (W64 a3), .int .u64 (W64 a4), .int .u64 (W64 a5), .int .u64 (W64 b1), .int .i64 b2, .int .u64 (W64 b3), .int .u64 (W64 b4), .int .u64 (W64 b5)] G_4 ?_ ?_ Try.underlying27 ?_ ?_ ?_); rfl; rfl; rfl; kernel_rfl))
      refine (PH2.out _).mono ?_; rintro e w_60 ⟨rfl, hb_61⟩
      clear ld_58
      replace G_4 := G_4.to hb_61 G_4.lt
      replace G_11 := G_11.to hb_61 G_11.lt
      replace G_19 := G_19.to hb_61 G_19.lt
      replace G_27 := G_27.to hb_61 G_27.lt
      replace G_35 := G_35.to hb_61 G_35.lt
      replace G_41 := G_41.to hb_61 G_41.lt
      replace hB := hB.trans (hb_61.mono hB.size)
      clear hb_61
      go_wp2_with (first | (with_reducible refine stop_store ?_) | (with_reducible refine stop_box ?_) | (with_reducible refine stop_alloc ?_) | (with_reducible refine stop_bslice ?_))
      unfold Kept
      refine wpList_st 0 #[.int .i64 2, .int .u64 (W64 a1), .int .i64 a2, .int .u64 (W64 a3), .int .u64 (W64 a4), .int .u64 (W64 a5), .int .u64 (W64 b1), .int .i64 b2, .int .u64 (W64 b3), .int .u64 (W64 b4), .int .u64 (W64 b5)] #[.int .i64 2, .int .u64 (W64 a1), .int .i64 a2, .int .u64 (W64 a3), .int .u64 (W64 a4), .int .u64 (W64 a5), .int .u64 (W64 b1), .int .i64 b2, .int .u64 (W64 b3), .int .u64 (W64 b4), .int .u64 (W64 b5)] G_4 rfl rfl (by kernel_rfl) rfl (of_decide_eq_true rfl) rfl ?_
      intro w_62 G_64 hU_63
      replace G_11 := hU_63.blk G_11 (by omega)
      replace G_19 := hU_63.blk G_19 (by omega)
      replace G_27 := hU_63.blk G_27 (by omega)
      replace G_35 := hU_63.blk G_35 (by omega)
      replace G_41 := hU_63.blk G_41 (by omega)
      replace hB := hU_63.below hB (by omega)
      clear G_4 hU_63
      go_wp2_with (first | (with_reducible refine stop_store ?_) | (with_reducible refine stop_box ?_) | (with_reducible refine stop_alloc ?_) | (with_reducible refine stop_bslice ?_))
      have hst : Stable fun W => Below w.heap.size w W ∧ Blk W g_1 27 #[.int .i64 2, .int .u64 (W64 a1), .int .i64 a2, .int .u64 (W64 a3), .int .u64 (W64 a4), .int .u64 (W64 a5), .int .u64 (W64 b1), .int .i64 b2, .int .u64 (W64 b3), .int .u64 (W64 b4), .int .u64 (W64 b5)] ∧ Blk W g_8 59 #[.int .u32 (W32 vi), .bool vu, .int .i64 vs] ∧ Blk W g_16 71 #[.bool true, .bool bu, .int .u32 (W32 bi)] ∧ Room g_24 27 11 W ∧ Room g_32 59 3 W ∧ Blk W g_40 25 #[.int .u64 (W64 a1), .int .i64 a2, .int .u64 (W64 a3), .int .u64 (W64 a4), .int .u64 (W64 a5), .int .u64 (W64 b1), .int .i64 b2, .int .u64 (W64 b3), .int .u64 (W64 b4), .int .u64 (W64 b5)] := stable_and (stable_below _ _ (Nat.le_refl _)) (stable_and (stable_blk _ _ _) (stable_and (stable_blk _ _ _) (stable_and (stable_blk _ _ _) (stable_and (stable_room _ _ _) (stable_and (stable_room _ _ _) (stable_blk _ _ _))))))
      refine wp_region_v _ 7 hst ⟨hB.drew, G_64, G_11, G_19, ⟨_, rfl, rfl, G_27⟩, ⟨_, rfl, rfl, G_35⟩, G_41⟩ ?_
      clear hB G_64 G_11 G_19 G_27 G_35 G_41
      refine wpU_take (v := .agg #[.int .i64 2, .int .u64 (W64 a1), .int .i64 a2, .int .u64 (W64 a3), .int .u64 (W64 a4), .int .u64 (W64 a5), .int .u64 (W64 b1), .int .i64 b2, .int .u64 (W64 b3), .int .u64 (W64 b4), .int .u64 (W64 b5)]) 0 hst (fun _ h => h) rfl (fun W hS K hK => calm_load rfl rfl (load_part hS.2.1 0 [.int .i64 2, .int .u64 (W64 a1), .int .i64 a2, .int .u64 (W64 a3), .int .u64 (W64 a4), .int .u64 (W64 a5), .int .u64 (W64 b1), .int .i64 b2, .int .u64 (W64 b3), .int .u64 (W64 b4), .int .u64 (W64 b5)] rfl Try.underlying27 rfl (by kernel_rfl)) (hK.out _ (Below.refl _ _))) ?_; simp only [Act.put, List.setIfInBounds_toArray, List.set_cons_zero, List.set_cons_succ]
      refine wpU_take (v := .agg #[.int .u32 (W32 vi), .bool vu, .int .i64 vs]) 1 hst (fun _ h => h) rfl (fun W hS K hK => calm_load rfl rfl (load_part hS.2.2.1 0 [.int .u32 (W32 vi), .bool vu, .int .i64 vs] rfl Try.underlying59 rfl (by kernel_rfl)) (hK.out _ (Below.refl _ _))) ?_; simp only [Act.put, List.setIfInBounds_toArray, List.set_cons_zero, List.set_cons_succ]
      refine wpU_take (v := .agg #[.bool true, .bool bu, .int .u32 (W32 bi)]) 2 hst (fun _ h => h) rfl (fun W hS K hK => calm_load rfl rfl (load_part hS.2.2.2.1 0 [.bool true, .bool bu, .int .u32 (W32 bi)] rfl Try.underlying71 rfl (by kernel_rfl)) (hK.out _ (Below.refl _ _))) ?_; simp only [Act.put, List.setIfInBounds_toArray, List.set_cons_zero, List.set_cons_succ]
      refine wpU_take (v := ?_) 3 hst (fun _ h => h) rfl ?_ ?_; rotate_left; (intro W hS K hK; clear hS; go_simp; exact hK.out _ (Below.refl _ _)); simp only [Act.put, List.setIfInBounds_toArray, List.set_cons_zero, List.set_cons_succ]
      refine wpU_take (v := ?_) 4 hst (fun _ h => h) rfl ?_ ?_; rotate_left; (intro W hS K hK; clear hS; go_simp; refine (HV.out _).mono ?_; rintro e w9 ⟨rfl, hb⟩; refine CallPost.mk ?_; exact hK.out _ (hb)); simp only [Act.put, List.setIfInBounds_toArray, List.set_cons_zero, List.set_cons_succ]
      refine wpV_st 5 hst (fun _ h => h) #[.int .i64 2, .int .u64 (W64 a1), .int .i64 a2, .int .u64 (W64 a3), .int .u64 (W64 a4), .int .u64 (W64 a5), .int .u64 (W64 b1), .int .i64 b2, .int .u64 (W64 b3), .int .u64 (W64 b4), .int .u64 (W64 b5)] rfl rfl rfl rfl (fun W hS => hS.2.2.2.2.1) (fun W W' h hU hG => ?_) (by kernel_rfl) rfl (fun hst => ?_)
      · obtain ⟨h0_0, h0_1, h0_2, h0_3, ⟨ch0_4, ah0_4, bh0_4, h0_4⟩, ⟨ch0_5, ah0_5, bh0_5, h0_5⟩, h0_6⟩ := h
        exact ⟨hU.below h0_0 (by omega), hU.blk h0_1 (by omega), hU.blk h0_2 (by omega), hU.blk h0_3 (by omega), ⟨_, rfl, rfl, hG⟩, ⟨ch0_5, ah0_5, bh0_5, hU.blk h0_5 (by omega)⟩, hU.blk h0_6 (by omega)⟩
      refine wpV_st 6 hst (fun _ h => h.1) #[.int .u32 (W32 xi), .bool xu, .int .i64 xs] rfl rfl rfl rfl (fun W hS => hS.1.2.2.2.2.2.1) (fun W W' h hU hG => ?_) (by kernel_rfl) rfl (fun hst => ?_)
      · obtain ⟨⟨h0_0, h0_1, h0_2, h0_3, ⟨ch0_4, ah0_4, bh0_4, h0_4⟩, ⟨ch0_5, ah0_5, bh0_5, h0_5⟩, h0_6⟩, h1_0⟩ := h
        exact ⟨⟨hU.below h0_0 (by omega), hU.blk h0_1 (by omega), hU.blk h0_2 (by omega), hU.blk h0_3 (by omega), ⟨ch0_4, ah0_4, bh0_4, hU.blk h0_4 (by omega)⟩, ⟨_, rfl, rfl, hG⟩, hU.blk h0_6 (by omega)⟩, hU.blk h1_0 (by omega)⟩
      refine wpU_done (fun w_65 hS => ?_)
      obtain ⟨⟨⟨hB, G_64, G_11, G_19, -, -, G_41⟩, G_27s⟩, G_35s⟩ := hS
      clear hst
      go_wp2_with (first | (with_reducible refine stop_store ?_) | (with_reducible refine stop_box ?_) | (with_reducible refine stop_alloc ?_) | (with_reducible refine stop_bslice ?_))
      refine bodyPost_ret (results_cc rfl rfl rfl (load_blk G_27s Try.underlying27 rfl (by kernel_rfl)) (load_blk G_35s Try.underlying59 rfl (by kernel_rfl))) rfl ?_
      refine ⟨?_, hB⟩
      have er : r = (⟨2, ⟨a1, a2, a3, a4, a5⟩, ⟨b1, b2, b3, b4, b5⟩⟩, ⟨xi, xu, xs⟩) := by
        have q0 := kc_47.out; rw [← HR.out]; have hx := HX.out; simp [hearK, recvK, phaseK, nk0, hx, q0]
      rw [er]
      rfl
  ·
    have ec_47 : ((W64 a1 == W64 b1 && (a2 == b2 && (W64 a3 == W64 b3 && (W64 a4 == W64 b4 && (W64 a5 == W64 b5)))))) = false := by rw [Bool.eq_false_iff]; intro hh; apply hc_47; simp only [Bool.and_eq_true, beq_iff_eq, W64_eq] at hh; obtain ⟨i1, i2, i3, i4, i5⟩ := hh; rw [i1, i2, i3, i4, i5]
    have kc_47 := Lib.hid hc_47
    clear hc_47
    go_wp2_with (first | (with_reducible refine stop_store ?_) | (with_reducible refine stop_box ?_) | (with_reducible refine stop_alloc ?_) | (with_reducible refine stop_bslice ?_))
    have hst : Stable fun W => Below w.heap.size w W ∧ Blk W g_1 27 #[.int .i64 1, .int .u64 (W64 a1), .int .i64 a2, .int .u64 (W64 a3), .int .u64 (W64 a4), .int .u64 (W64 a5), .int .u64 (W64 b1), .int .i64 b2, .int .u64 (W64 b3), .int .u64 (W64 b4), .int .u64 (W64 b5)] ∧ Blk W g_8 59 #[.int .u32 (W32 vi), .bool vu, .int .i64 vs] ∧ Blk W g_16 71 #[.bool br, .bool bu, .int .u32 (W32 bi)] ∧ Blk W g_24 27 #[.int .i64 0, .int .u64 0, .int .i64 0, .int .u64 0, .int .u64 0, .int .u64 0, .int .u64 0, .int .i64 0, .int .u64 0, .int .u64 0, .int .u64 0] ∧ Blk W g_32 59 #[.int .u32 0, .bool false, .int .i64 0] ∧ Blk W g_40 25 #[.int .u64 (W64 a1), .int .i64 a2, .int .u64 (W64 a3), .int .u64 (W64 a4), .int .u64 (W64 a5), .int .u64 (W64 b1), .int .i64 b2, .int .u64 (W64 b3), .int .u64 (W64 b4), .int .u64 (W64 b5)] := stable_and (stable_below _ _ (Nat.le_refl _)) (stable_and (stable_blk _ _ _) (stable_and (stable_blk _ _ _) (stable_and (stable_blk _ _ _) (stable_and (stable_blk _ _ _) (stable_and (stable_blk _ _ _) (stable_blk _ _ _))))))
    refine wp_region_v _ 12 hst ⟨hB.drew, G_4, G_11, G_19, G_27, G_35, G_41⟩ ?_
    clear hB G_4 G_11 G_19 G_27 G_35 G_41
    refine wpU_take (v := ?_) 0 hst (fun _ h => h) rfl ?_ ?_; rotate_left; (intro W hS K hK; clear hS; go_simp; exact hK.out _ (Below.refl _ _)); simp only [Act.put, List.setIfInBounds_toArray, List.set_cons_zero, List.set_cons_succ]
    refine wpU_take (v := ?_) 1 hst (fun _ h => h) rfl ?_ ?_; rotate_left; (intro W hS K hK; clear hS; go_simp; exact hK.out _ (Below.refl _ _)); simp only [Act.put, List.setIfInBounds_toArray, List.set_cons_zero, List.set_cons_succ]
    refine wpU_take (v := ?_) 2 hst (fun _ h => h) rfl ?_ ?_; rotate_left; (intro W hS K hK; clear hS; go_simp; exact hK.out _ (Below.refl _ _)); simp only [Act.put, List.setIfInBounds_toArray, List.set_cons_zero, List.set_cons_succ]
    refine wpU_take (v := ?_) 3 hst (fun _ h => h) rfl ?_ ?_; rotate_left; (intro W hS K hK; clear hS; go_simp; exact hK.out _ (Below.refl _ _)); simp only [Act.put, List.setIfInBounds_toArray, List.set_cons_zero, List.set_cons_succ]
    refine wpU_take (v := ?_) 4 hst (fun _ h => h) rfl ?_ ?_; rotate_left; (intro W hS K hK; clear hS; go_simp; exact hK.out _ (Below.refl _ _)); simp only [Act.put, List.setIfInBounds_toArray, List.set_cons_zero, List.set_cons_succ]
    refine wpU_take (v := ?_) 5 hst (fun _ h => h) rfl ?_ ?_; rotate_left; (intro W hS K hK; clear hS; go_simp; exact hK.out _ (Below.refl _ _)); simp only [Act.put, List.setIfInBounds_toArray, List.set_cons_zero, List.set_cons_succ]
    refine wpU_take (v := ?_) 6 hst (fun _ h => h) rfl ?_ ?_; rotate_left; (intro W hS K hK; clear hS; go_simp; exact hK.out _ (Below.refl _ _)); simp only [Act.put, List.setIfInBounds_toArray, List.set_cons_zero, List.set_cons_succ]
    refine wpU_take (v := .agg #[.int .u64 (W64 a1), .int .i64 a2, .int .u64 (W64 a3), .int .u64 (W64 a4), .int .u64 (W64 a5)]) 7 hst (fun _ h => h) rfl (fun W hS K hK => calm_load rfl rfl (load_part hS.2.2.2.2.2.2 0 [.int .u64 (W64 a1), .int .i64 a2, .int .u64 (W64 a3), .int .u64 (W64 a4), .int .u64 (W64 a5)] rfl Try.underlying25 rfl (by kernel_rfl)) (hK.out _ (Below.refl _ _))) ?_; simp only [Act.put, List.setIfInBounds_toArray, List.set_cons_zero, List.set_cons_succ]
    refine wpU_take (v := ?_) 8 hst (fun _ h => h) rfl ?_ ?_; rotate_left; (intro W hS K hK; clear hS; go_simp; exact hK.out _ (Below.refl _ _)); simp only [Act.put, List.setIfInBounds_toArray, List.set_cons_zero, List.set_cons_succ]
    refine wpU_take (v := .agg #[.int .u64 (W64 b1), .int .i64 b2, .int .u64 (W64 b3), .int .u64 (W64 b4), .int .u64 (W64 b5)]) 9 hst (fun _ h => h) rfl (fun W hS K hK => calm_load rfl rfl (load_part hS.2.1 6 [.int .u64 (W64 b1), .int .i64 b2, .int .u64 (W64 b3), .int .u64 (W64 b4), .int .u64 (W64 b5)] rfl Try.underlying25 rfl (by kernel_rfl)) (hK.out _ (Below.refl _ _))) ?_; simp only [Act.put, List.setIfInBounds_toArray, List.set_cons_zero, List.set_cons_succ]
    refine wpU_take (v := ?_) 10 hst (fun _ h => h) rfl ?_ ?_; rotate_left; (intro W hS K hK; clear hS; go_simp; exact hK.out _ (Below.refl _ _)); simp only [Act.put, List.setIfInBounds_toArray, List.set_cons_zero, List.set_cons_succ]
    refine wpU_take (v := ?_) 11 hst (fun _ h => h) rfl ?_ ?_; rotate_left; (intro W hS K hK; clear hS; go_simp; exact hK.out _ (Below.refl _ _)); simp only [Act.put, List.setIfInBounds_toArray, List.set_cons_zero, List.set_cons_succ]
    refine wpU_done (fun w_66 hS => ?_)
    obtain ⟨hB, G_4, G_11, G_19, G_27, G_35, G_41⟩ := hS
    clear hst
    go_wp2_with (first | (with_reducible refine stop_store ?_) | (with_reducible refine stop_box ?_) | (with_reducible refine stop_alloc ?_) | (with_reducible refine stop_bslice ?_))
    have hst : Stable fun W => Below w.heap.size w W ∧ Blk W g_1 27 #[.int .i64 1, .int .u64 (W64 a1), .int .i64 a2, .int .u64 (W64 a3), .int .u64 (W64 a4), .int .u64 (W64 a5), .int .u64 (W64 b1), .int .i64 b2, .int .u64 (W64 b3), .int .u64 (W64 b4), .int .u64 (W64 b5)] ∧ Blk W g_8 59 #[.int .u32 (W32 vi), .bool vu, .int .i64 vs] ∧ Blk W g_16 71 #[.bool br, .bool bu, .int .u32 (W32 bi)] ∧ Room g_24 27 11 W ∧ Room g_32 59 3 W ∧ Blk W g_40 25 #[.int .u64 (W64 a1), .int .i64 a2, .int .u64 (W64 a3), .int .u64 (W64 a4), .int .u64 (W64 a5), .int .u64 (W64 b1), .int .i64 b2, .int .u64 (W64 b3), .int .u64 (W64 b4), .int .u64 (W64 b5)] := stable_and (stable_below _ _ (Nat.le_refl _)) (stable_and (stable_blk _ _ _) (stable_and (stable_blk _ _ _) (stable_and (stable_blk _ _ _) (stable_and (stable_room _ _ _) (stable_and (stable_room _ _ _) (stable_blk _ _ _))))))
    refine wp_region_v _ 7 hst ⟨hB.drew, G_4, G_11, G_19, ⟨_, rfl, rfl, G_27⟩, ⟨_, rfl, rfl, G_35⟩, G_41⟩ ?_
    clear hB G_4 G_11 G_19 G_27 G_35 G_41
    refine wpU_take (v := .agg #[.int .i64 1, .int .u64 (W64 a1), .int .i64 a2, .int .u64 (W64 a3), .int .u64 (W64 a4), .int .u64 (W64 a5), .int .u64 (W64 b1), .int .i64 b2, .int .u64 (W64 b3), .int .u64 (W64 b4), .int .u64 (W64 b5)]) 0 hst (fun _ h => h) rfl (fun W hS K hK => calm_load rfl rfl (load_part hS.2.1 0 [.int .i64 1, .int .u64 (W64 a1), .int .i64 a2, .int .u64 (W64 a3), .int .u64 (W64 a4), .int .u64 (W64 a5), .int .u64 (W64 b1), .int .i64 b2, .int .u64 (W64 b3), .int .u64 (W64 b4), .int .u64 (W64 b5)] rfl Try.underlying27 rfl (by kernel_rfl)) (hK.out _ (Below.refl _ _))) ?_; simp only [Act.put, List.setIfInBounds_toArray, List.set_cons_zero, List.set_cons_succ]
    refine wpU_take (v := .agg #[.int .u32 (W32 vi), .bool vu, .int .i64 vs]) 1 hst (fun _ h => h) rfl (fun W hS K hK => calm_load rfl rfl (load_part hS.2.2.1 0 [.int .u32 (W32 vi), .bool vu, .int .i64 vs] rfl Try.underlying59 rfl (by kernel_rfl)) (hK.out _ (Below.refl _ _))) ?_; simp only [Act.put, List.setIfInBounds_toArray, List.set_cons_zero, List.set_cons_succ]
    refine wpU_take (v := .agg #[.bool br, .bool bu, .int .u32 (W32 bi)]) 2 hst (fun _ h => h) rfl (fun W hS K hK => calm_load rfl rfl (load_part hS.2.2.2.1 0 [.bool br, .bool bu, .int .u32 (W32 bi)] rfl Try.underlying71 rfl (by kernel_rfl)) (hK.out _ (Below.refl _ _))) ?_; simp only [Act.put, List.setIfInBounds_toArray, List.set_cons_zero, List.set_cons_succ]
    refine wpU_take (v := ?_) 3 hst (fun _ h => h) rfl ?_ ?_; rotate_left; (intro W hS K hK; clear hS; go_simp; exact hK.out _ (Below.refl _ _)); simp only [Act.put, List.setIfInBounds_toArray, List.set_cons_zero, List.set_cons_succ]
    refine wpU_take (v := ?_) 4 hst (fun _ h => h) rfl ?_ ?_; rotate_left; (intro W hS K hK; clear hS; go_simp; refine (HV.out _).mono ?_; rintro e w9 ⟨rfl, hb⟩; refine CallPost.mk ?_; exact hK.out _ (hb)); simp only [Act.put, List.setIfInBounds_toArray, List.set_cons_zero, List.set_cons_succ]
    refine wpV_st 5 hst (fun _ h => h) #[.int .i64 1, .int .u64 (W64 a1), .int .i64 a2, .int .u64 (W64 a3), .int .u64 (W64 a4), .int .u64 (W64 a5), .int .u64 (W64 b1), .int .i64 b2, .int .u64 (W64 b3), .int .u64 (W64 b4), .int .u64 (W64 b5)] rfl rfl rfl rfl (fun W hS => hS.2.2.2.2.1) (fun W W' h hU hG => ?_) (by kernel_rfl) rfl (fun hst => ?_)
    · obtain ⟨h0_0, h0_1, h0_2, h0_3, ⟨ch0_4, ah0_4, bh0_4, h0_4⟩, ⟨ch0_5, ah0_5, bh0_5, h0_5⟩, h0_6⟩ := h
      exact ⟨hU.below h0_0 (by omega), hU.blk h0_1 (by omega), hU.blk h0_2 (by omega), hU.blk h0_3 (by omega), ⟨_, rfl, rfl, hG⟩, ⟨ch0_5, ah0_5, bh0_5, hU.blk h0_5 (by omega)⟩, hU.blk h0_6 (by omega)⟩
    refine wpV_st 6 hst (fun _ h => h.1) #[.int .u32 (W32 xi), .bool xu, .int .i64 xs] rfl rfl rfl rfl (fun W hS => hS.1.2.2.2.2.2.1) (fun W W' h hU hG => ?_) (by kernel_rfl) rfl (fun hst => ?_)
    · obtain ⟨⟨h0_0, h0_1, h0_2, h0_3, ⟨ch0_4, ah0_4, bh0_4, h0_4⟩, ⟨ch0_5, ah0_5, bh0_5, h0_5⟩, h0_6⟩, h1_0⟩ := h
      exact ⟨⟨hU.below h0_0 (by omega), hU.blk h0_1 (by omega), hU.blk h0_2 (by omega), hU.blk h0_3 (by omega), ⟨ch0_4, ah0_4, bh0_4, hU.blk h0_4 (by omega)⟩, ⟨_, rfl, rfl, hG⟩, hU.blk h0_6 (by omega)⟩, hU.blk h1_0 (by omega)⟩
    refine wpU_done (fun w_67 hS => ?_)
    obtain ⟨⟨⟨hB, G_4, G_11, G_19, -, -, G_41⟩, G_27s⟩, G_35s⟩ := hS
    clear hst
    go_wp2_with (first | (with_reducible refine stop_store ?_) | (with_reducible refine stop_box ?_) | (with_reducible refine stop_alloc ?_) | (with_reducible refine stop_bslice ?_))
    refine bodyPost_ret (results_cc rfl rfl rfl (load_blk G_27s Try.underlying27 rfl (by kernel_rfl)) (load_blk G_35s Try.underlying59 rfl (by kernel_rfl))) rfl ?_
    refine ⟨?_, hB⟩
    have er : r = (⟨1, ⟨a1, a2, a3, a4, a5⟩, ⟨b1, b2, b3, b4, b5⟩⟩, ⟨xi, xu, xs⟩) := by
      have q0 := kc_47.out; rw [← HR.out]; have hx := HX.out; simp [hearK, recvK, phaseK, nk0, hx, q0]
    rw [er]
    rfl
set_option maxHeartbeats 2000000 in
theorem rf_Hear_n1 (a1 : BitVec 64) (a2 : Int) (a3 a4 a5 b1 : BitVec 64) (b2 : Int) (b3 b4 b5 : BitVec 64) (vi : BitVec 32) (vu : Bool) (vs : Int) (br bu : Bool) (bi : BitVec 32) (now : Int) (w : World) (h0 : 0 ≤ vs ∧ vs ≤ 1099511627776) (h1 : 0 ≤ now ∧ now ≤ 1099511627776) :
    Calls Try.prog 48 #[.agg #[.int .i64 1, .int .u64 (W64 a1), .int .i64 a2, .int .u64 (W64 a3), .int .u64 (W64 a4), .int .u64 (W64 a5), .int .u64 (W64 b1), .int .i64 b2, .int .u64 (W64 b3), .int .u64 (W64 b4), .int .u64 (W64 b5)], .agg #[.int .u32 (W32 vi), .bool vu, .int .i64 vs], .agg #[.bool br, .bool bu, .int .u32 (W32 bi)], .int .i64 1, .int .i64 now] w fun e w' => e = .returned (.tuple #[.agg (ksA (hearK ⟨1, ⟨a1, a2, a3, a4, a5⟩, ⟨b1, b2, b3, b4, b5⟩⟩ ⟨vi, vu, vs⟩ ⟨br, bu, bi⟩ 1 now).1), .agg (ivA (hearK ⟨1, ⟨a1, a2, a3, a4, a5⟩, ⟨b1, b2, b3, b4, b5⟩⟩ ⟨vi, vu, vs⟩ ⟨br, bu, bi⟩ 1 now).2)]) ∧ Below w.heap.size w w' := by
  obtain ⟨r, hr⟩ : ∃ r, hearK ⟨1, ⟨a1, a2, a3, a4, a5⟩, ⟨b1, b2, b3, b4, b5⟩⟩ ⟨vi, vu, vs⟩ ⟨br, bu, bi⟩ 1 now = r := ⟨_, rfl⟩
  rw [hr]
  have HR := Lib.hid hr
  clear hr
  have R := Lib.hid (fun W => rf_RecvB ⟨1, ⟨a1, a2, a3, a4, a5⟩, ⟨b1, b2, b3, b4, b5⟩⟩ [.int .u64 (W64 a1), .int .i64 a2, .int .u64 (W64 a3), .int .u64 (W64 a4), .int .u64 (W64 a5), .int .u64 (W64 b1), .int .i64 b2, .int .u64 (W64 b3), .int .u64 (W64 b4), .int .u64 (W64 b5)] 2 (by simp [recvK, nksL, nkA]) (by simp [recvK]) W)
  have PH2 := Lib.hid (fun W => rf_Phase ⟨1, ⟨a1, a2, a3, a4, a5⟩, ⟨b1, b2, b3, b4, b5⟩⟩ 2 W); have PH3 := Lib.hid (fun W => rf_Phase ⟨1, ⟨a1, a2, a3, a4, a5⟩, ⟨b1, b2, b3, b4, b5⟩⟩ 3 W); unfold ksA at PH2 PH3; dsimp only at PH2 PH3
  have HV := Lib.hid (fun W => rf_hearIV ⟨vi, vu, vs⟩ ⟨br, bu, bi⟩ now W h0 h1)
  unfold ksA at R
  unfold ivA beA at HV
  dsimp only at R HV
  
  clear h0 h1
  obtain ⟨⟨xi, xu, xs⟩, hx⟩ : ∃ x, hearIVK ⟨vi, vu, vs⟩ ⟨br, bu, bi⟩ now = x := ⟨_, rfl⟩
  rw [hx] at HV
  have HX := Lib.hid hx
  clear hx
  go_enter Try.func48, Try.ntmps48
  go_wp2_with (first | (with_reducible refine stop_store ?_) | (with_reducible refine stop_box ?_) | (with_reducible refine stop_alloc ?_) | (with_reducible refine stop_bslice ?_))
  unfold Kept
  refine go_mem (ty := 27) (cs := #[.int .i64 1, .int .u64 (W64 a1), .int .i64 a2, .int .u64 (W64 a3), .int .u64 (W64 a4), .int .u64 (W64 a5), .int .u64 (W64 b1), .int .i64 b2, .int .u64 (W64 b3), .int .u64 (W64 b4), .int .u64 (W64 b5)]) (fun g => .pointer (some ⟨g, 0, none⟩)) rfl (by kernel_rfl) ?_
  intro g_1 w_2 z_6 l_5 hb_3 G_4
  have n_7 : w.heap.size ≤ g_1 := l_5
  have hB := hb_3
  clear hb_3 l_5 z_6
  go_wp2_with (first | (with_reducible refine stop_store ?_) | (with_reducible refine stop_box ?_) | (with_reducible refine stop_alloc ?_) | (with_reducible refine stop_bslice ?_))
  unfold Kept
  refine go_mem (ty := 59) (cs := #[.int .u32 (W32 vi), .bool vu, .int .i64 vs]) (fun g => .pointer (some ⟨g, 0, none⟩)) rfl (by kernel_rfl) ?_
  intro g_8 w_9 z_13 l_12 hb_10 G_11
  have n_14 : g_1 < g_8 := Nat.lt_of_lt_of_le G_4.lt l_12
  have n_15 : w.heap.size ≤ g_8 := Nat.le_trans hB.size l_12
  replace G_4 := G_4.to hb_10 G_4.lt
  replace hB := hB.trans (hb_10.mono hB.size)
  clear hb_10 l_12 z_13
  go_wp2_with (first | (with_reducible refine stop_store ?_) | (with_reducible refine stop_box ?_) | (with_reducible refine stop_alloc ?_) | (with_reducible refine stop_bslice ?_))
  unfold Kept
  refine go_mem (ty := 71) (cs := #[.bool br, .bool bu, .int .u32 (W32 bi)]) (fun g => .pointer (some ⟨g, 0, none⟩)) rfl (by kernel_rfl) ?_
  intro g_16 w_17 z_21 l_20 hb_18 G_19
  have n_22 : g_8 < g_16 := Nat.lt_of_lt_of_le G_11.lt l_20
  have n_23 : w.heap.size ≤ g_16 := Nat.le_trans hB.size l_20
  replace G_4 := G_4.to hb_18 G_4.lt
  replace G_11 := G_11.to hb_18 G_11.lt
  replace hB := hB.trans (hb_18.mono hB.size)
  clear hb_18 l_20 z_21
  go_wp2_with (first | (with_reducible refine stop_store ?_) | (with_reducible refine stop_box ?_) | (with_reducible refine stop_alloc ?_) | (with_reducible refine stop_bslice ?_))
  unfold Kept
  refine go_mem (ty := 27) (cs := #[.int .i64 0, .int .u64 0, .int .i64 0, .int .u64 0, .int .u64 0, .int .u64 0, .int .u64 0, .int .i64 0, .int .u64 0, .int .u64 0, .int .u64 0]) (fun g => .pointer (some ⟨g, 0, none⟩)) rfl (by kernel_rfl) ?_
  intro g_24 w_25 z_29 l_28 hb_26 G_27
  have n_30 : g_16 < g_24 := Nat.lt_of_lt_of_le G_19.lt l_28
  have n_31 : w.heap.size ≤ g_24 := Nat.le_trans hB.size l_28
  replace G_4 := G_4.to hb_26 G_4.lt
  replace G_11 := G_11.to hb_26 G_11.lt
  replace G_19 := G_19.to hb_26 G_19.lt
  replace hB := hB.trans (hb_26.mono hB.size)
  clear hb_26 l_28 z_29
  go_wp2_with (first | (with_reducible refine stop_store ?_) | (with_reducible refine stop_box ?_) | (with_reducible refine stop_alloc ?_) | (with_reducible refine stop_bslice ?_))
  unfold Kept
  refine go_mem (ty := 59) (cs := #[.int .u32 0, .bool false, .int .i64 0]) (fun g => .pointer (some ⟨g, 0, none⟩)) rfl (by kernel_rfl) ?_
  intro g_32 w_33 z_37 l_36 hb_34 G_35
  have n_38 : g_24 < g_32 := Nat.lt_of_lt_of_le G_27.lt l_36
  have n_39 : w.heap.size ≤ g_32 := Nat.le_trans hB.size l_36
  replace G_4 := G_4.to hb_34 G_4.lt
  replace G_11 := G_11.to hb_34 G_11.lt
  replace G_19 := G_19.to hb_34 G_19.lt
  replace G_27 := G_27.to hb_34 G_27.lt
  replace hB := hB.trans (hb_34.mono hB.size)
  clear hb_34 l_36 z_37
  go_wp2_with (first | (with_reducible refine stop_store ?_) | (with_reducible refine stop_box ?_) | (with_reducible refine stop_alloc ?_) | (with_reducible refine stop_bslice ?_) | ((with_reducible refine wpList_ld 0 [.int .i64 1, .int .u64 (W64 a1), .int .i64 a2, .int .u64 (W64 a3), .int .u64 (W64 a4), .int .u64 (W64 a5), .int .u64 (W64 b1), .int .i64 b2, .int .u64 (W64 b3), .int .u64 (W64 b4), .int .u64 (W64 b5)] G_4 ?_ ?_ Try.underlying27 ?_ ?_ ?_); rfl; rfl; rfl; kernel_rfl))
  refine (R.out _).mono ?_; rintro e w_45 ⟨g_40, l_42, rfl, G_41, hb_46⟩
  have n_43 : g_32 < g_40 := Nat.lt_of_lt_of_le G_35.lt l_42
  clear l_42
  replace G_4 := G_4.to hb_46 G_4.lt
  replace G_11 := G_11.to hb_46 G_11.lt
  replace G_19 := G_19.to hb_46 G_19.lt
  replace G_27 := G_27.to hb_46 G_27.lt
  replace G_35 := G_35.to hb_46 G_35.lt
  replace hB := hB.trans (hb_46.mono hB.size)
  clear hb_46
  go_wp2_with (first | (with_reducible refine stop_store ?_) | (with_reducible refine stop_box ?_) | (with_reducible refine stop_alloc ?_) | (with_reducible refine stop_bslice ?_))
  have hst : Stable fun W => Below w.heap.size w W ∧ Blk W g_1 27 #[.int .i64 1, .int .u64 (W64 a1), .int .i64 a2, .int .u64 (W64 a3), .int .u64 (W64 a4), .int .u64 (W64 a5), .int .u64 (W64 b1), .int .i64 b2, .int .u64 (W64 b3), .int .u64 (W64 b4), .int .u64 (W64 b5)] ∧ Blk W g_8 59 #[.int .u32 (W32 vi), .bool vu, .int .i64 vs] ∧ Blk W g_16 71 #[.bool br, .bool bu, .int .u32 (W32 bi)] ∧ Blk W g_24 27 #[.int .i64 0, .int .u64 0, .int .i64 0, .int .u64 0, .int .u64 0, .int .u64 0, .int .u64 0, .int .i64 0, .int .u64 0, .int .u64 0, .int .u64 0] ∧ Blk W g_32 59 #[.int .u32 0, .bool false, .int .i64 0] ∧ Blk W g_40 25 #[.int .u64 (W64 a1), .int .i64 a2, .int .u64 (W64 a3), .int .u64 (W64 a4), .int .u64 (W64 a5), .int .u64 (W64 b1), .int .i64 b2, .int .u64 (W64 b3), .int .u64 (W64 b4), .int .u64 (W64 b5)] := stable_and (stable_below _ _ (Nat.le_refl _)) (stable_and (stable_blk _ _ _) (stable_and (stable_blk _ _ _) (stable_and (stable_blk _ _ _) (stable_and (stable_blk _ _ _) (stable_and (stable_blk _ _ _) (stable_blk _ _ _))))))
  refine wp_region_v _ 12 hst ⟨hB.drew, G_4, G_11, G_19, G_27, G_35, G_41⟩ ?_
  clear hB G_4 G_11 G_19 G_27 G_35 G_41
  refine wpU_take (v := ?_) 0 hst (fun _ h => h) rfl ?_ ?_; rotate_left; (intro W hS K hK; clear hS; go_simp; exact hK.out _ (Below.refl _ _)); simp only [Act.put, List.setIfInBounds_toArray, List.set_cons_zero, List.set_cons_succ]
  refine wpU_take (v := ?_) 1 hst (fun _ h => h) rfl ?_ ?_; rotate_left; (intro W hS K hK; clear hS; go_simp; exact hK.out _ (Below.refl _ _)); simp only [Act.put, List.setIfInBounds_toArray, List.set_cons_zero, List.set_cons_succ]
  refine wpU_take (v := ?_) 2 hst (fun _ h => h) rfl ?_ ?_; rotate_left; (intro W hS K hK; clear hS; go_simp; exact hK.out _ (Below.refl _ _)); simp only [Act.put, List.setIfInBounds_toArray, List.set_cons_zero, List.set_cons_succ]
  refine wpU_take (v := ?_) 3 hst (fun _ h => h) rfl ?_ ?_; rotate_left; (intro W hS K hK; clear hS; go_simp; exact hK.out _ (Below.refl _ _)); simp only [Act.put, List.setIfInBounds_toArray, List.set_cons_zero, List.set_cons_succ]
  refine wpU_take (v := ?_) 4 hst (fun _ h => h) rfl ?_ ?_; rotate_left; (intro W hS K hK; clear hS; go_simp; exact hK.out _ (Below.refl _ _)); simp only [Act.put, List.setIfInBounds_toArray, List.set_cons_zero, List.set_cons_succ]
  refine wpU_take (v := ?_) 5 hst (fun _ h => h) rfl ?_ ?_; rotate_left; (intro W hS K hK; clear hS; go_simp; exact hK.out _ (Below.refl _ _)); simp only [Act.put, List.setIfInBounds_toArray, List.set_cons_zero, List.set_cons_succ]
  refine wpU_take (v := ?_) 6 hst (fun _ h => h) rfl ?_ ?_; rotate_left; (intro W hS K hK; clear hS; go_simp; exact hK.out _ (Below.refl _ _)); simp only [Act.put, List.setIfInBounds_toArray, List.set_cons_zero, List.set_cons_succ]
  refine wpU_take (v := .agg #[.int .u64 (W64 b1), .int .i64 b2, .int .u64 (W64 b3), .int .u64 (W64 b4), .int .u64 (W64 b5)]) 7 hst (fun _ h => h) rfl (fun W hS K hK => calm_load rfl rfl (load_part hS.2.2.2.2.2.2 5 [.int .u64 (W64 b1), .int .i64 b2, .int .u64 (W64 b3), .int .u64 (W64 b4), .int .u64 (W64 b5)] rfl Try.underlying25 rfl (by kernel_rfl)) (hK.out _ (Below.refl _ _))) ?_; simp only [Act.put, List.setIfInBounds_toArray, List.set_cons_zero, List.set_cons_succ]
  refine wpU_take (v := ?_) 8 hst (fun _ h => h) rfl ?_ ?_; rotate_left; (intro W hS K hK; clear hS; go_simp; exact hK.out _ (Below.refl _ _)); simp only [Act.put, List.setIfInBounds_toArray, List.set_cons_zero, List.set_cons_succ]
  refine wpU_take (v := .agg #[.int .u64 (W64 b1), .int .i64 b2, .int .u64 (W64 b3), .int .u64 (W64 b4), .int .u64 (W64 b5)]) 9 hst (fun _ h => h) rfl (fun W hS K hK => calm_load rfl rfl (load_part hS.2.1 6 [.int .u64 (W64 b1), .int .i64 b2, .int .u64 (W64 b3), .int .u64 (W64 b4), .int .u64 (W64 b5)] rfl Try.underlying25 rfl (by kernel_rfl)) (hK.out _ (Below.refl _ _))) ?_; simp only [Act.put, List.setIfInBounds_toArray, List.set_cons_zero, List.set_cons_succ]
  refine wpU_take (v := ?_) 10 hst (fun _ h => h) rfl ?_ ?_; rotate_left; (intro W hS K hK; clear hS; go_simp; exact hK.out _ (Below.refl _ _)); simp only [Act.put, List.setIfInBounds_toArray, List.set_cons_zero, List.set_cons_succ]
  refine wpU_take (v := ?_) 11 hst (fun _ h => h) rfl ?_ ?_; rotate_left; (intro W hS K hK; clear hS; go_simp; exact hK.out _ (Below.refl _ _)); simp only [Act.put, List.setIfInBounds_toArray, List.set_cons_zero, List.set_cons_succ]
  refine wpU_done (fun w_47 hS => ?_)
  obtain ⟨hB, G_4, G_11, G_19, G_27, G_35, G_41⟩ := hS
  clear hst
  cases br
  case false =>
    skip
    have ld_49 : w_47.cell? ⟨g_16, 0, none⟩ = some (.bool false) := G_19.cell 0
    go_wp2_with (first | (with_reducible refine stop_store ?_) | (with_reducible refine stop_box ?_) | (with_reducible refine stop_alloc ?_) | (with_reducible refine stop_bslice ?_) | ((with_reducible refine wpList_ld 0 [.int .i64 1, .int .u64 (W64 a1), .int .i64 a2, .int .u64 (W64 a3), .int .u64 (W64 a4), .int .u64 (W64 a5), .int .u64 (W64 b1), .int .i64 b2, .int .u64 (W64 b3), .int .u64 (W64 b4), .int .u64 (W64 b5)] G_4 ?_ ?_ Try.underlying27 ?_ ?_ ?_); rfl; rfl; rfl; kernel_rfl))
    refine (PH3.out _).mono ?_; rintro e w_51 ⟨rfl, hb_52⟩
    clear ld_49
    replace G_4 := G_4.to hb_52 G_4.lt
    replace G_11 := G_11.to hb_52 G_11.lt
    replace G_19 := G_19.to hb_52 G_19.lt
    replace G_27 := G_27.to hb_52 G_27.lt
    replace G_35 := G_35.to hb_52 G_35.lt
    replace G_41 := G_41.to hb_52 G_41.lt
    replace hB := hB.trans (hb_52.mono hB.size)
    clear hb_52
    go_wp2_with (first | (with_reducible refine stop_store ?_) | (with_reducible refine stop_box ?_) | (with_reducible refine stop_alloc ?_) | (with_reducible refine stop_bslice ?_))
    unfold Kept
    refine wpList_st 0 #[.int .i64 0, .int .u64 (W64 b1), .int .i64 b2, .int .u64 (W64 b3), .int .u64 (W64 b4), .int .u64 (W64 b5), .int .u64 0, .int .i64 0, .int .u64 0, .int .u64 0, .int .u64 0] #[.int .i64 0, .int .u64 (W64 b1), .int .i64 b2, .int .u64 (W64 b3), .int .u64 (W64 b4), .int .u64 (W64 b5), .int .u64 0, .int .i64 0, .int .u64 0, .int .u64 0, .int .u64 0] G_4 rfl rfl (by kernel_rfl) rfl (of_decide_eq_true rfl) rfl ?_
    intro w_53 G_55 hU_54
    replace G_11 := hU_54.blk G_11 (by omega)
    replace G_19 := hU_54.blk G_19 (by omega)
    replace G_27 := hU_54.blk G_27 (by omega)
    replace G_35 := hU_54.blk G_35 (by omega)
    replace G_41 := hU_54.blk G_41 (by omega)
    replace hB := hU_54.below hB (by omega)
    clear G_4 hU_54
    go_wp2_with (first | (with_reducible refine stop_store ?_) | (with_reducible refine stop_box ?_) | (with_reducible refine stop_alloc ?_) | (with_reducible refine stop_bslice ?_))
    have hst : Stable fun W => Below w.heap.size w W ∧ Blk W g_1 27 #[.int .i64 0, .int .u64 (W64 b1), .int .i64 b2, .int .u64 (W64 b3), .int .u64 (W64 b4), .int .u64 (W64 b5), .int .u64 0, .int .i64 0, .int .u64 0, .int .u64 0, .int .u64 0] ∧ Blk W g_8 59 #[.int .u32 (W32 vi), .bool vu, .int .i64 vs] ∧ Blk W g_16 71 #[.bool false, .bool bu, .int .u32 (W32 bi)] ∧ Room g_24 27 11 W ∧ Room g_32 59 3 W ∧ Blk W g_40 25 #[.int .u64 (W64 a1), .int .i64 a2, .int .u64 (W64 a3), .int .u64 (W64 a4), .int .u64 (W64 a5), .int .u64 (W64 b1), .int .i64 b2, .int .u64 (W64 b3), .int .u64 (W64 b4), .int .u64 (W64 b5)] := stable_and (stable_below _ _ (Nat.le_refl _)) (stable_and (stable_blk _ _ _) (stable_and (stable_blk _ _ _) (stable_and (stable_blk _ _ _) (stable_and (stable_room _ _ _) (stable_and (stable_room _ _ _) (stable_blk _ _ _))))))
    refine wp_region_v _ 7 hst ⟨hB.drew, G_55, G_11, G_19, ⟨_, rfl, rfl, G_27⟩, ⟨_, rfl, rfl, G_35⟩, G_41⟩ ?_
    clear hB G_55 G_11 G_19 G_27 G_35 G_41
    refine wpU_take (v := .agg #[.int .i64 0, .int .u64 (W64 b1), .int .i64 b2, .int .u64 (W64 b3), .int .u64 (W64 b4), .int .u64 (W64 b5), .int .u64 0, .int .i64 0, .int .u64 0, .int .u64 0, .int .u64 0]) 0 hst (fun _ h => h) rfl (fun W hS K hK => calm_load rfl rfl (load_part hS.2.1 0 [.int .i64 0, .int .u64 (W64 b1), .int .i64 b2, .int .u64 (W64 b3), .int .u64 (W64 b4), .int .u64 (W64 b5), .int .u64 0, .int .i64 0, .int .u64 0, .int .u64 0, .int .u64 0] rfl Try.underlying27 rfl (by kernel_rfl)) (hK.out _ (Below.refl _ _))) ?_; simp only [Act.put, List.setIfInBounds_toArray, List.set_cons_zero, List.set_cons_succ]
    refine wpU_take (v := .agg #[.int .u32 (W32 vi), .bool vu, .int .i64 vs]) 1 hst (fun _ h => h) rfl (fun W hS K hK => calm_load rfl rfl (load_part hS.2.2.1 0 [.int .u32 (W32 vi), .bool vu, .int .i64 vs] rfl Try.underlying59 rfl (by kernel_rfl)) (hK.out _ (Below.refl _ _))) ?_; simp only [Act.put, List.setIfInBounds_toArray, List.set_cons_zero, List.set_cons_succ]
    refine wpU_take (v := .agg #[.bool false, .bool bu, .int .u32 (W32 bi)]) 2 hst (fun _ h => h) rfl (fun W hS K hK => calm_load rfl rfl (load_part hS.2.2.2.1 0 [.bool false, .bool bu, .int .u32 (W32 bi)] rfl Try.underlying71 rfl (by kernel_rfl)) (hK.out _ (Below.refl _ _))) ?_; simp only [Act.put, List.setIfInBounds_toArray, List.set_cons_zero, List.set_cons_succ]
    refine wpU_take (v := ?_) 3 hst (fun _ h => h) rfl ?_ ?_; rotate_left; (intro W hS K hK; clear hS; go_simp; exact hK.out _ (Below.refl _ _)); simp only [Act.put, List.setIfInBounds_toArray, List.set_cons_zero, List.set_cons_succ]
    refine wpU_take (v := ?_) 4 hst (fun _ h => h) rfl ?_ ?_; rotate_left; (intro W hS K hK; clear hS; go_simp; refine (HV.out _).mono ?_; rintro e w9 ⟨rfl, hb⟩; refine CallPost.mk ?_; exact hK.out _ (hb)); simp only [Act.put, List.setIfInBounds_toArray, List.set_cons_zero, List.set_cons_succ]
    refine wpV_st 5 hst (fun _ h => h) #[.int .i64 0, .int .u64 (W64 b1), .int .i64 b2, .int .u64 (W64 b3), .int .u64 (W64 b4), .int .u64 (W64 b5), .int .u64 0, .int .i64 0, .int .u64 0, .int .u64 0, .int .u64 0] rfl rfl rfl rfl (fun W hS => hS.2.2.2.2.1) (fun W W' h hU hG => ?_) (by kernel_rfl) rfl (fun hst => ?_)
    · obtain ⟨h0_0, h0_1, h0_2, h0_3, ⟨ch0_4, ah0_4, bh0_4, h0_4⟩, ⟨ch0_5, ah0_5, bh0_5, h0_5⟩, h0_6⟩ := h
      exact ⟨hU.below h0_0 (by omega), hU.blk h0_1 (by omega), hU.blk h0_2 (by omega), hU.blk h0_3 (by omega), ⟨_, rfl, rfl, hG⟩, ⟨ch0_5, ah0_5, bh0_5, hU.blk h0_5 (by omega)⟩, hU.blk h0_6 (by omega)⟩
    refine wpV_st 6 hst (fun _ h => h.1) #[.int .u32 (W32 xi), .bool xu, .int .i64 xs] rfl rfl rfl rfl (fun W hS => hS.1.2.2.2.2.2.1) (fun W W' h hU hG => ?_) (by kernel_rfl) rfl (fun hst => ?_)
    · obtain ⟨⟨h0_0, h0_1, h0_2, h0_3, ⟨ch0_4, ah0_4, bh0_4, h0_4⟩, ⟨ch0_5, ah0_5, bh0_5, h0_5⟩, h0_6⟩, h1_0⟩ := h
      exact ⟨⟨hU.below h0_0 (by omega), hU.blk h0_1 (by omega), hU.blk h0_2 (by omega), hU.blk h0_3 (by omega), ⟨ch0_4, ah0_4, bh0_4, hU.blk h0_4 (by omega)⟩, ⟨_, rfl, rfl, hG⟩, hU.blk h0_6 (by omega)⟩, hU.blk h1_0 (by omega)⟩
    refine wpU_done (fun w_56 hS => ?_)
    obtain ⟨⟨⟨hB, G_55, G_11, G_19, -, -, G_41⟩, G_27s⟩, G_35s⟩ := hS
    clear hst
    go_wp2_with (first | (with_reducible refine stop_store ?_) | (with_reducible refine stop_box ?_) | (with_reducible refine stop_alloc ?_) | (with_reducible refine stop_bslice ?_))
    refine bodyPost_ret (results_cc rfl rfl rfl (load_blk G_27s Try.underlying27 rfl (by kernel_rfl)) (load_blk G_35s Try.underlying59 rfl (by kernel_rfl))) rfl ?_
    refine ⟨?_, hB⟩
    have er : r = (⟨0, ⟨b1, b2, b3, b4, b5⟩, ⟨0#64, 0, 0#64, 0#64, 0#64⟩⟩, ⟨xi, xu, xs⟩) := by
       rw [← HR.out]; have hx := HX.out; simp [hearK, recvK, phaseK, nk0, hx]
    rw [er]
    rfl
  case true =>
    skip
    have ld_57 : w_47.cell? ⟨g_16, 0, none⟩ = some (.bool true) := G_19.cell 0
    go_wp2_with (first | (with_reducible refine stop_store ?_) | (with_reducible refine stop_box ?_) | (with_reducible refine stop_alloc ?_) | (with_reducible refine stop_bslice ?_) | ((with_reducible refine wpList_ld 0 [.int .i64 1, .int .u64 (W64 a1), .int .i64 a2, .int .u64 (W64 a3), .int .u64 (W64 a4), .int .u64 (W64 a5), .int .u64 (W64 b1), .int .i64 b2, .int .u64 (W64 b3), .int .u64 (W64 b4), .int .u64 (W64 b5)] G_4 ?_ ?_ Try.underlying27 ?_ ?_ ?_); rfl; rfl; rfl; kernel_rfl))
    refine (PH2.out _).mono ?_; rintro e w_59 ⟨rfl, hb_60⟩
    clear ld_57
    replace G_4 := G_4.to hb_60 G_4.lt
    replace G_11 := G_11.to hb_60 G_11.lt
    replace G_19 := G_19.to hb_60 G_19.lt
    replace G_27 := G_27.to hb_60 G_27.lt
    replace G_35 := G_35.to hb_60 G_35.lt
    replace G_41 := G_41.to hb_60 G_41.lt
    replace hB := hB.trans (hb_60.mono hB.size)
    clear hb_60
    go_wp2_with (first | (with_reducible refine stop_store ?_) | (with_reducible refine stop_box ?_) | (with_reducible refine stop_alloc ?_) | (with_reducible refine stop_bslice ?_))
    unfold Kept
    refine wpList_st 0 #[.int .i64 2, .int .u64 (W64 a1), .int .i64 a2, .int .u64 (W64 a3), .int .u64 (W64 a4), .int .u64 (W64 a5), .int .u64 (W64 b1), .int .i64 b2, .int .u64 (W64 b3), .int .u64 (W64 b4), .int .u64 (W64 b5)] #[.int .i64 2, .int .u64 (W64 a1), .int .i64 a2, .int .u64 (W64 a3), .int .u64 (W64 a4), .int .u64 (W64 a5), .int .u64 (W64 b1), .int .i64 b2, .int .u64 (W64 b3), .int .u64 (W64 b4), .int .u64 (W64 b5)] G_4 rfl rfl (by kernel_rfl) rfl (of_decide_eq_true rfl) rfl ?_
    intro w_61 G_63 hU_62
    replace G_11 := hU_62.blk G_11 (by omega)
    replace G_19 := hU_62.blk G_19 (by omega)
    replace G_27 := hU_62.blk G_27 (by omega)
    replace G_35 := hU_62.blk G_35 (by omega)
    replace G_41 := hU_62.blk G_41 (by omega)
    replace hB := hU_62.below hB (by omega)
    clear G_4 hU_62
    go_wp2_with (first | (with_reducible refine stop_store ?_) | (with_reducible refine stop_box ?_) | (with_reducible refine stop_alloc ?_) | (with_reducible refine stop_bslice ?_))
    have hst : Stable fun W => Below w.heap.size w W ∧ Blk W g_1 27 #[.int .i64 2, .int .u64 (W64 a1), .int .i64 a2, .int .u64 (W64 a3), .int .u64 (W64 a4), .int .u64 (W64 a5), .int .u64 (W64 b1), .int .i64 b2, .int .u64 (W64 b3), .int .u64 (W64 b4), .int .u64 (W64 b5)] ∧ Blk W g_8 59 #[.int .u32 (W32 vi), .bool vu, .int .i64 vs] ∧ Blk W g_16 71 #[.bool true, .bool bu, .int .u32 (W32 bi)] ∧ Room g_24 27 11 W ∧ Room g_32 59 3 W ∧ Blk W g_40 25 #[.int .u64 (W64 a1), .int .i64 a2, .int .u64 (W64 a3), .int .u64 (W64 a4), .int .u64 (W64 a5), .int .u64 (W64 b1), .int .i64 b2, .int .u64 (W64 b3), .int .u64 (W64 b4), .int .u64 (W64 b5)] := stable_and (stable_below _ _ (Nat.le_refl _)) (stable_and (stable_blk _ _ _) (stable_and (stable_blk _ _ _) (stable_and (stable_blk _ _ _) (stable_and (stable_room _ _ _) (stable_and (stable_room _ _ _) (stable_blk _ _ _))))))
    refine wp_region_v _ 7 hst ⟨hB.drew, G_63, G_11, G_19, ⟨_, rfl, rfl, G_27⟩, ⟨_, rfl, rfl, G_35⟩, G_41⟩ ?_
    clear hB G_63 G_11 G_19 G_27 G_35 G_41
    refine wpU_take (v := .agg #[.int .i64 2, .int .u64 (W64 a1), .int .i64 a2, .int .u64 (W64 a3), .int .u64 (W64 a4), .int .u64 (W64 a5), .int .u64 (W64 b1), .int .i64 b2, .int .u64 (W64 b3), .int .u64 (W64 b4), .int .u64 (W64 b5)]) 0 hst (fun _ h => h) rfl (fun W hS K hK => calm_load rfl rfl (load_part hS.2.1 0 [.int .i64 2, .int .u64 (W64 a1), .int .i64 a2, .int .u64 (W64 a3), .int .u64 (W64 a4), .int .u64 (W64 a5), .int .u64 (W64 b1), .int .i64 b2, .int .u64 (W64 b3), .int .u64 (W64 b4), .int .u64 (W64 b5)] rfl Try.underlying27 rfl (by kernel_rfl)) (hK.out _ (Below.refl _ _))) ?_; simp only [Act.put, List.setIfInBounds_toArray, List.set_cons_zero, List.set_cons_succ]
    refine wpU_take (v := .agg #[.int .u32 (W32 vi), .bool vu, .int .i64 vs]) 1 hst (fun _ h => h) rfl (fun W hS K hK => calm_load rfl rfl (load_part hS.2.2.1 0 [.int .u32 (W32 vi), .bool vu, .int .i64 vs] rfl Try.underlying59 rfl (by kernel_rfl)) (hK.out _ (Below.refl _ _))) ?_; simp only [Act.put, List.setIfInBounds_toArray, List.set_cons_zero, List.set_cons_succ]
    refine wpU_take (v := .agg #[.bool true, .bool bu, .int .u32 (W32 bi)]) 2 hst (fun _ h => h) rfl (fun W hS K hK => calm_load rfl rfl (load_part hS.2.2.2.1 0 [.bool true, .bool bu, .int .u32 (W32 bi)] rfl Try.underlying71 rfl (by kernel_rfl)) (hK.out _ (Below.refl _ _))) ?_; simp only [Act.put, List.setIfInBounds_toArray, List.set_cons_zero, List.set_cons_succ]
    refine wpU_take (v := ?_) 3 hst (fun _ h => h) rfl ?_ ?_; rotate_left; (intro W hS K hK; clear hS; go_simp; exact hK.out _ (Below.refl _ _)); simp only [Act.put, List.setIfInBounds_toArray, List.set_cons_zero, List.set_cons_succ]
    refine wpU_take (v := ?_) 4 hst (fun _ h => h) rfl ?_ ?_; rotate_left; (intro W hS K hK; clear hS; go_simp; refine (HV.out _).mono ?_; rintro e w9 ⟨rfl, hb⟩; refine CallPost.mk ?_; exact hK.out _ (hb)); simp only [Act.put, List.setIfInBounds_toArray, List.set_cons_zero, List.set_cons_succ]
    refine wpV_st 5 hst (fun _ h => h) #[.int .i64 2, .int .u64 (W64 a1), .int .i64 a2, .int .u64 (W64 a3), .int .u64 (W64 a4), .int .u64 (W64 a5), .int .u64 (W64 b1), .int .i64 b2, .int .u64 (W64 b3), .int .u64 (W64 b4), .int .u64 (W64 b5)] rfl rfl rfl rfl (fun W hS => hS.2.2.2.2.1) (fun W W' h hU hG => ?_) (by kernel_rfl) rfl (fun hst => ?_)
    · obtain ⟨h0_0, h0_1, h0_2, h0_3, ⟨ch0_4, ah0_4, bh0_4, h0_4⟩, ⟨ch0_5, ah0_5, bh0_5, h0_5⟩, h0_6⟩ := h
      exact ⟨hU.below h0_0 (by omega), hU.blk h0_1 (by omega), hU.blk h0_2 (by omega), hU.blk h0_3 (by omega), ⟨_, rfl, rfl, hG⟩, ⟨ch0_5, ah0_5, bh0_5, hU.blk h0_5 (by omega)⟩, hU.blk h0_6 (by omega)⟩
    refine wpV_st 6 hst (fun _ h => h.1) #[.int .u32 (W32 xi), .bool xu, .int .i64 xs] rfl rfl rfl rfl (fun W hS => hS.1.2.2.2.2.2.1) (fun W W' h hU hG => ?_) (by kernel_rfl) rfl (fun hst => ?_)
    · obtain ⟨⟨h0_0, h0_1, h0_2, h0_3, ⟨ch0_4, ah0_4, bh0_4, h0_4⟩, ⟨ch0_5, ah0_5, bh0_5, h0_5⟩, h0_6⟩, h1_0⟩ := h
      exact ⟨⟨hU.below h0_0 (by omega), hU.blk h0_1 (by omega), hU.blk h0_2 (by omega), hU.blk h0_3 (by omega), ⟨ch0_4, ah0_4, bh0_4, hU.blk h0_4 (by omega)⟩, ⟨_, rfl, rfl, hG⟩, hU.blk h0_6 (by omega)⟩, hU.blk h1_0 (by omega)⟩
    refine wpU_done (fun w_64 hS => ?_)
    obtain ⟨⟨⟨hB, G_63, G_11, G_19, -, -, G_41⟩, G_27s⟩, G_35s⟩ := hS
    clear hst
    go_wp2_with (first | (with_reducible refine stop_store ?_) | (with_reducible refine stop_box ?_) | (with_reducible refine stop_alloc ?_) | (with_reducible refine stop_bslice ?_))
    refine bodyPost_ret (results_cc rfl rfl rfl (load_blk G_27s Try.underlying27 rfl (by kernel_rfl)) (load_blk G_35s Try.underlying59 rfl (by kernel_rfl))) rfl ?_
    refine ⟨?_, hB⟩
    have er : r = (⟨2, ⟨a1, a2, a3, a4, a5⟩, ⟨b1, b2, b3, b4, b5⟩⟩, ⟨xi, xu, xs⟩) := by
       rw [← HR.out]; have hx := HX.out; simp [hearK, recvK, phaseK, nk0, hx]
    rw [er]
    rfl
set_option maxHeartbeats 2000000 in
theorem rf_Hear_uN (a1 : BitVec 64) (a2 : Int) (a3 a4 a5 b1 : BitVec 64) (b2 : Int) (b3 b4 b5 : BitVec 64) (vi : BitVec 32) (vu : Bool) (vs : Int) (br bu : Bool) (bi : BitVec 32) (now : Int) (ix : Int) (w : World) (h0 : 0 ≤ vs ∧ vs ≤ 1099511627776) (h1 : 0 ≤ now ∧ now ≤ 1099511627776) (hi : ix < 0) :
    Calls Try.prog 48 #[.agg #[.int .i64 2, .int .u64 (W64 a1), .int .i64 a2, .int .u64 (W64 a3), .int .u64 (W64 a4), .int .u64 (W64 a5), .int .u64 (W64 b1), .int .i64 b2, .int .u64 (W64 b3), .int .u64 (W64 b4), .int .u64 (W64 b5)], .agg #[.int .u32 (W32 vi), .bool vu, .int .i64 vs], .agg #[.bool br, .bool bu, .int .u32 (W32 bi)], .int .i64 ix, .int .i64 now] w fun e w' => e = .returned (.tuple #[.agg (ksA (hearK ⟨2, ⟨a1, a2, a3, a4, a5⟩, ⟨b1, b2, b3, b4, b5⟩⟩ ⟨vi, vu, vs⟩ ⟨br, bu, bi⟩ ix now).1), .agg (ivA (hearK ⟨2, ⟨a1, a2, a3, a4, a5⟩, ⟨b1, b2, b3, b4, b5⟩⟩ ⟨vi, vu, vs⟩ ⟨br, bu, bi⟩ ix now).2)]) ∧ Below w.heap.size w w' := by
  obtain ⟨r, hr⟩ : ∃ r, hearK ⟨2, ⟨a1, a2, a3, a4, a5⟩, ⟨b1, b2, b3, b4, b5⟩⟩ ⟨vi, vu, vs⟩ ⟨br, bu, bi⟩ ix now = r := ⟨_, rfl⟩
  rw [hr]
  have HR := Lib.hid hr
  clear hr
  have R := Lib.hid (fun W => rf_RecvB ⟨2, ⟨a1, a2, a3, a4, a5⟩, ⟨b1, b2, b3, b4, b5⟩⟩ [.int .u64 (W64 b1), .int .i64 b2, .int .u64 (W64 b3), .int .u64 (W64 b4), .int .u64 (W64 b5), .int .u64 (W64 a1), .int .i64 a2, .int .u64 (W64 a3), .int .u64 (W64 a4), .int .u64 (W64 a5)] 2 (by simp [recvK, nksL, nkA]) (by simp [recvK]) W)
  have PH2 := Lib.hid (fun W => rf_Phase ⟨2, ⟨a1, a2, a3, a4, a5⟩, ⟨b1, b2, b3, b4, b5⟩⟩ 2 W); have PH3 := Lib.hid (fun W => rf_Phase ⟨2, ⟨a1, a2, a3, a4, a5⟩, ⟨b1, b2, b3, b4, b5⟩⟩ 3 W); unfold ksA at PH2 PH3; dsimp only at PH2 PH3
  have HV := Lib.hid (fun W => rf_hearIV ⟨vi, vu, vs⟩ ⟨br, bu, bi⟩ now W h0 h1)
  unfold ksA at R
  unfold ivA beA at HV
  dsimp only at R HV
  have i0 : decide (ix < 0) = true := by simpa using hi
  clear h0 h1
  have HI := Lib.hid hi
  clear hi
  obtain ⟨⟨xi, xu, xs⟩, hx⟩ : ∃ x, hearIVK ⟨vi, vu, vs⟩ ⟨br, bu, bi⟩ now = x := ⟨_, rfl⟩
  rw [hx] at HV
  have HX := Lib.hid hx
  clear hx
  go_enter Try.func48, Try.ntmps48
  go_wp2_with (first | (with_reducible refine stop_store ?_) | (with_reducible refine stop_box ?_) | (with_reducible refine stop_alloc ?_) | (with_reducible refine stop_bslice ?_))
  unfold Kept
  refine go_mem (ty := 27) (cs := #[.int .i64 2, .int .u64 (W64 a1), .int .i64 a2, .int .u64 (W64 a3), .int .u64 (W64 a4), .int .u64 (W64 a5), .int .u64 (W64 b1), .int .i64 b2, .int .u64 (W64 b3), .int .u64 (W64 b4), .int .u64 (W64 b5)]) (fun g => .pointer (some ⟨g, 0, none⟩)) rfl (by kernel_rfl) ?_
  intro g_1 w_2 z_6 l_5 hb_3 G_4
  have n_7 : w.heap.size ≤ g_1 := l_5
  have hB := hb_3
  clear hb_3 l_5 z_6
  go_wp2_with (first | (with_reducible refine stop_store ?_) | (with_reducible refine stop_box ?_) | (with_reducible refine stop_alloc ?_) | (with_reducible refine stop_bslice ?_))
  unfold Kept
  refine go_mem (ty := 59) (cs := #[.int .u32 (W32 vi), .bool vu, .int .i64 vs]) (fun g => .pointer (some ⟨g, 0, none⟩)) rfl (by kernel_rfl) ?_
  intro g_8 w_9 z_13 l_12 hb_10 G_11
  have n_14 : g_1 < g_8 := Nat.lt_of_lt_of_le G_4.lt l_12
  have n_15 : w.heap.size ≤ g_8 := Nat.le_trans hB.size l_12
  replace G_4 := G_4.to hb_10 G_4.lt
  replace hB := hB.trans (hb_10.mono hB.size)
  clear hb_10 l_12 z_13
  go_wp2_with (first | (with_reducible refine stop_store ?_) | (with_reducible refine stop_box ?_) | (with_reducible refine stop_alloc ?_) | (with_reducible refine stop_bslice ?_))
  unfold Kept
  refine go_mem (ty := 71) (cs := #[.bool br, .bool bu, .int .u32 (W32 bi)]) (fun g => .pointer (some ⟨g, 0, none⟩)) rfl (by kernel_rfl) ?_
  intro g_16 w_17 z_21 l_20 hb_18 G_19
  have n_22 : g_8 < g_16 := Nat.lt_of_lt_of_le G_11.lt l_20
  have n_23 : w.heap.size ≤ g_16 := Nat.le_trans hB.size l_20
  replace G_4 := G_4.to hb_18 G_4.lt
  replace G_11 := G_11.to hb_18 G_11.lt
  replace hB := hB.trans (hb_18.mono hB.size)
  clear hb_18 l_20 z_21
  go_wp2_with (first | (with_reducible refine stop_store ?_) | (with_reducible refine stop_box ?_) | (with_reducible refine stop_alloc ?_) | (with_reducible refine stop_bslice ?_))
  unfold Kept
  refine go_mem (ty := 27) (cs := #[.int .i64 0, .int .u64 0, .int .i64 0, .int .u64 0, .int .u64 0, .int .u64 0, .int .u64 0, .int .i64 0, .int .u64 0, .int .u64 0, .int .u64 0]) (fun g => .pointer (some ⟨g, 0, none⟩)) rfl (by kernel_rfl) ?_
  intro g_24 w_25 z_29 l_28 hb_26 G_27
  have n_30 : g_16 < g_24 := Nat.lt_of_lt_of_le G_19.lt l_28
  have n_31 : w.heap.size ≤ g_24 := Nat.le_trans hB.size l_28
  replace G_4 := G_4.to hb_26 G_4.lt
  replace G_11 := G_11.to hb_26 G_11.lt
  replace G_19 := G_19.to hb_26 G_19.lt
  replace hB := hB.trans (hb_26.mono hB.size)
  clear hb_26 l_28 z_29
  go_wp2_with (first | (with_reducible refine stop_store ?_) | (with_reducible refine stop_box ?_) | (with_reducible refine stop_alloc ?_) | (with_reducible refine stop_bslice ?_))
  unfold Kept
  refine go_mem (ty := 59) (cs := #[.int .u32 0, .bool false, .int .i64 0]) (fun g => .pointer (some ⟨g, 0, none⟩)) rfl (by kernel_rfl) ?_
  intro g_32 w_33 z_37 l_36 hb_34 G_35
  have n_38 : g_24 < g_32 := Nat.lt_of_lt_of_le G_27.lt l_36
  have n_39 : w.heap.size ≤ g_32 := Nat.le_trans hB.size l_36
  replace G_4 := G_4.to hb_34 G_4.lt
  replace G_11 := G_11.to hb_34 G_11.lt
  replace G_19 := G_19.to hb_34 G_19.lt
  replace G_27 := G_27.to hb_34 G_27.lt
  replace hB := hB.trans (hb_34.mono hB.size)
  clear hb_34 l_36 z_37
  go_wp2_with (first | (with_reducible refine stop_store ?_) | (with_reducible refine stop_box ?_) | (with_reducible refine stop_alloc ?_) | (with_reducible refine stop_bslice ?_) | ((with_reducible refine wpList_ld 0 [.int .i64 2, .int .u64 (W64 a1), .int .i64 a2, .int .u64 (W64 a3), .int .u64 (W64 a4), .int .u64 (W64 a5), .int .u64 (W64 b1), .int .i64 b2, .int .u64 (W64 b3), .int .u64 (W64 b4), .int .u64 (W64 b5)] G_4 ?_ ?_ Try.underlying27 ?_ ?_ ?_); rfl; rfl; rfl; kernel_rfl))
  refine (R.out _).mono ?_; rintro e w_45 ⟨g_40, l_42, rfl, G_41, hb_46⟩
  have n_43 : g_32 < g_40 := Nat.lt_of_lt_of_le G_35.lt l_42
  clear l_42
  replace G_4 := G_4.to hb_46 G_4.lt
  replace G_11 := G_11.to hb_46 G_11.lt
  replace G_19 := G_19.to hb_46 G_19.lt
  replace G_27 := G_27.to hb_46 G_27.lt
  replace G_35 := G_35.to hb_46 G_35.lt
  replace hB := hB.trans (hb_46.mono hB.size)
  clear hb_46
  go_wp2_with (first | (with_reducible refine stop_store ?_) | (with_reducible refine stop_box ?_) | (with_reducible refine stop_alloc ?_) | (with_reducible refine stop_bslice ?_))
  have hst : Stable fun W => Below w.heap.size w W ∧ Blk W g_1 27 #[.int .i64 2, .int .u64 (W64 a1), .int .i64 a2, .int .u64 (W64 a3), .int .u64 (W64 a4), .int .u64 (W64 a5), .int .u64 (W64 b1), .int .i64 b2, .int .u64 (W64 b3), .int .u64 (W64 b4), .int .u64 (W64 b5)] ∧ Blk W g_8 59 #[.int .u32 (W32 vi), .bool vu, .int .i64 vs] ∧ Blk W g_16 71 #[.bool br, .bool bu, .int .u32 (W32 bi)] ∧ Room g_24 27 11 W ∧ Room g_32 59 3 W ∧ Blk W g_40 25 #[.int .u64 (W64 b1), .int .i64 b2, .int .u64 (W64 b3), .int .u64 (W64 b4), .int .u64 (W64 b5), .int .u64 (W64 a1), .int .i64 a2, .int .u64 (W64 a3), .int .u64 (W64 a4), .int .u64 (W64 a5)] := stable_and (stable_below _ _ (Nat.le_refl _)) (stable_and (stable_blk _ _ _) (stable_and (stable_blk _ _ _) (stable_and (stable_blk _ _ _) (stable_and (stable_room _ _ _) (stable_and (stable_room _ _ _) (stable_blk _ _ _))))))
  refine wp_region_v _ 4 hst ⟨hB.drew, G_4, G_11, G_19, ⟨_, rfl, rfl, G_27⟩, ⟨_, rfl, rfl, G_35⟩, G_41⟩ ?_
  clear hB G_4 G_11 G_19 G_27 G_35 G_41
  refine wpU_take (v := .agg #[.int .i64 2, .int .u64 (W64 a1), .int .i64 a2, .int .u64 (W64 a3), .int .u64 (W64 a4), .int .u64 (W64 a5), .int .u64 (W64 b1), .int .i64 b2, .int .u64 (W64 b3), .int .u64 (W64 b4), .int .u64 (W64 b5)]) 0 hst (fun _ h => h) rfl (fun W hS K hK => calm_load rfl rfl (load_part hS.2.1 0 [.int .i64 2, .int .u64 (W64 a1), .int .i64 a2, .int .u64 (W64 a3), .int .u64 (W64 a4), .int .u64 (W64 a5), .int .u64 (W64 b1), .int .i64 b2, .int .u64 (W64 b3), .int .u64 (W64 b4), .int .u64 (W64 b5)] rfl Try.underlying27 rfl (by kernel_rfl)) (hK.out _ (Below.refl _ _))) ?_; simp only [Act.put, List.setIfInBounds_toArray, List.set_cons_zero, List.set_cons_succ]
  refine wpU_take (v := .agg #[.int .u32 (W32 vi), .bool vu, .int .i64 vs]) 1 hst (fun _ h => h) rfl (fun W hS K hK => calm_load rfl rfl (load_part hS.2.2.1 0 [.int .u32 (W32 vi), .bool vu, .int .i64 vs] rfl Try.underlying59 rfl (by kernel_rfl)) (hK.out _ (Below.refl _ _))) ?_; simp only [Act.put, List.setIfInBounds_toArray, List.set_cons_zero, List.set_cons_succ]
  refine wpV_st 2 hst (fun _ h => h) #[.int .i64 2, .int .u64 (W64 a1), .int .i64 a2, .int .u64 (W64 a3), .int .u64 (W64 a4), .int .u64 (W64 a5), .int .u64 (W64 b1), .int .i64 b2, .int .u64 (W64 b3), .int .u64 (W64 b4), .int .u64 (W64 b5)] rfl rfl rfl rfl (fun W hS => hS.2.2.2.2.1) (fun W W' h hU hG => ?_) (by kernel_rfl) rfl (fun hst => ?_)
  · obtain ⟨h0_0, h0_1, h0_2, h0_3, ⟨ch0_4, ah0_4, bh0_4, h0_4⟩, ⟨ch0_5, ah0_5, bh0_5, h0_5⟩, h0_6⟩ := h
    exact ⟨hU.below h0_0 (by omega), hU.blk h0_1 (by omega), hU.blk h0_2 (by omega), hU.blk h0_3 (by omega), ⟨_, rfl, rfl, hG⟩, ⟨ch0_5, ah0_5, bh0_5, hU.blk h0_5 (by omega)⟩, hU.blk h0_6 (by omega)⟩
  refine wpV_st 3 hst (fun _ h => h.1) #[.int .u32 (W32 vi), .bool vu, .int .i64 vs] rfl rfl rfl rfl (fun W hS => hS.1.2.2.2.2.2.1) (fun W W' h hU hG => ?_) (by kernel_rfl) rfl (fun hst => ?_)
  · obtain ⟨⟨h0_0, h0_1, h0_2, h0_3, ⟨ch0_4, ah0_4, bh0_4, h0_4⟩, ⟨ch0_5, ah0_5, bh0_5, h0_5⟩, h0_6⟩, h1_0⟩ := h
    exact ⟨⟨hU.below h0_0 (by omega), hU.blk h0_1 (by omega), hU.blk h0_2 (by omega), hU.blk h0_3 (by omega), ⟨ch0_4, ah0_4, bh0_4, hU.blk h0_4 (by omega)⟩, ⟨_, rfl, rfl, hG⟩, hU.blk h0_6 (by omega)⟩, hU.blk h1_0 (by omega)⟩
  refine wpU_done (fun w_47 hS => ?_)
  obtain ⟨⟨⟨hB, G_4, G_11, G_19, -, -, G_41⟩, G_27s⟩, G_35s⟩ := hS
  clear hst
  go_wp2_with (first | (with_reducible refine stop_store ?_) | (with_reducible refine stop_box ?_) | (with_reducible refine stop_alloc ?_) | (with_reducible refine stop_bslice ?_))
  refine bodyPost_ret (results_cc rfl rfl rfl (load_blk G_27s Try.underlying27 rfl (by kernel_rfl)) (load_blk G_35s Try.underlying59 rfl (by kernel_rfl))) rfl ?_
  refine ⟨?_, hB⟩
  have er : r = (⟨2, ⟨a1, a2, a3, a4, a5⟩, ⟨b1, b2, b3, b4, b5⟩⟩, ⟨vi, vu, vs⟩) := by
     have hi := HI.out; rw [← HR.out]; have hx := HX.out; simp [hearK, recvK, phaseK, nk0, hx, hi]
  rw [er]
  rfl
set_option maxHeartbeats 2000000 in
theorem rf_Hear_uB (a1 : BitVec 64) (a2 : Int) (a3 a4 a5 b1 : BitVec 64) (b2 : Int) (b3 b4 b5 : BitVec 64) (vi : BitVec 32) (vu : Bool) (vs : Int) (br bu : Bool) (bi : BitVec 32) (now : Int) (ix : Int) (w : World) (h0 : 0 ≤ vs ∧ vs ≤ 1099511627776) (h1 : 0 ≤ now ∧ now ≤ 1099511627776) (hi : 2 ≤ ix) :
    Calls Try.prog 48 #[.agg #[.int .i64 2, .int .u64 (W64 a1), .int .i64 a2, .int .u64 (W64 a3), .int .u64 (W64 a4), .int .u64 (W64 a5), .int .u64 (W64 b1), .int .i64 b2, .int .u64 (W64 b3), .int .u64 (W64 b4), .int .u64 (W64 b5)], .agg #[.int .u32 (W32 vi), .bool vu, .int .i64 vs], .agg #[.bool br, .bool bu, .int .u32 (W32 bi)], .int .i64 ix, .int .i64 now] w fun e w' => e = .returned (.tuple #[.agg (ksA (hearK ⟨2, ⟨a1, a2, a3, a4, a5⟩, ⟨b1, b2, b3, b4, b5⟩⟩ ⟨vi, vu, vs⟩ ⟨br, bu, bi⟩ ix now).1), .agg (ivA (hearK ⟨2, ⟨a1, a2, a3, a4, a5⟩, ⟨b1, b2, b3, b4, b5⟩⟩ ⟨vi, vu, vs⟩ ⟨br, bu, bi⟩ ix now).2)]) ∧ Below w.heap.size w w' := by
  obtain ⟨r, hr⟩ : ∃ r, hearK ⟨2, ⟨a1, a2, a3, a4, a5⟩, ⟨b1, b2, b3, b4, b5⟩⟩ ⟨vi, vu, vs⟩ ⟨br, bu, bi⟩ ix now = r := ⟨_, rfl⟩
  rw [hr]
  have HR := Lib.hid hr
  clear hr
  have R := Lib.hid (fun W => rf_RecvB ⟨2, ⟨a1, a2, a3, a4, a5⟩, ⟨b1, b2, b3, b4, b5⟩⟩ [.int .u64 (W64 b1), .int .i64 b2, .int .u64 (W64 b3), .int .u64 (W64 b4), .int .u64 (W64 b5), .int .u64 (W64 a1), .int .i64 a2, .int .u64 (W64 a3), .int .u64 (W64 a4), .int .u64 (W64 a5)] 2 (by simp [recvK, nksL, nkA]) (by simp [recvK]) W)
  have PH2 := Lib.hid (fun W => rf_Phase ⟨2, ⟨a1, a2, a3, a4, a5⟩, ⟨b1, b2, b3, b4, b5⟩⟩ 2 W); have PH3 := Lib.hid (fun W => rf_Phase ⟨2, ⟨a1, a2, a3, a4, a5⟩, ⟨b1, b2, b3, b4, b5⟩⟩ 3 W); unfold ksA at PH2 PH3; dsimp only at PH2 PH3
  have HV := Lib.hid (fun W => rf_hearIV ⟨vi, vu, vs⟩ ⟨br, bu, bi⟩ now W h0 h1)
  unfold ksA at R
  unfold ivA beA at HV
  dsimp only at R HV
  have i0 : decide (ix < 0) = false := by simp; omega
  have i1 : decide (2 ≤ ix) = true := by simpa using hi
  clear h0 h1
  have HI := Lib.hid hi
  clear hi
  obtain ⟨⟨xi, xu, xs⟩, hx⟩ : ∃ x, hearIVK ⟨vi, vu, vs⟩ ⟨br, bu, bi⟩ now = x := ⟨_, rfl⟩
  rw [hx] at HV
  have HX := Lib.hid hx
  clear hx
  go_enter Try.func48, Try.ntmps48
  go_wp2_with (first | (with_reducible refine stop_store ?_) | (with_reducible refine stop_box ?_) | (with_reducible refine stop_alloc ?_) | (with_reducible refine stop_bslice ?_))
  unfold Kept
  refine go_mem (ty := 27) (cs := #[.int .i64 2, .int .u64 (W64 a1), .int .i64 a2, .int .u64 (W64 a3), .int .u64 (W64 a4), .int .u64 (W64 a5), .int .u64 (W64 b1), .int .i64 b2, .int .u64 (W64 b3), .int .u64 (W64 b4), .int .u64 (W64 b5)]) (fun g => .pointer (some ⟨g, 0, none⟩)) rfl (by kernel_rfl) ?_
  intro g_1 w_2 z_6 l_5 hb_3 G_4
  have n_7 : w.heap.size ≤ g_1 := l_5
  have hB := hb_3
  clear hb_3 l_5 z_6
  go_wp2_with (first | (with_reducible refine stop_store ?_) | (with_reducible refine stop_box ?_) | (with_reducible refine stop_alloc ?_) | (with_reducible refine stop_bslice ?_))
  unfold Kept
  refine go_mem (ty := 59) (cs := #[.int .u32 (W32 vi), .bool vu, .int .i64 vs]) (fun g => .pointer (some ⟨g, 0, none⟩)) rfl (by kernel_rfl) ?_
  intro g_8 w_9 z_13 l_12 hb_10 G_11
  have n_14 : g_1 < g_8 := Nat.lt_of_lt_of_le G_4.lt l_12
  have n_15 : w.heap.size ≤ g_8 := Nat.le_trans hB.size l_12
  replace G_4 := G_4.to hb_10 G_4.lt
  replace hB := hB.trans (hb_10.mono hB.size)
  clear hb_10 l_12 z_13
  go_wp2_with (first | (with_reducible refine stop_store ?_) | (with_reducible refine stop_box ?_) | (with_reducible refine stop_alloc ?_) | (with_reducible refine stop_bslice ?_))
  unfold Kept
  refine go_mem (ty := 71) (cs := #[.bool br, .bool bu, .int .u32 (W32 bi)]) (fun g => .pointer (some ⟨g, 0, none⟩)) rfl (by kernel_rfl) ?_
  intro g_16 w_17 z_21 l_20 hb_18 G_19
  have n_22 : g_8 < g_16 := Nat.lt_of_lt_of_le G_11.lt l_20
  have n_23 : w.heap.size ≤ g_16 := Nat.le_trans hB.size l_20
  replace G_4 := G_4.to hb_18 G_4.lt
  replace G_11 := G_11.to hb_18 G_11.lt
  replace hB := hB.trans (hb_18.mono hB.size)
  clear hb_18 l_20 z_21
  go_wp2_with (first | (with_reducible refine stop_store ?_) | (with_reducible refine stop_box ?_) | (with_reducible refine stop_alloc ?_) | (with_reducible refine stop_bslice ?_))
  unfold Kept
  refine go_mem (ty := 27) (cs := #[.int .i64 0, .int .u64 0, .int .i64 0, .int .u64 0, .int .u64 0, .int .u64 0, .int .u64 0, .int .i64 0, .int .u64 0, .int .u64 0, .int .u64 0]) (fun g => .pointer (some ⟨g, 0, none⟩)) rfl (by kernel_rfl) ?_
  intro g_24 w_25 z_29 l_28 hb_26 G_27
  have n_30 : g_16 < g_24 := Nat.lt_of_lt_of_le G_19.lt l_28
  have n_31 : w.heap.size ≤ g_24 := Nat.le_trans hB.size l_28
  replace G_4 := G_4.to hb_26 G_4.lt
  replace G_11 := G_11.to hb_26 G_11.lt
  replace G_19 := G_19.to hb_26 G_19.lt
  replace hB := hB.trans (hb_26.mono hB.size)
  clear hb_26 l_28 z_29
  go_wp2_with (first | (with_reducible refine stop_store ?_) | (with_reducible refine stop_box ?_) | (with_reducible refine stop_alloc ?_) | (with_reducible refine stop_bslice ?_))
  unfold Kept
  refine go_mem (ty := 59) (cs := #[.int .u32 0, .bool false, .int .i64 0]) (fun g => .pointer (some ⟨g, 0, none⟩)) rfl (by kernel_rfl) ?_
  intro g_32 w_33 z_37 l_36 hb_34 G_35
  have n_38 : g_24 < g_32 := Nat.lt_of_lt_of_le G_27.lt l_36
  have n_39 : w.heap.size ≤ g_32 := Nat.le_trans hB.size l_36
  replace G_4 := G_4.to hb_34 G_4.lt
  replace G_11 := G_11.to hb_34 G_11.lt
  replace G_19 := G_19.to hb_34 G_19.lt
  replace G_27 := G_27.to hb_34 G_27.lt
  replace hB := hB.trans (hb_34.mono hB.size)
  clear hb_34 l_36 z_37
  go_wp2_with (first | (with_reducible refine stop_store ?_) | (with_reducible refine stop_box ?_) | (with_reducible refine stop_alloc ?_) | (with_reducible refine stop_bslice ?_) | ((with_reducible refine wpList_ld 0 [.int .i64 2, .int .u64 (W64 a1), .int .i64 a2, .int .u64 (W64 a3), .int .u64 (W64 a4), .int .u64 (W64 a5), .int .u64 (W64 b1), .int .i64 b2, .int .u64 (W64 b3), .int .u64 (W64 b4), .int .u64 (W64 b5)] G_4 ?_ ?_ Try.underlying27 ?_ ?_ ?_); rfl; rfl; rfl; kernel_rfl))
  refine (R.out _).mono ?_; rintro e w_45 ⟨g_40, l_42, rfl, G_41, hb_46⟩
  have n_43 : g_32 < g_40 := Nat.lt_of_lt_of_le G_35.lt l_42
  clear l_42
  replace G_4 := G_4.to hb_46 G_4.lt
  replace G_11 := G_11.to hb_46 G_11.lt
  replace G_19 := G_19.to hb_46 G_19.lt
  replace G_27 := G_27.to hb_46 G_27.lt
  replace G_35 := G_35.to hb_46 G_35.lt
  replace hB := hB.trans (hb_46.mono hB.size)
  clear hb_46
  go_wp2_with (first | (with_reducible refine stop_store ?_) | (with_reducible refine stop_box ?_) | (with_reducible refine stop_alloc ?_) | (with_reducible refine stop_bslice ?_))
  have hst : Stable fun W => Below w.heap.size w W ∧ Blk W g_1 27 #[.int .i64 2, .int .u64 (W64 a1), .int .i64 a2, .int .u64 (W64 a3), .int .u64 (W64 a4), .int .u64 (W64 a5), .int .u64 (W64 b1), .int .i64 b2, .int .u64 (W64 b3), .int .u64 (W64 b4), .int .u64 (W64 b5)] ∧ Blk W g_8 59 #[.int .u32 (W32 vi), .bool vu, .int .i64 vs] ∧ Blk W g_16 71 #[.bool br, .bool bu, .int .u32 (W32 bi)] ∧ Room g_24 27 11 W ∧ Room g_32 59 3 W ∧ Blk W g_40 25 #[.int .u64 (W64 b1), .int .i64 b2, .int .u64 (W64 b3), .int .u64 (W64 b4), .int .u64 (W64 b5), .int .u64 (W64 a1), .int .i64 a2, .int .u64 (W64 a3), .int .u64 (W64 a4), .int .u64 (W64 a5)] := stable_and (stable_below _ _ (Nat.le_refl _)) (stable_and (stable_blk _ _ _) (stable_and (stable_blk _ _ _) (stable_and (stable_blk _ _ _) (stable_and (stable_room _ _ _) (stable_and (stable_room _ _ _) (stable_blk _ _ _))))))
  refine wp_region_v _ 4 hst ⟨hB.drew, G_4, G_11, G_19, ⟨_, rfl, rfl, G_27⟩, ⟨_, rfl, rfl, G_35⟩, G_41⟩ ?_
  clear hB G_4 G_11 G_19 G_27 G_35 G_41
  refine wpU_take (v := .agg #[.int .i64 2, .int .u64 (W64 a1), .int .i64 a2, .int .u64 (W64 a3), .int .u64 (W64 a4), .int .u64 (W64 a5), .int .u64 (W64 b1), .int .i64 b2, .int .u64 (W64 b3), .int .u64 (W64 b4), .int .u64 (W64 b5)]) 0 hst (fun _ h => h) rfl (fun W hS K hK => calm_load rfl rfl (load_part hS.2.1 0 [.int .i64 2, .int .u64 (W64 a1), .int .i64 a2, .int .u64 (W64 a3), .int .u64 (W64 a4), .int .u64 (W64 a5), .int .u64 (W64 b1), .int .i64 b2, .int .u64 (W64 b3), .int .u64 (W64 b4), .int .u64 (W64 b5)] rfl Try.underlying27 rfl (by kernel_rfl)) (hK.out _ (Below.refl _ _))) ?_; simp only [Act.put, List.setIfInBounds_toArray, List.set_cons_zero, List.set_cons_succ]
  refine wpU_take (v := .agg #[.int .u32 (W32 vi), .bool vu, .int .i64 vs]) 1 hst (fun _ h => h) rfl (fun W hS K hK => calm_load rfl rfl (load_part hS.2.2.1 0 [.int .u32 (W32 vi), .bool vu, .int .i64 vs] rfl Try.underlying59 rfl (by kernel_rfl)) (hK.out _ (Below.refl _ _))) ?_; simp only [Act.put, List.setIfInBounds_toArray, List.set_cons_zero, List.set_cons_succ]
  refine wpV_st 2 hst (fun _ h => h) #[.int .i64 2, .int .u64 (W64 a1), .int .i64 a2, .int .u64 (W64 a3), .int .u64 (W64 a4), .int .u64 (W64 a5), .int .u64 (W64 b1), .int .i64 b2, .int .u64 (W64 b3), .int .u64 (W64 b4), .int .u64 (W64 b5)] rfl rfl rfl rfl (fun W hS => hS.2.2.2.2.1) (fun W W' h hU hG => ?_) (by kernel_rfl) rfl (fun hst => ?_)
  · obtain ⟨h0_0, h0_1, h0_2, h0_3, ⟨ch0_4, ah0_4, bh0_4, h0_4⟩, ⟨ch0_5, ah0_5, bh0_5, h0_5⟩, h0_6⟩ := h
    exact ⟨hU.below h0_0 (by omega), hU.blk h0_1 (by omega), hU.blk h0_2 (by omega), hU.blk h0_3 (by omega), ⟨_, rfl, rfl, hG⟩, ⟨ch0_5, ah0_5, bh0_5, hU.blk h0_5 (by omega)⟩, hU.blk h0_6 (by omega)⟩
  refine wpV_st 3 hst (fun _ h => h.1) #[.int .u32 (W32 vi), .bool vu, .int .i64 vs] rfl rfl rfl rfl (fun W hS => hS.1.2.2.2.2.2.1) (fun W W' h hU hG => ?_) (by kernel_rfl) rfl (fun hst => ?_)
  · obtain ⟨⟨h0_0, h0_1, h0_2, h0_3, ⟨ch0_4, ah0_4, bh0_4, h0_4⟩, ⟨ch0_5, ah0_5, bh0_5, h0_5⟩, h0_6⟩, h1_0⟩ := h
    exact ⟨⟨hU.below h0_0 (by omega), hU.blk h0_1 (by omega), hU.blk h0_2 (by omega), hU.blk h0_3 (by omega), ⟨ch0_4, ah0_4, bh0_4, hU.blk h0_4 (by omega)⟩, ⟨_, rfl, rfl, hG⟩, hU.blk h0_6 (by omega)⟩, hU.blk h1_0 (by omega)⟩
  refine wpU_done (fun w_47 hS => ?_)
  obtain ⟨⟨⟨hB, G_4, G_11, G_19, -, -, G_41⟩, G_27s⟩, G_35s⟩ := hS
  clear hst
  go_wp2_with (first | (with_reducible refine stop_store ?_) | (with_reducible refine stop_box ?_) | (with_reducible refine stop_alloc ?_) | (with_reducible refine stop_bslice ?_))
  refine bodyPost_ret (results_cc rfl rfl rfl (load_blk G_27s Try.underlying27 rfl (by kernel_rfl)) (load_blk G_35s Try.underlying59 rfl (by kernel_rfl))) rfl ?_
  refine ⟨?_, hB⟩
  have er : r = (⟨2, ⟨a1, a2, a3, a4, a5⟩, ⟨b1, b2, b3, b4, b5⟩⟩, ⟨vi, vu, vs⟩) := by
     have hi := HI.out; rw [← HR.out]; have hx := HX.out; simp [hearK, recvK, phaseK, nk0, hx, hi]
  rw [er]
  rfl
set_option maxHeartbeats 2000000 in
theorem rf_Hear_u0 (a1 : BitVec 64) (a2 : Int) (a3 a4 a5 b1 : BitVec 64) (b2 : Int) (b3 b4 b5 : BitVec 64) (vi : BitVec 32) (vu : Bool) (vs : Int) (br bu : Bool) (bi : BitVec 32) (now : Int) (w : World) (h0 : 0 ≤ vs ∧ vs ≤ 1099511627776) (h1 : 0 ≤ now ∧ now ≤ 1099511627776) :
    Calls Try.prog 48 #[.agg #[.int .i64 2, .int .u64 (W64 a1), .int .i64 a2, .int .u64 (W64 a3), .int .u64 (W64 a4), .int .u64 (W64 a5), .int .u64 (W64 b1), .int .i64 b2, .int .u64 (W64 b3), .int .u64 (W64 b4), .int .u64 (W64 b5)], .agg #[.int .u32 (W32 vi), .bool vu, .int .i64 vs], .agg #[.bool br, .bool bu, .int .u32 (W32 bi)], .int .i64 0, .int .i64 now] w fun e w' => e = .returned (.tuple #[.agg (ksA (hearK ⟨2, ⟨a1, a2, a3, a4, a5⟩, ⟨b1, b2, b3, b4, b5⟩⟩ ⟨vi, vu, vs⟩ ⟨br, bu, bi⟩ 0 now).1), .agg (ivA (hearK ⟨2, ⟨a1, a2, a3, a4, a5⟩, ⟨b1, b2, b3, b4, b5⟩⟩ ⟨vi, vu, vs⟩ ⟨br, bu, bi⟩ 0 now).2)]) ∧ Below w.heap.size w w' := by
  obtain ⟨r, hr⟩ : ∃ r, hearK ⟨2, ⟨a1, a2, a3, a4, a5⟩, ⟨b1, b2, b3, b4, b5⟩⟩ ⟨vi, vu, vs⟩ ⟨br, bu, bi⟩ 0 now = r := ⟨_, rfl⟩
  rw [hr]
  have HR := Lib.hid hr
  clear hr
  have R := Lib.hid (fun W => rf_RecvB ⟨2, ⟨a1, a2, a3, a4, a5⟩, ⟨b1, b2, b3, b4, b5⟩⟩ [.int .u64 (W64 b1), .int .i64 b2, .int .u64 (W64 b3), .int .u64 (W64 b4), .int .u64 (W64 b5), .int .u64 (W64 a1), .int .i64 a2, .int .u64 (W64 a3), .int .u64 (W64 a4), .int .u64 (W64 a5)] 2 (by simp [recvK, nksL, nkA]) (by simp [recvK]) W)
  have PH2 := Lib.hid (fun W => rf_Phase ⟨2, ⟨a1, a2, a3, a4, a5⟩, ⟨b1, b2, b3, b4, b5⟩⟩ 2 W); have PH3 := Lib.hid (fun W => rf_Phase ⟨2, ⟨a1, a2, a3, a4, a5⟩, ⟨b1, b2, b3, b4, b5⟩⟩ 3 W); unfold ksA at PH2 PH3; dsimp only at PH2 PH3
  have HV := Lib.hid (fun W => rf_hearIV ⟨vi, vu, vs⟩ ⟨br, bu, bi⟩ now W h0 h1)
  unfold ksA at R
  unfold ivA beA at HV
  dsimp only at R HV
  
  clear h0 h1
  obtain ⟨⟨xi, xu, xs⟩, hx⟩ : ∃ x, hearIVK ⟨vi, vu, vs⟩ ⟨br, bu, bi⟩ now = x := ⟨_, rfl⟩
  rw [hx] at HV
  have HX := Lib.hid hx
  clear hx
  go_enter Try.func48, Try.ntmps48
  go_wp2_with (first | (with_reducible refine stop_store ?_) | (with_reducible refine stop_box ?_) | (with_reducible refine stop_alloc ?_) | (with_reducible refine stop_bslice ?_))
  unfold Kept
  refine go_mem (ty := 27) (cs := #[.int .i64 2, .int .u64 (W64 a1), .int .i64 a2, .int .u64 (W64 a3), .int .u64 (W64 a4), .int .u64 (W64 a5), .int .u64 (W64 b1), .int .i64 b2, .int .u64 (W64 b3), .int .u64 (W64 b4), .int .u64 (W64 b5)]) (fun g => .pointer (some ⟨g, 0, none⟩)) rfl (by kernel_rfl) ?_
  intro g_1 w_2 z_6 l_5 hb_3 G_4
  have n_7 : w.heap.size ≤ g_1 := l_5
  have hB := hb_3
  clear hb_3 l_5 z_6
  go_wp2_with (first | (with_reducible refine stop_store ?_) | (with_reducible refine stop_box ?_) | (with_reducible refine stop_alloc ?_) | (with_reducible refine stop_bslice ?_))
  unfold Kept
  refine go_mem (ty := 59) (cs := #[.int .u32 (W32 vi), .bool vu, .int .i64 vs]) (fun g => .pointer (some ⟨g, 0, none⟩)) rfl (by kernel_rfl) ?_
  intro g_8 w_9 z_13 l_12 hb_10 G_11
  have n_14 : g_1 < g_8 := Nat.lt_of_lt_of_le G_4.lt l_12
  have n_15 : w.heap.size ≤ g_8 := Nat.le_trans hB.size l_12
  replace G_4 := G_4.to hb_10 G_4.lt
  replace hB := hB.trans (hb_10.mono hB.size)
  clear hb_10 l_12 z_13
  go_wp2_with (first | (with_reducible refine stop_store ?_) | (with_reducible refine stop_box ?_) | (with_reducible refine stop_alloc ?_) | (with_reducible refine stop_bslice ?_))
  unfold Kept
  refine go_mem (ty := 71) (cs := #[.bool br, .bool bu, .int .u32 (W32 bi)]) (fun g => .pointer (some ⟨g, 0, none⟩)) rfl (by kernel_rfl) ?_
  intro g_16 w_17 z_21 l_20 hb_18 G_19
  have n_22 : g_8 < g_16 := Nat.lt_of_lt_of_le G_11.lt l_20
  have n_23 : w.heap.size ≤ g_16 := Nat.le_trans hB.size l_20
  replace G_4 := G_4.to hb_18 G_4.lt
  replace G_11 := G_11.to hb_18 G_11.lt
  replace hB := hB.trans (hb_18.mono hB.size)
  clear hb_18 l_20 z_21
  go_wp2_with (first | (with_reducible refine stop_store ?_) | (with_reducible refine stop_box ?_) | (with_reducible refine stop_alloc ?_) | (with_reducible refine stop_bslice ?_))
  unfold Kept
  refine go_mem (ty := 27) (cs := #[.int .i64 0, .int .u64 0, .int .i64 0, .int .u64 0, .int .u64 0, .int .u64 0, .int .u64 0, .int .i64 0, .int .u64 0, .int .u64 0, .int .u64 0]) (fun g => .pointer (some ⟨g, 0, none⟩)) rfl (by kernel_rfl) ?_
  intro g_24 w_25 z_29 l_28 hb_26 G_27
  have n_30 : g_16 < g_24 := Nat.lt_of_lt_of_le G_19.lt l_28
  have n_31 : w.heap.size ≤ g_24 := Nat.le_trans hB.size l_28
  replace G_4 := G_4.to hb_26 G_4.lt
  replace G_11 := G_11.to hb_26 G_11.lt
  replace G_19 := G_19.to hb_26 G_19.lt
  replace hB := hB.trans (hb_26.mono hB.size)
  clear hb_26 l_28 z_29
  go_wp2_with (first | (with_reducible refine stop_store ?_) | (with_reducible refine stop_box ?_) | (with_reducible refine stop_alloc ?_) | (with_reducible refine stop_bslice ?_))
  unfold Kept
  refine go_mem (ty := 59) (cs := #[.int .u32 0, .bool false, .int .i64 0]) (fun g => .pointer (some ⟨g, 0, none⟩)) rfl (by kernel_rfl) ?_
  intro g_32 w_33 z_37 l_36 hb_34 G_35
  have n_38 : g_24 < g_32 := Nat.lt_of_lt_of_le G_27.lt l_36
  have n_39 : w.heap.size ≤ g_32 := Nat.le_trans hB.size l_36
  replace G_4 := G_4.to hb_34 G_4.lt
  replace G_11 := G_11.to hb_34 G_11.lt
  replace G_19 := G_19.to hb_34 G_19.lt
  replace G_27 := G_27.to hb_34 G_27.lt
  replace hB := hB.trans (hb_34.mono hB.size)
  clear hb_34 l_36 z_37
  go_wp2_with (first | (with_reducible refine stop_store ?_) | (with_reducible refine stop_box ?_) | (with_reducible refine stop_alloc ?_) | (with_reducible refine stop_bslice ?_) | ((with_reducible refine wpList_ld 0 [.int .i64 2, .int .u64 (W64 a1), .int .i64 a2, .int .u64 (W64 a3), .int .u64 (W64 a4), .int .u64 (W64 a5), .int .u64 (W64 b1), .int .i64 b2, .int .u64 (W64 b3), .int .u64 (W64 b4), .int .u64 (W64 b5)] G_4 ?_ ?_ Try.underlying27 ?_ ?_ ?_); rfl; rfl; rfl; kernel_rfl))
  refine (R.out _).mono ?_; rintro e w_45 ⟨g_40, l_42, rfl, G_41, hb_46⟩
  have n_43 : g_32 < g_40 := Nat.lt_of_lt_of_le G_35.lt l_42
  clear l_42
  replace G_4 := G_4.to hb_46 G_4.lt
  replace G_11 := G_11.to hb_46 G_11.lt
  replace G_19 := G_19.to hb_46 G_19.lt
  replace G_27 := G_27.to hb_46 G_27.lt
  replace G_35 := G_35.to hb_46 G_35.lt
  replace hB := hB.trans (hb_46.mono hB.size)
  clear hb_46
  go_wp2_with (first | (with_reducible refine stop_store ?_) | (with_reducible refine stop_box ?_) | (with_reducible refine stop_alloc ?_) | (with_reducible refine stop_bslice ?_))
  have hst : Stable fun W => Below w.heap.size w W ∧ Blk W g_1 27 #[.int .i64 2, .int .u64 (W64 a1), .int .i64 a2, .int .u64 (W64 a3), .int .u64 (W64 a4), .int .u64 (W64 a5), .int .u64 (W64 b1), .int .i64 b2, .int .u64 (W64 b3), .int .u64 (W64 b4), .int .u64 (W64 b5)] ∧ Blk W g_8 59 #[.int .u32 (W32 vi), .bool vu, .int .i64 vs] ∧ Blk W g_16 71 #[.bool br, .bool bu, .int .u32 (W32 bi)] ∧ Blk W g_24 27 #[.int .i64 0, .int .u64 0, .int .i64 0, .int .u64 0, .int .u64 0, .int .u64 0, .int .u64 0, .int .i64 0, .int .u64 0, .int .u64 0, .int .u64 0] ∧ Blk W g_32 59 #[.int .u32 0, .bool false, .int .i64 0] ∧ Blk W g_40 25 #[.int .u64 (W64 b1), .int .i64 b2, .int .u64 (W64 b3), .int .u64 (W64 b4), .int .u64 (W64 b5), .int .u64 (W64 a1), .int .i64 a2, .int .u64 (W64 a3), .int .u64 (W64 a4), .int .u64 (W64 a5)] := stable_and (stable_below _ _ (Nat.le_refl _)) (stable_and (stable_blk _ _ _) (stable_and (stable_blk _ _ _) (stable_and (stable_blk _ _ _) (stable_and (stable_blk _ _ _) (stable_and (stable_blk _ _ _) (stable_blk _ _ _))))))
  refine wp_region_v _ 12 hst ⟨hB.drew, G_4, G_11, G_19, G_27, G_35, G_41⟩ ?_
  clear hB G_4 G_11 G_19 G_27 G_35 G_41
  refine wpU_take (v := ?_) 0 hst (fun _ h => h) rfl ?_ ?_; rotate_left; (intro W hS K hK; clear hS; go_simp; exact hK.out _ (Below.refl _ _)); simp only [Act.put, List.setIfInBounds_toArray, List.set_cons_zero, List.set_cons_succ]
  refine wpU_take (v := ?_) 1 hst (fun _ h => h) rfl ?_ ?_; rotate_left; (intro W hS K hK; clear hS; go_simp; exact hK.out _ (Below.refl _ _)); simp only [Act.put, List.setIfInBounds_toArray, List.set_cons_zero, List.set_cons_succ]
  refine wpU_take (v := ?_) 2 hst (fun _ h => h) rfl ?_ ?_; rotate_left; (intro W hS K hK; clear hS; go_simp; exact hK.out _ (Below.refl _ _)); simp only [Act.put, List.setIfInBounds_toArray, List.set_cons_zero, List.set_cons_succ]
  refine wpU_take (v := ?_) 3 hst (fun _ h => h) rfl ?_ ?_; rotate_left; (intro W hS K hK; clear hS; go_simp; exact hK.out _ (Below.refl _ _)); simp only [Act.put, List.setIfInBounds_toArray, List.set_cons_zero, List.set_cons_succ]
  refine wpU_take (v := ?_) 4 hst (fun _ h => h) rfl ?_ ?_; rotate_left; (intro W hS K hK; clear hS; go_simp; exact hK.out _ (Below.refl _ _)); simp only [Act.put, List.setIfInBounds_toArray, List.set_cons_zero, List.set_cons_succ]
  refine wpU_take (v := ?_) 5 hst (fun _ h => h) rfl ?_ ?_; rotate_left; (intro W hS K hK; clear hS; go_simp; exact hK.out _ (Below.refl _ _)); simp only [Act.put, List.setIfInBounds_toArray, List.set_cons_zero, List.set_cons_succ]
  refine wpU_take (v := ?_) 6 hst (fun _ h => h) rfl ?_ ?_; rotate_left; (intro W hS K hK; clear hS; go_simp; exact hK.out _ (Below.refl _ _)); simp only [Act.put, List.setIfInBounds_toArray, List.set_cons_zero, List.set_cons_succ]
  refine wpU_take (v := .agg #[.int .u64 (W64 b1), .int .i64 b2, .int .u64 (W64 b3), .int .u64 (W64 b4), .int .u64 (W64 b5)]) 7 hst (fun _ h => h) rfl (fun W hS K hK => calm_load rfl rfl (load_part hS.2.2.2.2.2.2 0 [.int .u64 (W64 b1), .int .i64 b2, .int .u64 (W64 b3), .int .u64 (W64 b4), .int .u64 (W64 b5)] rfl Try.underlying25 rfl (by kernel_rfl)) (hK.out _ (Below.refl _ _))) ?_; simp only [Act.put, List.setIfInBounds_toArray, List.set_cons_zero, List.set_cons_succ]
  refine wpU_take (v := ?_) 8 hst (fun _ h => h) rfl ?_ ?_; rotate_left; (intro W hS K hK; clear hS; go_simp; exact hK.out _ (Below.refl _ _)); simp only [Act.put, List.setIfInBounds_toArray, List.set_cons_zero, List.set_cons_succ]
  refine wpU_take (v := .agg #[.int .u64 (W64 b1), .int .i64 b2, .int .u64 (W64 b3), .int .u64 (W64 b4), .int .u64 (W64 b5)]) 9 hst (fun _ h => h) rfl (fun W hS K hK => calm_load rfl rfl (load_part hS.2.1 6 [.int .u64 (W64 b1), .int .i64 b2, .int .u64 (W64 b3), .int .u64 (W64 b4), .int .u64 (W64 b5)] rfl Try.underlying25 rfl (by kernel_rfl)) (hK.out _ (Below.refl _ _))) ?_; simp only [Act.put, List.setIfInBounds_toArray, List.set_cons_zero, List.set_cons_succ]
  refine wpU_take (v := ?_) 10 hst (fun _ h => h) rfl ?_ ?_; rotate_left; (intro W hS K hK; clear hS; go_simp; exact hK.out _ (Below.refl _ _)); simp only [Act.put, List.setIfInBounds_toArray, List.set_cons_zero, List.set_cons_succ]
  refine wpU_take (v := ?_) 11 hst (fun _ h => h) rfl ?_ ?_; rotate_left; (intro W hS K hK; clear hS; go_simp; exact hK.out _ (Below.refl _ _)); simp only [Act.put, List.setIfInBounds_toArray, List.set_cons_zero, List.set_cons_succ]
  refine wpU_done (fun w_47 hS => ?_)
  obtain ⟨hB, G_4, G_11, G_19, G_27, G_35, G_41⟩ := hS
  clear hst
  cases br
  case false =>
    skip
    have ld_49 : w_47.cell? ⟨g_16, 0, none⟩ = some (.bool false) := G_19.cell 0
    go_wp2_with (first | (with_reducible refine stop_store ?_) | (with_reducible refine stop_box ?_) | (with_reducible refine stop_alloc ?_) | (with_reducible refine stop_bslice ?_) | ((with_reducible refine wpList_ld 0 [.int .i64 2, .int .u64 (W64 a1), .int .i64 a2, .int .u64 (W64 a3), .int .u64 (W64 a4), .int .u64 (W64 a5), .int .u64 (W64 b1), .int .i64 b2, .int .u64 (W64 b3), .int .u64 (W64 b4), .int .u64 (W64 b5)] G_4 ?_ ?_ Try.underlying27 ?_ ?_ ?_); rfl; rfl; rfl; kernel_rfl))
    refine (PH3.out _).mono ?_; rintro e w_51 ⟨rfl, hb_52⟩
    clear ld_49
    replace G_4 := G_4.to hb_52 G_4.lt
    replace G_11 := G_11.to hb_52 G_11.lt
    replace G_19 := G_19.to hb_52 G_19.lt
    replace G_27 := G_27.to hb_52 G_27.lt
    replace G_35 := G_35.to hb_52 G_35.lt
    replace G_41 := G_41.to hb_52 G_41.lt
    replace hB := hB.trans (hb_52.mono hB.size)
    clear hb_52
    go_wp2_with (first | (with_reducible refine stop_store ?_) | (with_reducible refine stop_box ?_) | (with_reducible refine stop_alloc ?_) | (with_reducible refine stop_bslice ?_))
    unfold Kept
    refine wpList_st 0 #[.int .i64 0, .int .u64 (W64 b1), .int .i64 b2, .int .u64 (W64 b3), .int .u64 (W64 b4), .int .u64 (W64 b5), .int .u64 0, .int .i64 0, .int .u64 0, .int .u64 0, .int .u64 0] #[.int .i64 0, .int .u64 (W64 b1), .int .i64 b2, .int .u64 (W64 b3), .int .u64 (W64 b4), .int .u64 (W64 b5), .int .u64 0, .int .i64 0, .int .u64 0, .int .u64 0, .int .u64 0] G_4 rfl rfl (by kernel_rfl) rfl (of_decide_eq_true rfl) rfl ?_
    intro w_53 G_55 hU_54
    replace G_11 := hU_54.blk G_11 (by omega)
    replace G_19 := hU_54.blk G_19 (by omega)
    replace G_27 := hU_54.blk G_27 (by omega)
    replace G_35 := hU_54.blk G_35 (by omega)
    replace G_41 := hU_54.blk G_41 (by omega)
    replace hB := hU_54.below hB (by omega)
    clear G_4 hU_54
    go_wp2_with (first | (with_reducible refine stop_store ?_) | (with_reducible refine stop_box ?_) | (with_reducible refine stop_alloc ?_) | (with_reducible refine stop_bslice ?_))
    have hst : Stable fun W => Below w.heap.size w W ∧ Blk W g_1 27 #[.int .i64 0, .int .u64 (W64 b1), .int .i64 b2, .int .u64 (W64 b3), .int .u64 (W64 b4), .int .u64 (W64 b5), .int .u64 0, .int .i64 0, .int .u64 0, .int .u64 0, .int .u64 0] ∧ Blk W g_8 59 #[.int .u32 (W32 vi), .bool vu, .int .i64 vs] ∧ Blk W g_16 71 #[.bool false, .bool bu, .int .u32 (W32 bi)] ∧ Room g_24 27 11 W ∧ Room g_32 59 3 W ∧ Blk W g_40 25 #[.int .u64 (W64 b1), .int .i64 b2, .int .u64 (W64 b3), .int .u64 (W64 b4), .int .u64 (W64 b5), .int .u64 (W64 a1), .int .i64 a2, .int .u64 (W64 a3), .int .u64 (W64 a4), .int .u64 (W64 a5)] := stable_and (stable_below _ _ (Nat.le_refl _)) (stable_and (stable_blk _ _ _) (stable_and (stable_blk _ _ _) (stable_and (stable_blk _ _ _) (stable_and (stable_room _ _ _) (stable_and (stable_room _ _ _) (stable_blk _ _ _))))))
    refine wp_region_v _ 7 hst ⟨hB.drew, G_55, G_11, G_19, ⟨_, rfl, rfl, G_27⟩, ⟨_, rfl, rfl, G_35⟩, G_41⟩ ?_
    clear hB G_55 G_11 G_19 G_27 G_35 G_41
    refine wpU_take (v := .agg #[.int .i64 0, .int .u64 (W64 b1), .int .i64 b2, .int .u64 (W64 b3), .int .u64 (W64 b4), .int .u64 (W64 b5), .int .u64 0, .int .i64 0, .int .u64 0, .int .u64 0, .int .u64 0]) 0 hst (fun _ h => h) rfl (fun W hS K hK => calm_load rfl rfl (load_part hS.2.1 0 [.int .i64 0, .int .u64 (W64 b1), .int .i64 b2, .int .u64 (W64 b3), .int .u64 (W64 b4), .int .u64 (W64 b5), .int .u64 0, .int .i64 0, .int .u64 0, .int .u64 0, .int .u64 0] rfl Try.underlying27 rfl (by kernel_rfl)) (hK.out _ (Below.refl _ _))) ?_; simp only [Act.put, List.setIfInBounds_toArray, List.set_cons_zero, List.set_cons_succ]
    refine wpU_take (v := .agg #[.int .u32 (W32 vi), .bool vu, .int .i64 vs]) 1 hst (fun _ h => h) rfl (fun W hS K hK => calm_load rfl rfl (load_part hS.2.2.1 0 [.int .u32 (W32 vi), .bool vu, .int .i64 vs] rfl Try.underlying59 rfl (by kernel_rfl)) (hK.out _ (Below.refl _ _))) ?_; simp only [Act.put, List.setIfInBounds_toArray, List.set_cons_zero, List.set_cons_succ]
    refine wpU_take (v := .agg #[.bool false, .bool bu, .int .u32 (W32 bi)]) 2 hst (fun _ h => h) rfl (fun W hS K hK => calm_load rfl rfl (load_part hS.2.2.2.1 0 [.bool false, .bool bu, .int .u32 (W32 bi)] rfl Try.underlying71 rfl (by kernel_rfl)) (hK.out _ (Below.refl _ _))) ?_; simp only [Act.put, List.setIfInBounds_toArray, List.set_cons_zero, List.set_cons_succ]
    refine wpU_take (v := ?_) 3 hst (fun _ h => h) rfl ?_ ?_; rotate_left; (intro W hS K hK; clear hS; go_simp; exact hK.out _ (Below.refl _ _)); simp only [Act.put, List.setIfInBounds_toArray, List.set_cons_zero, List.set_cons_succ]
    refine wpU_take (v := ?_) 4 hst (fun _ h => h) rfl ?_ ?_; rotate_left; (intro W hS K hK; clear hS; go_simp; refine (HV.out _).mono ?_; rintro e w9 ⟨rfl, hb⟩; refine CallPost.mk ?_; exact hK.out _ (hb)); simp only [Act.put, List.setIfInBounds_toArray, List.set_cons_zero, List.set_cons_succ]
    refine wpV_st 5 hst (fun _ h => h) #[.int .i64 0, .int .u64 (W64 b1), .int .i64 b2, .int .u64 (W64 b3), .int .u64 (W64 b4), .int .u64 (W64 b5), .int .u64 0, .int .i64 0, .int .u64 0, .int .u64 0, .int .u64 0] rfl rfl rfl rfl (fun W hS => hS.2.2.2.2.1) (fun W W' h hU hG => ?_) (by kernel_rfl) rfl (fun hst => ?_)
    · obtain ⟨h0_0, h0_1, h0_2, h0_3, ⟨ch0_4, ah0_4, bh0_4, h0_4⟩, ⟨ch0_5, ah0_5, bh0_5, h0_5⟩, h0_6⟩ := h
      exact ⟨hU.below h0_0 (by omega), hU.blk h0_1 (by omega), hU.blk h0_2 (by omega), hU.blk h0_3 (by omega), ⟨_, rfl, rfl, hG⟩, ⟨ch0_5, ah0_5, bh0_5, hU.blk h0_5 (by omega)⟩, hU.blk h0_6 (by omega)⟩
    refine wpV_st 6 hst (fun _ h => h.1) #[.int .u32 (W32 xi), .bool xu, .int .i64 xs] rfl rfl rfl rfl (fun W hS => hS.1.2.2.2.2.2.1) (fun W W' h hU hG => ?_) (by kernel_rfl) rfl (fun hst => ?_)
    · obtain ⟨⟨h0_0, h0_1, h0_2, h0_3, ⟨ch0_4, ah0_4, bh0_4, h0_4⟩, ⟨ch0_5, ah0_5, bh0_5, h0_5⟩, h0_6⟩, h1_0⟩ := h
      exact ⟨⟨hU.below h0_0 (by omega), hU.blk h0_1 (by omega), hU.blk h0_2 (by omega), hU.blk h0_3 (by omega), ⟨ch0_4, ah0_4, bh0_4, hU.blk h0_4 (by omega)⟩, ⟨_, rfl, rfl, hG⟩, hU.blk h0_6 (by omega)⟩, hU.blk h1_0 (by omega)⟩
    refine wpU_done (fun w_56 hS => ?_)
    obtain ⟨⟨⟨hB, G_55, G_11, G_19, -, -, G_41⟩, G_27s⟩, G_35s⟩ := hS
    clear hst
    go_wp2_with (first | (with_reducible refine stop_store ?_) | (with_reducible refine stop_box ?_) | (with_reducible refine stop_alloc ?_) | (with_reducible refine stop_bslice ?_))
    refine bodyPost_ret (results_cc rfl rfl rfl (load_blk G_27s Try.underlying27 rfl (by kernel_rfl)) (load_blk G_35s Try.underlying59 rfl (by kernel_rfl))) rfl ?_
    refine ⟨?_, hB⟩
    have er : r = (⟨0, ⟨b1, b2, b3, b4, b5⟩, ⟨0#64, 0, 0#64, 0#64, 0#64⟩⟩, ⟨xi, xu, xs⟩) := by
       rw [← HR.out]; have hx := HX.out; simp [hearK, recvK, phaseK, nk0, hx]
    rw [er]
    rfl
  case true =>
    skip
    have ld_57 : w_47.cell? ⟨g_16, 0, none⟩ = some (.bool true) := G_19.cell 0
    go_wp2_with (first | (with_reducible refine stop_store ?_) | (with_reducible refine stop_box ?_) | (with_reducible refine stop_alloc ?_) | (with_reducible refine stop_bslice ?_) | ((with_reducible refine wpList_ld 0 [.int .i64 2, .int .u64 (W64 a1), .int .i64 a2, .int .u64 (W64 a3), .int .u64 (W64 a4), .int .u64 (W64 a5), .int .u64 (W64 b1), .int .i64 b2, .int .u64 (W64 b3), .int .u64 (W64 b4), .int .u64 (W64 b5)] G_4 ?_ ?_ Try.underlying27 ?_ ?_ ?_); rfl; rfl; rfl; kernel_rfl))
    refine (PH2.out _).mono ?_; rintro e w_59 ⟨rfl, hb_60⟩
    clear ld_57
    replace G_4 := G_4.to hb_60 G_4.lt
    replace G_11 := G_11.to hb_60 G_11.lt
    replace G_19 := G_19.to hb_60 G_19.lt
    replace G_27 := G_27.to hb_60 G_27.lt
    replace G_35 := G_35.to hb_60 G_35.lt
    replace G_41 := G_41.to hb_60 G_41.lt
    replace hB := hB.trans (hb_60.mono hB.size)
    clear hb_60
    go_wp2_with (first | (with_reducible refine stop_store ?_) | (with_reducible refine stop_box ?_) | (with_reducible refine stop_alloc ?_) | (with_reducible refine stop_bslice ?_))
    unfold Kept
    refine wpList_st 0 #[.int .i64 2, .int .u64 (W64 a1), .int .i64 a2, .int .u64 (W64 a3), .int .u64 (W64 a4), .int .u64 (W64 a5), .int .u64 (W64 b1), .int .i64 b2, .int .u64 (W64 b3), .int .u64 (W64 b4), .int .u64 (W64 b5)] #[.int .i64 2, .int .u64 (W64 a1), .int .i64 a2, .int .u64 (W64 a3), .int .u64 (W64 a4), .int .u64 (W64 a5), .int .u64 (W64 b1), .int .i64 b2, .int .u64 (W64 b3), .int .u64 (W64 b4), .int .u64 (W64 b5)] G_4 rfl rfl (by kernel_rfl) rfl (of_decide_eq_true rfl) rfl ?_
    intro w_61 G_63 hU_62
    replace G_11 := hU_62.blk G_11 (by omega)
    replace G_19 := hU_62.blk G_19 (by omega)
    replace G_27 := hU_62.blk G_27 (by omega)
    replace G_35 := hU_62.blk G_35 (by omega)
    replace G_41 := hU_62.blk G_41 (by omega)
    replace hB := hU_62.below hB (by omega)
    clear G_4 hU_62
    go_wp2_with (first | (with_reducible refine stop_store ?_) | (with_reducible refine stop_box ?_) | (with_reducible refine stop_alloc ?_) | (with_reducible refine stop_bslice ?_))
    have hst : Stable fun W => Below w.heap.size w W ∧ Blk W g_1 27 #[.int .i64 2, .int .u64 (W64 a1), .int .i64 a2, .int .u64 (W64 a3), .int .u64 (W64 a4), .int .u64 (W64 a5), .int .u64 (W64 b1), .int .i64 b2, .int .u64 (W64 b3), .int .u64 (W64 b4), .int .u64 (W64 b5)] ∧ Blk W g_8 59 #[.int .u32 (W32 vi), .bool vu, .int .i64 vs] ∧ Blk W g_16 71 #[.bool true, .bool bu, .int .u32 (W32 bi)] ∧ Room g_24 27 11 W ∧ Room g_32 59 3 W ∧ Blk W g_40 25 #[.int .u64 (W64 b1), .int .i64 b2, .int .u64 (W64 b3), .int .u64 (W64 b4), .int .u64 (W64 b5), .int .u64 (W64 a1), .int .i64 a2, .int .u64 (W64 a3), .int .u64 (W64 a4), .int .u64 (W64 a5)] := stable_and (stable_below _ _ (Nat.le_refl _)) (stable_and (stable_blk _ _ _) (stable_and (stable_blk _ _ _) (stable_and (stable_blk _ _ _) (stable_and (stable_room _ _ _) (stable_and (stable_room _ _ _) (stable_blk _ _ _))))))
    refine wp_region_v _ 7 hst ⟨hB.drew, G_63, G_11, G_19, ⟨_, rfl, rfl, G_27⟩, ⟨_, rfl, rfl, G_35⟩, G_41⟩ ?_
    clear hB G_63 G_11 G_19 G_27 G_35 G_41
    refine wpU_take (v := .agg #[.int .i64 2, .int .u64 (W64 a1), .int .i64 a2, .int .u64 (W64 a3), .int .u64 (W64 a4), .int .u64 (W64 a5), .int .u64 (W64 b1), .int .i64 b2, .int .u64 (W64 b3), .int .u64 (W64 b4), .int .u64 (W64 b5)]) 0 hst (fun _ h => h) rfl (fun W hS K hK => calm_load rfl rfl (load_part hS.2.1 0 [.int .i64 2, .int .u64 (W64 a1), .int .i64 a2, .int .u64 (W64 a3), .int .u64 (W64 a4), .int .u64 (W64 a5), .int .u64 (W64 b1), .int .i64 b2, .int .u64 (W64 b3), .int .u64 (W64 b4), .int .u64 (W64 b5)] rfl Try.underlying27 rfl (by kernel_rfl)) (hK.out _ (Below.refl _ _))) ?_; simp only [Act.put, List.setIfInBounds_toArray, List.set_cons_zero, List.set_cons_succ]
    refine wpU_take (v := .agg #[.int .u32 (W32 vi), .bool vu, .int .i64 vs]) 1 hst (fun _ h => h) rfl (fun W hS K hK => calm_load rfl rfl (load_part hS.2.2.1 0 [.int .u32 (W32 vi), .bool vu, .int .i64 vs] rfl Try.underlying59 rfl (by kernel_rfl)) (hK.out _ (Below.refl _ _))) ?_; simp only [Act.put, List.setIfInBounds_toArray, List.set_cons_zero, List.set_cons_succ]
    refine wpU_take (v := .agg #[.bool true, .bool bu, .int .u32 (W32 bi)]) 2 hst (fun _ h => h) rfl (fun W hS K hK => calm_load rfl rfl (load_part hS.2.2.2.1 0 [.bool true, .bool bu, .int .u32 (W32 bi)] rfl Try.underlying71 rfl (by kernel_rfl)) (hK.out _ (Below.refl _ _))) ?_; simp only [Act.put, List.setIfInBounds_toArray, List.set_cons_zero, List.set_cons_succ]
    refine wpU_take (v := ?_) 3 hst (fun _ h => h) rfl ?_ ?_; rotate_left; (intro W hS K hK; clear hS; go_simp; exact hK.out _ (Below.refl _ _)); simp only [Act.put, List.setIfInBounds_toArray, List.set_cons_zero, List.set_cons_succ]
    refine wpU_take (v := ?_) 4 hst (fun _ h => h) rfl ?_ ?_; rotate_left; (intro W hS K hK; clear hS; go_simp; refine (HV.out _).mono ?_; rintro e w9 ⟨rfl, hb⟩; refine CallPost.mk ?_; exact hK.out _ (hb)); simp only [Act.put, List.setIfInBounds_toArray, List.set_cons_zero, List.set_cons_succ]
    refine wpV_st 5 hst (fun _ h => h) #[.int .i64 2, .int .u64 (W64 a1), .int .i64 a2, .int .u64 (W64 a3), .int .u64 (W64 a4), .int .u64 (W64 a5), .int .u64 (W64 b1), .int .i64 b2, .int .u64 (W64 b3), .int .u64 (W64 b4), .int .u64 (W64 b5)] rfl rfl rfl rfl (fun W hS => hS.2.2.2.2.1) (fun W W' h hU hG => ?_) (by kernel_rfl) rfl (fun hst => ?_)
    · obtain ⟨h0_0, h0_1, h0_2, h0_3, ⟨ch0_4, ah0_4, bh0_4, h0_4⟩, ⟨ch0_5, ah0_5, bh0_5, h0_5⟩, h0_6⟩ := h
      exact ⟨hU.below h0_0 (by omega), hU.blk h0_1 (by omega), hU.blk h0_2 (by omega), hU.blk h0_3 (by omega), ⟨_, rfl, rfl, hG⟩, ⟨ch0_5, ah0_5, bh0_5, hU.blk h0_5 (by omega)⟩, hU.blk h0_6 (by omega)⟩
    refine wpV_st 6 hst (fun _ h => h.1) #[.int .u32 (W32 xi), .bool xu, .int .i64 xs] rfl rfl rfl rfl (fun W hS => hS.1.2.2.2.2.2.1) (fun W W' h hU hG => ?_) (by kernel_rfl) rfl (fun hst => ?_)
    · obtain ⟨⟨h0_0, h0_1, h0_2, h0_3, ⟨ch0_4, ah0_4, bh0_4, h0_4⟩, ⟨ch0_5, ah0_5, bh0_5, h0_5⟩, h0_6⟩, h1_0⟩ := h
      exact ⟨⟨hU.below h0_0 (by omega), hU.blk h0_1 (by omega), hU.blk h0_2 (by omega), hU.blk h0_3 (by omega), ⟨ch0_4, ah0_4, bh0_4, hU.blk h0_4 (by omega)⟩, ⟨_, rfl, rfl, hG⟩, hU.blk h0_6 (by omega)⟩, hU.blk h1_0 (by omega)⟩
    refine wpU_done (fun w_64 hS => ?_)
    obtain ⟨⟨⟨hB, G_63, G_11, G_19, -, -, G_41⟩, G_27s⟩, G_35s⟩ := hS
    clear hst
    go_wp2_with (first | (with_reducible refine stop_store ?_) | (with_reducible refine stop_box ?_) | (with_reducible refine stop_alloc ?_) | (with_reducible refine stop_bslice ?_))
    refine bodyPost_ret (results_cc rfl rfl rfl (load_blk G_27s Try.underlying27 rfl (by kernel_rfl)) (load_blk G_35s Try.underlying59 rfl (by kernel_rfl))) rfl ?_
    refine ⟨?_, hB⟩
    have er : r = (⟨2, ⟨a1, a2, a3, a4, a5⟩, ⟨b1, b2, b3, b4, b5⟩⟩, ⟨xi, xu, xs⟩) := by
       rw [← HR.out]; have hx := HX.out; simp [hearK, recvK, phaseK, nk0, hx]
    rw [er]
    rfl
set_option maxHeartbeats 2000000 in
theorem rf_Hear_u1 (a1 : BitVec 64) (a2 : Int) (a3 a4 a5 b1 : BitVec 64) (b2 : Int) (b3 b4 b5 : BitVec 64) (vi : BitVec 32) (vu : Bool) (vs : Int) (br bu : Bool) (bi : BitVec 32) (now : Int) (w : World) (h0 : 0 ≤ vs ∧ vs ≤ 1099511627776) (h1 : 0 ≤ now ∧ now ≤ 1099511627776) :
    Calls Try.prog 48 #[.agg #[.int .i64 2, .int .u64 (W64 a1), .int .i64 a2, .int .u64 (W64 a3), .int .u64 (W64 a4), .int .u64 (W64 a5), .int .u64 (W64 b1), .int .i64 b2, .int .u64 (W64 b3), .int .u64 (W64 b4), .int .u64 (W64 b5)], .agg #[.int .u32 (W32 vi), .bool vu, .int .i64 vs], .agg #[.bool br, .bool bu, .int .u32 (W32 bi)], .int .i64 1, .int .i64 now] w fun e w' => e = .returned (.tuple #[.agg (ksA (hearK ⟨2, ⟨a1, a2, a3, a4, a5⟩, ⟨b1, b2, b3, b4, b5⟩⟩ ⟨vi, vu, vs⟩ ⟨br, bu, bi⟩ 1 now).1), .agg (ivA (hearK ⟨2, ⟨a1, a2, a3, a4, a5⟩, ⟨b1, b2, b3, b4, b5⟩⟩ ⟨vi, vu, vs⟩ ⟨br, bu, bi⟩ 1 now).2)]) ∧ Below w.heap.size w w' := by
  obtain ⟨r, hr⟩ : ∃ r, hearK ⟨2, ⟨a1, a2, a3, a4, a5⟩, ⟨b1, b2, b3, b4, b5⟩⟩ ⟨vi, vu, vs⟩ ⟨br, bu, bi⟩ 1 now = r := ⟨_, rfl⟩
  rw [hr]
  have HR := Lib.hid hr
  clear hr
  have R := Lib.hid (fun W => rf_RecvB ⟨2, ⟨a1, a2, a3, a4, a5⟩, ⟨b1, b2, b3, b4, b5⟩⟩ [.int .u64 (W64 b1), .int .i64 b2, .int .u64 (W64 b3), .int .u64 (W64 b4), .int .u64 (W64 b5), .int .u64 (W64 a1), .int .i64 a2, .int .u64 (W64 a3), .int .u64 (W64 a4), .int .u64 (W64 a5)] 2 (by simp [recvK, nksL, nkA]) (by simp [recvK]) W)
  have PH2 := Lib.hid (fun W => rf_Phase ⟨2, ⟨a1, a2, a3, a4, a5⟩, ⟨b1, b2, b3, b4, b5⟩⟩ 2 W); have PH3 := Lib.hid (fun W => rf_Phase ⟨2, ⟨a1, a2, a3, a4, a5⟩, ⟨b1, b2, b3, b4, b5⟩⟩ 3 W); unfold ksA at PH2 PH3; dsimp only at PH2 PH3
  have HV := Lib.hid (fun W => rf_hearIV ⟨vi, vu, vs⟩ ⟨br, bu, bi⟩ now W h0 h1)
  unfold ksA at R
  unfold ivA beA at HV
  dsimp only at R HV
  
  clear h0 h1
  obtain ⟨⟨xi, xu, xs⟩, hx⟩ : ∃ x, hearIVK ⟨vi, vu, vs⟩ ⟨br, bu, bi⟩ now = x := ⟨_, rfl⟩
  rw [hx] at HV
  have HX := Lib.hid hx
  clear hx
  go_enter Try.func48, Try.ntmps48
  go_wp2_with (first | (with_reducible refine stop_store ?_) | (with_reducible refine stop_box ?_) | (with_reducible refine stop_alloc ?_) | (with_reducible refine stop_bslice ?_))
  unfold Kept
  refine go_mem (ty := 27) (cs := #[.int .i64 2, .int .u64 (W64 a1), .int .i64 a2, .int .u64 (W64 a3), .int .u64 (W64 a4), .int .u64 (W64 a5), .int .u64 (W64 b1), .int .i64 b2, .int .u64 (W64 b3), .int .u64 (W64 b4), .int .u64 (W64 b5)]) (fun g => .pointer (some ⟨g, 0, none⟩)) rfl (by kernel_rfl) ?_
  intro g_1 w_2 z_6 l_5 hb_3 G_4
  have n_7 : w.heap.size ≤ g_1 := l_5
  have hB := hb_3
  clear hb_3 l_5 z_6
  go_wp2_with (first | (with_reducible refine stop_store ?_) | (with_reducible refine stop_box ?_) | (with_reducible refine stop_alloc ?_) | (with_reducible refine stop_bslice ?_))
  unfold Kept
  refine go_mem (ty := 59) (cs := #[.int .u32 (W32 vi), .bool vu, .int .i64 vs]) (fun g => .pointer (some ⟨g, 0, none⟩)) rfl (by kernel_rfl) ?_
  intro g_8 w_9 z_13 l_12 hb_10 G_11
  have n_14 : g_1 < g_8 := Nat.lt_of_lt_of_le G_4.lt l_12
  have n_15 : w.heap.size ≤ g_8 := Nat.le_trans hB.size l_12
  replace G_4 := G_4.to hb_10 G_4.lt
  replace hB := hB.trans (hb_10.mono hB.size)
  clear hb_10 l_12 z_13
  go_wp2_with (first | (with_reducible refine stop_store ?_) | (with_reducible refine stop_box ?_) | (with_reducible refine stop_alloc ?_) | (with_reducible refine stop_bslice ?_))
  unfold Kept
  refine go_mem (ty := 71) (cs := #[.bool br, .bool bu, .int .u32 (W32 bi)]) (fun g => .pointer (some ⟨g, 0, none⟩)) rfl (by kernel_rfl) ?_
  intro g_16 w_17 z_21 l_20 hb_18 G_19
  have n_22 : g_8 < g_16 := Nat.lt_of_lt_of_le G_11.lt l_20
  have n_23 : w.heap.size ≤ g_16 := Nat.le_trans hB.size l_20
  replace G_4 := G_4.to hb_18 G_4.lt
  replace G_11 := G_11.to hb_18 G_11.lt
  replace hB := hB.trans (hb_18.mono hB.size)
  clear hb_18 l_20 z_21
  go_wp2_with (first | (with_reducible refine stop_store ?_) | (with_reducible refine stop_box ?_) | (with_reducible refine stop_alloc ?_) | (with_reducible refine stop_bslice ?_))
  unfold Kept
  refine go_mem (ty := 27) (cs := #[.int .i64 0, .int .u64 0, .int .i64 0, .int .u64 0, .int .u64 0, .int .u64 0, .int .u64 0, .int .i64 0, .int .u64 0, .int .u64 0, .int .u64 0]) (fun g => .pointer (some ⟨g, 0, none⟩)) rfl (by kernel_rfl) ?_
  intro g_24 w_25 z_29 l_28 hb_26 G_27
  have n_30 : g_16 < g_24 := Nat.lt_of_lt_of_le G_19.lt l_28
  have n_31 : w.heap.size ≤ g_24 := Nat.le_trans hB.size l_28
  replace G_4 := G_4.to hb_26 G_4.lt
  replace G_11 := G_11.to hb_26 G_11.lt
  replace G_19 := G_19.to hb_26 G_19.lt
  replace hB := hB.trans (hb_26.mono hB.size)
  clear hb_26 l_28 z_29
  go_wp2_with (first | (with_reducible refine stop_store ?_) | (with_reducible refine stop_box ?_) | (with_reducible refine stop_alloc ?_) | (with_reducible refine stop_bslice ?_))
  unfold Kept
  refine go_mem (ty := 59) (cs := #[.int .u32 0, .bool false, .int .i64 0]) (fun g => .pointer (some ⟨g, 0, none⟩)) rfl (by kernel_rfl) ?_
  intro g_32 w_33 z_37 l_36 hb_34 G_35
  have n_38 : g_24 < g_32 := Nat.lt_of_lt_of_le G_27.lt l_36
  have n_39 : w.heap.size ≤ g_32 := Nat.le_trans hB.size l_36
  replace G_4 := G_4.to hb_34 G_4.lt
  replace G_11 := G_11.to hb_34 G_11.lt
  replace G_19 := G_19.to hb_34 G_19.lt
  replace G_27 := G_27.to hb_34 G_27.lt
  replace hB := hB.trans (hb_34.mono hB.size)
  clear hb_34 l_36 z_37
  go_wp2_with (first | (with_reducible refine stop_store ?_) | (with_reducible refine stop_box ?_) | (with_reducible refine stop_alloc ?_) | (with_reducible refine stop_bslice ?_) | ((with_reducible refine wpList_ld 0 [.int .i64 2, .int .u64 (W64 a1), .int .i64 a2, .int .u64 (W64 a3), .int .u64 (W64 a4), .int .u64 (W64 a5), .int .u64 (W64 b1), .int .i64 b2, .int .u64 (W64 b3), .int .u64 (W64 b4), .int .u64 (W64 b5)] G_4 ?_ ?_ Try.underlying27 ?_ ?_ ?_); rfl; rfl; rfl; kernel_rfl))
  refine (R.out _).mono ?_; rintro e w_45 ⟨g_40, l_42, rfl, G_41, hb_46⟩
  have n_43 : g_32 < g_40 := Nat.lt_of_lt_of_le G_35.lt l_42
  clear l_42
  replace G_4 := G_4.to hb_46 G_4.lt
  replace G_11 := G_11.to hb_46 G_11.lt
  replace G_19 := G_19.to hb_46 G_19.lt
  replace G_27 := G_27.to hb_46 G_27.lt
  replace G_35 := G_35.to hb_46 G_35.lt
  replace hB := hB.trans (hb_46.mono hB.size)
  clear hb_46
  by_cases hc_47 : (⟨a1, a2, a3, a4, a5⟩ : NK) = ⟨b1, b2, b3, b4, b5⟩
  ·
    have ec_47 : ((W64 a1 == W64 b1 && (a2 == b2 && (W64 a3 == W64 b3 && (W64 a4 == W64 b4 && (W64 a5 == W64 b5)))))) = true := by injection hc_47 with i1 i2 i3 i4 i5; subst i1 i2 i3 i4 i5; simp
    have kc_47 := Lib.hid hc_47
    clear hc_47
    go_wp2_with (first | (with_reducible refine stop_store ?_) | (with_reducible refine stop_box ?_) | (with_reducible refine stop_alloc ?_) | (with_reducible refine stop_bslice ?_))
    have hst : Stable fun W => Below w.heap.size w W ∧ Blk W g_1 27 #[.int .i64 2, .int .u64 (W64 a1), .int .i64 a2, .int .u64 (W64 a3), .int .u64 (W64 a4), .int .u64 (W64 a5), .int .u64 (W64 b1), .int .i64 b2, .int .u64 (W64 b3), .int .u64 (W64 b4), .int .u64 (W64 b5)] ∧ Blk W g_8 59 #[.int .u32 (W32 vi), .bool vu, .int .i64 vs] ∧ Blk W g_16 71 #[.bool br, .bool bu, .int .u32 (W32 bi)] ∧ Blk W g_24 27 #[.int .i64 0, .int .u64 0, .int .i64 0, .int .u64 0, .int .u64 0, .int .u64 0, .int .u64 0, .int .i64 0, .int .u64 0, .int .u64 0, .int .u64 0] ∧ Blk W g_32 59 #[.int .u32 0, .bool false, .int .i64 0] ∧ Blk W g_40 25 #[.int .u64 (W64 b1), .int .i64 b2, .int .u64 (W64 b3), .int .u64 (W64 b4), .int .u64 (W64 b5), .int .u64 (W64 a1), .int .i64 a2, .int .u64 (W64 a3), .int .u64 (W64 a4), .int .u64 (W64 a5)] := stable_and (stable_below _ _ (Nat.le_refl _)) (stable_and (stable_blk _ _ _) (stable_and (stable_blk _ _ _) (stable_and (stable_blk _ _ _) (stable_and (stable_blk _ _ _) (stable_and (stable_blk _ _ _) (stable_blk _ _ _))))))
    refine wp_region_v _ 12 hst ⟨hB.drew, G_4, G_11, G_19, G_27, G_35, G_41⟩ ?_
    clear hB G_4 G_11 G_19 G_27 G_35 G_41
    refine wpU_take (v := ?_) 0 hst (fun _ h => h) rfl ?_ ?_; rotate_left; (intro W hS K hK; clear hS; go_simp; exact hK.out _ (Below.refl _ _)); simp only [Act.put, List.setIfInBounds_toArray, List.set_cons_zero, List.set_cons_succ]
    refine wpU_take (v := ?_) 1 hst (fun _ h => h) rfl ?_ ?_; rotate_left; (intro W hS K hK; clear hS; go_simp; exact hK.out _ (Below.refl _ _)); simp only [Act.put, List.setIfInBounds_toArray, List.set_cons_zero, List.set_cons_succ]
    refine wpU_take (v := ?_) 2 hst (fun _ h => h) rfl ?_ ?_; rotate_left; (intro W hS K hK; clear hS; go_simp; exact hK.out _ (Below.refl _ _)); simp only [Act.put, List.setIfInBounds_toArray, List.set_cons_zero, List.set_cons_succ]
    refine wpU_take (v := ?_) 3 hst (fun _ h => h) rfl ?_ ?_; rotate_left; (intro W hS K hK; clear hS; go_simp; exact hK.out _ (Below.refl _ _)); simp only [Act.put, List.setIfInBounds_toArray, List.set_cons_zero, List.set_cons_succ]
    refine wpU_take (v := ?_) 4 hst (fun _ h => h) rfl ?_ ?_; rotate_left; (intro W hS K hK; clear hS; go_simp; exact hK.out _ (Below.refl _ _)); simp only [Act.put, List.setIfInBounds_toArray, List.set_cons_zero, List.set_cons_succ]
    refine wpU_take (v := ?_) 5 hst (fun _ h => h) rfl ?_ ?_; rotate_left; (intro W hS K hK; clear hS; go_simp; exact hK.out _ (Below.refl _ _)); simp only [Act.put, List.setIfInBounds_toArray, List.set_cons_zero, List.set_cons_succ]
    refine wpU_take (v := ?_) 6 hst (fun _ h => h) rfl ?_ ?_; rotate_left; (intro W hS K hK; clear hS; go_simp; exact hK.out _ (Below.refl _ _)); simp only [Act.put, List.setIfInBounds_toArray, List.set_cons_zero, List.set_cons_succ]
    refine wpU_take (v := .agg #[.int .u64 (W64 a1), .int .i64 a2, .int .u64 (W64 a3), .int .u64 (W64 a4), .int .u64 (W64 a5)]) 7 hst (fun _ h => h) rfl (fun W hS K hK => calm_load rfl rfl (load_part hS.2.2.2.2.2.2 5 [.int .u64 (W64 a1), .int .i64 a2, .int .u64 (W64 a3), .int .u64 (W64 a4), .int .u64 (W64 a5)] rfl Try.underlying25 rfl (by kernel_rfl)) (hK.out _ (Below.refl _ _))) ?_; simp only [Act.put, List.setIfInBounds_toArray, List.set_cons_zero, List.set_cons_succ]
    refine wpU_take (v := ?_) 8 hst (fun _ h => h) rfl ?_ ?_; rotate_left; (intro W hS K hK; clear hS; go_simp; exact hK.out _ (Below.refl _ _)); simp only [Act.put, List.setIfInBounds_toArray, List.set_cons_zero, List.set_cons_succ]
    refine wpU_take (v := .agg #[.int .u64 (W64 b1), .int .i64 b2, .int .u64 (W64 b3), .int .u64 (W64 b4), .int .u64 (W64 b5)]) 9 hst (fun _ h => h) rfl (fun W hS K hK => calm_load rfl rfl (load_part hS.2.1 6 [.int .u64 (W64 b1), .int .i64 b2, .int .u64 (W64 b3), .int .u64 (W64 b4), .int .u64 (W64 b5)] rfl Try.underlying25 rfl (by kernel_rfl)) (hK.out _ (Below.refl _ _))) ?_; simp only [Act.put, List.setIfInBounds_toArray, List.set_cons_zero, List.set_cons_succ]
    refine wpU_take (v := ?_) 10 hst (fun _ h => h) rfl ?_ ?_; rotate_left; (intro W hS K hK; clear hS; go_simp; exact hK.out _ (Below.refl _ _)); simp only [Act.put, List.setIfInBounds_toArray, List.set_cons_zero, List.set_cons_succ]
    refine wpU_take (v := ?_) 11 hst (fun _ h => h) rfl ?_ ?_; rotate_left; (intro W hS K hK; clear hS; go_simp; exact hK.out _ (Below.refl _ _)); simp only [Act.put, List.setIfInBounds_toArray, List.set_cons_zero, List.set_cons_succ]
    refine wpU_done (fun w_48 hS => ?_)
    obtain ⟨hB, G_4, G_11, G_19, G_27, G_35, G_41⟩ := hS
    clear hst
    cases br
    case false =>
      skip
      have ld_50 : w_48.cell? ⟨g_16, 0, none⟩ = some (.bool false) := G_19.cell 0
      go_wp2_with (first | (with_reducible refine stop_store ?_) | (with_reducible refine stop_box ?_) | (with_reducible refine stop_alloc ?_) | (with_reducible refine stop_bslice ?_) | ((with_reducible refine wpList_ld 0 [.int .i64 2, .int .u64 (W64 a1), .int .i64 a2, .int .u64 (W64 a3), .int .u64 (W64 a4), .int .u64 (W64 a5), .int .u64 (W64 b1), .int .i64 b2, .int .u64 (W64 b3), .int .u64 (W64 b4), .int .u64 (W64 b5)] G_4 ?_ ?_ Try.underlying27 ?_ ?_ ?_); rfl; rfl; rfl; kernel_rfl))
      refine (PH3.out _).mono ?_; rintro e w_52 ⟨rfl, hb_53⟩
      clear ld_50
      replace G_4 := G_4.to hb_53 G_4.lt
      replace G_11 := G_11.to hb_53 G_11.lt
      replace G_19 := G_19.to hb_53 G_19.lt
      replace G_27 := G_27.to hb_53 G_27.lt
      replace G_35 := G_35.to hb_53 G_35.lt
      replace G_41 := G_41.to hb_53 G_41.lt
      replace hB := hB.trans (hb_53.mono hB.size)
      clear hb_53
      go_wp2_with (first | (with_reducible refine stop_store ?_) | (with_reducible refine stop_box ?_) | (with_reducible refine stop_alloc ?_) | (with_reducible refine stop_bslice ?_))
      unfold Kept
      refine wpList_st 0 #[.int .i64 0, .int .u64 (W64 b1), .int .i64 b2, .int .u64 (W64 b3), .int .u64 (W64 b4), .int .u64 (W64 b5), .int .u64 0, .int .i64 0, .int .u64 0, .int .u64 0, .int .u64 0] #[.int .i64 0, .int .u64 (W64 b1), .int .i64 b2, .int .u64 (W64 b3), .int .u64 (W64 b4), .int .u64 (W64 b5), .int .u64 0, .int .i64 0, .int .u64 0, .int .u64 0, .int .u64 0] G_4 rfl rfl (by kernel_rfl) rfl (of_decide_eq_true rfl) rfl ?_
      intro w_54 G_56 hU_55
      replace G_11 := hU_55.blk G_11 (by omega)
      replace G_19 := hU_55.blk G_19 (by omega)
      replace G_27 := hU_55.blk G_27 (by omega)
      replace G_35 := hU_55.blk G_35 (by omega)
      replace G_41 := hU_55.blk G_41 (by omega)
      replace hB := hU_55.below hB (by omega)
      clear G_4 hU_55
      go_wp2_with (first | (with_reducible refine stop_store ?_) | (with_reducible refine stop_box ?_) | (with_reducible refine stop_alloc ?_) | (with_reducible refine stop_bslice ?_))
      have hst : Stable fun W => Below w.heap.size w W ∧ Blk W g_1 27 #[.int .i64 0, .int .u64 (W64 b1), .int .i64 b2, .int .u64 (W64 b3), .int .u64 (W64 b4), .int .u64 (W64 b5), .int .u64 0, .int .i64 0, .int .u64 0, .int .u64 0, .int .u64 0] ∧ Blk W g_8 59 #[.int .u32 (W32 vi), .bool vu, .int .i64 vs] ∧ Blk W g_16 71 #[.bool false, .bool bu, .int .u32 (W32 bi)] ∧ Room g_24 27 11 W ∧ Room g_32 59 3 W ∧ Blk W g_40 25 #[.int .u64 (W64 b1), .int .i64 b2, .int .u64 (W64 b3), .int .u64 (W64 b4), .int .u64 (W64 b5), .int .u64 (W64 a1), .int .i64 a2, .int .u64 (W64 a3), .int .u64 (W64 a4), .int .u64 (W64 a5)] := stable_and (stable_below _ _ (Nat.le_refl _)) (stable_and (stable_blk _ _ _) (stable_and (stable_blk _ _ _) (stable_and (stable_blk _ _ _) (stable_and (stable_room _ _ _) (stable_and (stable_room _ _ _) (stable_blk _ _ _))))))
      refine wp_region_v _ 7 hst ⟨hB.drew, G_56, G_11, G_19, ⟨_, rfl, rfl, G_27⟩, ⟨_, rfl, rfl, G_35⟩, G_41⟩ ?_
      clear hB G_56 G_11 G_19 G_27 G_35 G_41
      refine wpU_take (v := .agg #[.int .i64 0, .int .u64 (W64 b1), .int .i64 b2, .int .u64 (W64 b3), .int .u64 (W64 b4), .int .u64 (W64 b5), .int .u64 0, .int .i64 0, .int .u64 0, .int .u64 0, .int .u64 0]) 0 hst (fun _ h => h) rfl (fun W hS K hK => calm_load rfl rfl (load_part hS.2.1 0 [.int .i64 0, .int .u64 (W64 b1), .int .i64 b2, .int .u64 (W64 b3), .int .u64 (W64 b4), .int .u64 (W64 b5), .int .u64 0, .int .i64 0, .int .u64 0, .int .u64 0, .int .u64 0] rfl Try.underlying27 rfl (by kernel_rfl)) (hK.out _ (Below.refl _ _))) ?_; simp only [Act.put, List.setIfInBounds_toArray, List.set_cons_zero, List.set_cons_succ]
      refine wpU_take (v := .agg #[.int .u32 (W32 vi), .bool vu, .int .i64 vs]) 1 hst (fun _ h => h) rfl (fun W hS K hK => calm_load rfl rfl (load_part hS.2.2.1 0 [.int .u32 (W32 vi), .bool vu, .int .i64 vs] rfl Try.underlying59 rfl (by kernel_rfl)) (hK.out _ (Below.refl _ _))) ?_; simp only [Act.put, List.setIfInBounds_toArray, List.set_cons_zero, List.set_cons_succ]
      refine wpU_take (v := .agg #[.bool false, .bool bu, .int .u32 (W32 bi)]) 2 hst (fun _ h => h) rfl (fun W hS K hK => calm_load rfl rfl (load_part hS.2.2.2.1 0 [.bool false, .bool bu, .int .u32 (W32 bi)] rfl Try.underlying71 rfl (by kernel_rfl)) (hK.out _ (Below.refl _ _))) ?_; simp only [Act.put, List.setIfInBounds_toArray, List.set_cons_zero, List.set_cons_succ]
      refine wpU_take (v := ?_) 3 hst (fun _ h => h) rfl ?_ ?_; rotate_left; (intro W hS K hK; clear hS; go_simp; exact hK.out _ (Below.refl _ _)); simp only [Act.put, List.setIfInBounds_toArray, List.set_cons_zero, List.set_cons_succ]
      refine wpU_take (v := ?_) 4 hst (fun _ h => h) rfl ?_ ?_; rotate_left; (intro W hS K hK; clear hS; go_simp; refine (HV.out _).mono ?_; rintro e w9 ⟨rfl, hb⟩; refine CallPost.mk ?_; exact hK.out _ (hb)); simp only [Act.put, List.setIfInBounds_toArray, List.set_cons_zero, List.set_cons_succ]
      refine wpV_st 5 hst (fun _ h => h) #[.int .i64 0, .int .u64 (W64 b1), .int .i64 b2, .int .u64 (W64 b3), .int .u64 (W64 b4), .int .u64 (W64 b5), .int .u64 0, .int .i64 0, .int .u64 0, .int .u64 0, .int .u64 0] rfl rfl rfl rfl (fun W hS => hS.2.2.2.2.1) (fun W W' h hU hG => ?_) (by kernel_rfl) rfl (fun hst => ?_)
      · obtain ⟨h0_0, h0_1, h0_2, h0_3, ⟨ch0_4, ah0_4, bh0_4, h0_4⟩, ⟨ch0_5, ah0_5, bh0_5, h0_5⟩, h0_6⟩ := h
        exact ⟨hU.below h0_0 (by omega), hU.blk h0_1 (by omega), hU.blk h0_2 (by omega), hU.blk h0_3 (by omega), ⟨_, rfl, rfl, hG⟩, ⟨ch0_5, ah0_5, bh0_5, hU.blk h0_5 (by omega)⟩, hU.blk h0_6 (by omega)⟩
      refine wpV_st 6 hst (fun _ h => h.1) #[.int .u32 (W32 xi), .bool xu, .int .i64 xs] rfl rfl rfl rfl (fun W hS => hS.1.2.2.2.2.2.1) (fun W W' h hU hG => ?_) (by kernel_rfl) rfl (fun hst => ?_)
      · obtain ⟨⟨h0_0, h0_1, h0_2, h0_3, ⟨ch0_4, ah0_4, bh0_4, h0_4⟩, ⟨ch0_5, ah0_5, bh0_5, h0_5⟩, h0_6⟩, h1_0⟩ := h
        exact ⟨⟨hU.below h0_0 (by omega), hU.blk h0_1 (by omega), hU.blk h0_2 (by omega), hU.blk h0_3 (by omega), ⟨ch0_4, ah0_4, bh0_4, hU.blk h0_4 (by omega)⟩, ⟨_, rfl, rfl, hG⟩, hU.blk h0_6 (by omega)⟩, hU.blk h1_0 (by omega)⟩
      refine wpU_done (fun w_57 hS => ?_)
      obtain ⟨⟨⟨hB, G_56, G_11, G_19, -, -, G_41⟩, G_27s⟩, G_35s⟩ := hS
      clear hst
      go_wp2_with (first | (with_reducible refine stop_store ?_) | (with_reducible refine stop_box ?_) | (with_reducible refine stop_alloc ?_) | (with_reducible refine stop_bslice ?_))
      refine bodyPost_ret (results_cc rfl rfl rfl (load_blk G_27s Try.underlying27 rfl (by kernel_rfl)) (load_blk G_35s Try.underlying59 rfl (by kernel_rfl))) rfl ?_
      refine ⟨?_, hB⟩
      have er : r = (⟨0, ⟨b1, b2, b3, b4, b5⟩, ⟨0#64, 0, 0#64, 0#64, 0#64⟩⟩, ⟨xi, xu, xs⟩) := by
        have q0 := kc_47.out; rw [← HR.out]; have hx := HX.out; simp [hearK, recvK, phaseK, nk0, hx, q0]
      rw [er]
      rfl
    case true =>
      skip
      have ld_58 : w_48.cell? ⟨g_16, 0, none⟩ = some (.bool true) := G_19.cell 0
      go_wp2_with (first | (with_reducible refine stop_store ?_) | (with_reducible refine stop_box ?_) | (with_reducible refine stop_alloc ?_) | (with_reducible refine stop_bslice ?_) | ((with_reducible refine wpList_ld 0 [.int .i64 2, .int .u64 (W64 a1), .int .i64 a2, .int .u64 (W64 a3), .int .u64 (W64 a4), .int .u64 (W64 a5), .int .u64 (W64 b1), .int .i64 b2, .int .u64 (W64 b3), .int .u64 (W64 b4), .int .u64 (W64 b5)] G_4 ?_ ?_ Try.underlying27 ?_ ?_ ?_); rfl; rfl; rfl; kernel_rfl))
      refine (PH2.out _).mono ?_; rintro e w_60 ⟨rfl, hb_61⟩
      clear ld_58
      replace G_4 := G_4.to hb_61 G_4.lt
      replace G_11 := G_11.to hb_61 G_11.lt
      replace G_19 := G_19.to hb_61 G_19.lt
      replace G_27 := G_27.to hb_61 G_27.lt
      replace G_35 := G_35.to hb_61 G_35.lt
      replace G_41 := G_41.to hb_61 G_41.lt
      replace hB := hB.trans (hb_61.mono hB.size)
      clear hb_61
      go_wp2_with (first | (with_reducible refine stop_store ?_) | (with_reducible refine stop_box ?_) | (with_reducible refine stop_alloc ?_) | (with_reducible refine stop_bslice ?_))
      unfold Kept
      refine wpList_st 0 #[.int .i64 2, .int .u64 (W64 a1), .int .i64 a2, .int .u64 (W64 a3), .int .u64 (W64 a4), .int .u64 (W64 a5), .int .u64 (W64 b1), .int .i64 b2, .int .u64 (W64 b3), .int .u64 (W64 b4), .int .u64 (W64 b5)] #[.int .i64 2, .int .u64 (W64 a1), .int .i64 a2, .int .u64 (W64 a3), .int .u64 (W64 a4), .int .u64 (W64 a5), .int .u64 (W64 b1), .int .i64 b2, .int .u64 (W64 b3), .int .u64 (W64 b4), .int .u64 (W64 b5)] G_4 rfl rfl (by kernel_rfl) rfl (of_decide_eq_true rfl) rfl ?_
      intro w_62 G_64 hU_63
      replace G_11 := hU_63.blk G_11 (by omega)
      replace G_19 := hU_63.blk G_19 (by omega)
      replace G_27 := hU_63.blk G_27 (by omega)
      replace G_35 := hU_63.blk G_35 (by omega)
      replace G_41 := hU_63.blk G_41 (by omega)
      replace hB := hU_63.below hB (by omega)
      clear G_4 hU_63
      go_wp2_with (first | (with_reducible refine stop_store ?_) | (with_reducible refine stop_box ?_) | (with_reducible refine stop_alloc ?_) | (with_reducible refine stop_bslice ?_))
      have hst : Stable fun W => Below w.heap.size w W ∧ Blk W g_1 27 #[.int .i64 2, .int .u64 (W64 a1), .int .i64 a2, .int .u64 (W64 a3), .int .u64 (W64 a4), .int .u64 (W64 a5), .int .u64 (W64 b1), .int .i64 b2, .int .u64 (W64 b3), .int .u64 (W64 b4), .int .u64 (W64 b5)] ∧ Blk W g_8 59 #[.int .u32 (W32 vi), .bool vu, .int .i64 vs] ∧ Blk W g_16 71 #[.bool true, .bool bu, .int .u32 (W32 bi)] ∧ Room g_24 27 11 W ∧ Room g_32 59 3 W ∧ Blk W g_40 25 #[.int .u64 (W64 b1), .int .i64 b2, .int .u64 (W64 b3), .int .u64 (W64 b4), .int .u64 (W64 b5), .int .u64 (W64 a1), .int .i64 a2, .int .u64 (W64 a3), .int .u64 (W64 a4), .int .u64 (W64 a5)] := stable_and (stable_below _ _ (Nat.le_refl _)) (stable_and (stable_blk _ _ _) (stable_and (stable_blk _ _ _) (stable_and (stable_blk _ _ _) (stable_and (stable_room _ _ _) (stable_and (stable_room _ _ _) (stable_blk _ _ _))))))
      refine wp_region_v _ 7 hst ⟨hB.drew, G_64, G_11, G_19, ⟨_, rfl, rfl, G_27⟩, ⟨_, rfl, rfl, G_35⟩, G_41⟩ ?_
      clear hB G_64 G_11 G_19 G_27 G_35 G_41
      refine wpU_take (v := .agg #[.int .i64 2, .int .u64 (W64 a1), .int .i64 a2, .int .u64 (W64 a3), .int .u64 (W64 a4), .int .u64 (W64 a5), .int .u64 (W64 b1), .int .i64 b2, .int .u64 (W64 b3), .int .u64 (W64 b4), .int .u64 (W64 b5)]) 0 hst (fun _ h => h) rfl (fun W hS K hK => calm_load rfl rfl (load_part hS.2.1 0 [.int .i64 2, .int .u64 (W64 a1), .int .i64 a2, .int .u64 (W64 a3), .int .u64 (W64 a4), .int .u64 (W64 a5), .int .u64 (W64 b1), .int .i64 b2, .int .u64 (W64 b3), .int .u64 (W64 b4), .int .u64 (W64 b5)] rfl Try.underlying27 rfl (by kernel_rfl)) (hK.out _ (Below.refl _ _))) ?_; simp only [Act.put, List.setIfInBounds_toArray, List.set_cons_zero, List.set_cons_succ]
      refine wpU_take (v := .agg #[.int .u32 (W32 vi), .bool vu, .int .i64 vs]) 1 hst (fun _ h => h) rfl (fun W hS K hK => calm_load rfl rfl (load_part hS.2.2.1 0 [.int .u32 (W32 vi), .bool vu, .int .i64 vs] rfl Try.underlying59 rfl (by kernel_rfl)) (hK.out _ (Below.refl _ _))) ?_; simp only [Act.put, List.setIfInBounds_toArray, List.set_cons_zero, List.set_cons_succ]
      refine wpU_take (v := .agg #[.bool true, .bool bu, .int .u32 (W32 bi)]) 2 hst (fun _ h => h) rfl (fun W hS K hK => calm_load rfl rfl (load_part hS.2.2.2.1 0 [.bool true, .bool bu, .int .u32 (W32 bi)] rfl Try.underlying71 rfl (by kernel_rfl)) (hK.out _ (Below.refl _ _))) ?_; simp only [Act.put, List.setIfInBounds_toArray, List.set_cons_zero, List.set_cons_succ]
      refine wpU_take (v := ?_) 3 hst (fun _ h => h) rfl ?_ ?_; rotate_left; (intro W hS K hK; clear hS; go_simp; exact hK.out _ (Below.refl _ _)); simp only [Act.put, List.setIfInBounds_toArray, List.set_cons_zero, List.set_cons_succ]
      refine wpU_take (v := ?_) 4 hst (fun _ h => h) rfl ?_ ?_; rotate_left; (intro W hS K hK; clear hS; go_simp; refine (HV.out _).mono ?_; rintro e w9 ⟨rfl, hb⟩; refine CallPost.mk ?_; exact hK.out _ (hb)); simp only [Act.put, List.setIfInBounds_toArray, List.set_cons_zero, List.set_cons_succ]
      refine wpV_st 5 hst (fun _ h => h) #[.int .i64 2, .int .u64 (W64 a1), .int .i64 a2, .int .u64 (W64 a3), .int .u64 (W64 a4), .int .u64 (W64 a5), .int .u64 (W64 b1), .int .i64 b2, .int .u64 (W64 b3), .int .u64 (W64 b4), .int .u64 (W64 b5)] rfl rfl rfl rfl (fun W hS => hS.2.2.2.2.1) (fun W W' h hU hG => ?_) (by kernel_rfl) rfl (fun hst => ?_)
      · obtain ⟨h0_0, h0_1, h0_2, h0_3, ⟨ch0_4, ah0_4, bh0_4, h0_4⟩, ⟨ch0_5, ah0_5, bh0_5, h0_5⟩, h0_6⟩ := h
        exact ⟨hU.below h0_0 (by omega), hU.blk h0_1 (by omega), hU.blk h0_2 (by omega), hU.blk h0_3 (by omega), ⟨_, rfl, rfl, hG⟩, ⟨ch0_5, ah0_5, bh0_5, hU.blk h0_5 (by omega)⟩, hU.blk h0_6 (by omega)⟩
      refine wpV_st 6 hst (fun _ h => h.1) #[.int .u32 (W32 xi), .bool xu, .int .i64 xs] rfl rfl rfl rfl (fun W hS => hS.1.2.2.2.2.2.1) (fun W W' h hU hG => ?_) (by kernel_rfl) rfl (fun hst => ?_)
      · obtain ⟨⟨h0_0, h0_1, h0_2, h0_3, ⟨ch0_4, ah0_4, bh0_4, h0_4⟩, ⟨ch0_5, ah0_5, bh0_5, h0_5⟩, h0_6⟩, h1_0⟩ := h
        exact ⟨⟨hU.below h0_0 (by omega), hU.blk h0_1 (by omega), hU.blk h0_2 (by omega), hU.blk h0_3 (by omega), ⟨ch0_4, ah0_4, bh0_4, hU.blk h0_4 (by omega)⟩, ⟨_, rfl, rfl, hG⟩, hU.blk h0_6 (by omega)⟩, hU.blk h1_0 (by omega)⟩
      refine wpU_done (fun w_65 hS => ?_)
      obtain ⟨⟨⟨hB, G_64, G_11, G_19, -, -, G_41⟩, G_27s⟩, G_35s⟩ := hS
      clear hst
      go_wp2_with (first | (with_reducible refine stop_store ?_) | (with_reducible refine stop_box ?_) | (with_reducible refine stop_alloc ?_) | (with_reducible refine stop_bslice ?_))
      refine bodyPost_ret (results_cc rfl rfl rfl (load_blk G_27s Try.underlying27 rfl (by kernel_rfl)) (load_blk G_35s Try.underlying59 rfl (by kernel_rfl))) rfl ?_
      refine ⟨?_, hB⟩
      have er : r = (⟨2, ⟨a1, a2, a3, a4, a5⟩, ⟨b1, b2, b3, b4, b5⟩⟩, ⟨xi, xu, xs⟩) := by
        have q0 := kc_47.out; rw [← HR.out]; have hx := HX.out; simp [hearK, recvK, phaseK, nk0, hx, q0]
      rw [er]
      rfl
  ·
    have ec_47 : ((W64 a1 == W64 b1 && (a2 == b2 && (W64 a3 == W64 b3 && (W64 a4 == W64 b4 && (W64 a5 == W64 b5)))))) = false := by rw [Bool.eq_false_iff]; intro hh; apply hc_47; simp only [Bool.and_eq_true, beq_iff_eq, W64_eq] at hh; obtain ⟨i1, i2, i3, i4, i5⟩ := hh; rw [i1, i2, i3, i4, i5]
    have kc_47 := Lib.hid hc_47
    clear hc_47
    go_wp2_with (first | (with_reducible refine stop_store ?_) | (with_reducible refine stop_box ?_) | (with_reducible refine stop_alloc ?_) | (with_reducible refine stop_bslice ?_))
    have hst : Stable fun W => Below w.heap.size w W ∧ Blk W g_1 27 #[.int .i64 2, .int .u64 (W64 a1), .int .i64 a2, .int .u64 (W64 a3), .int .u64 (W64 a4), .int .u64 (W64 a5), .int .u64 (W64 b1), .int .i64 b2, .int .u64 (W64 b3), .int .u64 (W64 b4), .int .u64 (W64 b5)] ∧ Blk W g_8 59 #[.int .u32 (W32 vi), .bool vu, .int .i64 vs] ∧ Blk W g_16 71 #[.bool br, .bool bu, .int .u32 (W32 bi)] ∧ Blk W g_24 27 #[.int .i64 0, .int .u64 0, .int .i64 0, .int .u64 0, .int .u64 0, .int .u64 0, .int .u64 0, .int .i64 0, .int .u64 0, .int .u64 0, .int .u64 0] ∧ Blk W g_32 59 #[.int .u32 0, .bool false, .int .i64 0] ∧ Blk W g_40 25 #[.int .u64 (W64 b1), .int .i64 b2, .int .u64 (W64 b3), .int .u64 (W64 b4), .int .u64 (W64 b5), .int .u64 (W64 a1), .int .i64 a2, .int .u64 (W64 a3), .int .u64 (W64 a4), .int .u64 (W64 a5)] := stable_and (stable_below _ _ (Nat.le_refl _)) (stable_and (stable_blk _ _ _) (stable_and (stable_blk _ _ _) (stable_and (stable_blk _ _ _) (stable_and (stable_blk _ _ _) (stable_and (stable_blk _ _ _) (stable_blk _ _ _))))))
    refine wp_region_v _ 12 hst ⟨hB.drew, G_4, G_11, G_19, G_27, G_35, G_41⟩ ?_
    clear hB G_4 G_11 G_19 G_27 G_35 G_41
    refine wpU_take (v := ?_) 0 hst (fun _ h => h) rfl ?_ ?_; rotate_left; (intro W hS K hK; clear hS; go_simp; exact hK.out _ (Below.refl _ _)); simp only [Act.put, List.setIfInBounds_toArray, List.set_cons_zero, List.set_cons_succ]
    refine wpU_take (v := ?_) 1 hst (fun _ h => h) rfl ?_ ?_; rotate_left; (intro W hS K hK; clear hS; go_simp; exact hK.out _ (Below.refl _ _)); simp only [Act.put, List.setIfInBounds_toArray, List.set_cons_zero, List.set_cons_succ]
    refine wpU_take (v := ?_) 2 hst (fun _ h => h) rfl ?_ ?_; rotate_left; (intro W hS K hK; clear hS; go_simp; exact hK.out _ (Below.refl _ _)); simp only [Act.put, List.setIfInBounds_toArray, List.set_cons_zero, List.set_cons_succ]
    refine wpU_take (v := ?_) 3 hst (fun _ h => h) rfl ?_ ?_; rotate_left; (intro W hS K hK; clear hS; go_simp; exact hK.out _ (Below.refl _ _)); simp only [Act.put, List.setIfInBounds_toArray, List.set_cons_zero, List.set_cons_succ]
    refine wpU_take (v := ?_) 4 hst (fun _ h => h) rfl ?_ ?_; rotate_left; (intro W hS K hK; clear hS; go_simp; exact hK.out _ (Below.refl _ _)); simp only [Act.put, List.setIfInBounds_toArray, List.set_cons_zero, List.set_cons_succ]
    refine wpU_take (v := ?_) 5 hst (fun _ h => h) rfl ?_ ?_; rotate_left; (intro W hS K hK; clear hS; go_simp; exact hK.out _ (Below.refl _ _)); simp only [Act.put, List.setIfInBounds_toArray, List.set_cons_zero, List.set_cons_succ]
    refine wpU_take (v := ?_) 6 hst (fun _ h => h) rfl ?_ ?_; rotate_left; (intro W hS K hK; clear hS; go_simp; exact hK.out _ (Below.refl _ _)); simp only [Act.put, List.setIfInBounds_toArray, List.set_cons_zero, List.set_cons_succ]
    refine wpU_take (v := .agg #[.int .u64 (W64 a1), .int .i64 a2, .int .u64 (W64 a3), .int .u64 (W64 a4), .int .u64 (W64 a5)]) 7 hst (fun _ h => h) rfl (fun W hS K hK => calm_load rfl rfl (load_part hS.2.2.2.2.2.2 5 [.int .u64 (W64 a1), .int .i64 a2, .int .u64 (W64 a3), .int .u64 (W64 a4), .int .u64 (W64 a5)] rfl Try.underlying25 rfl (by kernel_rfl)) (hK.out _ (Below.refl _ _))) ?_; simp only [Act.put, List.setIfInBounds_toArray, List.set_cons_zero, List.set_cons_succ]
    refine wpU_take (v := ?_) 8 hst (fun _ h => h) rfl ?_ ?_; rotate_left; (intro W hS K hK; clear hS; go_simp; exact hK.out _ (Below.refl _ _)); simp only [Act.put, List.setIfInBounds_toArray, List.set_cons_zero, List.set_cons_succ]
    refine wpU_take (v := .agg #[.int .u64 (W64 b1), .int .i64 b2, .int .u64 (W64 b3), .int .u64 (W64 b4), .int .u64 (W64 b5)]) 9 hst (fun _ h => h) rfl (fun W hS K hK => calm_load rfl rfl (load_part hS.2.1 6 [.int .u64 (W64 b1), .int .i64 b2, .int .u64 (W64 b3), .int .u64 (W64 b4), .int .u64 (W64 b5)] rfl Try.underlying25 rfl (by kernel_rfl)) (hK.out _ (Below.refl _ _))) ?_; simp only [Act.put, List.setIfInBounds_toArray, List.set_cons_zero, List.set_cons_succ]
    refine wpU_take (v := ?_) 10 hst (fun _ h => h) rfl ?_ ?_; rotate_left; (intro W hS K hK; clear hS; go_simp; exact hK.out _ (Below.refl _ _)); simp only [Act.put, List.setIfInBounds_toArray, List.set_cons_zero, List.set_cons_succ]
    refine wpU_take (v := ?_) 11 hst (fun _ h => h) rfl ?_ ?_; rotate_left; (intro W hS K hK; clear hS; go_simp; exact hK.out _ (Below.refl _ _)); simp only [Act.put, List.setIfInBounds_toArray, List.set_cons_zero, List.set_cons_succ]
    refine wpU_done (fun w_66 hS => ?_)
    obtain ⟨hB, G_4, G_11, G_19, G_27, G_35, G_41⟩ := hS
    clear hst
    go_wp2_with (first | (with_reducible refine stop_store ?_) | (with_reducible refine stop_box ?_) | (with_reducible refine stop_alloc ?_) | (with_reducible refine stop_bslice ?_))
    have hst : Stable fun W => Below w.heap.size w W ∧ Blk W g_1 27 #[.int .i64 2, .int .u64 (W64 a1), .int .i64 a2, .int .u64 (W64 a3), .int .u64 (W64 a4), .int .u64 (W64 a5), .int .u64 (W64 b1), .int .i64 b2, .int .u64 (W64 b3), .int .u64 (W64 b4), .int .u64 (W64 b5)] ∧ Blk W g_8 59 #[.int .u32 (W32 vi), .bool vu, .int .i64 vs] ∧ Blk W g_16 71 #[.bool br, .bool bu, .int .u32 (W32 bi)] ∧ Room g_24 27 11 W ∧ Room g_32 59 3 W ∧ Blk W g_40 25 #[.int .u64 (W64 b1), .int .i64 b2, .int .u64 (W64 b3), .int .u64 (W64 b4), .int .u64 (W64 b5), .int .u64 (W64 a1), .int .i64 a2, .int .u64 (W64 a3), .int .u64 (W64 a4), .int .u64 (W64 a5)] := stable_and (stable_below _ _ (Nat.le_refl _)) (stable_and (stable_blk _ _ _) (stable_and (stable_blk _ _ _) (stable_and (stable_blk _ _ _) (stable_and (stable_room _ _ _) (stable_and (stable_room _ _ _) (stable_blk _ _ _))))))
    refine wp_region_v _ 7 hst ⟨hB.drew, G_4, G_11, G_19, ⟨_, rfl, rfl, G_27⟩, ⟨_, rfl, rfl, G_35⟩, G_41⟩ ?_
    clear hB G_4 G_11 G_19 G_27 G_35 G_41
    refine wpU_take (v := .agg #[.int .i64 2, .int .u64 (W64 a1), .int .i64 a2, .int .u64 (W64 a3), .int .u64 (W64 a4), .int .u64 (W64 a5), .int .u64 (W64 b1), .int .i64 b2, .int .u64 (W64 b3), .int .u64 (W64 b4), .int .u64 (W64 b5)]) 0 hst (fun _ h => h) rfl (fun W hS K hK => calm_load rfl rfl (load_part hS.2.1 0 [.int .i64 2, .int .u64 (W64 a1), .int .i64 a2, .int .u64 (W64 a3), .int .u64 (W64 a4), .int .u64 (W64 a5), .int .u64 (W64 b1), .int .i64 b2, .int .u64 (W64 b3), .int .u64 (W64 b4), .int .u64 (W64 b5)] rfl Try.underlying27 rfl (by kernel_rfl)) (hK.out _ (Below.refl _ _))) ?_; simp only [Act.put, List.setIfInBounds_toArray, List.set_cons_zero, List.set_cons_succ]
    refine wpU_take (v := .agg #[.int .u32 (W32 vi), .bool vu, .int .i64 vs]) 1 hst (fun _ h => h) rfl (fun W hS K hK => calm_load rfl rfl (load_part hS.2.2.1 0 [.int .u32 (W32 vi), .bool vu, .int .i64 vs] rfl Try.underlying59 rfl (by kernel_rfl)) (hK.out _ (Below.refl _ _))) ?_; simp only [Act.put, List.setIfInBounds_toArray, List.set_cons_zero, List.set_cons_succ]
    refine wpU_take (v := .agg #[.bool br, .bool bu, .int .u32 (W32 bi)]) 2 hst (fun _ h => h) rfl (fun W hS K hK => calm_load rfl rfl (load_part hS.2.2.2.1 0 [.bool br, .bool bu, .int .u32 (W32 bi)] rfl Try.underlying71 rfl (by kernel_rfl)) (hK.out _ (Below.refl _ _))) ?_; simp only [Act.put, List.setIfInBounds_toArray, List.set_cons_zero, List.set_cons_succ]
    refine wpU_take (v := ?_) 3 hst (fun _ h => h) rfl ?_ ?_; rotate_left; (intro W hS K hK; clear hS; go_simp; exact hK.out _ (Below.refl _ _)); simp only [Act.put, List.setIfInBounds_toArray, List.set_cons_zero, List.set_cons_succ]
    refine wpU_take (v := ?_) 4 hst (fun _ h => h) rfl ?_ ?_; rotate_left; (intro W hS K hK; clear hS; go_simp; refine (HV.out _).mono ?_; rintro e w9 ⟨rfl, hb⟩; refine CallPost.mk ?_; exact hK.out _ (hb)); simp only [Act.put, List.setIfInBounds_toArray, List.set_cons_zero, List.set_cons_succ]
    refine wpV_st 5 hst (fun _ h => h) #[.int .i64 2, .int .u64 (W64 a1), .int .i64 a2, .int .u64 (W64 a3), .int .u64 (W64 a4), .int .u64 (W64 a5), .int .u64 (W64 b1), .int .i64 b2, .int .u64 (W64 b3), .int .u64 (W64 b4), .int .u64 (W64 b5)] rfl rfl rfl rfl (fun W hS => hS.2.2.2.2.1) (fun W W' h hU hG => ?_) (by kernel_rfl) rfl (fun hst => ?_)
    · obtain ⟨h0_0, h0_1, h0_2, h0_3, ⟨ch0_4, ah0_4, bh0_4, h0_4⟩, ⟨ch0_5, ah0_5, bh0_5, h0_5⟩, h0_6⟩ := h
      exact ⟨hU.below h0_0 (by omega), hU.blk h0_1 (by omega), hU.blk h0_2 (by omega), hU.blk h0_3 (by omega), ⟨_, rfl, rfl, hG⟩, ⟨ch0_5, ah0_5, bh0_5, hU.blk h0_5 (by omega)⟩, hU.blk h0_6 (by omega)⟩
    refine wpV_st 6 hst (fun _ h => h.1) #[.int .u32 (W32 xi), .bool xu, .int .i64 xs] rfl rfl rfl rfl (fun W hS => hS.1.2.2.2.2.2.1) (fun W W' h hU hG => ?_) (by kernel_rfl) rfl (fun hst => ?_)
    · obtain ⟨⟨h0_0, h0_1, h0_2, h0_3, ⟨ch0_4, ah0_4, bh0_4, h0_4⟩, ⟨ch0_5, ah0_5, bh0_5, h0_5⟩, h0_6⟩, h1_0⟩ := h
      exact ⟨⟨hU.below h0_0 (by omega), hU.blk h0_1 (by omega), hU.blk h0_2 (by omega), hU.blk h0_3 (by omega), ⟨ch0_4, ah0_4, bh0_4, hU.blk h0_4 (by omega)⟩, ⟨_, rfl, rfl, hG⟩, hU.blk h0_6 (by omega)⟩, hU.blk h1_0 (by omega)⟩
    refine wpU_done (fun w_67 hS => ?_)
    obtain ⟨⟨⟨hB, G_4, G_11, G_19, -, -, G_41⟩, G_27s⟩, G_35s⟩ := hS
    clear hst
    go_wp2_with (first | (with_reducible refine stop_store ?_) | (with_reducible refine stop_box ?_) | (with_reducible refine stop_alloc ?_) | (with_reducible refine stop_bslice ?_))
    refine bodyPost_ret (results_cc rfl rfl rfl (load_blk G_27s Try.underlying27 rfl (by kernel_rfl)) (load_blk G_35s Try.underlying59 rfl (by kernel_rfl))) rfl ?_
    refine ⟨?_, hB⟩
    have er : r = (⟨2, ⟨a1, a2, a3, a4, a5⟩, ⟨b1, b2, b3, b4, b5⟩⟩, ⟨xi, xu, xs⟩) := by
      have q0 := kc_47.out; rw [← HR.out]; have hx := HX.out; simp [hearK, recvK, phaseK, nk0, hx, q0]
    rw [er]
    rfl
set_option maxHeartbeats 2000000 in
theorem rf_Hear_oN (ph : Int) (a1 : BitVec 64) (a2 : Int) (a3 a4 a5 b1 : BitVec 64) (b2 : Int) (b3 b4 b5 : BitVec 64) (vi : BitVec 32) (vu : Bool) (vs : Int) (br bu : Bool) (bi : BitVec 32) (now : Int) (ix : Int) (w : World) (h0 : 0 ≤ vs ∧ vs ≤ 1099511627776) (h1 : 0 ≤ now ∧ now ≤ 1099511627776) (p1 : ph ≠ 1) (p2 : ph ≠ 2) (hi : ix < 0) :
    Calls Try.prog 48 #[.agg #[.int .i64 ph, .int .u64 (W64 a1), .int .i64 a2, .int .u64 (W64 a3), .int .u64 (W64 a4), .int .u64 (W64 a5), .int .u64 (W64 b1), .int .i64 b2, .int .u64 (W64 b3), .int .u64 (W64 b4), .int .u64 (W64 b5)], .agg #[.int .u32 (W32 vi), .bool vu, .int .i64 vs], .agg #[.bool br, .bool bu, .int .u32 (W32 bi)], .int .i64 ix, .int .i64 now] w fun e w' => e = .returned (.tuple #[.agg (ksA (hearK ⟨ph, ⟨a1, a2, a3, a4, a5⟩, ⟨b1, b2, b3, b4, b5⟩⟩ ⟨vi, vu, vs⟩ ⟨br, bu, bi⟩ ix now).1), .agg (ivA (hearK ⟨ph, ⟨a1, a2, a3, a4, a5⟩, ⟨b1, b2, b3, b4, b5⟩⟩ ⟨vi, vu, vs⟩ ⟨br, bu, bi⟩ ix now).2)]) ∧ Below w.heap.size w w' := by
  obtain ⟨r, hr⟩ : ∃ r, hearK ⟨ph, ⟨a1, a2, a3, a4, a5⟩, ⟨b1, b2, b3, b4, b5⟩⟩ ⟨vi, vu, vs⟩ ⟨br, bu, bi⟩ ix now = r := ⟨_, rfl⟩
  rw [hr]
  have HR := Lib.hid hr
  clear hr
  have R := Lib.hid (fun W => rf_RecvB ⟨ph, ⟨a1, a2, a3, a4, a5⟩, ⟨b1, b2, b3, b4, b5⟩⟩ [.int .u64 (W64 a1), .int .i64 a2, .int .u64 (W64 a3), .int .u64 (W64 a4), .int .u64 (W64 a5)] 1 (by simp [recvK, nksL, nkA, p1, p2]) (by simp [recvK, p1, p2]) W)
  
  have HV := Lib.hid (fun W => rf_hearIV ⟨vi, vu, vs⟩ ⟨br, bu, bi⟩ now W h0 h1)
  unfold ksA at R
  unfold ivA beA at HV
  dsimp only at R HV
  have i0 : decide (ix < 0) = true := by simpa using hi
  clear h0 h1
  have P1 := Lib.hid p1
  have P2 := Lib.hid p2
  clear p1 p2
  have HI := Lib.hid hi
  clear hi
  obtain ⟨⟨xi, xu, xs⟩, hx⟩ : ∃ x, hearIVK ⟨vi, vu, vs⟩ ⟨br, bu, bi⟩ now = x := ⟨_, rfl⟩
  rw [hx] at HV
  have HX := Lib.hid hx
  clear hx
  go_enter Try.func48, Try.ntmps48
  go_wp2_with (first | (with_reducible refine stop_store ?_) | (with_reducible refine stop_box ?_) | (with_reducible refine stop_alloc ?_) | (with_reducible refine stop_bslice ?_))
  unfold Kept
  refine go_mem (ty := 27) (cs := #[.int .i64 ph, .int .u64 (W64 a1), .int .i64 a2, .int .u64 (W64 a3), .int .u64 (W64 a4), .int .u64 (W64 a5), .int .u64 (W64 b1), .int .i64 b2, .int .u64 (W64 b3), .int .u64 (W64 b4), .int .u64 (W64 b5)]) (fun g => .pointer (some ⟨g, 0, none⟩)) rfl (by kernel_rfl) ?_
  intro g_1 w_2 z_6 l_5 hb_3 G_4
  have n_7 : w.heap.size ≤ g_1 := l_5
  have hB := hb_3
  clear hb_3 l_5 z_6
  go_wp2_with (first | (with_reducible refine stop_store ?_) | (with_reducible refine stop_box ?_) | (with_reducible refine stop_alloc ?_) | (with_reducible refine stop_bslice ?_))
  unfold Kept
  refine go_mem (ty := 59) (cs := #[.int .u32 (W32 vi), .bool vu, .int .i64 vs]) (fun g => .pointer (some ⟨g, 0, none⟩)) rfl (by kernel_rfl) ?_
  intro g_8 w_9 z_13 l_12 hb_10 G_11
  have n_14 : g_1 < g_8 := Nat.lt_of_lt_of_le G_4.lt l_12
  have n_15 : w.heap.size ≤ g_8 := Nat.le_trans hB.size l_12
  replace G_4 := G_4.to hb_10 G_4.lt
  replace hB := hB.trans (hb_10.mono hB.size)
  clear hb_10 l_12 z_13
  go_wp2_with (first | (with_reducible refine stop_store ?_) | (with_reducible refine stop_box ?_) | (with_reducible refine stop_alloc ?_) | (with_reducible refine stop_bslice ?_))
  unfold Kept
  refine go_mem (ty := 71) (cs := #[.bool br, .bool bu, .int .u32 (W32 bi)]) (fun g => .pointer (some ⟨g, 0, none⟩)) rfl (by kernel_rfl) ?_
  intro g_16 w_17 z_21 l_20 hb_18 G_19
  have n_22 : g_8 < g_16 := Nat.lt_of_lt_of_le G_11.lt l_20
  have n_23 : w.heap.size ≤ g_16 := Nat.le_trans hB.size l_20
  replace G_4 := G_4.to hb_18 G_4.lt
  replace G_11 := G_11.to hb_18 G_11.lt
  replace hB := hB.trans (hb_18.mono hB.size)
  clear hb_18 l_20 z_21
  go_wp2_with (first | (with_reducible refine stop_store ?_) | (with_reducible refine stop_box ?_) | (with_reducible refine stop_alloc ?_) | (with_reducible refine stop_bslice ?_))
  unfold Kept
  refine go_mem (ty := 27) (cs := #[.int .i64 0, .int .u64 0, .int .i64 0, .int .u64 0, .int .u64 0, .int .u64 0, .int .u64 0, .int .i64 0, .int .u64 0, .int .u64 0, .int .u64 0]) (fun g => .pointer (some ⟨g, 0, none⟩)) rfl (by kernel_rfl) ?_
  intro g_24 w_25 z_29 l_28 hb_26 G_27
  have n_30 : g_16 < g_24 := Nat.lt_of_lt_of_le G_19.lt l_28
  have n_31 : w.heap.size ≤ g_24 := Nat.le_trans hB.size l_28
  replace G_4 := G_4.to hb_26 G_4.lt
  replace G_11 := G_11.to hb_26 G_11.lt
  replace G_19 := G_19.to hb_26 G_19.lt
  replace hB := hB.trans (hb_26.mono hB.size)
  clear hb_26 l_28 z_29
  go_wp2_with (first | (with_reducible refine stop_store ?_) | (with_reducible refine stop_box ?_) | (with_reducible refine stop_alloc ?_) | (with_reducible refine stop_bslice ?_))
  unfold Kept
  refine go_mem (ty := 59) (cs := #[.int .u32 0, .bool false, .int .i64 0]) (fun g => .pointer (some ⟨g, 0, none⟩)) rfl (by kernel_rfl) ?_
  intro g_32 w_33 z_37 l_36 hb_34 G_35
  have n_38 : g_24 < g_32 := Nat.lt_of_lt_of_le G_27.lt l_36
  have n_39 : w.heap.size ≤ g_32 := Nat.le_trans hB.size l_36
  replace G_4 := G_4.to hb_34 G_4.lt
  replace G_11 := G_11.to hb_34 G_11.lt
  replace G_19 := G_19.to hb_34 G_19.lt
  replace G_27 := G_27.to hb_34 G_27.lt
  replace hB := hB.trans (hb_34.mono hB.size)
  clear hb_34 l_36 z_37
  go_wp2_with (first | (with_reducible refine stop_store ?_) | (with_reducible refine stop_box ?_) | (with_reducible refine stop_alloc ?_) | (with_reducible refine stop_bslice ?_) | ((with_reducible refine wpList_ld 0 [.int .i64 ph, .int .u64 (W64 a1), .int .i64 a2, .int .u64 (W64 a3), .int .u64 (W64 a4), .int .u64 (W64 a5), .int .u64 (W64 b1), .int .i64 b2, .int .u64 (W64 b3), .int .u64 (W64 b4), .int .u64 (W64 b5)] G_4 ?_ ?_ Try.underlying27 ?_ ?_ ?_); rfl; rfl; rfl; kernel_rfl))
  refine (R.out _).mono ?_; rintro e w_45 ⟨g_40, l_42, rfl, G_41, hb_46⟩
  have n_43 : g_32 < g_40 := Nat.lt_of_lt_of_le G_35.lt l_42
  clear l_42
  replace G_4 := G_4.to hb_46 G_4.lt
  replace G_11 := G_11.to hb_46 G_11.lt
  replace G_19 := G_19.to hb_46 G_19.lt
  replace G_27 := G_27.to hb_46 G_27.lt
  replace G_35 := G_35.to hb_46 G_35.lt
  replace hB := hB.trans (hb_46.mono hB.size)
  clear hb_46
  go_wp2_with (first | (with_reducible refine stop_store ?_) | (with_reducible refine stop_box ?_) | (with_reducible refine stop_alloc ?_) | (with_reducible refine stop_bslice ?_))
  have hst : Stable fun W => Below w.heap.size w W ∧ Blk W g_1 27 #[.int .i64 ph, .int .u64 (W64 a1), .int .i64 a2, .int .u64 (W64 a3), .int .u64 (W64 a4), .int .u64 (W64 a5), .int .u64 (W64 b1), .int .i64 b2, .int .u64 (W64 b3), .int .u64 (W64 b4), .int .u64 (W64 b5)] ∧ Blk W g_8 59 #[.int .u32 (W32 vi), .bool vu, .int .i64 vs] ∧ Blk W g_16 71 #[.bool br, .bool bu, .int .u32 (W32 bi)] ∧ Room g_24 27 11 W ∧ Room g_32 59 3 W ∧ Blk W g_40 25 #[.int .u64 (W64 a1), .int .i64 a2, .int .u64 (W64 a3), .int .u64 (W64 a4), .int .u64 (W64 a5)] := stable_and (stable_below _ _ (Nat.le_refl _)) (stable_and (stable_blk _ _ _) (stable_and (stable_blk _ _ _) (stable_and (stable_blk _ _ _) (stable_and (stable_room _ _ _) (stable_and (stable_room _ _ _) (stable_blk _ _ _))))))
  refine wp_region_v _ 4 hst ⟨hB.drew, G_4, G_11, G_19, ⟨_, rfl, rfl, G_27⟩, ⟨_, rfl, rfl, G_35⟩, G_41⟩ ?_
  clear hB G_4 G_11 G_19 G_27 G_35 G_41
  refine wpU_take (v := .agg #[.int .i64 ph, .int .u64 (W64 a1), .int .i64 a2, .int .u64 (W64 a3), .int .u64 (W64 a4), .int .u64 (W64 a5), .int .u64 (W64 b1), .int .i64 b2, .int .u64 (W64 b3), .int .u64 (W64 b4), .int .u64 (W64 b5)]) 0 hst (fun _ h => h) rfl (fun W hS K hK => calm_load rfl rfl (load_part hS.2.1 0 [.int .i64 ph, .int .u64 (W64 a1), .int .i64 a2, .int .u64 (W64 a3), .int .u64 (W64 a4), .int .u64 (W64 a5), .int .u64 (W64 b1), .int .i64 b2, .int .u64 (W64 b3), .int .u64 (W64 b4), .int .u64 (W64 b5)] rfl Try.underlying27 rfl (by kernel_rfl)) (hK.out _ (Below.refl _ _))) ?_; simp only [Act.put, List.setIfInBounds_toArray, List.set_cons_zero, List.set_cons_succ]
  refine wpU_take (v := .agg #[.int .u32 (W32 vi), .bool vu, .int .i64 vs]) 1 hst (fun _ h => h) rfl (fun W hS K hK => calm_load rfl rfl (load_part hS.2.2.1 0 [.int .u32 (W32 vi), .bool vu, .int .i64 vs] rfl Try.underlying59 rfl (by kernel_rfl)) (hK.out _ (Below.refl _ _))) ?_; simp only [Act.put, List.setIfInBounds_toArray, List.set_cons_zero, List.set_cons_succ]
  refine wpV_st 2 hst (fun _ h => h) #[.int .i64 ph, .int .u64 (W64 a1), .int .i64 a2, .int .u64 (W64 a3), .int .u64 (W64 a4), .int .u64 (W64 a5), .int .u64 (W64 b1), .int .i64 b2, .int .u64 (W64 b3), .int .u64 (W64 b4), .int .u64 (W64 b5)] rfl rfl rfl rfl (fun W hS => hS.2.2.2.2.1) (fun W W' h hU hG => ?_) (by kernel_rfl) rfl (fun hst => ?_)
  · obtain ⟨h0_0, h0_1, h0_2, h0_3, ⟨ch0_4, ah0_4, bh0_4, h0_4⟩, ⟨ch0_5, ah0_5, bh0_5, h0_5⟩, h0_6⟩ := h
    exact ⟨hU.below h0_0 (by omega), hU.blk h0_1 (by omega), hU.blk h0_2 (by omega), hU.blk h0_3 (by omega), ⟨_, rfl, rfl, hG⟩, ⟨ch0_5, ah0_5, bh0_5, hU.blk h0_5 (by omega)⟩, hU.blk h0_6 (by omega)⟩
  refine wpV_st 3 hst (fun _ h => h.1) #[.int .u32 (W32 vi), .bool vu, .int .i64 vs] rfl rfl rfl rfl (fun W hS => hS.1.2.2.2.2.2.1) (fun W W' h hU hG => ?_) (by kernel_rfl) rfl (fun hst => ?_)
  · obtain ⟨⟨h0_0, h0_1, h0_2, h0_3, ⟨ch0_4, ah0_4, bh0_4, h0_4⟩, ⟨ch0_5, ah0_5, bh0_5, h0_5⟩, h0_6⟩, h1_0⟩ := h
    exact ⟨⟨hU.below h0_0 (by omega), hU.blk h0_1 (by omega), hU.blk h0_2 (by omega), hU.blk h0_3 (by omega), ⟨ch0_4, ah0_4, bh0_4, hU.blk h0_4 (by omega)⟩, ⟨_, rfl, rfl, hG⟩, hU.blk h0_6 (by omega)⟩, hU.blk h1_0 (by omega)⟩
  refine wpU_done (fun w_47 hS => ?_)
  obtain ⟨⟨⟨hB, G_4, G_11, G_19, -, -, G_41⟩, G_27s⟩, G_35s⟩ := hS
  clear hst
  go_wp2_with (first | (with_reducible refine stop_store ?_) | (with_reducible refine stop_box ?_) | (with_reducible refine stop_alloc ?_) | (with_reducible refine stop_bslice ?_))
  refine bodyPost_ret (results_cc rfl rfl rfl (load_blk G_27s Try.underlying27 rfl (by kernel_rfl)) (load_blk G_35s Try.underlying59 rfl (by kernel_rfl))) rfl ?_
  refine ⟨?_, hB⟩
  have er : r = (⟨ph, ⟨a1, a2, a3, a4, a5⟩, ⟨b1, b2, b3, b4, b5⟩⟩, ⟨vi, vu, vs⟩) := by
     have p1 := P1.out; have p2 := P2.out; have hi := HI.out; rw [← HR.out]; have hx := HX.out; simp [hearK, recvK, phaseK, nk0, hx, p1, p2, hi]
  rw [er]
  rfl
set_option maxHeartbeats 2000000 in
theorem rf_Hear_oB (ph : Int) (a1 : BitVec 64) (a2 : Int) (a3 a4 a5 b1 : BitVec 64) (b2 : Int) (b3 b4 b5 : BitVec 64) (vi : BitVec 32) (vu : Bool) (vs : Int) (br bu : Bool) (bi : BitVec 32) (now : Int) (ix : Int) (w : World) (h0 : 0 ≤ vs ∧ vs ≤ 1099511627776) (h1 : 0 ≤ now ∧ now ≤ 1099511627776) (p1 : ph ≠ 1) (p2 : ph ≠ 2) (hi : 1 ≤ ix) :
    Calls Try.prog 48 #[.agg #[.int .i64 ph, .int .u64 (W64 a1), .int .i64 a2, .int .u64 (W64 a3), .int .u64 (W64 a4), .int .u64 (W64 a5), .int .u64 (W64 b1), .int .i64 b2, .int .u64 (W64 b3), .int .u64 (W64 b4), .int .u64 (W64 b5)], .agg #[.int .u32 (W32 vi), .bool vu, .int .i64 vs], .agg #[.bool br, .bool bu, .int .u32 (W32 bi)], .int .i64 ix, .int .i64 now] w fun e w' => e = .returned (.tuple #[.agg (ksA (hearK ⟨ph, ⟨a1, a2, a3, a4, a5⟩, ⟨b1, b2, b3, b4, b5⟩⟩ ⟨vi, vu, vs⟩ ⟨br, bu, bi⟩ ix now).1), .agg (ivA (hearK ⟨ph, ⟨a1, a2, a3, a4, a5⟩, ⟨b1, b2, b3, b4, b5⟩⟩ ⟨vi, vu, vs⟩ ⟨br, bu, bi⟩ ix now).2)]) ∧ Below w.heap.size w w' := by
  obtain ⟨r, hr⟩ : ∃ r, hearK ⟨ph, ⟨a1, a2, a3, a4, a5⟩, ⟨b1, b2, b3, b4, b5⟩⟩ ⟨vi, vu, vs⟩ ⟨br, bu, bi⟩ ix now = r := ⟨_, rfl⟩
  rw [hr]
  have HR := Lib.hid hr
  clear hr
  have R := Lib.hid (fun W => rf_RecvB ⟨ph, ⟨a1, a2, a3, a4, a5⟩, ⟨b1, b2, b3, b4, b5⟩⟩ [.int .u64 (W64 a1), .int .i64 a2, .int .u64 (W64 a3), .int .u64 (W64 a4), .int .u64 (W64 a5)] 1 (by simp [recvK, nksL, nkA, p1, p2]) (by simp [recvK, p1, p2]) W)
  
  have HV := Lib.hid (fun W => rf_hearIV ⟨vi, vu, vs⟩ ⟨br, bu, bi⟩ now W h0 h1)
  unfold ksA at R
  unfold ivA beA at HV
  dsimp only at R HV
  have i0 : decide (ix < 0) = false := by simp; omega
  have i1 : decide (1 ≤ ix) = true := by simpa using hi
  clear h0 h1
  have P1 := Lib.hid p1
  have P2 := Lib.hid p2
  clear p1 p2
  have HI := Lib.hid hi
  clear hi
  obtain ⟨⟨xi, xu, xs⟩, hx⟩ : ∃ x, hearIVK ⟨vi, vu, vs⟩ ⟨br, bu, bi⟩ now = x := ⟨_, rfl⟩
  rw [hx] at HV
  have HX := Lib.hid hx
  clear hx
  go_enter Try.func48, Try.ntmps48
  go_wp2_with (first | (with_reducible refine stop_store ?_) | (with_reducible refine stop_box ?_) | (with_reducible refine stop_alloc ?_) | (with_reducible refine stop_bslice ?_))
  unfold Kept
  refine go_mem (ty := 27) (cs := #[.int .i64 ph, .int .u64 (W64 a1), .int .i64 a2, .int .u64 (W64 a3), .int .u64 (W64 a4), .int .u64 (W64 a5), .int .u64 (W64 b1), .int .i64 b2, .int .u64 (W64 b3), .int .u64 (W64 b4), .int .u64 (W64 b5)]) (fun g => .pointer (some ⟨g, 0, none⟩)) rfl (by kernel_rfl) ?_
  intro g_1 w_2 z_6 l_5 hb_3 G_4
  have n_7 : w.heap.size ≤ g_1 := l_5
  have hB := hb_3
  clear hb_3 l_5 z_6
  go_wp2_with (first | (with_reducible refine stop_store ?_) | (with_reducible refine stop_box ?_) | (with_reducible refine stop_alloc ?_) | (with_reducible refine stop_bslice ?_))
  unfold Kept
  refine go_mem (ty := 59) (cs := #[.int .u32 (W32 vi), .bool vu, .int .i64 vs]) (fun g => .pointer (some ⟨g, 0, none⟩)) rfl (by kernel_rfl) ?_
  intro g_8 w_9 z_13 l_12 hb_10 G_11
  have n_14 : g_1 < g_8 := Nat.lt_of_lt_of_le G_4.lt l_12
  have n_15 : w.heap.size ≤ g_8 := Nat.le_trans hB.size l_12
  replace G_4 := G_4.to hb_10 G_4.lt
  replace hB := hB.trans (hb_10.mono hB.size)
  clear hb_10 l_12 z_13
  go_wp2_with (first | (with_reducible refine stop_store ?_) | (with_reducible refine stop_box ?_) | (with_reducible refine stop_alloc ?_) | (with_reducible refine stop_bslice ?_))
  unfold Kept
  refine go_mem (ty := 71) (cs := #[.bool br, .bool bu, .int .u32 (W32 bi)]) (fun g => .pointer (some ⟨g, 0, none⟩)) rfl (by kernel_rfl) ?_
  intro g_16 w_17 z_21 l_20 hb_18 G_19
  have n_22 : g_8 < g_16 := Nat.lt_of_lt_of_le G_11.lt l_20
  have n_23 : w.heap.size ≤ g_16 := Nat.le_trans hB.size l_20
  replace G_4 := G_4.to hb_18 G_4.lt
  replace G_11 := G_11.to hb_18 G_11.lt
  replace hB := hB.trans (hb_18.mono hB.size)
  clear hb_18 l_20 z_21
  go_wp2_with (first | (with_reducible refine stop_store ?_) | (with_reducible refine stop_box ?_) | (with_reducible refine stop_alloc ?_) | (with_reducible refine stop_bslice ?_))
  unfold Kept
  refine go_mem (ty := 27) (cs := #[.int .i64 0, .int .u64 0, .int .i64 0, .int .u64 0, .int .u64 0, .int .u64 0, .int .u64 0, .int .i64 0, .int .u64 0, .int .u64 0, .int .u64 0]) (fun g => .pointer (some ⟨g, 0, none⟩)) rfl (by kernel_rfl) ?_
  intro g_24 w_25 z_29 l_28 hb_26 G_27
  have n_30 : g_16 < g_24 := Nat.lt_of_lt_of_le G_19.lt l_28
  have n_31 : w.heap.size ≤ g_24 := Nat.le_trans hB.size l_28
  replace G_4 := G_4.to hb_26 G_4.lt
  replace G_11 := G_11.to hb_26 G_11.lt
  replace G_19 := G_19.to hb_26 G_19.lt
  replace hB := hB.trans (hb_26.mono hB.size)
  clear hb_26 l_28 z_29
  go_wp2_with (first | (with_reducible refine stop_store ?_) | (with_reducible refine stop_box ?_) | (with_reducible refine stop_alloc ?_) | (with_reducible refine stop_bslice ?_))
  unfold Kept
  refine go_mem (ty := 59) (cs := #[.int .u32 0, .bool false, .int .i64 0]) (fun g => .pointer (some ⟨g, 0, none⟩)) rfl (by kernel_rfl) ?_
  intro g_32 w_33 z_37 l_36 hb_34 G_35
  have n_38 : g_24 < g_32 := Nat.lt_of_lt_of_le G_27.lt l_36
  have n_39 : w.heap.size ≤ g_32 := Nat.le_trans hB.size l_36
  replace G_4 := G_4.to hb_34 G_4.lt
  replace G_11 := G_11.to hb_34 G_11.lt
  replace G_19 := G_19.to hb_34 G_19.lt
  replace G_27 := G_27.to hb_34 G_27.lt
  replace hB := hB.trans (hb_34.mono hB.size)
  clear hb_34 l_36 z_37
  go_wp2_with (first | (with_reducible refine stop_store ?_) | (with_reducible refine stop_box ?_) | (with_reducible refine stop_alloc ?_) | (with_reducible refine stop_bslice ?_) | ((with_reducible refine wpList_ld 0 [.int .i64 ph, .int .u64 (W64 a1), .int .i64 a2, .int .u64 (W64 a3), .int .u64 (W64 a4), .int .u64 (W64 a5), .int .u64 (W64 b1), .int .i64 b2, .int .u64 (W64 b3), .int .u64 (W64 b4), .int .u64 (W64 b5)] G_4 ?_ ?_ Try.underlying27 ?_ ?_ ?_); rfl; rfl; rfl; kernel_rfl))
  refine (R.out _).mono ?_; rintro e w_45 ⟨g_40, l_42, rfl, G_41, hb_46⟩
  have n_43 : g_32 < g_40 := Nat.lt_of_lt_of_le G_35.lt l_42
  clear l_42
  replace G_4 := G_4.to hb_46 G_4.lt
  replace G_11 := G_11.to hb_46 G_11.lt
  replace G_19 := G_19.to hb_46 G_19.lt
  replace G_27 := G_27.to hb_46 G_27.lt
  replace G_35 := G_35.to hb_46 G_35.lt
  replace hB := hB.trans (hb_46.mono hB.size)
  clear hb_46
  go_wp2_with (first | (with_reducible refine stop_store ?_) | (with_reducible refine stop_box ?_) | (with_reducible refine stop_alloc ?_) | (with_reducible refine stop_bslice ?_))
  have hst : Stable fun W => Below w.heap.size w W ∧ Blk W g_1 27 #[.int .i64 ph, .int .u64 (W64 a1), .int .i64 a2, .int .u64 (W64 a3), .int .u64 (W64 a4), .int .u64 (W64 a5), .int .u64 (W64 b1), .int .i64 b2, .int .u64 (W64 b3), .int .u64 (W64 b4), .int .u64 (W64 b5)] ∧ Blk W g_8 59 #[.int .u32 (W32 vi), .bool vu, .int .i64 vs] ∧ Blk W g_16 71 #[.bool br, .bool bu, .int .u32 (W32 bi)] ∧ Room g_24 27 11 W ∧ Room g_32 59 3 W ∧ Blk W g_40 25 #[.int .u64 (W64 a1), .int .i64 a2, .int .u64 (W64 a3), .int .u64 (W64 a4), .int .u64 (W64 a5)] := stable_and (stable_below _ _ (Nat.le_refl _)) (stable_and (stable_blk _ _ _) (stable_and (stable_blk _ _ _) (stable_and (stable_blk _ _ _) (stable_and (stable_room _ _ _) (stable_and (stable_room _ _ _) (stable_blk _ _ _))))))
  refine wp_region_v _ 4 hst ⟨hB.drew, G_4, G_11, G_19, ⟨_, rfl, rfl, G_27⟩, ⟨_, rfl, rfl, G_35⟩, G_41⟩ ?_
  clear hB G_4 G_11 G_19 G_27 G_35 G_41
  refine wpU_take (v := .agg #[.int .i64 ph, .int .u64 (W64 a1), .int .i64 a2, .int .u64 (W64 a3), .int .u64 (W64 a4), .int .u64 (W64 a5), .int .u64 (W64 b1), .int .i64 b2, .int .u64 (W64 b3), .int .u64 (W64 b4), .int .u64 (W64 b5)]) 0 hst (fun _ h => h) rfl (fun W hS K hK => calm_load rfl rfl (load_part hS.2.1 0 [.int .i64 ph, .int .u64 (W64 a1), .int .i64 a2, .int .u64 (W64 a3), .int .u64 (W64 a4), .int .u64 (W64 a5), .int .u64 (W64 b1), .int .i64 b2, .int .u64 (W64 b3), .int .u64 (W64 b4), .int .u64 (W64 b5)] rfl Try.underlying27 rfl (by kernel_rfl)) (hK.out _ (Below.refl _ _))) ?_; simp only [Act.put, List.setIfInBounds_toArray, List.set_cons_zero, List.set_cons_succ]
  refine wpU_take (v := .agg #[.int .u32 (W32 vi), .bool vu, .int .i64 vs]) 1 hst (fun _ h => h) rfl (fun W hS K hK => calm_load rfl rfl (load_part hS.2.2.1 0 [.int .u32 (W32 vi), .bool vu, .int .i64 vs] rfl Try.underlying59 rfl (by kernel_rfl)) (hK.out _ (Below.refl _ _))) ?_; simp only [Act.put, List.setIfInBounds_toArray, List.set_cons_zero, List.set_cons_succ]
  refine wpV_st 2 hst (fun _ h => h) #[.int .i64 ph, .int .u64 (W64 a1), .int .i64 a2, .int .u64 (W64 a3), .int .u64 (W64 a4), .int .u64 (W64 a5), .int .u64 (W64 b1), .int .i64 b2, .int .u64 (W64 b3), .int .u64 (W64 b4), .int .u64 (W64 b5)] rfl rfl rfl rfl (fun W hS => hS.2.2.2.2.1) (fun W W' h hU hG => ?_) (by kernel_rfl) rfl (fun hst => ?_)
  · obtain ⟨h0_0, h0_1, h0_2, h0_3, ⟨ch0_4, ah0_4, bh0_4, h0_4⟩, ⟨ch0_5, ah0_5, bh0_5, h0_5⟩, h0_6⟩ := h
    exact ⟨hU.below h0_0 (by omega), hU.blk h0_1 (by omega), hU.blk h0_2 (by omega), hU.blk h0_3 (by omega), ⟨_, rfl, rfl, hG⟩, ⟨ch0_5, ah0_5, bh0_5, hU.blk h0_5 (by omega)⟩, hU.blk h0_6 (by omega)⟩
  refine wpV_st 3 hst (fun _ h => h.1) #[.int .u32 (W32 vi), .bool vu, .int .i64 vs] rfl rfl rfl rfl (fun W hS => hS.1.2.2.2.2.2.1) (fun W W' h hU hG => ?_) (by kernel_rfl) rfl (fun hst => ?_)
  · obtain ⟨⟨h0_0, h0_1, h0_2, h0_3, ⟨ch0_4, ah0_4, bh0_4, h0_4⟩, ⟨ch0_5, ah0_5, bh0_5, h0_5⟩, h0_6⟩, h1_0⟩ := h
    exact ⟨⟨hU.below h0_0 (by omega), hU.blk h0_1 (by omega), hU.blk h0_2 (by omega), hU.blk h0_3 (by omega), ⟨ch0_4, ah0_4, bh0_4, hU.blk h0_4 (by omega)⟩, ⟨_, rfl, rfl, hG⟩, hU.blk h0_6 (by omega)⟩, hU.blk h1_0 (by omega)⟩
  refine wpU_done (fun w_47 hS => ?_)
  obtain ⟨⟨⟨hB, G_4, G_11, G_19, -, -, G_41⟩, G_27s⟩, G_35s⟩ := hS
  clear hst
  go_wp2_with (first | (with_reducible refine stop_store ?_) | (with_reducible refine stop_box ?_) | (with_reducible refine stop_alloc ?_) | (with_reducible refine stop_bslice ?_))
  refine bodyPost_ret (results_cc rfl rfl rfl (load_blk G_27s Try.underlying27 rfl (by kernel_rfl)) (load_blk G_35s Try.underlying59 rfl (by kernel_rfl))) rfl ?_
  refine ⟨?_, hB⟩
  have er : r = (⟨ph, ⟨a1, a2, a3, a4, a5⟩, ⟨b1, b2, b3, b4, b5⟩⟩, ⟨vi, vu, vs⟩) := by
     have p1 := P1.out; have p2 := P2.out; have hi := HI.out; rw [← HR.out]; have hx := HX.out; simp [hearK, recvK, phaseK, nk0, hx, p1, p2, hi]
  rw [er]
  rfl
set_option maxHeartbeats 2000000 in
theorem rf_Hear_o0 (ph : Int) (a1 : BitVec 64) (a2 : Int) (a3 a4 a5 b1 : BitVec 64) (b2 : Int) (b3 b4 b5 : BitVec 64) (vi : BitVec 32) (vu : Bool) (vs : Int) (br bu : Bool) (bi : BitVec 32) (now : Int) (w : World) (h0 : 0 ≤ vs ∧ vs ≤ 1099511627776) (h1 : 0 ≤ now ∧ now ≤ 1099511627776) (p1 : ph ≠ 1) (p2 : ph ≠ 2) :
    Calls Try.prog 48 #[.agg #[.int .i64 ph, .int .u64 (W64 a1), .int .i64 a2, .int .u64 (W64 a3), .int .u64 (W64 a4), .int .u64 (W64 a5), .int .u64 (W64 b1), .int .i64 b2, .int .u64 (W64 b3), .int .u64 (W64 b4), .int .u64 (W64 b5)], .agg #[.int .u32 (W32 vi), .bool vu, .int .i64 vs], .agg #[.bool br, .bool bu, .int .u32 (W32 bi)], .int .i64 0, .int .i64 now] w fun e w' => e = .returned (.tuple #[.agg (ksA (hearK ⟨ph, ⟨a1, a2, a3, a4, a5⟩, ⟨b1, b2, b3, b4, b5⟩⟩ ⟨vi, vu, vs⟩ ⟨br, bu, bi⟩ 0 now).1), .agg (ivA (hearK ⟨ph, ⟨a1, a2, a3, a4, a5⟩, ⟨b1, b2, b3, b4, b5⟩⟩ ⟨vi, vu, vs⟩ ⟨br, bu, bi⟩ 0 now).2)]) ∧ Below w.heap.size w w' := by
  obtain ⟨r, hr⟩ : ∃ r, hearK ⟨ph, ⟨a1, a2, a3, a4, a5⟩, ⟨b1, b2, b3, b4, b5⟩⟩ ⟨vi, vu, vs⟩ ⟨br, bu, bi⟩ 0 now = r := ⟨_, rfl⟩
  rw [hr]
  have HR := Lib.hid hr
  clear hr
  have R := Lib.hid (fun W => rf_RecvB ⟨ph, ⟨a1, a2, a3, a4, a5⟩, ⟨b1, b2, b3, b4, b5⟩⟩ [.int .u64 (W64 a1), .int .i64 a2, .int .u64 (W64 a3), .int .u64 (W64 a4), .int .u64 (W64 a5)] 1 (by simp [recvK, nksL, nkA, p1, p2]) (by simp [recvK, p1, p2]) W)
  
  have HV := Lib.hid (fun W => rf_hearIV ⟨vi, vu, vs⟩ ⟨br, bu, bi⟩ now W h0 h1)
  unfold ksA at R
  unfold ivA beA at HV
  dsimp only at R HV
  
  clear h0 h1
  have P1 := Lib.hid p1
  have P2 := Lib.hid p2
  clear p1 p2
  obtain ⟨⟨xi, xu, xs⟩, hx⟩ : ∃ x, hearIVK ⟨vi, vu, vs⟩ ⟨br, bu, bi⟩ now = x := ⟨_, rfl⟩
  rw [hx] at HV
  have HX := Lib.hid hx
  clear hx
  go_enter Try.func48, Try.ntmps48
  go_wp2_with (first | (with_reducible refine stop_store ?_) | (with_reducible refine stop_box ?_) | (with_reducible refine stop_alloc ?_) | (with_reducible refine stop_bslice ?_))
  unfold Kept
  refine go_mem (ty := 27) (cs := #[.int .i64 ph, .int .u64 (W64 a1), .int .i64 a2, .int .u64 (W64 a3), .int .u64 (W64 a4), .int .u64 (W64 a5), .int .u64 (W64 b1), .int .i64 b2, .int .u64 (W64 b3), .int .u64 (W64 b4), .int .u64 (W64 b5)]) (fun g => .pointer (some ⟨g, 0, none⟩)) rfl (by kernel_rfl) ?_
  intro g_1 w_2 z_6 l_5 hb_3 G_4
  have n_7 : w.heap.size ≤ g_1 := l_5
  have hB := hb_3
  clear hb_3 l_5 z_6
  go_wp2_with (first | (with_reducible refine stop_store ?_) | (with_reducible refine stop_box ?_) | (with_reducible refine stop_alloc ?_) | (with_reducible refine stop_bslice ?_))
  unfold Kept
  refine go_mem (ty := 59) (cs := #[.int .u32 (W32 vi), .bool vu, .int .i64 vs]) (fun g => .pointer (some ⟨g, 0, none⟩)) rfl (by kernel_rfl) ?_
  intro g_8 w_9 z_13 l_12 hb_10 G_11
  have n_14 : g_1 < g_8 := Nat.lt_of_lt_of_le G_4.lt l_12
  have n_15 : w.heap.size ≤ g_8 := Nat.le_trans hB.size l_12
  replace G_4 := G_4.to hb_10 G_4.lt
  replace hB := hB.trans (hb_10.mono hB.size)
  clear hb_10 l_12 z_13
  go_wp2_with (first | (with_reducible refine stop_store ?_) | (with_reducible refine stop_box ?_) | (with_reducible refine stop_alloc ?_) | (with_reducible refine stop_bslice ?_))
  unfold Kept
  refine go_mem (ty := 71) (cs := #[.bool br, .bool bu, .int .u32 (W32 bi)]) (fun g => .pointer (some ⟨g, 0, none⟩)) rfl (by kernel_rfl) ?_
  intro g_16 w_17 z_21 l_20 hb_18 G_19
  have n_22 : g_8 < g_16 := Nat.lt_of_lt_of_le G_11.lt l_20
  have n_23 : w.heap.size ≤ g_16 := Nat.le_trans hB.size l_20
  replace G_4 := G_4.to hb_18 G_4.lt
  replace G_11 := G_11.to hb_18 G_11.lt
  replace hB := hB.trans (hb_18.mono hB.size)
  clear hb_18 l_20 z_21
  go_wp2_with (first | (with_reducible refine stop_store ?_) | (with_reducible refine stop_box ?_) | (with_reducible refine stop_alloc ?_) | (with_reducible refine stop_bslice ?_))
  unfold Kept
  refine go_mem (ty := 27) (cs := #[.int .i64 0, .int .u64 0, .int .i64 0, .int .u64 0, .int .u64 0, .int .u64 0, .int .u64 0, .int .i64 0, .int .u64 0, .int .u64 0, .int .u64 0]) (fun g => .pointer (some ⟨g, 0, none⟩)) rfl (by kernel_rfl) ?_
  intro g_24 w_25 z_29 l_28 hb_26 G_27
  have n_30 : g_16 < g_24 := Nat.lt_of_lt_of_le G_19.lt l_28
  have n_31 : w.heap.size ≤ g_24 := Nat.le_trans hB.size l_28
  replace G_4 := G_4.to hb_26 G_4.lt
  replace G_11 := G_11.to hb_26 G_11.lt
  replace G_19 := G_19.to hb_26 G_19.lt
  replace hB := hB.trans (hb_26.mono hB.size)
  clear hb_26 l_28 z_29
  go_wp2_with (first | (with_reducible refine stop_store ?_) | (with_reducible refine stop_box ?_) | (with_reducible refine stop_alloc ?_) | (with_reducible refine stop_bslice ?_))
  unfold Kept
  refine go_mem (ty := 59) (cs := #[.int .u32 0, .bool false, .int .i64 0]) (fun g => .pointer (some ⟨g, 0, none⟩)) rfl (by kernel_rfl) ?_
  intro g_32 w_33 z_37 l_36 hb_34 G_35
  have n_38 : g_24 < g_32 := Nat.lt_of_lt_of_le G_27.lt l_36
  have n_39 : w.heap.size ≤ g_32 := Nat.le_trans hB.size l_36
  replace G_4 := G_4.to hb_34 G_4.lt
  replace G_11 := G_11.to hb_34 G_11.lt
  replace G_19 := G_19.to hb_34 G_19.lt
  replace G_27 := G_27.to hb_34 G_27.lt
  replace hB := hB.trans (hb_34.mono hB.size)
  clear hb_34 l_36 z_37
  go_wp2_with (first | (with_reducible refine stop_store ?_) | (with_reducible refine stop_box ?_) | (with_reducible refine stop_alloc ?_) | (with_reducible refine stop_bslice ?_) | ((with_reducible refine wpList_ld 0 [.int .i64 ph, .int .u64 (W64 a1), .int .i64 a2, .int .u64 (W64 a3), .int .u64 (W64 a4), .int .u64 (W64 a5), .int .u64 (W64 b1), .int .i64 b2, .int .u64 (W64 b3), .int .u64 (W64 b4), .int .u64 (W64 b5)] G_4 ?_ ?_ Try.underlying27 ?_ ?_ ?_); rfl; rfl; rfl; kernel_rfl))
  refine (R.out _).mono ?_; rintro e w_45 ⟨g_40, l_42, rfl, G_41, hb_46⟩
  have n_43 : g_32 < g_40 := Nat.lt_of_lt_of_le G_35.lt l_42
  clear l_42
  replace G_4 := G_4.to hb_46 G_4.lt
  replace G_11 := G_11.to hb_46 G_11.lt
  replace G_19 := G_19.to hb_46 G_19.lt
  replace G_27 := G_27.to hb_46 G_27.lt
  replace G_35 := G_35.to hb_46 G_35.lt
  replace hB := hB.trans (hb_46.mono hB.size)
  clear hb_46
  go_wp2_with (first | (with_reducible refine stop_store ?_) | (with_reducible refine stop_box ?_) | (with_reducible refine stop_alloc ?_) | (with_reducible refine stop_bslice ?_))
  have hst : Stable fun W => Below w.heap.size w W ∧ Blk W g_1 27 #[.int .i64 ph, .int .u64 (W64 a1), .int .i64 a2, .int .u64 (W64 a3), .int .u64 (W64 a4), .int .u64 (W64 a5), .int .u64 (W64 b1), .int .i64 b2, .int .u64 (W64 b3), .int .u64 (W64 b4), .int .u64 (W64 b5)] ∧ Blk W g_8 59 #[.int .u32 (W32 vi), .bool vu, .int .i64 vs] ∧ Blk W g_16 71 #[.bool br, .bool bu, .int .u32 (W32 bi)] ∧ Blk W g_24 27 #[.int .i64 0, .int .u64 0, .int .i64 0, .int .u64 0, .int .u64 0, .int .u64 0, .int .u64 0, .int .i64 0, .int .u64 0, .int .u64 0, .int .u64 0] ∧ Blk W g_32 59 #[.int .u32 0, .bool false, .int .i64 0] ∧ Blk W g_40 25 #[.int .u64 (W64 a1), .int .i64 a2, .int .u64 (W64 a3), .int .u64 (W64 a4), .int .u64 (W64 a5)] := stable_and (stable_below _ _ (Nat.le_refl _)) (stable_and (stable_blk _ _ _) (stable_and (stable_blk _ _ _) (stable_and (stable_blk _ _ _) (stable_and (stable_blk _ _ _) (stable_and (stable_blk _ _ _) (stable_blk _ _ _))))))
  refine wp_region_v _ 12 hst ⟨hB.drew, G_4, G_11, G_19, G_27, G_35, G_41⟩ ?_
  clear hB G_4 G_11 G_19 G_27 G_35 G_41
  refine wpU_take (v := ?_) 0 hst (fun _ h => h) rfl ?_ ?_; rotate_left; (intro W hS K hK; clear hS; go_simp; exact hK.out _ (Below.refl _ _)); simp only [Act.put, List.setIfInBounds_toArray, List.set_cons_zero, List.set_cons_succ]
  refine wpU_take (v := ?_) 1 hst (fun _ h => h) rfl ?_ ?_; rotate_left; (intro W hS K hK; clear hS; go_simp; exact hK.out _ (Below.refl _ _)); simp only [Act.put, List.setIfInBounds_toArray, List.set_cons_zero, List.set_cons_succ]
  refine wpU_take (v := ?_) 2 hst (fun _ h => h) rfl ?_ ?_; rotate_left; (intro W hS K hK; clear hS; go_simp; exact hK.out _ (Below.refl _ _)); simp only [Act.put, List.setIfInBounds_toArray, List.set_cons_zero, List.set_cons_succ]
  refine wpU_take (v := ?_) 3 hst (fun _ h => h) rfl ?_ ?_; rotate_left; (intro W hS K hK; clear hS; go_simp; exact hK.out _ (Below.refl _ _)); simp only [Act.put, List.setIfInBounds_toArray, List.set_cons_zero, List.set_cons_succ]
  refine wpU_skip 4 hst (fun _ h => h) rfl ?_; simp only [Act.put, List.setIfInBounds_toArray, List.set_cons_zero, List.set_cons_succ]
  refine wpU_skip 5 hst (fun _ h => h) rfl ?_; simp only [Act.put, List.setIfInBounds_toArray, List.set_cons_zero, List.set_cons_succ]
  refine wpU_skip 6 hst (fun _ h => h) rfl ?_; simp only [Act.put, List.setIfInBounds_toArray, List.set_cons_zero, List.set_cons_succ]
  refine wpU_skip 7 hst (fun _ h => h) rfl ?_; simp only [Act.put, List.setIfInBounds_toArray, List.set_cons_zero, List.set_cons_succ]
  refine wpU_skip 8 hst (fun _ h => h) rfl ?_; simp only [Act.put, List.setIfInBounds_toArray, List.set_cons_zero, List.set_cons_succ]
  refine wpU_skip 9 hst (fun _ h => h) rfl ?_; simp only [Act.put, List.setIfInBounds_toArray, List.set_cons_zero, List.set_cons_succ]
  refine wpU_skip 10 hst (fun _ h => h) rfl ?_; simp only [Act.put, List.setIfInBounds_toArray, List.set_cons_zero, List.set_cons_succ]
  refine wpU_take (v := ?_) 11 hst (fun _ h => h) rfl ?_ ?_; rotate_left; (intro W hS K hK; clear hS; go_simp; exact hK.out _ (Below.refl _ _)); simp only [Act.put, List.setIfInBounds_toArray, List.set_cons_zero, List.set_cons_succ]
  refine wpU_done (fun w_47 hS => ?_)
  obtain ⟨hB, G_4, G_11, G_19, G_27, G_35, G_41⟩ := hS
  clear hst
  go_wp2_with (first | (with_reducible refine stop_store ?_) | (with_reducible refine stop_box ?_) | (with_reducible refine stop_alloc ?_) | (with_reducible refine stop_bslice ?_))
  have hst : Stable fun W => Below w.heap.size w W ∧ Blk W g_1 27 #[.int .i64 ph, .int .u64 (W64 a1), .int .i64 a2, .int .u64 (W64 a3), .int .u64 (W64 a4), .int .u64 (W64 a5), .int .u64 (W64 b1), .int .i64 b2, .int .u64 (W64 b3), .int .u64 (W64 b4), .int .u64 (W64 b5)] ∧ Blk W g_8 59 #[.int .u32 (W32 vi), .bool vu, .int .i64 vs] ∧ Blk W g_16 71 #[.bool br, .bool bu, .int .u32 (W32 bi)] ∧ Room g_24 27 11 W ∧ Room g_32 59 3 W ∧ Blk W g_40 25 #[.int .u64 (W64 a1), .int .i64 a2, .int .u64 (W64 a3), .int .u64 (W64 a4), .int .u64 (W64 a5)] := stable_and (stable_below _ _ (Nat.le_refl _)) (stable_and (stable_blk _ _ _) (stable_and (stable_blk _ _ _) (stable_and (stable_blk _ _ _) (stable_and (stable_room _ _ _) (stable_and (stable_room _ _ _) (stable_blk _ _ _))))))
  refine wp_region_v _ 7 hst ⟨hB.drew, G_4, G_11, G_19, ⟨_, rfl, rfl, G_27⟩, ⟨_, rfl, rfl, G_35⟩, G_41⟩ ?_
  clear hB G_4 G_11 G_19 G_27 G_35 G_41
  refine wpU_take (v := .agg #[.int .i64 ph, .int .u64 (W64 a1), .int .i64 a2, .int .u64 (W64 a3), .int .u64 (W64 a4), .int .u64 (W64 a5), .int .u64 (W64 b1), .int .i64 b2, .int .u64 (W64 b3), .int .u64 (W64 b4), .int .u64 (W64 b5)]) 0 hst (fun _ h => h) rfl (fun W hS K hK => calm_load rfl rfl (load_part hS.2.1 0 [.int .i64 ph, .int .u64 (W64 a1), .int .i64 a2, .int .u64 (W64 a3), .int .u64 (W64 a4), .int .u64 (W64 a5), .int .u64 (W64 b1), .int .i64 b2, .int .u64 (W64 b3), .int .u64 (W64 b4), .int .u64 (W64 b5)] rfl Try.underlying27 rfl (by kernel_rfl)) (hK.out _ (Below.refl _ _))) ?_; simp only [Act.put, List.setIfInBounds_toArray, List.set_cons_zero, List.set_cons_succ]
  refine wpU_take (v := .agg #[.int .u32 (W32 vi), .bool vu, .int .i64 vs]) 1 hst (fun _ h => h) rfl (fun W hS K hK => calm_load rfl rfl (load_part hS.2.2.1 0 [.int .u32 (W32 vi), .bool vu, .int .i64 vs] rfl Try.underlying59 rfl (by kernel_rfl)) (hK.out _ (Below.refl _ _))) ?_; simp only [Act.put, List.setIfInBounds_toArray, List.set_cons_zero, List.set_cons_succ]
  refine wpU_take (v := .agg #[.bool br, .bool bu, .int .u32 (W32 bi)]) 2 hst (fun _ h => h) rfl (fun W hS K hK => calm_load rfl rfl (load_part hS.2.2.2.1 0 [.bool br, .bool bu, .int .u32 (W32 bi)] rfl Try.underlying71 rfl (by kernel_rfl)) (hK.out _ (Below.refl _ _))) ?_; simp only [Act.put, List.setIfInBounds_toArray, List.set_cons_zero, List.set_cons_succ]
  refine wpU_take (v := ?_) 3 hst (fun _ h => h) rfl ?_ ?_; rotate_left; (intro W hS K hK; clear hS; go_simp; exact hK.out _ (Below.refl _ _)); simp only [Act.put, List.setIfInBounds_toArray, List.set_cons_zero, List.set_cons_succ]
  refine wpU_take (v := ?_) 4 hst (fun _ h => h) rfl ?_ ?_; rotate_left; (intro W hS K hK; clear hS; go_simp; refine (HV.out _).mono ?_; rintro e w9 ⟨rfl, hb⟩; refine CallPost.mk ?_; exact hK.out _ (hb)); simp only [Act.put, List.setIfInBounds_toArray, List.set_cons_zero, List.set_cons_succ]
  refine wpV_st 5 hst (fun _ h => h) #[.int .i64 ph, .int .u64 (W64 a1), .int .i64 a2, .int .u64 (W64 a3), .int .u64 (W64 a4), .int .u64 (W64 a5), .int .u64 (W64 b1), .int .i64 b2, .int .u64 (W64 b3), .int .u64 (W64 b4), .int .u64 (W64 b5)] rfl rfl rfl rfl (fun W hS => hS.2.2.2.2.1) (fun W W' h hU hG => ?_) (by kernel_rfl) rfl (fun hst => ?_)
  · obtain ⟨h0_0, h0_1, h0_2, h0_3, ⟨ch0_4, ah0_4, bh0_4, h0_4⟩, ⟨ch0_5, ah0_5, bh0_5, h0_5⟩, h0_6⟩ := h
    exact ⟨hU.below h0_0 (by omega), hU.blk h0_1 (by omega), hU.blk h0_2 (by omega), hU.blk h0_3 (by omega), ⟨_, rfl, rfl, hG⟩, ⟨ch0_5, ah0_5, bh0_5, hU.blk h0_5 (by omega)⟩, hU.blk h0_6 (by omega)⟩
  refine wpV_st 6 hst (fun _ h => h.1) #[.int .u32 (W32 xi), .bool xu, .int .i64 xs] rfl rfl rfl rfl (fun W hS => hS.1.2.2.2.2.2.1) (fun W W' h hU hG => ?_) (by kernel_rfl) rfl (fun hst => ?_)
  · obtain ⟨⟨h0_0, h0_1, h0_2, h0_3, ⟨ch0_4, ah0_4, bh0_4, h0_4⟩, ⟨ch0_5, ah0_5, bh0_5, h0_5⟩, h0_6⟩, h1_0⟩ := h
    exact ⟨⟨hU.below h0_0 (by omega), hU.blk h0_1 (by omega), hU.blk h0_2 (by omega), hU.blk h0_3 (by omega), ⟨ch0_4, ah0_4, bh0_4, hU.blk h0_4 (by omega)⟩, ⟨_, rfl, rfl, hG⟩, hU.blk h0_6 (by omega)⟩, hU.blk h1_0 (by omega)⟩
  refine wpU_done (fun w_48 hS => ?_)
  obtain ⟨⟨⟨hB, G_4, G_11, G_19, -, -, G_41⟩, G_27s⟩, G_35s⟩ := hS
  clear hst
  go_wp2_with (first | (with_reducible refine stop_store ?_) | (with_reducible refine stop_box ?_) | (with_reducible refine stop_alloc ?_) | (with_reducible refine stop_bslice ?_))
  refine bodyPost_ret (results_cc rfl rfl rfl (load_blk G_27s Try.underlying27 rfl (by kernel_rfl)) (load_blk G_35s Try.underlying59 rfl (by kernel_rfl))) rfl ?_
  refine ⟨?_, hB⟩
  have er : r = (⟨ph, ⟨a1, a2, a3, a4, a5⟩, ⟨b1, b2, b3, b4, b5⟩⟩, ⟨xi, xu, xs⟩) := by
     have p1 := P1.out; have p2 := P2.out; rw [← HR.out]; have hx := HX.out; simp [hearK, recvK, phaseK, nk0, hx, p1, p2]
  rw [er]
  rfl
theorem rf_Hear (k : KS) (v : IV) (b : Bea) (ix now : Int) (w : World) (h0 : 0 ≤ v.since ∧ v.since ≤ 1099511627776) (h1 : 0 ≤ now ∧ now ≤ 1099511627776) :
    Calls Try.prog 48 #[.agg (ksA k), .agg (ivA v), .agg (beA b), .int .i64 ix, .int .i64 now] w fun e w' => e = .returned (.tuple #[.agg (ksA (hearK k v b ix now).1), .agg (ivA (hearK k v b ix now).2)]) ∧ Below w.heap.size w w' := by
  obtain ⟨ph, ⟨a1, a2, a3, a4, a5⟩, ⟨b1, b2, b3, b4, b5⟩⟩ := k
  obtain ⟨vi, vu, vs⟩ := v
  obtain ⟨br, bu, bi⟩ := b
  by_cases p1 : ph = 1
  · subst p1
    by_cases i0 : ix < 0
    · exact rf_Hear_nN a1 a2 a3 a4 a5 b1 b2 b3 b4 b5 vi vu vs br bu bi now ix w h0 h1 i0
    by_cases i1 : 2 ≤ ix
    · exact rf_Hear_nB a1 a2 a3 a4 a5 b1 b2 b3 b4 b5 vi vu vs br bu bi now ix w h0 h1 i1
    rcases (by omega : ix = 0 ∨ ix = 1) with rfl | rfl
    · exact rf_Hear_n0 a1 a2 a3 a4 a5 b1 b2 b3 b4 b5 vi vu vs br bu bi now w h0 h1
    · exact rf_Hear_n1 a1 a2 a3 a4 a5 b1 b2 b3 b4 b5 vi vu vs br bu bi now w h0 h1
  by_cases p2 : ph = 2
  · subst p2
    by_cases i0 : ix < 0
    · exact rf_Hear_uN a1 a2 a3 a4 a5 b1 b2 b3 b4 b5 vi vu vs br bu bi now ix w h0 h1 i0
    by_cases i1 : 2 ≤ ix
    · exact rf_Hear_uB a1 a2 a3 a4 a5 b1 b2 b3 b4 b5 vi vu vs br bu bi now ix w h0 h1 i1
    rcases (by omega : ix = 0 ∨ ix = 1) with rfl | rfl
    · exact rf_Hear_u0 a1 a2 a3 a4 a5 b1 b2 b3 b4 b5 vi vu vs br bu bi now w h0 h1
    · exact rf_Hear_u1 a1 a2 a3 a4 a5 b1 b2 b3 b4 b5 vi vu vs br bu bi now w h0 h1
  by_cases i0 : ix < 0
  · exact rf_Hear_oN ph a1 a2 a3 a4 a5 b1 b2 b3 b4 b5 vi vu vs br bu bi now ix w h0 h1 p1 p2 i0
  by_cases i1 : 1 ≤ ix
  · exact rf_Hear_oB ph a1 a2 a3 a4 a5 b1 b2 b3 b4 b5 vi vu vs br bu bi now ix w h0 h1 p1 p2 i1
  obtain rfl : ix = 0 := by omega
  exact rf_Hear_o0 ph a1 a2 a3 a4 a5 b1 b2 b3 b4 b5 vi vu vs br bu bi now w h0 h1 p1 p2
end Go.Proofs.Ytmehemojopfihaa
