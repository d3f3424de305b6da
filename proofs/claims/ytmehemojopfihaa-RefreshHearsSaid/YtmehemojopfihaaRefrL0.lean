/- Hear of the reference (layer 52). -/
import Derived.Test.YtmehemojopfihaaRefrJ
import Derived.Test.YtmehemojopfihaaRefrH
namespace Go.Proofs.Ytmehemojopfihaa
set_option maxRecDepth 100000
open Go.ChangeShapes Go.WideShapes Go.ChangeAt Go.RowKit
set_option linter.unusedVariables false
set_option linter.unusedSimpArgs false

theorem hear_no (k : KS) (v : IV) (b : Bea) (i : Nat) (now : Int) (hi : i < (recvK k).length) (h : ¬ (1 < (recvK k).length ∧ (recvK k)[i] = k.new)) : hearK k v b (i : Int) now = (k, hearIVK v b now) := by
  unfold hearK
  rw [if_neg (by omega), if_neg]
  rintro ⟨h1, h2⟩
  refine h ⟨by omega, ?_⟩
  rw [Int.toNat_natCast, List.getElem?_eq_getElem hi] at h2
  injection h2
theorem hear_yes (k : KS) (v : IV) (b : Bea) (i : Nat) (now : Int) (hi : i < (recvK k).length) (h1 : 1 < (recvK k).length) (h2 : (recvK k)[i] = k.new) (p : Int) (hp : (if b.ref then 2 else 3) = p) : hearK k v b (i : Int) now = ((phaseK k p).1, hearIVK v b now) := by
  subst hp
  unfold hearK
  rw [if_neg (by omega), if_pos]
  refine ⟨by omega, ?_⟩
  rw [Int.toNat_natCast, List.getElem?_eq_getElem hi, h2]
theorem hear_no2 (k : KS) (v : IV) (b : Bea) (i : Nat) (now : Int) (ks : List NK) (x : NK) (hks : recvK k = ks) (hi : i < ks.length) (hx : ks[i] = x) (h : ¬ (1 < ks.length ∧ x = k.new)) : hearK k v b (i : Int) now = (k, hearIVK v b now) := by
  subst hks; subst hx; exact hear_no k v b i now hi h
theorem hear_noA (k : KS) (v : IV) (b : Bea) (i : Nat) (now : Int) (ks : List NK) (x : NK) (hks : recvK k = ks) (hi : i < ks.length) (hx : ks[i] = x) (h : (ks.length : Int) ≤ 1) : hearK k v b (i : Int) now = (k, hearIVK v b now) :=
  hear_no2 k v b i now ks x hks hi hx (fun hh => by omega)
theorem hear_noB (k : KS) (v : IV) (b : Bea) (i : Nat) (now : Int) (ks : List NK) (x : NK) (hks : recvK k = ks) (hi : i < ks.length) (hx : ks[i] = x) (h : ¬ x = k.new) : hearK k v b (i : Int) now = (k, hearIVK v b now) :=
  hear_no2 k v b i now ks x hks hi hx (fun hh => h hh.2)
theorem hear_yes2 (k : KS) (v : IV) (b : Bea) (i : Nat) (now : Int) (ks : List NK) (x : NK) (hks : recvK k = ks) (hi : i < ks.length) (hx : ks[i] = x) (h1 : (1 : Int) < ks.length) (h2 : x = k.new) (p : Int) (k2 : KS) (ok : Bool) (hp : (if b.ref then 2 else 3) = p) (hz : phaseK k p = (k2, ok)) : hearK k v b (i : Int) now = (k2, hearIVK v b now) := by
  subst hks; subst hx; rw [hear_yes k v b i now hi (by omega) h2 p hp, hz]
theorem hear_out (k : KS) (v : IV) (b : Bea) (ix now : Int) (h : ix < 0 ∨ (recvK k).length ≤ ix) : hearK k v b ix now = (k, v) := by
  unfold hearK
  rw [if_pos h]
set_option maxHeartbeats 16000000 in
theorem r52_Hear_neg (ph : Int) (a1 : BitVec 64) (a2 : Int) (a3 a4 a5 b1 : BitVec 64) (b2 : Int) (b3 b4 b5 : BitVec 64) (vi : BitVec 32) (vu : Bool) (vs : Int) (br bu : Bool) (bi : BitVec 32) (now : Int) (ks : List NK) (ix : Int) (w : World) (h0 : 0 ≤ vs ∧ vs ≤ 1099511627776) (h1 : 0 ≤ now ∧ now ≤ 1099511627776) (hks : recvK ⟨ph, ⟨a1, a2, a3, a4, a5⟩, ⟨b1, b2, b3, b4, b5⟩⟩ = ks) (hx : ix < 0) :
    Calls Try.prog 49 #[.agg #[.int .i64 ph, .int .u64 (W64 a1), .int .i64 a2, .int .u64 (W64 a3), .int .u64 (W64 a4), .int .u64 (W64 a5), .int .u64 (W64 b1), .int .i64 b2, .int .u64 (W64 b3), .int .u64 (W64 b4), .int .u64 (W64 b5)], .agg #[.int .u32 (W32 vi), .bool vu, .int .i64 vs], .agg #[.bool br, .bool bu, .int .u32 (W32 bi)], .int .i64 ix, .int .i64 now] w fun e w' => e = .returned (.tuple #[.agg (ksA (hearK ⟨ph, ⟨a1, a2, a3, a4, a5⟩, ⟨b1, b2, b3, b4, b5⟩⟩ ⟨vi, vu, vs⟩ ⟨br, bu, bi⟩ ix now).1), .agg (ivA (hearK ⟨ph, ⟨a1, a2, a3, a4, a5⟩, ⟨b1, b2, b3, b4, b5⟩⟩ ⟨vi, vu, vs⟩ ⟨br, bu, bi⟩ ix now).2)]) ∧ Below w.heap.size w w' := by
  have CR := Lib.hid (show ∀ W, Calls Try.prog 24 #[.agg #[.int .i64 ph, .int .u64 (W64 a1), .int .i64 a2, .int .u64 (W64 a3), .int .u64 (W64 a4), .int .u64 (W64 a5), .int .u64 (W64 b1), .int .i64 b2, .int .u64 (W64 b3), .int .u64 (W64 b4), .int .u64 (W64 b5)]] W fun e w' => ∃ b, e = .returned (.slice (some ⟨b, 0, none⟩) ks.length ks.length) ∧ Rd w' (some ⟨b, 0, none⟩) (nksL ks) ∧ Below W.heap.size W w' from fun W => by have := r52_Recv ⟨ph, ⟨a1, a2, a3, a4, a5⟩, ⟨b1, b2, b3, b4, b5⟩⟩ _ rfl W; rw [hks] at this; exact this)
  have L := Lib.hid (show ∀ W, Calls Try.prog 76 #[.agg #[.int .u32 (W32 vi), .bool vu, .int .i64 vs], .int .i64 now] W fun e w' => e = .returned (.bool (lastB vs now)) ∧ Below W.heap.size W w' from fun W => r52_lastedB ⟨vi, vu, vs⟩ now W h0 h1)
  obtain ⟨lb, hlb⟩ : ∃ z, lastB vs now = z := ⟨_, rfl⟩
  rw [hlb] at L
  have HLB := Lib.hid hlb
  have HKS := Lib.hid hks
  have hn1 : 1 ≤ ks.length := by rw [← hks]; exact (recv_len _).1
  have hn2 : ks.length ≤ 2 := by rw [← hks]; exact (recv_len _).2
  have i0 : decide (ix < 0) = true := by simpa using hx
  clear hlb hks h0 h1
  go_enter Try.func49, Try.ntmps49
  go_wp2_with (first | (with_reducible refine stop_store ?_) | (with_reducible refine stop_box ?_) | (with_reducible refine stop_alloc ?_) | (with_reducible refine stop_bslice ?_))
  unfold Kept
  refine go_mem (ty := 27) (cs := #[.int .i64 ph, .int .u64 (W64 a1), .int .i64 a2, .int .u64 (W64 a3), .int .u64 (W64 a4), .int .u64 (W64 a5), .int .u64 (W64 b1), .int .i64 b2, .int .u64 (W64 b3), .int .u64 (W64 b4), .int .u64 (W64 b5)]) (fun g => .pointer (some ⟨g, 0, none⟩)) rfl (by kernel_rfl) ?_
  intro g_1 w_2 z_6 l_5 hb_3 G_4
  have n_7 : w.heap.size ≤ g_1 := l_5
  have hB := hb_3
  clear hb_3 l_5 z_6
  go_wp2_with (first | (with_reducible refine stop_store ?_) | (with_reducible refine stop_box ?_) | (with_reducible refine stop_alloc ?_) | (with_reducible refine stop_bslice ?_))
  unfold Kept
  refine go_mem (ty := 59) (cs := #[.int .u32 (W32 vi), .bool vu, .int .i64 vs]) (fun g => .pointer (some ⟨g, 0, none⟩)) rfl (by kernel_rfl) ?_
  intro g_8 w_9 z_13 l_12 hb_10 G_11
  have n_14 : g_1 < g_8 := Nat.lt_of_lt_of_le G_4.lt l_12
  have n_15 : w.heap.size ≤ g_8 := Nat.le_trans hB.size l_12
  replace G_4 := G_4.to hb_10 G_4.lt
  replace hB := hB.trans (hb_10.mono hB.size)
  clear hb_10 l_12 z_13
  go_wp2_with (first | (with_reducible refine stop_store ?_) | (with_reducible refine stop_box ?_) | (with_reducible refine stop_alloc ?_) | (with_reducible refine stop_bslice ?_))
  unfold Kept
  refine go_mem (ty := 71) (cs := #[.bool br, .bool bu, .int .u32 (W32 bi)]) (fun g => .pointer (some ⟨g, 0, none⟩)) rfl (by kernel_rfl) ?_
  intro g_16 w_17 z_21 l_20 hb_18 G_19
  have n_22 : g_8 < g_16 := Nat.lt_of_lt_of_le G_11.lt l_20
  have n_23 : w.heap.size ≤ g_16 := Nat.le_trans hB.size l_20
  replace G_4 := G_4.to hb_18 G_4.lt
  replace G_11 := G_11.to hb_18 G_11.lt
  replace hB := hB.trans (hb_18.mono hB.size)
  clear hb_18 l_20 z_21
  go_wp2_with (first | (with_reducible refine stop_store ?_) | (with_reducible refine stop_box ?_) | (with_reducible refine stop_alloc ?_) | (with_reducible refine stop_bslice ?_))
  unfold Kept
  refine go_mem (ty := 27) (cs := #[.int .i64 0, .int .u64 0, .int .i64 0, .int .u64 0, .int .u64 0, .int .u64 0, .int .u64 0, .int .i64 0, .int .u64 0, .int .u64 0, .int .u64 0]) (fun g => .pointer (some ⟨g, 0, none⟩)) rfl (by kernel_rfl) ?_
  intro g_24 w_25 z_29 l_28 hb_26 G_27
  have n_30 : g_16 < g_24 := Nat.lt_of_lt_of_le G_19.lt l_28
  have n_31 : w.heap.size ≤ g_24 := Nat.le_trans hB.size l_28
  replace G_4 := G_4.to hb_26 G_4.lt
  replace G_11 := G_11.to hb_26 G_11.lt
  replace G_19 := G_19.to hb_26 G_19.lt
  replace hB := hB.trans (hb_26.mono hB.size)
  clear hb_26 l_28 z_29
  go_wp2_with (first | (with_reducible refine stop_store ?_) | (with_reducible refine stop_box ?_) | (with_reducible refine stop_alloc ?_) | (with_reducible refine stop_bslice ?_))
  unfold Kept
  refine go_mem (ty := 59) (cs := #[.int .u32 0, .bool false, .int .i64 0]) (fun g => .pointer (some ⟨g, 0, none⟩)) rfl (by kernel_rfl) ?_
  intro g_32 w_33 z_37 l_36 hb_34 G_35
  have n_38 : g_24 < g_32 := Nat.lt_of_lt_of_le G_27.lt l_36
  have n_39 : w.heap.size ≤ g_32 := Nat.le_trans hB.size l_36
  replace G_4 := G_4.to hb_34 G_4.lt
  replace G_11 := G_11.to hb_34 G_11.lt
  replace G_19 := G_19.to hb_34 G_19.lt
  replace G_27 := G_27.to hb_34 G_27.lt
  replace hB := hB.trans (hb_34.mono hB.size)
  clear hb_34 l_36 z_37
  go_wp2_with (first | (with_reducible refine stop_store ?_) | (with_reducible refine stop_box ?_) | (with_reducible refine stop_alloc ?_) | (with_reducible refine stop_bslice ?_) | ((with_reducible refine wpList_ld 0 [.int .i64 ph, .int .u64 (W64 a1), .int .i64 a2, .int .u64 (W64 a3), .int .u64 (W64 a4), .int .u64 (W64 a5), .int .u64 (W64 b1), .int .i64 b2, .int .u64 (W64 b3), .int .u64 (W64 b4), .int .u64 (W64 b5)] G_4 ?_ ?_ Try.underlying27 ?_ ?_ ?_); rfl; rfl; rfl; kernel_rfl))
  refine (CR.out _).mono ?_; rintro e w_41 ⟨rb, rfl, RK, hb_42⟩
  replace G_4 := G_4.to hb_42 G_4.lt
  replace G_11 := G_11.to hb_42 G_11.lt
  replace G_19 := G_19.to hb_42 G_19.lt
  replace G_27 := G_27.to hb_42 G_27.lt
  replace G_35 := G_35.to hb_42 G_35.lt
  replace hB := hB.trans (hb_42.mono hB.size)
  clear hb_42
  clear RK
  go_wp2_with (first | (with_reducible refine stop_store ?_) | (with_reducible refine stop_box ?_) | (with_reducible refine stop_alloc ?_) | (with_reducible refine stop_bslice ?_))
  have hst : Stable fun W => Below w.heap.size w W ∧ Blk W g_1 27 #[.int .i64 ph, .int .u64 (W64 a1), .int .i64 a2, .int .u64 (W64 a3), .int .u64 (W64 a4), .int .u64 (W64 a5), .int .u64 (W64 b1), .int .i64 b2, .int .u64 (W64 b3), .int .u64 (W64 b4), .int .u64 (W64 b5)] ∧ Blk W g_8 59 #[.int .u32 (W32 vi), .bool vu, .int .i64 vs] ∧ Blk W g_16 71 #[.bool br, .bool bu, .int .u32 (W32 bi)] ∧ Room g_24 27 11 W ∧ Room g_32 59 3 W := stable_and (stable_below _ _ (Nat.le_refl _)) (stable_and (stable_blk _ _ _) (stable_and (stable_blk _ _ _) (stable_and (stable_blk _ _ _) (stable_and (stable_room _ _ _) (stable_room _ _ _)))))
  refine wp_region_v _ 4 hst ⟨hB.drew, G_4, G_11, G_19, ⟨_, rfl, rfl, G_27⟩, ⟨_, rfl, rfl, G_35⟩⟩ ?_
  clear hB G_4 G_11 G_19 G_27 G_35
  refine wpU_take (v := .agg #[.int .i64 ph, .int .u64 (W64 a1), .int .i64 a2, .int .u64 (W64 a3), .int .u64 (W64 a4), .int .u64 (W64 a5), .int .u64 (W64 b1), .int .i64 b2, .int .u64 (W64 b3), .int .u64 (W64 b4), .int .u64 (W64 b5)]) 0 hst (fun _ h => h) rfl (fun W hS K hK => calm_load rfl rfl (load_part hS.2.1 0 [.int .i64 ph, .int .u64 (W64 a1), .int .i64 a2, .int .u64 (W64 a3), .int .u64 (W64 a4), .int .u64 (W64 a5), .int .u64 (W64 b1), .int .i64 b2, .int .u64 (W64 b3), .int .u64 (W64 b4), .int .u64 (W64 b5)] rfl Try.underlying27 rfl (by kernel_rfl)) (hK.out _ (Below.refl _ _))) ?_; simp only [Act.put, List.setIfInBounds_toArray, List.set_cons_zero, List.set_cons_succ]
  refine wpU_take (v := .agg #[.int .u32 (W32 vi), .bool vu, .int .i64 vs]) 1 hst (fun _ h => h) rfl (fun W hS K hK => calm_load rfl rfl (load_part hS.2.2.1 0 [.int .u32 (W32 vi), .bool vu, .int .i64 vs] rfl Try.underlying59 rfl (by kernel_rfl)) (hK.out _ (Below.refl _ _))) ?_; simp only [Act.put, List.setIfInBounds_toArray, List.set_cons_zero, List.set_cons_succ]
  refine wpV_st 2 hst (fun _ h => h) #[.int .i64 ph, .int .u64 (W64 a1), .int .i64 a2, .int .u64 (W64 a3), .int .u64 (W64 a4), .int .u64 (W64 a5), .int .u64 (W64 b1), .int .i64 b2, .int .u64 (W64 b3), .int .u64 (W64 b4), .int .u64 (W64 b5)] rfl rfl rfl rfl (fun W hS => hS.2.2.2.2.1) (fun W W' h hU hG => ?_) (by kernel_rfl) rfl (fun hst => ?_)
  · obtain ⟨h0_0, h0_1, h0_2, h0_3, ⟨ch0_4, ah0_4, bh0_4, h0_4⟩, ⟨ch0_5, ah0_5, bh0_5, h0_5⟩⟩ := h
    exact ⟨hU.below h0_0 (by omega), hU.blk h0_1 (by omega), hU.blk h0_2 (by omega), hU.blk h0_3 (by omega), ⟨_, rfl, rfl, hG⟩, ⟨ch0_5, ah0_5, bh0_5, hU.blk h0_5 (by omega)⟩⟩
  refine wpV_st 3 hst (fun _ h => h.1) #[.int .u32 (W32 vi), .bool vu, .int .i64 vs] rfl rfl rfl rfl (fun W hS => hS.1.2.2.2.2.2) (fun W W' h hU hG => ?_) (by kernel_rfl) rfl (fun hst => ?_)
  · obtain ⟨⟨h0_0, h0_1, h0_2, h0_3, ⟨ch0_4, ah0_4, bh0_4, h0_4⟩, ⟨ch0_5, ah0_5, bh0_5, h0_5⟩⟩, h1_0⟩ := h
    exact ⟨⟨hU.below h0_0 (by omega), hU.blk h0_1 (by omega), hU.blk h0_2 (by omega), hU.blk h0_3 (by omega), ⟨ch0_4, ah0_4, bh0_4, hU.blk h0_4 (by omega)⟩, ⟨_, rfl, rfl, hG⟩⟩, hU.blk h1_0 (by omega)⟩
  refine wpU_done (fun w_43 hS => ?_)
  obtain ⟨⟨⟨hB, G_4, G_11, G_19, -, -⟩, G_27s⟩, G_35s⟩ := hS
  clear hst
  go_wp2_with (first | (with_reducible refine stop_store ?_) | (with_reducible refine stop_box ?_) | (with_reducible refine stop_alloc ?_) | (with_reducible refine stop_bslice ?_))
  refine bodyPost_ret (results_cc rfl rfl rfl (load_blk G_27s Try.underlying27 rfl (by kernel_rfl)) (load_blk G_35s Try.underlying59 rfl (by kernel_rfl))) rfl ?_
  refine ⟨?_, hB⟩
  rw [hear_out _ _ _ _ _ (by rw [HKS.out]; first | exact .inl (by omega) | exact .inr (by omega))]
  rfl
set_option maxHeartbeats 16000000 in
theorem r52_Hear_big (ph : Int) (a1 : BitVec 64) (a2 : Int) (a3 a4 a5 b1 : BitVec 64) (b2 : Int) (b3 b4 b5 : BitVec 64) (vi : BitVec 32) (vu : Bool) (vs : Int) (br bu : Bool) (bi : BitVec 32) (now : Int) (ks : List NK) (ix : Int) (w : World) (h0 : 0 ≤ vs ∧ vs ≤ 1099511627776) (h1 : 0 ≤ now ∧ now ≤ 1099511627776) (hks : recvK ⟨ph, ⟨a1, a2, a3, a4, a5⟩, ⟨b1, b2, b3, b4, b5⟩⟩ = ks) (hx : (ks.length : Int) ≤ ix) :
    Calls Try.prog 49 #[.agg #[.int .i64 ph, .int .u64 (W64 a1), .int .i64 a2, .int .u64 (W64 a3), .int .u64 (W64 a4), .int .u64 (W64 a5), .int .u64 (W64 b1), .int .i64 b2, .int .u64 (W64 b3), .int .u64 (W64 b4), .int .u64 (W64 b5)], .agg #[.int .u32 (W32 vi), .bool vu, .int .i64 vs], .agg #[.bool br, .bool bu, .int .u32 (W32 bi)], .int .i64 ix, .int .i64 now] w fun e w' => e = .returned (.tuple #[.agg (ksA (hearK ⟨ph, ⟨a1, a2, a3, a4, a5⟩, ⟨b1, b2, b3, b4, b5⟩⟩ ⟨vi, vu, vs⟩ ⟨br, bu, bi⟩ ix now).1), .agg (ivA (hearK ⟨ph, ⟨a1, a2, a3, a4, a5⟩, ⟨b1, b2, b3, b4, b5⟩⟩ ⟨vi, vu, vs⟩ ⟨br, bu, bi⟩ ix now).2)]) ∧ Below w.heap.size w w' := by
  have CR := Lib.hid (show ∀ W, Calls Try.prog 24 #[.agg #[.int .i64 ph, .int .u64 (W64 a1), .int .i64 a2, .int .u64 (W64 a3), .int .u64 (W64 a4), .int .u64 (W64 a5), .int .u64 (W64 b1), .int .i64 b2, .int .u64 (W64 b3), .int .u64 (W64 b4), .int .u64 (W64 b5)]] W fun e w' => ∃ b, e = .returned (.slice (some ⟨b, 0, none⟩) ks.length ks.length) ∧ Rd w' (some ⟨b, 0, none⟩) (nksL ks) ∧ Below W.heap.size W w' from fun W => by have := r52_Recv ⟨ph, ⟨a1, a2, a3, a4, a5⟩, ⟨b1, b2, b3, b4, b5⟩⟩ _ rfl W; rw [hks] at this; exact this)
  have L := Lib.hid (show ∀ W, Calls Try.prog 76 #[.agg #[.int .u32 (W32 vi), .bool vu, .int .i64 vs], .int .i64 now] W fun e w' => e = .returned (.bool (lastB vs now)) ∧ Below W.heap.size W w' from fun W => r52_lastedB ⟨vi, vu, vs⟩ now W h0 h1)
  obtain ⟨lb, hlb⟩ : ∃ z, lastB vs now = z := ⟨_, rfl⟩
  rw [hlb] at L
  have HLB := Lib.hid hlb
  have HKS := Lib.hid hks
  have hn1 : 1 ≤ ks.length := by rw [← hks]; exact (recv_len _).1
  have hn2 : ks.length ≤ 2 := by rw [← hks]; exact (recv_len _).2
  have i0 : decide (ix < 0) = false := decide_eq_false (by omega)
  have i1 : decide ((ks.length : Int) ≤ ix) = true := by simpa using hx
  clear hlb hks h0 h1
  go_enter Try.func49, Try.ntmps49
  go_wp2_with (first | (with_reducible refine stop_store ?_) | (with_reducible refine stop_box ?_) | (with_reducible refine stop_alloc ?_) | (with_reducible refine stop_bslice ?_))
  unfold Kept
  refine go_mem (ty := 27) (cs := #[.int .i64 ph, .int .u64 (W64 a1), .int .i64 a2, .int .u64 (W64 a3), .int .u64 (W64 a4), .int .u64 (W64 a5), .int .u64 (W64 b1), .int .i64 b2, .int .u64 (W64 b3), .int .u64 (W64 b4), .int .u64 (W64 b5)]) (fun g => .pointer (some ⟨g, 0, none⟩)) rfl (by kernel_rfl) ?_
  intro g_1 w_2 z_6 l_5 hb_3 G_4
  have n_7 : w.heap.size ≤ g_1 := l_5
  have hB := hb_3
  clear hb_3 l_5 z_6
  go_wp2_with (first | (with_reducible refine stop_store ?_) | (with_reducible refine stop_box ?_) | (with_reducible refine stop_alloc ?_) | (with_reducible refine stop_bslice ?_))
  unfold Kept
  refine go_mem (ty := 59) (cs := #[.int .u32 (W32 vi), .bool vu, .int .i64 vs]) (fun g => .pointer (some ⟨g, 0, none⟩)) rfl (by kernel_rfl) ?_
  intro g_8 w_9 z_13 l_12 hb_10 G_11
  have n_14 : g_1 < g_8 := Nat.lt_of_lt_of_le G_4.lt l_12
  have n_15 : w.heap.size ≤ g_8 := Nat.le_trans hB.size l_12
  replace G_4 := G_4.to hb_10 G_4.lt
  replace hB := hB.trans (hb_10.mono hB.size)
  clear hb_10 l_12 z_13
  go_wp2_with (first | (with_reducible refine stop_store ?_) | (with_reducible refine stop_box ?_) | (with_reducible refine stop_alloc ?_) | (with_reducible refine stop_bslice ?_))
  unfold Kept
  refine go_mem (ty := 71) (cs := #[.bool br, .bool bu, .int .u32 (W32 bi)]) (fun g => .pointer (some ⟨g, 0, none⟩)) rfl (by kernel_rfl) ?_
  intro g_16 w_17 z_21 l_20 hb_18 G_19
  have n_22 : g_8 < g_16 := Nat.lt_of_lt_of_le G_11.lt l_20
  have n_23 : w.heap.size ≤ g_16 := Nat.le_trans hB.size l_20
  replace G_4 := G_4.to hb_18 G_4.lt
  replace G_11 := G_11.to hb_18 G_11.lt
  replace hB := hB.trans (hb_18.mono hB.size)
  clear hb_18 l_20 z_21
  go_wp2_with (first | (with_reducible refine stop_store ?_) | (with_reducible refine stop_box ?_) | (with_reducible refine stop_alloc ?_) | (with_reducible refine stop_bslice ?_))
  unfold Kept
  refine go_mem (ty := 27) (cs := #[.int .i64 0, .int .u64 0, .int .i64 0, .int .u64 0, .int .u64 0, .int .u64 0, .int .u64 0, .int .i64 0, .int .u64 0, .int .u64 0, .int .u64 0]) (fun g => .pointer (some ⟨g, 0, none⟩)) rfl (by kernel_rfl) ?_
  intro g_24 w_25 z_29 l_28 hb_26 G_27
  have n_30 : g_16 < g_24 := Nat.lt_of_lt_of_le G_19.lt l_28
  have n_31 : w.heap.size ≤ g_24 := Nat.le_trans hB.size l_28
  replace G_4 := G_4.to hb_26 G_4.lt
  replace G_11 := G_11.to hb_26 G_11.lt
  replace G_19 := G_19.to hb_26 G_19.lt
  replace hB := hB.trans (hb_26.mono hB.size)
  clear hb_26 l_28 z_29
  go_wp2_with (first | (with_reducible refine stop_store ?_) | (with_reducible refine stop_box ?_) | (with_reducible refine stop_alloc ?_) | (with_reducible refine stop_bslice ?_))
  unfold Kept
  refine go_mem (ty := 59) (cs := #[.int .u32 0, .bool false, .int .i64 0]) (fun g => .pointer (some ⟨g, 0, none⟩)) rfl (by kernel_rfl) ?_
  intro g_32 w_33 z_37 l_36 hb_34 G_35
  have n_38 : g_24 < g_32 := Nat.lt_of_lt_of_le G_27.lt l_36
  have n_39 : w.heap.size ≤ g_32 := Nat.le_trans hB.size l_36
  replace G_4 := G_4.to hb_34 G_4.lt
  replace G_11 := G_11.to hb_34 G_11.lt
  replace G_19 := G_19.to hb_34 G_19.lt
  replace G_27 := G_27.to hb_34 G_27.lt
  replace hB := hB.trans (hb_34.mono hB.size)
  clear hb_34 l_36 z_37
  go_wp2_with (first | (with_reducible refine stop_store ?_) | (with_reducible refine stop_box ?_) | (with_reducible refine stop_alloc ?_) | (with_reducible refine stop_bslice ?_) | ((with_reducible refine wpList_ld 0 [.int .i64 ph, .int .u64 (W64 a1), .int .i64 a2, .int .u64 (W64 a3), .int .u64 (W64 a4), .int .u64 (W64 a5), .int .u64 (W64 b1), .int .i64 b2, .int .u64 (W64 b3), .int .u64 (W64 b4), .int .u64 (W64 b5)] G_4 ?_ ?_ Try.underlying27 ?_ ?_ ?_); rfl; rfl; rfl; kernel_rfl))
  refine (CR.out _).mono ?_; rintro e w_41 ⟨rb, rfl, RK, hb_42⟩
  replace G_4 := G_4.to hb_42 G_4.lt
  replace G_11 := G_11.to hb_42 G_11.lt
  replace G_19 := G_19.to hb_42 G_19.lt
  replace G_27 := G_27.to hb_42 G_27.lt
  replace G_35 := G_35.to hb_42 G_35.lt
  replace hB := hB.trans (hb_42.mono hB.size)
  clear hb_42
  clear RK
  go_wp2_with (first | (with_reducible refine stop_store ?_) | (with_reducible refine stop_box ?_) | (with_reducible refine stop_alloc ?_) | (with_reducible refine stop_bslice ?_))
  have hst : Stable fun W => Below w.heap.size w W ∧ Blk W g_1 27 #[.int .i64 ph, .int .u64 (W64 a1), .int .i64 a2, .int .u64 (W64 a3), .int .u64 (W64 a4), .int .u64 (W64 a5), .int .u64 (W64 b1), .int .i64 b2, .int .u64 (W64 b3), .int .u64 (W64 b4), .int .u64 (W64 b5)] ∧ Blk W g_8 59 #[.int .u32 (W32 vi), .bool vu, .int .i64 vs] ∧ Blk W g_16 71 #[.bool br, .bool bu, .int .u32 (W32 bi)] ∧ Room g_24 27 11 W ∧ Room g_32 59 3 W := stable_and (stable_below _ _ (Nat.le_refl _)) (stable_and (stable_blk _ _ _) (stable_and (stable_blk _ _ _) (stable_and (stable_blk _ _ _) (stable_and (stable_room _ _ _) (stable_room _ _ _)))))
  refine wp_region_v _ 4 hst ⟨hB.drew, G_4, G_11, G_19, ⟨_, rfl, rfl, G_27⟩, ⟨_, rfl, rfl, G_35⟩⟩ ?_
  clear hB G_4 G_11 G_19 G_27 G_35
  refine wpU_take (v := .agg #[.int .i64 ph, .int .u64 (W64 a1), .int .i64 a2, .int .u64 (W64 a3), .int .u64 (W64 a4), .int .u64 (W64 a5), .int .u64 (W64 b1), .int .i64 b2, .int .u64 (W64 b3), .int .u64 (W64 b4), .int .u64 (W64 b5)]) 0 hst (fun _ h => h) rfl (fun W hS K hK => calm_load rfl rfl (load_part hS.2.1 0 [.int .i64 ph, .int .u64 (W64 a1), .int .i64 a2, .int .u64 (W64 a3), .int .u64 (W64 a4), .int .u64 (W64 a5), .int .u64 (W64 b1), .int .i64 b2, .int .u64 (W64 b3), .int .u64 (W64 b4), .int .u64 (W64 b5)] rfl Try.underlying27 rfl (by kernel_rfl)) (hK.out _ (Below.refl _ _))) ?_; simp only [Act.put, List.setIfInBounds_toArray, List.set_cons_zero, List.set_cons_succ]
  refine wpU_take (v := .agg #[.int .u32 (W32 vi), .bool vu, .int .i64 vs]) 1 hst (fun _ h => h) rfl (fun W hS K hK => calm_load rfl rfl (load_part hS.2.2.1 0 [.int .u32 (W32 vi), .bool vu, .int .i64 vs] rfl Try.underlying59 rfl (by kernel_rfl)) (hK.out _ (Below.refl _ _))) ?_; simp only [Act.put, List.setIfInBounds_toArray, List.set_cons_zero, List.set_cons_succ]
  refine wpV_st 2 hst (fun _ h => h) #[.int .i64 ph, .int .u64 (W64 a1), .int .i64 a2, .int .u64 (W64 a3), .int .u64 (W64 a4), .int .u64 (W64 a5), .int .u64 (W64 b1), .int .i64 b2, .int .u64 (W64 b3), .int .u64 (W64 b4), .int .u64 (W64 b5)] rfl rfl rfl rfl (fun W hS => hS.2.2.2.2.1) (fun W W' h hU hG => ?_) (by kernel_rfl) rfl (fun hst => ?_)
  · obtain ⟨h0_0, h0_1, h0_2, h0_3, ⟨ch0_4, ah0_4, bh0_4, h0_4⟩, ⟨ch0_5, ah0_5, bh0_5, h0_5⟩⟩ := h
    exact ⟨hU.below h0_0 (by omega), hU.blk h0_1 (by omega), hU.blk h0_2 (by omega), hU.blk h0_3 (by omega), ⟨_, rfl, rfl, hG⟩, ⟨ch0_5, ah0_5, bh0_5, hU.blk h0_5 (by omega)⟩⟩
  refine wpV_st 3 hst (fun _ h => h.1) #[.int .u32 (W32 vi), .bool vu, .int .i64 vs] rfl rfl rfl rfl (fun W hS => hS.1.2.2.2.2.2) (fun W W' h hU hG => ?_) (by kernel_rfl) rfl (fun hst => ?_)
  · obtain ⟨⟨h0_0, h0_1, h0_2, h0_3, ⟨ch0_4, ah0_4, bh0_4, h0_4⟩, ⟨ch0_5, ah0_5, bh0_5, h0_5⟩⟩, h1_0⟩ := h
    exact ⟨⟨hU.below h0_0 (by omega), hU.blk h0_1 (by omega), hU.blk h0_2 (by omega), hU.blk h0_3 (by omega), ⟨ch0_4, ah0_4, bh0_4, hU.blk h0_4 (by omega)⟩, ⟨_, rfl, rfl, hG⟩⟩, hU.blk h1_0 (by omega)⟩
  refine wpU_done (fun w_43 hS => ?_)
  obtain ⟨⟨⟨hB, G_4, G_11, G_19, -, -⟩, G_27s⟩, G_35s⟩ := hS
  clear hst
  go_wp2_with (first | (with_reducible refine stop_store ?_) | (with_reducible refine stop_box ?_) | (with_reducible refine stop_alloc ?_) | (with_reducible refine stop_bslice ?_))
  refine bodyPost_ret (results_cc rfl rfl rfl (load_blk G_27s Try.underlying27 rfl (by kernel_rfl)) (load_blk G_35s Try.underlying59 rfl (by kernel_rfl))) rfl ?_
  refine ⟨?_, hB⟩
  rw [hear_out _ _ _ _ _ (by rw [HKS.out]; first | exact .inl (by omega) | exact .inr (by omega))]
  rfl
end Go.Proofs.Ytmehemojopfihaa
