/- Decode of the reference of layer 48. -/
import Derived.Test.YtbkaeoaepmeceaaNetE
import Derived.Test.YtbkaeoaepmeceaaNetD
import Derived.Test.YtbkaeoaepmeceaaMacLawsB
namespace Go.Proofs.Ytbkaeoaepmeceaa
set_option maxRecDepth 100000
open Go.ChangeShapes Go.WideShapes Go.ChangeAt Go.RowKit
set_option linter.unusedVariables false
set_option linter.unusedSimpArgs false

theorem mod2 (x : BitVec 32) : x % 2#32 = x &&& 1#32 := by
  apply BitVec.eq_of_toNat_eq
  rw [BitVec.toNat_umod, BitVec.toNat_and]
  exact (Nat.and_two_pow_sub_one_eq_mod x.toNat 1).symm
theorem w8_32 (x : BitVec 8) : W32 (BitVec.setWidth 32 x) = W8 x := by
  unfold W32 W8
  rw [BitVec.toNat_setWidth]
  have := x.isLt
  omega
set_option maxHeartbeats 1000000 in
theorem r48_Decode_s (k1 : BitVec 64) (k2 : Int) (k3 k4 k5 : BitVec 64) (iv : BitVec 32) (B : Option Addr) (n d : Nat) (w : World) (hl : n < 14) :
    Calls Try.prog 35 #[.agg #[.int .u64 (W64 k1), .int .i64 k2, .int .u64 (W64 k3), .int .u64 (W64 k4), .int .u64 (W64 k5)], .int .u32 (W32 iv), .slice B n d] w (RetN w (np0, 3)) := by
  have i0 : decide ((n : Int) < 14) = true := by simp; omega
  clear hl
  go_enter Try.func35, Try.ntmps35
  go_wp2_with (first | (with_reducible refine stop_store ?_) | (with_reducible refine stop_box ?_) | (with_reducible refine stop_alloc ?_) | (with_reducible refine stop_bslice ?_))
  unfold Kept
  refine go_mem (ty := 25) (cs := #[.int .u64 (W64 k1), .int .i64 k2, .int .u64 (W64 k3), .int .u64 (W64 k4), .int .u64 (W64 k5)]) (fun g => .pointer (some ⟨g, 0, none⟩)) rfl (by kernel_rfl) ?_
  intro g_1 w_2 z_6 l_5 hb_3 G_4
  have n_7 : w.heap.size ≤ g_1 := l_5
  have hB := hb_3
  clear hb_3 l_5 z_6
  go_wp2_with (first | (with_reducible refine stop_store ?_) | (with_reducible refine stop_box ?_) | (with_reducible refine stop_alloc ?_) | (with_reducible refine stop_bslice ?_))
  unfold Kept
  refine go_mem (ty := 44) (cs := #[.int .u32 0, .int .i64 0, .bool false, .int .i64 0, .int .u32 0, .int .u16 0, .int .u16 0, .slice none 0 0]) (fun g => .pointer (some ⟨g, 0, none⟩)) rfl (by kernel_rfl) ?_
  intro g_8 w_9 z_13 l_12 hb_10 G_11
  have n_14 : g_1 < g_8 := Nat.lt_of_lt_of_le G_4.lt l_12
  have n_15 : w.heap.size ≤ g_8 := Nat.le_trans hB.size l_12
  replace G_4 := G_4.to hb_10 G_4.lt
  replace hB := hB.trans (hb_10.mono hB.size)
  clear hb_10 l_12 z_13
  go_wp2_with (first | (with_reducible refine stop_store ?_) | (with_reducible refine stop_box ?_) | (with_reducible refine stop_alloc ?_) | (with_reducible refine stop_bslice ?_))
  unfold Kept
  refine wpList_st 0 #[.int .u32 0, .int .i64 0, .bool false, .int .i64 0, .int .u32 0, .int .u16 0, .int .u16 0, .slice none 0 0] #[.int .u32 0, .int .i64 0, .bool false, .int .i64 0, .int .u32 0, .int .u16 0, .int .u16 0, .slice none 0 0] G_11 rfl rfl (by kernel_rfl) rfl (of_decide_eq_true rfl) rfl ?_
  intro w_16 G_18 hU_17
  replace G_4 := hU_17.blk G_4 (by omega)
  replace hB := hU_17.below hB (by omega)
  clear G_11 hU_17
  go_wp2_with (first | (with_reducible refine stop_store ?_) | (with_reducible refine stop_box ?_) | (with_reducible refine stop_alloc ?_) | (with_reducible refine stop_bslice ?_))
  refine bodyPost_ret (results_ct rfl rfl (load_blk G_18 Try.underlying44 rfl (by kernel_rfl))) rfl ?_
  exact ⟨none, 0, rfl, bcell_nil _, Nat.le_refl _, hB⟩
set_option maxHeartbeats 1000000 in
theorem r48_Decode_l (k1 : BitVec 64) (k2 : Int) (k3 k4 k5 : BitVec 64) (iv : BitVec 32) (B : Option Addr) (n d : Nat) (w : World) (hl : 29 < n) :
    Calls Try.prog 35 #[.agg #[.int .u64 (W64 k1), .int .i64 k2, .int .u64 (W64 k3), .int .u64 (W64 k4), .int .u64 (W64 k5)], .int .u32 (W32 iv), .slice B n d] w (RetN w (np0, 4)) := by
  have i0 : decide ((n : Int) < 14) = false := by simp; omega
  have i1 : decide ((29 : Int) < (n : Int)) = true := by simp; omega
  clear hl
  go_enter Try.func35, Try.ntmps35
  go_wp2_with (first | (with_reducible refine stop_store ?_) | (with_reducible refine stop_box ?_) | (with_reducible refine stop_alloc ?_) | (with_reducible refine stop_bslice ?_))
  unfold Kept
  refine go_mem (ty := 25) (cs := #[.int .u64 (W64 k1), .int .i64 k2, .int .u64 (W64 k3), .int .u64 (W64 k4), .int .u64 (W64 k5)]) (fun g => .pointer (some ⟨g, 0, none⟩)) rfl (by kernel_rfl) ?_
  intro g_1 w_2 z_6 l_5 hb_3 G_4
  have n_7 : w.heap.size ≤ g_1 := l_5
  have hB := hb_3
  clear hb_3 l_5 z_6
  go_wp2_with (first | (with_reducible refine stop_store ?_) | (with_reducible refine stop_box ?_) | (with_reducible refine stop_alloc ?_) | (with_reducible refine stop_bslice ?_))
  unfold Kept
  refine go_mem (ty := 44) (cs := #[.int .u32 0, .int .i64 0, .bool false, .int .i64 0, .int .u32 0, .int .u16 0, .int .u16 0, .slice none 0 0]) (fun g => .pointer (some ⟨g, 0, none⟩)) rfl (by kernel_rfl) ?_
  intro g_8 w_9 z_13 l_12 hb_10 G_11
  have n_14 : g_1 < g_8 := Nat.lt_of_lt_of_le G_4.lt l_12
  have n_15 : w.heap.size ≤ g_8 := Nat.le_trans hB.size l_12
  replace G_4 := G_4.to hb_10 G_4.lt
  replace hB := hB.trans (hb_10.mono hB.size)
  clear hb_10 l_12 z_13
  go_wp2_with (first | (with_reducible refine stop_store ?_) | (with_reducible refine stop_box ?_) | (with_reducible refine stop_alloc ?_) | (with_reducible refine stop_bslice ?_))
  unfold Kept
  refine wpList_st 0 #[.int .u32 0, .int .i64 0, .bool false, .int .i64 0, .int .u32 0, .int .u16 0, .int .u16 0, .slice none 0 0] #[.int .u32 0, .int .i64 0, .bool false, .int .i64 0, .int .u32 0, .int .u16 0, .int .u16 0, .slice none 0 0] G_11 rfl rfl (by kernel_rfl) rfl (of_decide_eq_true rfl) rfl ?_
  intro w_16 G_18 hU_17
  replace G_4 := hU_17.blk G_4 (by omega)
  replace hB := hU_17.below hB (by omega)
  clear G_11 hU_17
  go_wp2_with (first | (with_reducible refine stop_store ?_) | (with_reducible refine stop_box ?_) | (with_reducible refine stop_alloc ?_) | (with_reducible refine stop_bslice ?_))
  refine bodyPost_ret (results_ct rfl rfl (load_blk G_18 Try.underlying44 rfl (by kernel_rfl))) rfl ?_
  exact ⟨none, 0, rfl, bcell_nil _, Nat.le_refl _, hB⟩
set_option maxHeartbeats 2000000 in
theorem r48_Decode_h1 (k1 : BitVec 64) (k2 : Int) (k3 k4 k5 : BitVec 64) (nd : Int) (iv : BitVec 32) (pb po n d : Nat) (b0 x0 x1 x2 x3 x4 x5 : BitVec 8) (sd : List (BitVec 8)) (w : World) (RB0 : Rg pb po [.int .u8 (W8 b0)] w) (RX0 : Rg pb (po + 1) [.int .u8 (W8 x0), .int .u8 (W8 x1), .int .u8 (W8 x2), .int .u8 (W8 x3), .int .u8 (W8 x4), .int .u8 (W8 x5)] w) (hs0 : RdB w (some ⟨pb, po + 7, none⟩) sd) (hr0 : RdB w (some ⟨pb, po + 1, none⟩) [x0, x1, x2, x3, x4, x5]) (hn : sd.length + 7 = n) (hd : n ≤ d) (h14 : 14 ≤ n) (h29 : n ≤ 29) (hnd : W8 (b0 &&& 127#8) = nd) (hne : nd ≠ k2) :
    Calls Try.prog 35 #[.agg #[.int .u64 (W64 k1), .int .i64 k2, .int .u64 (W64 k3), .int .u64 (W64 k4), .int .u64 (W64 k5)], .int .u32 (W32 iv), .slice (some ⟨pb, po, none⟩) n d] w (RetN w (np0, 17)) := by
  have g0 : 0 < n := by omega
  have RB := Lib.hid (fun W (hB : Below w.heap.size w W) => (Rg.to RB0 hB).2)
  have RX := Lib.hid (fun W (hB : Below w.heap.size w W) => (Rg.to RX0 hB).2)
  have i0 : decide ((n : Int) < 14) = false := by simp; omega
  have i1 : decide ((29 : Int) < (n : Int)) = false := by simp; omega
  have e2 : W8 (b0 % 128#8) = nd := by rw [(low7 b0).2.1]; exact hnd
  have nb1 : 0 ≤ nd := by rw [← hnd]; exact (W8_bd _).1
  have nb2 : nd ≤ 255 := by rw [← hnd]; exact (W8_bd _).2
  have yw : IntKind.i64.wrap nd = nd := IntWalk.i64_in _ (by omega)
  have yv : IntKind.i64.wrap (W8 (b0 % 128#8)) = nd := by rw [e2, yw]
  have e0 : ((nd : Int) != k2) = true := by simpa using hne
  clear RB0 RX0 hs0 hr0 hn hd h29 hnd hne
  go_enter Try.func35, Try.ntmps35
  go_wp2_with (first | (with_reducible refine stop_store ?_) | (with_reducible refine stop_box ?_) | (with_reducible refine stop_alloc ?_) | (with_reducible refine stop_bslice ?_))
  unfold Kept
  refine go_mem (ty := 25) (cs := #[.int .u64 (W64 k1), .int .i64 k2, .int .u64 (W64 k3), .int .u64 (W64 k4), .int .u64 (W64 k5)]) (fun g => .pointer (some ⟨g, 0, none⟩)) rfl (by kernel_rfl) ?_
  intro g_1 w_2 z_6 l_5 hb_3 G_4
  have n_7 : w.heap.size ≤ g_1 := l_5
  have hB := hb_3
  clear hb_3 l_5 z_6
  go_wp2_with (first | (with_reducible refine stop_store ?_) | (with_reducible refine stop_box ?_) | (with_reducible refine stop_alloc ?_) | (with_reducible refine stop_bslice ?_))
  unfold Kept
  refine go_mem (ty := 44) (cs := #[.int .u32 0, .int .i64 0, .bool false, .int .i64 0, .int .u32 0, .int .u16 0, .int .u16 0, .slice none 0 0]) (fun g => .pointer (some ⟨g, 0, none⟩)) rfl (by kernel_rfl) ?_
  intro g_8 w_9 z_13 l_12 hb_10 G_11
  have n_14 : g_1 < g_8 := Nat.lt_of_lt_of_le G_4.lt l_12
  have n_15 : w.heap.size ≤ g_8 := Nat.le_trans hB.size l_12
  replace G_4 := G_4.to hb_10 G_4.lt
  replace hB := hB.trans (hb_10.mono hB.size)
  clear hb_10 l_12 z_13
  go_wp2_with (first | (with_reducible refine stop_store ?_) | (with_reducible refine stop_box ?_) | (with_reducible refine stop_alloc ?_) | (with_reducible refine stop_bslice ?_))
  have hst : Stable fun W => Below w.heap.size w W ∧ Blk W g_1 25 #[.int .u64 (W64 k1), .int .i64 k2, .int .u64 (W64 k3), .int .u64 (W64 k4), .int .u64 (W64 k5)] ∧ Blk W g_8 44 #[.int .u32 0, .int .i64 0, .bool false, .int .i64 0, .int .u32 0, .int .u16 0, .int .u16 0, .slice none 0 0] := stable_and (stable_below _ _ (Nat.le_refl _)) (stable_and (stable_blk _ _ _) (stable_blk _ _ _))
  refine wp_region_v _ 18 hst ⟨hB.drew, G_4, G_11⟩ ?_
  clear hB G_4 G_11
  refine wpU_take (v := ?_) 0 hst (fun _ h => h) rfl ?_ ?_; rotate_left; (intro W hS K hK; clear hS; go_simp; exact hK.out _ (Below.refl _ _)); simp only [Act.put, List.setIfInBounds_toArray, List.set_cons_zero, List.set_cons_succ]
  refine wpU_take (v := ?_) 1 hst (fun _ h => h) rfl ?_ ?_; rotate_left; (intro W hS K hK; clear hS; go_simp; exact hK.out _ (Below.refl _ _)); simp only [Act.put, List.setIfInBounds_toArray, List.set_cons_zero, List.set_cons_succ]
  refine wpU_take (v := ?_) 2 hst (fun _ h => h) rfl ?_ ?_; rotate_left; (intro W hS K hK; have ld : W.cell? ⟨pb, po, none⟩ = some (.int .u8 (W8 b0)) := (RB.out _ hS.1) 0 _ rfl; clear hS; go_simp; exact hK.out _ (Below.refl _ _)); simp only [Act.put, List.setIfInBounds_toArray, List.set_cons_zero, List.set_cons_succ]
  refine wpU_take (v := ?_) 3 hst (fun _ h => h) rfl ?_ ?_; rotate_left; (intro W hS K hK; clear hS; go_simp; exact hK.out _ (Below.refl _ _)); simp only [Act.put, List.setIfInBounds_toArray, List.set_cons_zero, List.set_cons_succ]
  refine wpU_take (v := ?_) 4 hst (fun _ h => h) rfl ?_ ?_; rotate_left; (intro W hS K hK; clear hS; go_simp; exact hK.out _ (Below.refl _ _)); simp only [Act.put, List.setIfInBounds_toArray, List.set_cons_zero, List.set_cons_succ]
  refine wpU_take (v := ?_) 5 hst (fun _ h => h) rfl ?_ ?_; rotate_left; (intro W hS K hK; clear hS; go_simp; exact hK.out _ (Below.refl _ _)); simp only [Act.put, List.setIfInBounds_toArray, List.set_cons_zero, List.set_cons_succ]
  refine wpU_take (v := ?_) 6 hst (fun _ h => h) rfl ?_ ?_; rotate_left; (intro W hS K hK; have ld : W.cell? ⟨g_1, 1, none⟩ = some (.int .i64 k2) := hS.2.1.cell 1; clear hS; go_simp; exact hK.out _ (Below.refl _ _)); simp only [Act.put, List.setIfInBounds_toArray, List.set_cons_zero, List.set_cons_succ]
  refine wpU_take (v := ?_) 7 hst (fun _ h => h) rfl ?_ ?_; rotate_left; (intro W hS K hK; clear hS; go_simp; exact hK.out _ (Below.refl _ _)); simp only [Act.put, List.setIfInBounds_toArray, List.set_cons_zero, List.set_cons_succ]
  refine wpU_take (v := ?_) 8 hst (fun _ h => h) rfl ?_ ?_; rotate_left; (intro W hS K hK; clear hS; go_simp; exact hK.out _ (Below.refl _ _)); simp only [Act.put, List.setIfInBounds_toArray, List.set_cons_zero, List.set_cons_succ]
  refine wpU_skip 9 hst (fun _ h => h) rfl ?_; simp only [Act.put, List.setIfInBounds_toArray, List.set_cons_zero, List.set_cons_succ]
  refine wpU_skip 10 hst (fun _ h => h) rfl ?_; simp only [Act.put, List.setIfInBounds_toArray, List.set_cons_zero, List.set_cons_succ]
  refine wpU_skip 11 hst (fun _ h => h) rfl ?_; simp only [Act.put, List.setIfInBounds_toArray, List.set_cons_zero, List.set_cons_succ]
  refine wpU_skip 12 hst (fun _ h => h) rfl ?_; simp only [Act.put, List.setIfInBounds_toArray, List.set_cons_zero, List.set_cons_succ]
  refine wpU_skip 13 hst (fun _ h => h) rfl ?_; simp only [Act.put, List.setIfInBounds_toArray, List.set_cons_zero, List.set_cons_succ]
  refine wpU_skip 14 hst (fun _ h => h) rfl ?_; simp only [Act.put, List.setIfInBounds_toArray, List.set_cons_zero, List.set_cons_succ]
  refine wpU_skip 15 hst (fun _ h => h) rfl ?_; simp only [Act.put, List.setIfInBounds_toArray, List.set_cons_zero, List.set_cons_succ]
  refine wpU_skip 16 hst (fun _ h => h) rfl ?_; simp only [Act.put, List.setIfInBounds_toArray, List.set_cons_zero, List.set_cons_succ]
  refine wpU_take (v := ?_) 17 hst (fun _ h => h) rfl ?_ ?_; rotate_left; (intro W hS K hK; clear hS; go_simp; exact hK.out _ (Below.refl _ _)); simp only [Act.put, List.setIfInBounds_toArray, List.set_cons_zero, List.set_cons_succ]
  refine wpU_done (fun w_16 hS => ?_)
  obtain ⟨hB, G_4, G_11⟩ := hS
  clear hst
  go_wp2_with (first | (with_reducible refine stop_store ?_) | (with_reducible refine stop_box ?_) | (with_reducible refine stop_alloc ?_) | (with_reducible refine stop_bslice ?_))
  unfold Kept
  refine wpList_st 0 #[.int .u32 0, .int .i64 0, .bool false, .int .i64 0, .int .u32 0, .int .u16 0, .int .u16 0, .slice none 0 0] #[.int .u32 0, .int .i64 0, .bool false, .int .i64 0, .int .u32 0, .int .u16 0, .int .u16 0, .slice none 0 0] G_11 rfl rfl (by kernel_rfl) rfl (of_decide_eq_true rfl) rfl ?_
  intro w_17 G_19 hU_18
  replace G_4 := hU_18.blk G_4 (by omega)
  replace hB := hU_18.below hB (by omega)
  clear G_11 hU_18
  go_wp2_with (first | (with_reducible refine stop_store ?_) | (with_reducible refine stop_box ?_) | (with_reducible refine stop_alloc ?_) | (with_reducible refine stop_bslice ?_))
  refine bodyPost_ret (results_ct rfl rfl (load_blk G_19 Try.underlying44 rfl (by kernel_rfl))) rfl ?_
  exact ⟨none, 0, rfl, bcell_nil _, Nat.le_refl _, hB⟩
set_option maxHeartbeats 2000000 in
theorem r48_Decode_h2 (k1 : BitVec 64) (k3 k4 k5 : BitVec 64) (nd : Int) (iv : BitVec 32) (pb po n d : Nat) (b0 x0 x1 x2 x3 x4 x5 : BitVec 8) (sd : List (BitVec 8)) (w : World) (RB0 : Rg pb po [.int .u8 (W8 b0)] w) (RX0 : Rg pb (po + 1) [.int .u8 (W8 x0), .int .u8 (W8 x1), .int .u8 (W8 x2), .int .u8 (W8 x3), .int .u8 (W8 x4), .int .u8 (W8 x5)] w) (hs0 : RdB w (some ⟨pb, po + 7, none⟩) sd) (hr0 : RdB w (some ⟨pb, po + 1, none⟩) [x0, x1, x2, x3, x4, x5]) (hn : sd.length + 7 = n) (hd : n ≤ d) (h14 : 14 ≤ n) (h29 : n ≤ 29) (hnd : W8 (b0 &&& 127#8) = nd) (hne : W8 (b0 >>> 7) ≠ W32 (iv &&& 1#32)) :
    Calls Try.prog 35 #[.agg #[.int .u64 (W64 k1), .int .i64 nd, .int .u64 (W64 k3), .int .u64 (W64 k4), .int .u64 (W64 k5)], .int .u32 (W32 iv), .slice (some ⟨pb, po, none⟩) n d] w (RetN w (np0, 17)) := by
  have g0 : 0 < n := by omega
  have RB := Lib.hid (fun W (hB : Below w.heap.size w W) => (Rg.to RB0 hB).2)
  have RX := Lib.hid (fun W (hB : Below w.heap.size w W) => (Rg.to RX0 hB).2)
  have i0 : decide ((n : Int) < 14) = false := by simp; omega
  have i1 : decide ((29 : Int) < (n : Int)) = false := by simp; omega
  have e2 : W8 (b0 % 128#8) = nd := by rw [(low7 b0).2.1]; exact hnd
  have nb1 : 0 ≤ nd := by rw [← hnd]; exact (W8_bd _).1
  have nb2 : nd ≤ 255 := by rw [← hnd]; exact (W8_bd _).2
  have yw : IntKind.i64.wrap nd = nd := IntWalk.i64_in _ (by omega)
  have yv : IntKind.i64.wrap (W8 (b0 % 128#8)) = nd := by rw [e2, yw]
  have e0 : ((W32 (BitVec.setWidth 32 (b0 / 128#8)) : Int) != W32 (iv % 2#32)) = true := by rw [(low7 b0).1, W32_bne]; simp only [bne_iff_ne, ne_eq]; intro h; apply hne; rw [mod2] at h; rw [← h]; exact (w8_32 _).symm
  clear RB0 RX0 hs0 hr0 hn hd h29 hnd hne
  go_enter Try.func35, Try.ntmps35
  go_wp2_with (first | (with_reducible refine stop_store ?_) | (with_reducible refine stop_box ?_) | (with_reducible refine stop_alloc ?_) | (with_reducible refine stop_bslice ?_))
  unfold Kept
  refine go_mem (ty := 25) (cs := #[.int .u64 (W64 k1), .int .i64 nd, .int .u64 (W64 k3), .int .u64 (W64 k4), .int .u64 (W64 k5)]) (fun g => .pointer (some ⟨g, 0, none⟩)) rfl (by kernel_rfl) ?_
  intro g_1 w_2 z_6 l_5 hb_3 G_4
  have n_7 : w.heap.size ≤ g_1 := l_5
  have hB := hb_3
  clear hb_3 l_5 z_6
  go_wp2_with (first | (with_reducible refine stop_store ?_) | (with_reducible refine stop_box ?_) | (with_reducible refine stop_alloc ?_) | (with_reducible refine stop_bslice ?_))
  unfold Kept
  refine go_mem (ty := 44) (cs := #[.int .u32 0, .int .i64 0, .bool false, .int .i64 0, .int .u32 0, .int .u16 0, .int .u16 0, .slice none 0 0]) (fun g => .pointer (some ⟨g, 0, none⟩)) rfl (by kernel_rfl) ?_
  intro g_8 w_9 z_13 l_12 hb_10 G_11
  have n_14 : g_1 < g_8 := Nat.lt_of_lt_of_le G_4.lt l_12
  have n_15 : w.heap.size ≤ g_8 := Nat.le_trans hB.size l_12
  replace G_4 := G_4.to hb_10 G_4.lt
  replace hB := hB.trans (hb_10.mono hB.size)
  clear hb_10 l_12 z_13
  go_wp2_with (first | (with_reducible refine stop_store ?_) | (with_reducible refine stop_box ?_) | (with_reducible refine stop_alloc ?_) | (with_reducible refine stop_bslice ?_))
  have hst : Stable fun W => Below w.heap.size w W ∧ Blk W g_1 25 #[.int .u64 (W64 k1), .int .i64 nd, .int .u64 (W64 k3), .int .u64 (W64 k4), .int .u64 (W64 k5)] ∧ Blk W g_8 44 #[.int .u32 0, .int .i64 0, .bool false, .int .i64 0, .int .u32 0, .int .u16 0, .int .u16 0, .slice none 0 0] := stable_and (stable_below _ _ (Nat.le_refl _)) (stable_and (stable_blk _ _ _) (stable_blk _ _ _))
  refine wp_region_v _ 18 hst ⟨hB.drew, G_4, G_11⟩ ?_
  clear hB G_4 G_11
  refine wpU_take (v := ?_) 0 hst (fun _ h => h) rfl ?_ ?_; rotate_left; (intro W hS K hK; clear hS; go_simp; exact hK.out _ (Below.refl _ _)); simp only [Act.put, List.setIfInBounds_toArray, List.set_cons_zero, List.set_cons_succ]
  refine wpU_take (v := ?_) 1 hst (fun _ h => h) rfl ?_ ?_; rotate_left; (intro W hS K hK; clear hS; go_simp; exact hK.out _ (Below.refl _ _)); simp only [Act.put, List.setIfInBounds_toArray, List.set_cons_zero, List.set_cons_succ]
  refine wpU_take (v := ?_) 2 hst (fun _ h => h) rfl ?_ ?_; rotate_left; (intro W hS K hK; have ld : W.cell? ⟨pb, po, none⟩ = some (.int .u8 (W8 b0)) := (RB.out _ hS.1) 0 _ rfl; clear hS; go_simp; exact hK.out _ (Below.refl _ _)); simp only [Act.put, List.setIfInBounds_toArray, List.set_cons_zero, List.set_cons_succ]
  refine wpU_take (v := ?_) 3 hst (fun _ h => h) rfl ?_ ?_; rotate_left; (intro W hS K hK; clear hS; go_simp; exact hK.out _ (Below.refl _ _)); simp only [Act.put, List.setIfInBounds_toArray, List.set_cons_zero, List.set_cons_succ]
  refine wpU_take (v := ?_) 4 hst (fun _ h => h) rfl ?_ ?_; rotate_left; (intro W hS K hK; clear hS; go_simp; exact hK.out _ (Below.refl _ _)); simp only [Act.put, List.setIfInBounds_toArray, List.set_cons_zero, List.set_cons_succ]
  refine wpU_take (v := ?_) 5 hst (fun _ h => h) rfl ?_ ?_; rotate_left; (intro W hS K hK; clear hS; go_simp; exact hK.out _ (Below.refl _ _)); simp only [Act.put, List.setIfInBounds_toArray, List.set_cons_zero, List.set_cons_succ]
  refine wpU_take (v := ?_) 6 hst (fun _ h => h) rfl ?_ ?_; rotate_left; (intro W hS K hK; have ld : W.cell? ⟨g_1, 1, none⟩ = some (.int .i64 nd) := hS.2.1.cell 1; clear hS; go_simp; exact hK.out _ (Below.refl _ _)); simp only [Act.put, List.setIfInBounds_toArray, List.set_cons_zero, List.set_cons_succ]
  refine wpU_take (v := ?_) 7 hst (fun _ h => h) rfl ?_ ?_; rotate_left; (intro W hS K hK; clear hS; go_simp; exact hK.out _ (Below.refl _ _)); simp only [Act.put, List.setIfInBounds_toArray, List.set_cons_zero, List.set_cons_succ]
  refine wpU_take (v := ?_) 8 hst (fun _ h => h) rfl ?_ ?_; rotate_left; (intro W hS K hK; clear hS; go_simp; exact hK.out _ (Below.refl _ _)); simp only [Act.put, List.setIfInBounds_toArray, List.set_cons_zero, List.set_cons_succ]
  refine wpU_take (v := ?_) 9 hst (fun _ h => h) rfl ?_ ?_; rotate_left; (intro W hS K hK; clear hS; go_simp; exact hK.out _ (Below.refl _ _)); simp only [Act.put, List.setIfInBounds_toArray, List.set_cons_zero, List.set_cons_succ]
  refine wpU_take (v := ?_) 10 hst (fun _ h => h) rfl ?_ ?_; rotate_left; (intro W hS K hK; clear hS; go_simp; exact hK.out _ (Below.refl _ _)); simp only [Act.put, List.setIfInBounds_toArray, List.set_cons_zero, List.set_cons_succ]
  refine wpU_take (v := ?_) 11 hst (fun _ h => h) rfl ?_ ?_; rotate_left; (intro W hS K hK; have ld : W.cell? ⟨pb, po, none⟩ = some (.int .u8 (W8 b0)) := (RB.out _ hS.1) 0 _ rfl; clear hS; go_simp; exact hK.out _ (Below.refl _ _)); simp only [Act.put, List.setIfInBounds_toArray, List.set_cons_zero, List.set_cons_succ]
  refine wpU_take (v := ?_) 12 hst (fun _ h => h) rfl ?_ ?_; rotate_left; (intro W hS K hK; clear hS; go_simp; exact hK.out _ (Below.refl _ _)); simp only [Act.put, List.setIfInBounds_toArray, List.set_cons_zero, List.set_cons_succ]
  refine wpU_take (v := ?_) 13 hst (fun _ h => h) rfl ?_ ?_; rotate_left; (intro W hS K hK; clear hS; go_simp; exact hK.out _ (Below.refl _ _)); simp only [Act.put, List.setIfInBounds_toArray, List.set_cons_zero, List.set_cons_succ]
  refine wpU_take (v := ?_) 14 hst (fun _ h => h) rfl ?_ ?_; rotate_left; (intro W hS K hK; clear hS; go_simp; exact hK.out _ (Below.refl _ _)); simp only [Act.put, List.setIfInBounds_toArray, List.set_cons_zero, List.set_cons_succ]
  refine wpU_take (v := ?_) 15 hst (fun _ h => h) rfl ?_ ?_; rotate_left; (intro W hS K hK; clear hS; go_simp; exact hK.out _ (Below.refl _ _)); simp only [Act.put, List.setIfInBounds_toArray, List.set_cons_zero, List.set_cons_succ]
  refine wpU_take (v := ?_) 16 hst (fun _ h => h) rfl ?_ ?_; rotate_left; (intro W hS K hK; clear hS; go_simp; exact hK.out _ (Below.refl _ _)); simp only [Act.put, List.setIfInBounds_toArray, List.set_cons_zero, List.set_cons_succ]
  refine wpU_take (v := ?_) 17 hst (fun _ h => h) rfl ?_ ?_; rotate_left; (intro W hS K hK; clear hS; go_simp; exact hK.out _ (Below.refl _ _)); simp only [Act.put, List.setIfInBounds_toArray, List.set_cons_zero, List.set_cons_succ]
  refine wpU_done (fun w_16 hS => ?_)
  obtain ⟨hB, G_4, G_11⟩ := hS
  clear hst
  go_wp2_with (first | (with_reducible refine stop_store ?_) | (with_reducible refine stop_box ?_) | (with_reducible refine stop_alloc ?_) | (with_reducible refine stop_bslice ?_))
  unfold Kept
  refine wpList_st 0 #[.int .u32 0, .int .i64 0, .bool false, .int .i64 0, .int .u32 0, .int .u16 0, .int .u16 0, .slice none 0 0] #[.int .u32 0, .int .i64 0, .bool false, .int .i64 0, .int .u32 0, .int .u16 0, .int .u16 0, .slice none 0 0] G_11 rfl rfl (by kernel_rfl) rfl (of_decide_eq_true rfl) rfl ?_
  intro w_17 G_19 hU_18
  replace G_4 := hU_18.blk G_4 (by omega)
  replace hB := hU_18.below hB (by omega)
  clear G_11 hU_18
  go_wp2_with (first | (with_reducible refine stop_store ?_) | (with_reducible refine stop_box ?_) | (with_reducible refine stop_alloc ?_) | (with_reducible refine stop_bslice ?_))
  refine bodyPost_ret (results_ct rfl rfl (load_blk G_19 Try.underlying44 rfl (by kernel_rfl))) rfl ?_
  exact ⟨none, 0, rfl, bcell_nil _, Nat.le_refl _, hB⟩
set_option maxHeartbeats 8000000 in
theorem r48_Decode_e (k1 : BitVec 64) (k3 k4 k5 : BitVec 64) (nd : Int) (iv : BitVec 32) (pb po n d : Nat) (b0 x0 x1 x2 x3 x4 x5 : BitVec 8) (sd : List (BitVec 8)) (o0 o1 o2 o3 o4 o5 : BitVec 8) (fc : Bool) (non : BitVec 64) (v1 v2 : BitVec 64) (pl : List (BitVec 8)) (en : Int) (w : World) (RB0 : Rg pb po [.int .u8 (W8 b0)] w) (RX0 : Rg pb (po + 1) [.int .u8 (W8 x0), .int .u8 (W8 x1), .int .u8 (W8 x2), .int .u8 (W8 x3), .int .u8 (W8 x4), .int .u8 (W8 x5)] w) (hs0 : RdB w (some ⟨pb, po + 7, none⟩) sd) (hr0 : RdB w (some ⟨pb, po + 1, none⟩) [x0, x1, x2, x3, x4, x5]) (hn : sd.length + 7 = n) (hd : n ≤ d) (h14 : 14 ≤ n) (h29 : n ≤ 29) (hnd : W8 (b0 &&& 127#8) = nd) (hbi : W8 (b0 >>> 7) = W32 (iv &&& 1#32)) (hop : xorB [x0, x1, x2, x3, x4, x5] (maskL ⟨k1, nd, k3, k4, k5⟩ iv sd) = [o0, o1, o2, o3, o4, o5]) (hfc : (o0 &&& 128#8 != 0#8) = fc) (hnon : nonceK 0 (BitVec.setWidth 16 v2) (BitVec.setWidth 32 v1) iv = non) (hv1 : leVal [o1, o2, o3] = v1) (hv2 : leVal [o4, o5] = v2) (hres : openB k3 non [o0] sd = (pl, en)) (hen : en ≠ 0) :
    Calls Try.prog 35 #[.agg #[.int .u64 (W64 k1), .int .i64 nd, .int .u64 (W64 k3), .int .u64 (W64 k4), .int .u64 (W64 k5)], .int .u32 (W32 iv), .slice (some ⟨pb, po, none⟩) n d] w (RetN w (np0, en)) := by
  have g0 : 0 < n := by omega
  have RB := Lib.hid (fun W (hB : Below w.heap.size w W) => (Rg.to RB0 hB).2)
  have RX := Lib.hid (fun W (hB : Below w.heap.size w W) => (Rg.to RX0 hB).2)
  have i0 : decide ((n : Int) < 14) = false := by simp; omega
  have i1 : decide ((29 : Int) < (n : Int)) = false := by simp; omega
  obtain ⟨n7, hn7⟩ : ∃ x, n - 7 = x := ⟨_, rfl⟩
  have hsn : sd.length = n - 7 := by omega
  have CN := Lib.hid (fun W => show Calls Try.prog 18 #[.int .i64 0, .int .u16 (W16 (BitVec.setWidth 16 v2)), .int .u32 (W32 (BitVec.setWidth 32 v1)), .int .u32 (W32 iv)] W fun e w' => e = .returned (.int .u64 (W64 non)) ∧ Below W.heap.size W w' from by have := ref47_Nonce 0 (BitVec.setWidth 16 v2) (BitVec.setWidth 32 v1) iv W; rw [hnon] at this; exact this)
  have CH := Lib.hid (fun W (hB : Below w.heap.size w W) => show Calls Try.prog 56 #[.agg #[.int .u64 (W64 k1), .int .i64 nd, .int .u64 (W64 k3), .int .u64 (W64 k4), .int .u64 (W64 k5)], .int .u32 (W32 iv), .slice (some ⟨pb, po + 1, none⟩) 6 (d - 1), .slice (some ⟨pb, po + 7, none⟩) (n - 7) (d - 7)] W fun e w' => ∃ qh qho ch, e = .returned (.slice (some ⟨qh, qho, none⟩) 6 ch) ∧ RdB w' (some ⟨qh, qho, none⟩) [o0, o1, o2, o3, o4, o5] ∧ (6 : Int) ≤ (ch : Int) ∧ (4 : Int) ≤ (ch : Int) ∧ (1 : Int) ≤ (ch : Int) ∧ ¬ ch = 1 ∧ ¬ ch = 4 ∧ Below W.heap.size W w' from by
    have := r48_hide_f k1 nd k3 k4 k5 iv (some ⟨pb, po + 1, none⟩) (d - 1) [x0, x1, x2, x3, x4, x5] (some ⟨pb, po + 7, none⟩) (n - 7) (d - 7) sd W (Rd.to hr0 hB) rfl (Rd.to hs0 hB) hsn (by omega) (by omega) (by omega)
    rw [hop] at this
    refine this.mono ?_
    rintro e w' ⟨A, c, rfl, ho, hb⟩
    have hc : 6 ≤ c := (own_cap ho).1
    have hr : RdB w' A [o0, o1, o2, o3, o4, o5] := Rd.of_own ho
    obtain ⟨q, qo, rfl, _, _⟩ := Rd.open_ hr (by rw [bcells_length]; exact Nat.succ_pos _)
    exact ⟨q, qo, c, rfl, hr, by omega, by omega, by omega, by omega, by omega, hb⟩)
  have CV1 := Lib.hid (fun W q qo c (h : RdB W (some ⟨q, qo, none⟩) [o0, o1, o2, o3, o4, o5]) => show Calls Try.prog 57 #[.slice (some ⟨q, qo + 1, none⟩) 3 (c - 1)] W fun e w' => e = .returned (.int .u64 (W64 v1)) ∧ W = w' from by
    obtain ⟨_, _, hA1, hlt, _⟩ := Rd.open_ h (by rw [bcells_length]; exact Nat.succ_pos _)
    cases hA1
    have := ref2_Value (some ⟨q, qo + 1, none⟩) (c - 1) [o1, o2, o3] W ((rd_cut h hlt 1).take 3) (by simp)
    rw [hv1] at this
    exact this)
  have CV2 := Lib.hid (fun W q qo c (h : RdB W (some ⟨q, qo, none⟩) [o0, o1, o2, o3, o4, o5]) => show Calls Try.prog 57 #[.slice (some ⟨q, qo + 4, none⟩) 2 (c - 4)] W fun e w' => e = .returned (.int .u64 (W64 v2)) ∧ W = w' from by
    obtain ⟨_, _, hA1, hlt, _⟩ := Rd.open_ h (by rw [bcells_length]; exact Nat.succ_pos _)
    cases hA1
    have := ref2_Value (some ⟨q, qo + 4, none⟩) (c - 4) [o4, o5] W (rd_cut h hlt 4) (by simp)
    rw [hv2] at this
    exact this)
  have ef : decide ((127 : Int) < W8 o0) = fc := by have h : decide (W8 127#8 < W8 o0) = fc := (by rw [← hfc, ← (low7 o0).2.2]; simp only [W8_lt]); exact h
  have e2 : W8 (b0 % 128#8) = nd := by rw [(low7 b0).2.1]; exact hnd
  have e5 : ((W32 (BitVec.setWidth 32 (b0 / 128#8)) : Int) != W32 (iv % 2#32)) = false := by rw [(low7 b0).1, W32_bne]; simp only [bne_eq_false_iff_eq]; rw [mod2]; apply W32_inj; rw [← hbi]; exact w8_32 _
  have e6 : o0 % 128#8 = o0 &&& 127#8 := (low7 o0).2.1
  clear hop hv1 hv2
  have y3 : IntKind.i64.wrap (W8 (o0 &&& 127#8)) = W8 (o0 &&& 127#8) := IntWalk.i64_in _ (by have := W8_bd (o0 &&& 127#8); omega)
  have nb1 : 0 ≤ nd := by rw [← hnd]; exact (W8_bd _).1
  have nb2 : nd ≤ 255 := by rw [← hnd]; exact (W8_bd _).2
  have yw : IntKind.i64.wrap nd = nd := IntWalk.i64_in _ (by omega)
  have yv : IntKind.i64.wrap (W8 (b0 % 128#8)) = nd := by rw [e2, yw]
  have q7 : ¬ d = 7 := by omega
  have q1 : ¬ d = 1 := by omega
  have q8 : (7 : Int) ≤ (d : Int) := by omega
  have q9 : (7 : Int) ≤ (n : Int) := by omega
  have CO := Lib.hid (fun W g go gc (hh : RdB W (some ⟨g, go, none⟩) [o0, o1, o2, o3, o4, o5]) (hB : Below w.heap.size w W) => show Calls Try.prog 50 #[.int .u64 (W64 k3), .int .u64 (W64 non), .slice (some ⟨g, go, none⟩) 1 gc, .slice (some ⟨pb, po + 7, none⟩) (n - 7) (d - 7)] W fun e w' => ∃ A c, e = .returned (.tuple #[.slice A pl.length c, .int .i64 en]) ∧ Below W.heap.size W w' from by
    have := ref6_Open k3 non (some ⟨g, go, none⟩) (some ⟨pb, po + 7, none⟩) gc (d - 7) [o0] sd W (RdB.take hh 1) (Rd.to hs0 hB) (by simp) (by omega) (by omega)
    rw [hsn, hres] at this
    obtain ⟨hh2⟩ : Nonempty True := ⟨trivial⟩
    exact this.mono fun e w' ⟨A, c, he, _, _, hb⟩ => ⟨A, c, he, hb⟩)
  have e9 : ((en : Int) != 0) = true := by simpa using hen
  have e8 : ((en : Int) == 0) = false := by simpa using hen
  clear RB0 RX0 hnon hfc hbi hnd hn7
  clear hres hen
  go_enter Try.func35, Try.ntmps35
  have hB := Below.refl w.heap.size w
  go_wp2_with (first | (with_reducible refine stop_store ?_) | (with_reducible refine stop_box ?_) | (with_reducible refine stop_alloc ?_) | (with_reducible refine stop_bslice ?_) | (with_reducible refine stop_append ?_))
  unfold Kept
  refine go_mem (ty := 25) (cs := #[.int .u64 (W64 k1), .int .i64 nd, .int .u64 (W64 k3), .int .u64 (W64 k4), .int .u64 (W64 k5)]) (fun g => .pointer (some ⟨g, 0, none⟩)) rfl (by kernel_rfl) ?_
  intro g_1 w_2 z_6 l_5 hb_3 G_4
  have n_7 : w.heap.size ≤ g_1 := Nat.le_trans hB.size l_5
  replace hB := hB.trans (hb_3.mono hB.size)
  clear hb_3 l_5 z_6
  go_wp2_with (first | (with_reducible refine stop_store ?_) | (with_reducible refine stop_box ?_) | (with_reducible refine stop_alloc ?_) | (with_reducible refine stop_bslice ?_) | (with_reducible refine stop_append ?_))
  unfold Kept
  refine go_mem (ty := 44) (cs := #[.int .u32 0, .int .i64 0, .bool false, .int .i64 0, .int .u32 0, .int .u16 0, .int .u16 0, .slice none 0 0]) (fun g => .pointer (some ⟨g, 0, none⟩)) rfl (by kernel_rfl) ?_
  intro g_8 w_9 z_13 l_12 hb_10 G_11
  have n_14 : g_1 < g_8 := Nat.lt_of_lt_of_le G_4.lt l_12
  have n_15 : w.heap.size ≤ g_8 := Nat.le_trans hB.size l_12
  replace G_4 := G_4.to hb_10 G_4.lt
  replace hB := hB.trans (hb_10.mono hB.size)
  clear hb_10 l_12 z_13
  go_wp2_with (first | (with_reducible refine stop_store ?_) | (with_reducible refine stop_box ?_) | (with_reducible refine stop_alloc ?_) | (with_reducible refine stop_bslice ?_) | (with_reducible refine stop_append ?_))
  have hst : Stable fun W => Below w.heap.size w W ∧ Blk W g_1 25 #[.int .u64 (W64 k1), .int .i64 nd, .int .u64 (W64 k3), .int .u64 (W64 k4), .int .u64 (W64 k5)] ∧ Blk W g_8 44 #[.int .u32 0, .int .i64 0, .bool false, .int .i64 0, .int .u32 0, .int .u16 0, .int .u16 0, .slice none 0 0] := stable_and (stable_below _ _ (Nat.le_refl _)) (stable_and (stable_blk _ _ _) (stable_blk _ _ _))
  refine wp_region_v _ 18 hst ⟨hB.drew, G_4, G_11⟩ ?_
  clear hB G_4 G_11
  refine wpU_take (v := ?_) 0 hst (fun _ h => h) rfl ?_ ?_; rotate_left; (intro W hS K hK; clear hS; go_simp; exact hK.out _ (Below.refl _ _)); simp only [Act.put, List.setIfInBounds_toArray, List.set_cons_zero, List.set_cons_succ]
  refine wpU_take (v := ?_) 1 hst (fun _ h => h) rfl ?_ ?_; rotate_left; (intro W hS K hK; clear hS; go_simp; exact hK.out _ (Below.refl _ _)); simp only [Act.put, List.setIfInBounds_toArray, List.set_cons_zero, List.set_cons_succ]
  refine wpU_take (v := ?_) 2 hst (fun _ h => h) rfl ?_ ?_; rotate_left; (intro W hS K hK; have ld : W.cell? ⟨pb, po, none⟩ = some (.int .u8 (W8 b0)) := (RB.out _ hS.1) 0 _ rfl; clear hS; go_simp; exact hK.out _ (Below.refl _ _)); simp only [Act.put, List.setIfInBounds_toArray, List.set_cons_zero, List.set_cons_succ]
  refine wpU_take (v := ?_) 3 hst (fun _ h => h) rfl ?_ ?_; rotate_left; (intro W hS K hK; clear hS; go_simp; exact hK.out _ (Below.refl _ _)); simp only [Act.put, List.setIfInBounds_toArray, List.set_cons_zero, List.set_cons_succ]
  refine wpU_take (v := ?_) 4 hst (fun _ h => h) rfl ?_ ?_; rotate_left; (intro W hS K hK; clear hS; go_simp; exact hK.out _ (Below.refl _ _)); simp only [Act.put, List.setIfInBounds_toArray, List.set_cons_zero, List.set_cons_succ]
  refine wpU_take (v := ?_) 5 hst (fun _ h => h) rfl ?_ ?_; rotate_left; (intro W hS K hK; clear hS; go_simp; exact hK.out _ (Below.refl _ _)); simp only [Act.put, List.setIfInBounds_toArray, List.set_cons_zero, List.set_cons_succ]
  refine wpU_take (v := ?_) 6 hst (fun _ h => h) rfl ?_ ?_; rotate_left; (intro W hS K hK; have ld : W.cell? ⟨g_1, 1, none⟩ = some (.int .i64 nd) := hS.2.1.cell 1; clear hS; go_simp; exact hK.out _ (Below.refl _ _)); simp only [Act.put, List.setIfInBounds_toArray, List.set_cons_zero, List.set_cons_succ]
  refine wpU_take (v := ?_) 7 hst (fun _ h => h) rfl ?_ ?_; rotate_left; (intro W hS K hK; clear hS; go_simp; exact hK.out _ (Below.refl _ _)); simp only [Act.put, List.setIfInBounds_toArray, List.set_cons_zero, List.set_cons_succ]
  refine wpU_take (v := ?_) 8 hst (fun _ h => h) rfl ?_ ?_; rotate_left; (intro W hS K hK; clear hS; go_simp; exact hK.out _ (Below.refl _ _)); simp only [Act.put, List.setIfInBounds_toArray, List.set_cons_zero, List.set_cons_succ]
  refine wpU_take (v := ?_) 9 hst (fun _ h => h) rfl ?_ ?_; rotate_left; (intro W hS K hK; clear hS; go_simp; exact hK.out _ (Below.refl _ _)); simp only [Act.put, List.setIfInBounds_toArray, List.set_cons_zero, List.set_cons_succ]
  refine wpU_take (v := ?_) 10 hst (fun _ h => h) rfl ?_ ?_; rotate_left; (intro W hS K hK; clear hS; go_simp; exact hK.out _ (Below.refl _ _)); simp only [Act.put, List.setIfInBounds_toArray, List.set_cons_zero, List.set_cons_succ]
  refine wpU_take (v := ?_) 11 hst (fun _ h => h) rfl ?_ ?_; rotate_left; (intro W hS K hK; have ld : W.cell? ⟨pb, po, none⟩ = some (.int .u8 (W8 b0)) := (RB.out _ hS.1) 0 _ rfl; clear hS; go_simp; exact hK.out _ (Below.refl _ _)); simp only [Act.put, List.setIfInBounds_toArray, List.set_cons_zero, List.set_cons_succ]
  refine wpU_take (v := ?_) 12 hst (fun _ h => h) rfl ?_ ?_; rotate_left; (intro W hS K hK; clear hS; go_simp; exact hK.out _ (Below.refl _ _)); simp only [Act.put, List.setIfInBounds_toArray, List.set_cons_zero, List.set_cons_succ]
  refine wpU_take (v := ?_) 13 hst (fun _ h => h) rfl ?_ ?_; rotate_left; (intro W hS K hK; clear hS; go_simp; exact hK.out _ (Below.refl _ _)); simp only [Act.put, List.setIfInBounds_toArray, List.set_cons_zero, List.set_cons_succ]
  refine wpU_take (v := ?_) 14 hst (fun _ h => h) rfl ?_ ?_; rotate_left; (intro W hS K hK; clear hS; go_simp; exact hK.out _ (Below.refl _ _)); simp only [Act.put, List.setIfInBounds_toArray, List.set_cons_zero, List.set_cons_succ]
  refine wpU_take (v := ?_) 15 hst (fun _ h => h) rfl ?_ ?_; rotate_left; (intro W hS K hK; clear hS; go_simp; exact hK.out _ (Below.refl _ _)); simp only [Act.put, List.setIfInBounds_toArray, List.set_cons_zero, List.set_cons_succ]
  refine wpU_take (v := ?_) 16 hst (fun _ h => h) rfl ?_ ?_; rotate_left; (intro W hS K hK; clear hS; go_simp; exact hK.out _ (Below.refl _ _)); simp only [Act.put, List.setIfInBounds_toArray, List.set_cons_zero, List.set_cons_succ]
  refine wpU_take (v := ?_) 17 hst (fun _ h => h) rfl ?_ ?_; rotate_left; (intro W hS K hK; clear hS; go_simp; exact hK.out _ (Below.refl _ _)); simp only [Act.put, List.setIfInBounds_toArray, List.set_cons_zero, List.set_cons_succ]
  refine wpU_done (fun w_16 hS => ?_)
  obtain ⟨hB, G_4, G_11⟩ := hS
  clear hst
  go_wp2_with (first | (with_reducible refine stop_store ?_) | (with_reducible refine stop_box ?_) | (with_reducible refine stop_alloc ?_) | (with_reducible refine stop_bslice ?_) | (with_reducible refine stop_append ?_))
  have hst : Stable fun W => Below w.heap.size w W ∧ Blk W g_1 25 #[.int .u64 (W64 k1), .int .i64 nd, .int .u64 (W64 k3), .int .u64 (W64 k4), .int .u64 (W64 k5)] ∧ Blk W g_8 44 #[.int .u32 0, .int .i64 0, .bool false, .int .i64 0, .int .u32 0, .int .u16 0, .int .u16 0, .slice none 0 0] := stable_and (stable_below _ _ (Nat.le_refl _)) (stable_and (stable_blk _ _ _) (stable_blk _ _ _))
  refine wp_region_v _ 8 hst ⟨hB.drew, G_4, G_11⟩ ?_
  clear hB G_4 G_11
  refine wpU_take (v := .agg #[.int .u64 (W64 k1), .int .i64 nd, .int .u64 (W64 k3), .int .u64 (W64 k4), .int .u64 (W64 k5)]) 0 hst (fun _ h => h) rfl (fun W hS K hK => calm_load rfl rfl (load_part hS.2.1 0 [.int .u64 (W64 k1), .int .i64 nd, .int .u64 (W64 k3), .int .u64 (W64 k4), .int .u64 (W64 k5)] rfl Try.underlying25 rfl (by kernel_rfl)) (hK.out _ (Below.refl _ _))) ?_; simp only [Act.put, List.setIfInBounds_toArray, List.set_cons_zero, List.set_cons_succ]
  refine wpU_take (v := ?_) 1 hst (fun _ h => h) rfl ?_ ?_; rotate_left; (intro W hS K hK; clear hS; go_simp; exact hK.out _ (Below.refl _ _)); simp only [Act.put, List.setIfInBounds_toArray, List.set_cons_zero, List.set_cons_succ]
  refine wpU_take (v := ?_) 2 hst (fun _ h => h) rfl ?_ ?_; rotate_left; (intro W hS K hK; clear hS; go_simp; exact hK.out _ (Below.refl _ _)); simp only [Act.put, List.setIfInBounds_toArray, List.set_cons_zero, List.set_cons_succ]
  refine wpU_take (v := ?_) 3 hst (fun _ h => h) rfl ?_ ?_; rotate_left; (intro W hS K hK; clear hS; go_simp; exact hK.out _ (Below.refl _ _)); simp only [Act.put, List.setIfInBounds_toArray, List.set_cons_zero, List.set_cons_succ]
  refine wpU_take (v := ?_) 4 hst (fun _ h => h) rfl ?_ ?_; rotate_left; (intro W hS K hK; clear hS; go_simp; exact hK.out _ (Below.refl _ _)); simp only [Act.put, List.setIfInBounds_toArray, List.set_cons_zero, List.set_cons_succ]
  refine wpU_take (v := ?_) 5 hst (fun _ h => h) rfl ?_ ?_; rotate_left; (intro W hS K hK; clear hS; go_simp; exact hK.out _ (Below.refl _ _)); simp only [Act.put, List.setIfInBounds_toArray, List.set_cons_zero, List.set_cons_succ]
  refine wpV_new 6 hst rfl ?_; intro W hS K hK
  go_simp
  refine (CH.out _ hS.1).mono ?_; rintro e w9 ⟨qh, qho, ch, rfl, RO, c6, c4, c1, d1, d4, hb⟩
  refine hK.out (fun W => RdB W (some ⟨qh, qho, none⟩) [o0, o1, o2, o3, o4, o5]) _ _ (stable_rdB _ _) hb (RO) (fun hst => ?_)
  clear hK K hb RO hS
  try simp only [Act.put, List.setIfInBounds_toArray, List.set_cons_zero, List.set_cons_succ]
  refine wpU_take (v := ?_) 7 hst (fun _ h => h) rfl ?_ ?_; rotate_left; (intro W hS K hK; clear hS; go_simp; exact hK.out _ (Below.refl _ _)); simp only [Act.put, List.setIfInBounds_toArray, List.set_cons_zero, List.set_cons_succ]
  refine wpU_done (fun w_17 hS => ?_)
  obtain ⟨⟨hB, G_4, G_11⟩, RO⟩ := hS
  clear hst
  go_wp2_with (first | (with_reducible refine stop_store ?_) | (with_reducible refine stop_box ?_) | (with_reducible refine stop_alloc ?_) | (with_reducible refine stop_bslice ?_) | (with_reducible refine stop_append ?_))
  have hst : Stable fun W => Below w.heap.size w W ∧ Blk W g_1 25 #[.int .u64 (W64 k1), .int .i64 nd, .int .u64 (W64 k3), .int .u64 (W64 k4), .int .u64 (W64 k5)] ∧ Blk W g_8 44 #[.int .u32 0, .int .i64 0, .bool false, .int .i64 0, .int .u32 0, .int .u16 0, .int .u16 0, .slice none 0 0] ∧ RdB W (some ⟨qh, qho, none⟩) [o0, o1, o2, o3, o4, o5] := stable_and (stable_below _ _ (Nat.le_refl _)) (stable_and (stable_blk _ _ _) (stable_and (stable_blk _ _ _) (stable_rdB _ _)))
  refine wp_region_v _ 23 hst ⟨hB.drew, G_4, G_11, RO⟩ ?_
  clear hB G_4 G_11 RO
  refine wpU_take (v := ?_) 0 hst (fun _ h => h) rfl ?_ ?_; rotate_left; (intro W hS K hK; clear hS; go_simp; exact hK.out _ (Below.refl _ _)); simp only [Act.put, List.setIfInBounds_toArray, List.set_cons_zero, List.set_cons_succ]
  refine wpU_take (v := ?_) 1 hst (fun _ h => h) rfl ?_ ?_; rotate_left; (intro W hS K hK; clear hS; go_simp; exact hK.out _ (Below.refl _ _)); simp only [Act.put, List.setIfInBounds_toArray, List.set_cons_zero, List.set_cons_succ]
  refine wpU_take (v := ?_) 2 hst (fun _ h => h) rfl ?_ ?_; rotate_left; (intro W hS K hK; have ld : W.cell? ⟨g_1, 1, none⟩ = some (.int .i64 nd) := hS.2.1.cell 1; clear hS; go_simp; exact hK.out _ (Below.refl _ _)); simp only [Act.put, List.setIfInBounds_toArray, List.set_cons_zero, List.set_cons_succ]
  refine wpU_take (v := ?_) 3 hst (fun _ h => h) rfl ?_ ?_; rotate_left; (intro W hS K hK; clear hS; go_simp; exact hK.out _ (Below.refl _ _)); simp only [Act.put, List.setIfInBounds_toArray, List.set_cons_zero, List.set_cons_succ]
  refine wpU_take (v := ?_) 4 hst (fun _ h => h) rfl ?_ ?_; rotate_left; (intro W hS K hK; clear hS; go_simp; exact hK.out _ (Below.refl _ _)); simp only [Act.put, List.setIfInBounds_toArray, List.set_cons_zero, List.set_cons_succ]
  refine wpU_take (v := ?_) 5 hst (fun _ h => h) rfl ?_ ?_; rotate_left; (intro W hS K hK; have ld : W.cell? ⟨qh, qho, none⟩ = some (.int .u8 (W8 o0)) := (rg_at hS.2.2.2 0 1 [.int .u8 (W8 o0)] rfl (Nat.succ_pos _)).2 0 _ rfl; clear hS; go_simp; exact hK.out _ (Below.refl _ _)); simp only [Act.put, List.setIfInBounds_toArray, List.set_cons_zero, List.set_cons_succ]
  refine wpU_take (v := ?_) 6 hst (fun _ h => h) rfl ?_ ?_; rotate_left; (intro W hS K hK; clear hS; go_simp; exact hK.out _ (Below.refl _ _)); simp only [Act.put, List.setIfInBounds_toArray, List.set_cons_zero, List.set_cons_succ]
  refine wpU_take (v := ?_) 7 hst (fun _ h => h) rfl ?_ ?_; rotate_left; (intro W hS K hK; clear hS; go_simp; exact hK.out _ (Below.refl _ _)); simp only [Act.put, List.setIfInBounds_toArray, List.set_cons_zero, List.set_cons_succ]
  refine wpU_take (v := ?_) 8 hst (fun _ h => h) rfl ?_ ?_; rotate_left; (intro W hS K hK; clear hS; go_simp; exact hK.out _ (Below.refl _ _)); simp only [Act.put, List.setIfInBounds_toArray, List.set_cons_zero, List.set_cons_succ]
  refine wpU_take (v := ?_) 9 hst (fun _ h => h) rfl ?_ ?_; rotate_left; (intro W hS K hK; have ld : W.cell? ⟨qh, qho, none⟩ = some (.int .u8 (W8 o0)) := (rg_at hS.2.2.2 0 1 [.int .u8 (W8 o0)] rfl (Nat.succ_pos _)).2 0 _ rfl; clear hS; go_simp; exact hK.out _ (Below.refl _ _)); simp only [Act.put, List.setIfInBounds_toArray, List.set_cons_zero, List.set_cons_succ]
  refine wpU_take (v := ?_) 10 hst (fun _ h => h) rfl ?_ ?_; rotate_left; (intro W hS K hK; clear hS; go_simp; exact hK.out _ (Below.refl _ _)); simp only [Act.put, List.setIfInBounds_toArray, List.set_cons_zero, List.set_cons_succ]
  refine wpU_take (v := ?_) 11 hst (fun _ h => h) rfl ?_ ?_; rotate_left; (intro W hS K hK; clear hS; go_simp; exact hK.out _ (Below.refl _ _)); simp only [Act.put, List.setIfInBounds_toArray, List.set_cons_zero, List.set_cons_succ]
  refine wpU_take (v := ?_) 12 hst (fun _ h => h) rfl ?_ ?_; rotate_left; (intro W hS K hK; clear hS; go_simp; exact hK.out _ (Below.refl _ _)); simp only [Act.put, List.setIfInBounds_toArray, List.set_cons_zero, List.set_cons_succ]
  refine wpU_take (v := ?_) 13 hst (fun _ h => h) rfl ?_ ?_; rotate_left; (intro W hS K hK; clear hS; go_simp; exact hK.out _ (Below.refl _ _)); simp only [Act.put, List.setIfInBounds_toArray, List.set_cons_zero, List.set_cons_succ]
  refine wpU_take (v := ?_) 16 hst (fun _ h => h) rfl ?_ ?_; rotate_left; (intro W hS K hK; clear hS; go_simp; exact hK.out _ (Below.refl _ _)); simp only [Act.put, List.setIfInBounds_toArray, List.set_cons_zero, List.set_cons_succ]
  refine wpU_take (v := ?_) 17 hst (fun _ h => h) rfl ?_ ?_; rotate_left; (intro W hS K hK; clear hS; go_simp; exact hK.out _ (Below.refl _ _)); simp only [Act.put, List.setIfInBounds_toArray, List.set_cons_zero, List.set_cons_succ]
  refine wpU_take (v := .int .u64 (W64 v1)) 14 hst (fun _ h => h) rfl ?_ ?_; (intro W hS K hK; go_simp; refine (CV1.out _ _ _ _ hS.2.2.2).mono ?_; rintro e w9 ⟨rfl, rfl⟩; refine CallPost.mk ?_; exact hK.out _ (Below.refl _ _)); simp only [Act.put, List.setIfInBounds_toArray, List.set_cons_zero, List.set_cons_succ]
  refine wpU_take (v := ?_) 15 hst (fun _ h => h) rfl ?_ ?_; rotate_left; (intro W hS K hK; clear hS; go_simp; exact hK.out _ (Below.refl _ _)); simp only [Act.put, List.setIfInBounds_toArray, List.set_cons_zero, List.set_cons_succ]
  refine wpU_take (v := .int .u64 (W64 v2)) 18 hst (fun _ h => h) rfl ?_ ?_; (intro W hS K hK; go_simp; refine (CV2.out _ _ _ _ hS.2.2.2).mono ?_; rintro e w9 ⟨rfl, rfl⟩; refine CallPost.mk ?_; exact hK.out _ (Below.refl _ _)); simp only [Act.put, List.setIfInBounds_toArray, List.set_cons_zero, List.set_cons_succ]
  refine wpU_take (v := ?_) 19 hst (fun _ h => h) rfl ?_ ?_; rotate_left; (intro W hS K hK; clear hS; go_simp; exact hK.out _ (Below.refl _ _)); simp only [Act.put, List.setIfInBounds_toArray, List.set_cons_zero, List.set_cons_succ]
  refine wpU_take (v := ?_) 20 hst (fun _ h => h) rfl ?_ ?_; rotate_left; (intro W hS K hK; clear hS; go_simp; exact hK.out _ (Below.refl _ _)); simp only [Act.put, List.setIfInBounds_toArray, List.set_cons_zero, List.set_cons_succ]
  refine wpV_new 21 hst rfl ?_; intro W hS K hK
  have l8_21_g_1 : g_1 < W.heap.size := hS.2.1.lt
  have l8_21_g_8 : g_8 < W.heap.size := hS.2.2.1.lt
  have n8_21a : w.heap.size ≤ W.heap.size := hS.1.size
  clear hS
  go_simp
  refine hK.out (fun W' => Room W.heap.size 44 8 W') _ _ (stable_room _ _ _) ((Below.refl _ _).alloc (Nat.le_refl _) _) (⟨_, rfl, rfl, Blk.new _ _ _⟩) (fun hst => ?_)
  clear hK K
  try simp only [Act.put, List.setIfInBounds_toArray, List.set_cons_zero, List.set_cons_succ]
  generalize W.heap.size = g8_21 at hst l8_21_g_1 l8_21_g_8 n8_21a ⊢
  clear W
  refine wpV_st 22 hst (fun _ h => h) #[.int .u32 (W32 iv), .int .i64 nd, .bool fc, .int .i64 (W8 (o0 &&& 127#8)), .int .u32 (W32 (BitVec.setWidth 32 v1)), .int .u16 (W16 (BitVec.setWidth 16 v2)), .int .u16 0, .slice none 0 0] rfl rfl rfl rfl (fun W hS => hS.2) (fun W W' h hU hG => ?_) (by kernel_rfl) rfl (fun hst => ?_)
  · obtain ⟨⟨h0_0, h0_1, h0_2, h0_3⟩, ⟨ch1_0, ah1_0, bh1_0, h1_0⟩⟩ := h
    exact ⟨⟨hU.below h0_0 (by omega), hU.blk h0_1 (by omega), hU.blk h0_2 (by omega), RdB.upd h0_3 h1_0 hU bh1_0⟩, ⟨_, rfl, rfl, hG⟩⟩
  refine wpU_done (fun w_18 hS => ?_)
  obtain ⟨⟨⟨hB, G_4, G_11, RO⟩, -⟩, G8_21s⟩ := hS
  clear hst
  go_wp2_with (first | (with_reducible refine stop_store ?_) | (with_reducible refine stop_box ?_) | (with_reducible refine stop_alloc ?_) | (with_reducible refine stop_bslice ?_) | (with_reducible refine stop_append ?_))
  have hst : Stable fun W => Below w.heap.size w W ∧ Blk W g_1 25 #[.int .u64 (W64 k1), .int .i64 nd, .int .u64 (W64 k3), .int .u64 (W64 k4), .int .u64 (W64 k5)] ∧ Blk W g_8 44 #[.int .u32 0, .int .i64 0, .bool false, .int .i64 0, .int .u32 0, .int .u16 0, .int .u16 0, .slice none 0 0] ∧ Blk W g8_21 44 #[.int .u32 (W32 iv), .int .i64 nd, .bool fc, .int .i64 (W8 (o0 &&& 127#8)), .int .u32 (W32 (BitVec.setWidth 32 v1)), .int .u16 (W16 (BitVec.setWidth 16 v2)), .int .u16 0, .slice none 0 0] ∧ RdB W (some ⟨qh, qho, none⟩) [o0, o1, o2, o3, o4, o5] := stable_and (stable_below _ _ (Nat.le_refl _)) (stable_and (stable_blk _ _ _) (stable_and (stable_blk _ _ _) (stable_and (stable_blk _ _ _) (stable_rdB _ _))))
  refine wp_region_v _ 18 hst ⟨hB.drew, G_4, G_11, G8_21s, RO⟩ ?_
  clear hB G_4 G_11 G8_21s RO
  refine wpU_take (v := ?_) 0 hst (fun _ h => h) rfl ?_ ?_; rotate_left; (intro W hS K hK; clear hS; go_simp; exact hK.out _ (Below.refl _ _)); simp only [Act.put, List.setIfInBounds_toArray, List.set_cons_zero, List.set_cons_succ]
  refine wpU_take (v := ?_) 1 hst (fun _ h => h) rfl ?_ ?_; rotate_left; (intro W hS K hK; have ld : W.cell? ⟨g_1, 2, none⟩ = some (.int .u64 (W64 k3)) := hS.2.1.cell 2; clear hS; go_simp; exact hK.out _ (Below.refl _ _)); simp only [Act.put, List.setIfInBounds_toArray, List.set_cons_zero, List.set_cons_succ]
  refine wpU_take (v := ?_) 2 hst (fun _ h => h) rfl ?_ ?_; rotate_left; (intro W hS K hK; clear hS; go_simp; exact hK.out _ (Below.refl _ _)); simp only [Act.put, List.setIfInBounds_toArray, List.set_cons_zero, List.set_cons_succ]
  refine wpU_take (v := ?_) 3 hst (fun _ h => h) rfl ?_ ?_; rotate_left; (intro W hS K hK; have ld : W.cell? ⟨g8_21, 5, none⟩ = some (.int .u16 (W16 (BitVec.setWidth 16 v2))) := hS.2.2.2.1.cell 5; clear hS; go_simp; exact hK.out _ (Below.refl _ _)); simp only [Act.put, List.setIfInBounds_toArray, List.set_cons_zero, List.set_cons_succ]
  refine wpU_take (v := ?_) 4 hst (fun _ h => h) rfl ?_ ?_; rotate_left; (intro W hS K hK; clear hS; go_simp; exact hK.out _ (Below.refl _ _)); simp only [Act.put, List.setIfInBounds_toArray, List.set_cons_zero, List.set_cons_succ]
  refine wpU_take (v := ?_) 5 hst (fun _ h => h) rfl ?_ ?_; rotate_left; (intro W hS K hK; have ld : W.cell? ⟨g8_21, 4, none⟩ = some (.int .u32 (W32 (BitVec.setWidth 32 v1))) := hS.2.2.2.1.cell 4; clear hS; go_simp; exact hK.out _ (Below.refl _ _)); simp only [Act.put, List.setIfInBounds_toArray, List.set_cons_zero, List.set_cons_succ]
  refine wpU_take (v := ?_) 6 hst (fun _ h => h) rfl ?_ ?_; rotate_left; (intro W hS K hK; clear hS; go_simp; exact hK.out _ (Below.refl _ _)); simp only [Act.put, List.setIfInBounds_toArray, List.set_cons_zero, List.set_cons_succ]
  refine wpU_take (v := ?_) 8 hst (fun _ h => h) rfl ?_ ?_; rotate_left; (intro W hS K hK; clear hS; go_simp; exact hK.out _ (Below.refl _ _)); simp only [Act.put, List.setIfInBounds_toArray, List.set_cons_zero, List.set_cons_succ]
  refine wpU_take (v := ?_) 9 hst (fun _ h => h) rfl ?_ ?_; rotate_left; (intro W hS K hK; clear hS; go_simp; exact hK.out _ (Below.refl _ _)); simp only [Act.put, List.setIfInBounds_toArray, List.set_cons_zero, List.set_cons_succ]
  refine wpU_take (v := ?_) 10 hst (fun _ h => h) rfl ?_ ?_; rotate_left; (intro W hS K hK; clear hS; go_simp; exact hK.out _ (Below.refl _ _)); simp only [Act.put, List.setIfInBounds_toArray, List.set_cons_zero, List.set_cons_succ]
  refine wpU_take (v := ?_) 11 hst (fun _ h => h) rfl ?_ ?_; rotate_left; (intro W hS K hK; clear hS; go_simp; exact hK.out _ (Below.refl _ _)); simp only [Act.put, List.setIfInBounds_toArray, List.set_cons_zero, List.set_cons_succ]
  refine wpU_take (v := .int .u64 (W64 non)) 7 hst (fun _ h => h) rfl ?_ ?_; (intro W hS K hK; clear hS; go_simp; refine (CN.out _).mono ?_; rintro e w9 ⟨rfl, hb⟩; refine CallPost.mk ?_; exact hK.out _ (hb)); simp only [Act.put, List.setIfInBounds_toArray, List.set_cons_zero, List.set_cons_succ]
  refine wpV_new 12 hst rfl ?_; intro W hS K hK
  go_simp
  refine (CO.out _ _ _ _ hS.2.2.2.2 hS.1).mono ?_; rintro e w9 ⟨Ao, co, rfl, hb⟩
  refine hK.out (fun W => True) _ _ (stable_const True) hb (trivial) (fun hst => ?_)
  clear hK K hb  hS
  try simp only [Act.put, List.setIfInBounds_toArray, List.set_cons_zero, List.set_cons_succ]
  refine wpU_take (v := ?_) 13 hst (fun _ h => h) rfl ?_ ?_; rotate_left; (intro W hS K hK; clear hS; go_simp; exact hK.out _ (Below.refl _ _)); simp only [Act.put, List.setIfInBounds_toArray, List.set_cons_zero, List.set_cons_succ]
  refine wpU_take (v := ?_) 14 hst (fun _ h => h) rfl ?_ ?_; rotate_left; (intro W hS K hK; clear hS; go_simp; exact hK.out _ (Below.refl _ _)); simp only [Act.put, List.setIfInBounds_toArray, List.set_cons_zero, List.set_cons_succ]
  refine wpU_take (v := ?_) 15 hst (fun _ h => h) rfl ?_ ?_; rotate_left; (intro W hS K hK; clear hS; go_simp; exact hK.out _ (Below.refl _ _)); simp only [Act.put, List.setIfInBounds_toArray, List.set_cons_zero, List.set_cons_succ]
  refine wpU_take (v := ?_) 16 hst (fun _ h => h) rfl ?_ ?_; rotate_left; (intro W hS K hK; clear hS; go_simp; exact hK.out _ (Below.refl _ _)); simp only [Act.put, List.setIfInBounds_toArray, List.set_cons_zero, List.set_cons_succ]
  refine wpU_take (v := ?_) 17 hst (fun _ h => h) rfl ?_ ?_; rotate_left; (intro W hS K hK; clear hS; go_simp; exact hK.out _ (Below.refl _ _)); simp only [Act.put, List.setIfInBounds_toArray, List.set_cons_zero, List.set_cons_succ]
  refine wpU_done (fun w_19 hS => ?_)
  obtain ⟨⟨hB, G_4, G_11, G8_21s, RO⟩, hT⟩ := hS
  clear hst
  go_wp2_with (first | (with_reducible refine stop_store ?_) | (with_reducible refine stop_box ?_) | (with_reducible refine stop_alloc ?_) | (with_reducible refine stop_bslice ?_) | (with_reducible refine stop_append ?_))
  unfold Kept
  refine wpList_st 0 #[.int .u32 0, .int .i64 0, .bool false, .int .i64 0, .int .u32 0, .int .u16 0, .int .u16 0, .slice none 0 0] #[.int .u32 0, .int .i64 0, .bool false, .int .i64 0, .int .u32 0, .int .u16 0, .int .u16 0, .slice none 0 0] G_11 rfl rfl (by kernel_rfl) rfl (of_decide_eq_true rfl) rfl ?_
  intro w_20 G_22 hU_21
  replace G_4 := hU_21.blk G_4 (by omega)
  replace G8_21s := hU_21.blk G8_21s (by omega)
  replace RO := RdB.upd RO G_11 hU_21 (by rfl)
  replace hB := hU_21.below hB (by omega)
  clear G_11 hU_21
  go_wp2_with (first | (with_reducible refine stop_store ?_) | (with_reducible refine stop_box ?_) | (with_reducible refine stop_alloc ?_) | (with_reducible refine stop_bslice ?_) | (with_reducible refine stop_append ?_))
  refine bodyPost_ret (results_ct rfl rfl (load_blk G_22 Try.underlying44 rfl (by kernel_rfl))) rfl ?_
  exact ⟨none, 0, rfl, bcell_nil _, Nat.le_refl _, hB⟩
set_option maxHeartbeats 8000000 in
theorem r48_Decode_c (k1 : BitVec 64) (k3 k4 k5 : BitVec 64) (nd : Int) (iv : BitVec 32) (pb po n d : Nat) (b0 x0 x1 x2 x3 x4 x5 : BitVec 8) (sd : List (BitVec 8)) (o0 o1 o2 o3 o4 o5 : BitVec 8) (fc : Bool) (non : BitVec 64) (v1 v2 : BitVec 64) (p0 p1 : BitVec 8) (ps : List (BitVec 8)) (np : Nat) (v3 : BitVec 64) (ck : Int) (w : World) (RB0 : Rg pb po [.int .u8 (W8 b0)] w) (RX0 : Rg pb (po + 1) [.int .u8 (W8 x0), .int .u8 (W8 x1), .int .u8 (W8 x2), .int .u8 (W8 x3), .int .u8 (W8 x4), .int .u8 (W8 x5)] w) (hs0 : RdB w (some ⟨pb, po + 7, none⟩) sd) (hr0 : RdB w (some ⟨pb, po + 1, none⟩) [x0, x1, x2, x3, x4, x5]) (hn : sd.length + 7 = n) (hd : n ≤ d) (h14 : 14 ≤ n) (h29 : n ≤ 29) (hnd : W8 (b0 &&& 127#8) = nd) (hbi : W8 (b0 >>> 7) = W32 (iv &&& 1#32)) (hop : xorB [x0, x1, x2, x3, x4, x5] (maskL ⟨k1, nd, k3, k4, k5⟩ iv sd) = [o0, o1, o2, o3, o4, o5]) (hfc : (o0 &&& 128#8 != 0#8) = fc) (hnon : nonceK 0 (BitVec.setWidth 16 v2) (BitVec.setWidth 32 v1) iv = non) (hv1 : leVal [o1, o2, o3] = v1) (hv2 : leVal [o4, o5] = v2) (hres : openB k3 non [o0] sd = (p0 :: p1 :: ps, 0)) (hnp : (p0 :: p1 :: ps).length = np) (h3 : 3 ≤ np) (hv3 : leVal [p0, p1] = v3) (hck : checkN ⟨iv, nd, fc, W8 (o0 &&& 127#8), BitVec.setWidth 32 v1, BitVec.setWidth 16 v2, BitVec.setWidth 16 v3, ps⟩ = ck) (h0 : ck ≠ 0) :
    Calls Try.prog 35 #[.agg #[.int .u64 (W64 k1), .int .i64 nd, .int .u64 (W64 k3), .int .u64 (W64 k4), .int .u64 (W64 k5)], .int .u32 (W32 iv), .slice (some ⟨pb, po, none⟩) n d] w (RetN w (np0, ck)) := by
  have g0 : 0 < n := by omega
  have RB := Lib.hid (fun W (hB : Below w.heap.size w W) => (Rg.to RB0 hB).2)
  have RX := Lib.hid (fun W (hB : Below w.heap.size w W) => (Rg.to RX0 hB).2)
  have i0 : decide ((n : Int) < 14) = false := by simp; omega
  have i1 : decide ((29 : Int) < (n : Int)) = false := by simp; omega
  obtain ⟨n7, hn7⟩ : ∃ x, n - 7 = x := ⟨_, rfl⟩
  have hsn : sd.length = n - 7 := by omega
  have CN := Lib.hid (fun W => show Calls Try.prog 18 #[.int .i64 0, .int .u16 (W16 (BitVec.setWidth 16 v2)), .int .u32 (W32 (BitVec.setWidth 32 v1)), .int .u32 (W32 iv)] W fun e w' => e = .returned (.int .u64 (W64 non)) ∧ Below W.heap.size W w' from by have := ref47_Nonce 0 (BitVec.setWidth 16 v2) (BitVec.setWidth 32 v1) iv W; rw [hnon] at this; exact this)
  have CH := Lib.hid (fun W (hB : Below w.heap.size w W) => show Calls Try.prog 56 #[.agg #[.int .u64 (W64 k1), .int .i64 nd, .int .u64 (W64 k3), .int .u64 (W64 k4), .int .u64 (W64 k5)], .int .u32 (W32 iv), .slice (some ⟨pb, po + 1, none⟩) 6 (d - 1), .slice (some ⟨pb, po + 7, none⟩) (n - 7) (d - 7)] W fun e w' => ∃ qh qho ch, e = .returned (.slice (some ⟨qh, qho, none⟩) 6 ch) ∧ RdB w' (some ⟨qh, qho, none⟩) [o0, o1, o2, o3, o4, o5] ∧ (6 : Int) ≤ (ch : Int) ∧ (4 : Int) ≤ (ch : Int) ∧ (1 : Int) ≤ (ch : Int) ∧ ¬ ch = 1 ∧ ¬ ch = 4 ∧ Below W.heap.size W w' from by
    have := r48_hide_f k1 nd k3 k4 k5 iv (some ⟨pb, po + 1, none⟩) (d - 1) [x0, x1, x2, x3, x4, x5] (some ⟨pb, po + 7, none⟩) (n - 7) (d - 7) sd W (Rd.to hr0 hB) rfl (Rd.to hs0 hB) hsn (by omega) (by omega) (by omega)
    rw [hop] at this
    refine this.mono ?_
    rintro e w' ⟨A, c, rfl, ho, hb⟩
    have hc : 6 ≤ c := (own_cap ho).1
    have hr : RdB w' A [o0, o1, o2, o3, o4, o5] := Rd.of_own ho
    obtain ⟨q, qo, rfl, _, _⟩ := Rd.open_ hr (by rw [bcells_length]; exact Nat.succ_pos _)
    exact ⟨q, qo, c, rfl, hr, by omega, by omega, by omega, by omega, by omega, hb⟩)
  have CV1 := Lib.hid (fun W q qo c (h : RdB W (some ⟨q, qo, none⟩) [o0, o1, o2, o3, o4, o5]) => show Calls Try.prog 57 #[.slice (some ⟨q, qo + 1, none⟩) 3 (c - 1)] W fun e w' => e = .returned (.int .u64 (W64 v1)) ∧ W = w' from by
    obtain ⟨_, _, hA1, hlt, _⟩ := Rd.open_ h (by rw [bcells_length]; exact Nat.succ_pos _)
    cases hA1
    have := ref2_Value (some ⟨q, qo + 1, none⟩) (c - 1) [o1, o2, o3] W ((rd_cut h hlt 1).take 3) (by simp)
    rw [hv1] at this
    exact this)
  have CV2 := Lib.hid (fun W q qo c (h : RdB W (some ⟨q, qo, none⟩) [o0, o1, o2, o3, o4, o5]) => show Calls Try.prog 57 #[.slice (some ⟨q, qo + 4, none⟩) 2 (c - 4)] W fun e w' => e = .returned (.int .u64 (W64 v2)) ∧ W = w' from by
    obtain ⟨_, _, hA1, hlt, _⟩ := Rd.open_ h (by rw [bcells_length]; exact Nat.succ_pos _)
    cases hA1
    have := ref2_Value (some ⟨q, qo + 4, none⟩) (c - 4) [o4, o5] W (rd_cut h hlt 4) (by simp)
    rw [hv2] at this
    exact this)
  have ef : decide ((127 : Int) < W8 o0) = fc := by have h : decide (W8 127#8 < W8 o0) = fc := (by rw [← hfc, ← (low7 o0).2.2]; simp only [W8_lt]); exact h
  have e2 : W8 (b0 % 128#8) = nd := by rw [(low7 b0).2.1]; exact hnd
  have e5 : ((W32 (BitVec.setWidth 32 (b0 / 128#8)) : Int) != W32 (iv % 2#32)) = false := by rw [(low7 b0).1, W32_bne]; simp only [bne_eq_false_iff_eq]; rw [mod2]; apply W32_inj; rw [← hbi]; exact w8_32 _
  have e6 : o0 % 128#8 = o0 &&& 127#8 := (low7 o0).2.1
  clear hop hv1 hv2
  have y3 : IntKind.i64.wrap (W8 (o0 &&& 127#8)) = W8 (o0 &&& 127#8) := IntWalk.i64_in _ (by have := W8_bd (o0 &&& 127#8); omega)
  have nb1 : 0 ≤ nd := by rw [← hnd]; exact (W8_bd _).1
  have nb2 : nd ≤ 255 := by rw [← hnd]; exact (W8_bd _).2
  have yw : IntKind.i64.wrap nd = nd := IntWalk.i64_in _ (by omega)
  have yv : IntKind.i64.wrap (W8 (b0 % 128#8)) = nd := by rw [e2, yw]
  have q7 : ¬ d = 7 := by omega
  have q1 : ¬ d = 1 := by omega
  have q8 : (7 : Int) ≤ (d : Int) := by omega
  have q9 : (7 : Int) ≤ (n : Int) := by omega
  have CO := Lib.hid (fun W g go gc (hh : RdB W (some ⟨g, go, none⟩) [o0, o1, o2, o3, o4, o5]) (hB : Below w.heap.size w W) => show Calls Try.prog 50 #[.int .u64 (W64 k3), .int .u64 (W64 non), .slice (some ⟨g, go, none⟩) 1 gc, .slice (some ⟨pb, po + 7, none⟩) (n - 7) (d - 7)] W fun e w' => ∃ q qo cp, e = .returned (.tuple #[.slice (some ⟨q, qo, none⟩) np cp, .int .i64 0]) ∧ RdB w' (some ⟨q, qo, none⟩) (p0 :: p1 :: ps) ∧ RdB w' (some ⟨q, qo + 2, none⟩) ps ∧ (2 : Int) ≤ (cp : Int) ∧ ¬ cp = 2 ∧ Below W.heap.size W w' from by
    have := ref6_Open k3 non (some ⟨g, go, none⟩) (some ⟨pb, po + 7, none⟩) gc (d - 7) [o0] sd W (RdB.take hh 1) (Rd.to hs0 hB) (by simp) (by omega) (by omega)
    rw [hsn, hres] at this
    refine this.mono ?_
    rintro e w' ⟨A, c, rfl, hr, hc, hb⟩
    dsimp only at hr hc
    rw [hnp] at hc
    obtain ⟨q, qo, rfl, hlt, _⟩ := Rd.open_ hr (by rw [bcells_length]; exact Nat.succ_pos _)
    exact ⟨q, qo, c, by dsimp only; rw [hnp], hr, rd_cut hr hlt 2, by omega, by omega, hb⟩)
  have CK := Lib.hid (fun W A c => show Calls Try.prog 27 #[.agg #[.int .u32 (W32 iv), .int .i64 nd, .bool fc, .int .i64 (W8 (o0 &&& 127#8)), .int .u32 (W32 (BitVec.setWidth 32 v1)), .int .u16 (W16 (BitVec.setWidth 16 v2)), .int .u16 (W16 (BitVec.setWidth 16 v3)), .slice A (np - 2) c]] W fun e w' => e = .returned (.int .i64 ck) ∧ Below W.heap.size W w' from by
    have hq : ps.length = np - 2 := by simp at hnp; omega
    have hpl : (openB k3 non [o0] sd).1.length ≤ sd.length := openB_le _ _ _ _
    have hpl2 : (p0 :: p1 :: ps).length ≤ sd.length := by rw [hres] at hpl; exact hpl
    have := r48_Check ⟨iv, nd, fc, W8 (o0 &&& 127#8), BitVec.setWidth 32 v1, BitVec.setWidth 16 v2, BitVec.setWidth 16 v3, ps⟩ A c W (by dsimp only; omega)
    unfold npA at this
    dsimp only at this
    rw [hq, hck] at this
    exact this)
  have HPS := Lib.hid (show ps.length = np - 2 by simp at hnp; omega)
  have hnb : np ≤ 22 := by
    have hpl : (openB k3 non [o0] sd).1.length ≤ sd.length := openB_le _ _ _ _
    rw [hres] at hpl
    dsimp only at hpl
    omega
  have r2 : (2 : Int) ≤ (np : Int) := by omega
  have r0 : 0 < np := by omega
  have r1 : (1 : Int) < (np : Int) := by omega
  have CV3 := Lib.hid (fun W q qo c (h : RdB W (some ⟨q, qo, none⟩) (p0 :: p1 :: ps)) => show Calls Try.prog 57 #[.slice (some ⟨q, qo, none⟩) 2 c] W fun e w' => e = .returned (.int .u64 (W64 v3)) ∧ W = w' from by
    have := ref2_Value (some ⟨q, qo, none⟩) c [p0, p1] W (RdB.take h 2) (by simp)
    rw [hv3] at this
    exact this)
  clear hv3
  have e9 : ((ck : Int) != 0) = true := by simpa using h0
  have e8 : ((ck : Int) == 0) = false := by simpa using h0
  clear h0
  clear RB0 RX0 hnon hfc hbi hnd hn7
  clear hres hck
  obtain ⟨i0, hi0, hz0, hz1, hz2⟩ := info_parts info_u8
  go_enter Try.func35, Try.ntmps35
  have hB := Below.refl w.heap.size w
  go_wp2_with (first | (with_reducible refine stop_store ?_) | (with_reducible refine stop_box ?_) | (with_reducible refine stop_alloc ?_) | (with_reducible refine stop_bslice ?_) | (with_reducible refine stop_append ?_))
  unfold Kept
  refine go_mem (ty := 25) (cs := #[.int .u64 (W64 k1), .int .i64 nd, .int .u64 (W64 k3), .int .u64 (W64 k4), .int .u64 (W64 k5)]) (fun g => .pointer (some ⟨g, 0, none⟩)) rfl (by kernel_rfl) ?_
  intro g_1 w_2 z_6 l_5 hb_3 G_4
  have n_7 : w.heap.size ≤ g_1 := Nat.le_trans hB.size l_5
  replace hB := hB.trans (hb_3.mono hB.size)
  clear hb_3 l_5 z_6
  go_wp2_with (first | (with_reducible refine stop_store ?_) | (with_reducible refine stop_box ?_) | (with_reducible refine stop_alloc ?_) | (with_reducible refine stop_bslice ?_) | (with_reducible refine stop_append ?_))
  unfold Kept
  refine go_mem (ty := 44) (cs := #[.int .u32 0, .int .i64 0, .bool false, .int .i64 0, .int .u32 0, .int .u16 0, .int .u16 0, .slice none 0 0]) (fun g => .pointer (some ⟨g, 0, none⟩)) rfl (by kernel_rfl) ?_
  intro g_8 w_9 z_13 l_12 hb_10 G_11
  have n_14 : g_1 < g_8 := Nat.lt_of_lt_of_le G_4.lt l_12
  have n_15 : w.heap.size ≤ g_8 := Nat.le_trans hB.size l_12
  replace G_4 := G_4.to hb_10 G_4.lt
  replace hB := hB.trans (hb_10.mono hB.size)
  clear hb_10 l_12 z_13
  go_wp2_with (first | (with_reducible refine stop_store ?_) | (with_reducible refine stop_box ?_) | (with_reducible refine stop_alloc ?_) | (with_reducible refine stop_bslice ?_) | (with_reducible refine stop_append ?_))
  have hst : Stable fun W => Below w.heap.size w W ∧ Blk W g_1 25 #[.int .u64 (W64 k1), .int .i64 nd, .int .u64 (W64 k3), .int .u64 (W64 k4), .int .u64 (W64 k5)] ∧ Blk W g_8 44 #[.int .u32 0, .int .i64 0, .bool false, .int .i64 0, .int .u32 0, .int .u16 0, .int .u16 0, .slice none 0 0] := stable_and (stable_below _ _ (Nat.le_refl _)) (stable_and (stable_blk _ _ _) (stable_blk _ _ _))
  refine wp_region_v _ 18 hst ⟨hB.drew, G_4, G_11⟩ ?_
  clear hB G_4 G_11
  refine wpU_take (v := ?_) 0 hst (fun _ h => h) rfl ?_ ?_; rotate_left; (intro W hS K hK; clear hS; go_simp; exact hK.out _ (Below.refl _ _)); simp only [Act.put, List.setIfInBounds_toArray, List.set_cons_zero, List.set_cons_succ]
  refine wpU_take (v := ?_) 1 hst (fun _ h => h) rfl ?_ ?_; rotate_left; (intro W hS K hK; clear hS; go_simp; exact hK.out _ (Below.refl _ _)); simp only [Act.put, List.setIfInBounds_toArray, List.set_cons_zero, List.set_cons_succ]
  refine wpU_take (v := ?_) 2 hst (fun _ h => h) rfl ?_ ?_; rotate_left; (intro W hS K hK; have ld : W.cell? ⟨pb, po, none⟩ = some (.int .u8 (W8 b0)) := (RB.out _ hS.1) 0 _ rfl; clear hS; go_simp; exact hK.out _ (Below.refl _ _)); simp only [Act.put, List.setIfInBounds_toArray, List.set_cons_zero, List.set_cons_succ]
  refine wpU_take (v := ?_) 3 hst (fun _ h => h) rfl ?_ ?_; rotate_left; (intro W hS K hK; clear hS; go_simp; exact hK.out _ (Below.refl _ _)); simp only [Act.put, List.setIfInBounds_toArray, List.set_cons_zero, List.set_cons_succ]
  refine wpU_take (v := ?_) 4 hst (fun _ h => h) rfl ?_ ?_; rotate_left; (intro W hS K hK; clear hS; go_simp; exact hK.out _ (Below.refl _ _)); simp only [Act.put, List.setIfInBounds_toArray, List.set_cons_zero, List.set_cons_succ]
  refine wpU_take (v := ?_) 5 hst (fun _ h => h) rfl ?_ ?_; rotate_left; (intro W hS K hK; clear hS; go_simp; exact hK.out _ (Below.refl _ _)); simp only [Act.put, List.setIfInBounds_toArray, List.set_cons_zero, List.set_cons_succ]
  refine wpU_take (v := ?_) 6 hst (fun _ h => h) rfl ?_ ?_; rotate_left; (intro W hS K hK; have ld : W.cell? ⟨g_1, 1, none⟩ = some (.int .i64 nd) := hS.2.1.cell 1; clear hS; go_simp; exact hK.out _ (Below.refl _ _)); simp only [Act.put, List.setIfInBounds_toArray, List.set_cons_zero, List.set_cons_succ]
  refine wpU_take (v := ?_) 7 hst (fun _ h => h) rfl ?_ ?_; rotate_left; (intro W hS K hK; clear hS; go_simp; exact hK.out _ (Below.refl _ _)); simp only [Act.put, List.setIfInBounds_toArray, List.set_cons_zero, List.set_cons_succ]
  refine wpU_take (v := ?_) 8 hst (fun _ h => h) rfl ?_ ?_; rotate_left; (intro W hS K hK; clear hS; go_simp; exact hK.out _ (Below.refl _ _)); simp only [Act.put, List.setIfInBounds_toArray, List.set_cons_zero, List.set_cons_succ]
  refine wpU_take (v := ?_) 9 hst (fun _ h => h) rfl ?_ ?_; rotate_left; (intro W hS K hK; clear hS; go_simp; exact hK.out _ (Below.refl _ _)); simp only [Act.put, List.setIfInBounds_toArray, List.set_cons_zero, List.set_cons_succ]
  refine wpU_take (v := ?_) 10 hst (fun _ h => h) rfl ?_ ?_; rotate_left; (intro W hS K hK; clear hS; go_simp; exact hK.out _ (Below.refl _ _)); simp only [Act.put, List.setIfInBounds_toArray, List.set_cons_zero, List.set_cons_succ]
  refine wpU_take (v := ?_) 11 hst (fun _ h => h) rfl ?_ ?_; rotate_left; (intro W hS K hK; have ld : W.cell? ⟨pb, po, none⟩ = some (.int .u8 (W8 b0)) := (RB.out _ hS.1) 0 _ rfl; clear hS; go_simp; exact hK.out _ (Below.refl _ _)); simp only [Act.put, List.setIfInBounds_toArray, List.set_cons_zero, List.set_cons_succ]
  refine wpU_take (v := ?_) 12 hst (fun _ h => h) rfl ?_ ?_; rotate_left; (intro W hS K hK; clear hS; go_simp; exact hK.out _ (Below.refl _ _)); simp only [Act.put, List.setIfInBounds_toArray, List.set_cons_zero, List.set_cons_succ]
  refine wpU_take (v := ?_) 13 hst (fun _ h => h) rfl ?_ ?_; rotate_left; (intro W hS K hK; clear hS; go_simp; exact hK.out _ (Below.refl _ _)); simp only [Act.put, List.setIfInBounds_toArray, List.set_cons_zero, List.set_cons_succ]
  refine wpU_take (v := ?_) 14 hst (fun _ h => h) rfl ?_ ?_; rotate_left; (intro W hS K hK; clear hS; go_simp; exact hK.out _ (Below.refl _ _)); simp only [Act.put, List.setIfInBounds_toArray, List.set_cons_zero, List.set_cons_succ]
  refine wpU_take (v := ?_) 15 hst (fun _ h => h) rfl ?_ ?_; rotate_left; (intro W hS K hK; clear hS; go_simp; exact hK.out _ (Below.refl _ _)); simp only [Act.put, List.setIfInBounds_toArray, List.set_cons_zero, List.set_cons_succ]
  refine wpU_take (v := ?_) 16 hst (fun _ h => h) rfl ?_ ?_; rotate_left; (intro W hS K hK; clear hS; go_simp; exact hK.out _ (Below.refl _ _)); simp only [Act.put, List.setIfInBounds_toArray, List.set_cons_zero, List.set_cons_succ]
  refine wpU_take (v := ?_) 17 hst (fun _ h => h) rfl ?_ ?_; rotate_left; (intro W hS K hK; clear hS; go_simp; exact hK.out _ (Below.refl _ _)); simp only [Act.put, List.setIfInBounds_toArray, List.set_cons_zero, List.set_cons_succ]
  refine wpU_done (fun w_16 hS => ?_)
  obtain ⟨hB, G_4, G_11⟩ := hS
  clear hst
  go_wp2_with (first | (with_reducible refine stop_store ?_) | (with_reducible refine stop_box ?_) | (with_reducible refine stop_alloc ?_) | (with_reducible refine stop_bslice ?_) | (with_reducible refine stop_append ?_))
  have hst : Stable fun W => Below w.heap.size w W ∧ Blk W g_1 25 #[.int .u64 (W64 k1), .int .i64 nd, .int .u64 (W64 k3), .int .u64 (W64 k4), .int .u64 (W64 k5)] ∧ Blk W g_8 44 #[.int .u32 0, .int .i64 0, .bool false, .int .i64 0, .int .u32 0, .int .u16 0, .int .u16 0, .slice none 0 0] := stable_and (stable_below _ _ (Nat.le_refl _)) (stable_and (stable_blk _ _ _) (stable_blk _ _ _))
  refine wp_region_v _ 8 hst ⟨hB.drew, G_4, G_11⟩ ?_
  clear hB G_4 G_11
  refine wpU_take (v := .agg #[.int .u64 (W64 k1), .int .i64 nd, .int .u64 (W64 k3), .int .u64 (W64 k4), .int .u64 (W64 k5)]) 0 hst (fun _ h => h) rfl (fun W hS K hK => calm_load rfl rfl (load_part hS.2.1 0 [.int .u64 (W64 k1), .int .i64 nd, .int .u64 (W64 k3), .int .u64 (W64 k4), .int .u64 (W64 k5)] rfl Try.underlying25 rfl (by kernel_rfl)) (hK.out _ (Below.refl _ _))) ?_; simp only [Act.put, List.setIfInBounds_toArray, List.set_cons_zero, List.set_cons_succ]
  refine wpU_take (v := ?_) 1 hst (fun _ h => h) rfl ?_ ?_; rotate_left; (intro W hS K hK; clear hS; go_simp; exact hK.out _ (Below.refl _ _)); simp only [Act.put, List.setIfInBounds_toArray, List.set_cons_zero, List.set_cons_succ]
  refine wpU_take (v := ?_) 2 hst (fun _ h => h) rfl ?_ ?_; rotate_left; (intro W hS K hK; clear hS; go_simp; exact hK.out _ (Below.refl _ _)); simp only [Act.put, List.setIfInBounds_toArray, List.set_cons_zero, List.set_cons_succ]
  refine wpU_take (v := ?_) 3 hst (fun _ h => h) rfl ?_ ?_; rotate_left; (intro W hS K hK; clear hS; go_simp; exact hK.out _ (Below.refl _ _)); simp only [Act.put, List.setIfInBounds_toArray, List.set_cons_zero, List.set_cons_succ]
  refine wpU_take (v := ?_) 4 hst (fun _ h => h) rfl ?_ ?_; rotate_left; (intro W hS K hK; clear hS; go_simp; exact hK.out _ (Below.refl _ _)); simp only [Act.put, List.setIfInBounds_toArray, List.set_cons_zero, List.set_cons_succ]
  refine wpU_take (v := ?_) 5 hst (fun _ h => h) rfl ?_ ?_; rotate_left; (intro W hS K hK; clear hS; go_simp; exact hK.out _ (Below.refl _ _)); simp only [Act.put, List.setIfInBounds_toArray, List.set_cons_zero, List.set_cons_succ]
  refine wpV_new 6 hst rfl ?_; intro W hS K hK
  go_simp
  refine (CH.out _ hS.1).mono ?_; rintro e w9 ⟨qh, qho, ch, rfl, RO, c6, c4, c1, d1, d4, hb⟩
  refine hK.out (fun W => RdB W (some ⟨qh, qho, none⟩) [o0, o1, o2, o3, o4, o5]) _ _ (stable_rdB _ _) hb (RO) (fun hst => ?_)
  clear hK K hb RO hS
  try simp only [Act.put, List.setIfInBounds_toArray, List.set_cons_zero, List.set_cons_succ]
  refine wpU_take (v := ?_) 7 hst (fun _ h => h) rfl ?_ ?_; rotate_left; (intro W hS K hK; clear hS; go_simp; exact hK.out _ (Below.refl _ _)); simp only [Act.put, List.setIfInBounds_toArray, List.set_cons_zero, List.set_cons_succ]
  refine wpU_done (fun w_17 hS => ?_)
  obtain ⟨⟨hB, G_4, G_11⟩, RO⟩ := hS
  clear hst
  go_wp2_with (first | (with_reducible refine stop_store ?_) | (with_reducible refine stop_box ?_) | (with_reducible refine stop_alloc ?_) | (with_reducible refine stop_bslice ?_) | (with_reducible refine stop_append ?_))
  have hst : Stable fun W => Below w.heap.size w W ∧ Blk W g_1 25 #[.int .u64 (W64 k1), .int .i64 nd, .int .u64 (W64 k3), .int .u64 (W64 k4), .int .u64 (W64 k5)] ∧ Blk W g_8 44 #[.int .u32 0, .int .i64 0, .bool false, .int .i64 0, .int .u32 0, .int .u16 0, .int .u16 0, .slice none 0 0] ∧ RdB W (some ⟨qh, qho, none⟩) [o0, o1, o2, o3, o4, o5] := stable_and (stable_below _ _ (Nat.le_refl _)) (stable_and (stable_blk _ _ _) (stable_and (stable_blk _ _ _) (stable_rdB _ _)))
  refine wp_region_v _ 23 hst ⟨hB.drew, G_4, G_11, RO⟩ ?_
  clear hB G_4 G_11 RO
  refine wpU_take (v := ?_) 0 hst (fun _ h => h) rfl ?_ ?_; rotate_left; (intro W hS K hK; clear hS; go_simp; exact hK.out _ (Below.refl _ _)); simp only [Act.put, List.setIfInBounds_toArray, List.set_cons_zero, List.set_cons_succ]
  refine wpU_take (v := ?_) 1 hst (fun _ h => h) rfl ?_ ?_; rotate_left; (intro W hS K hK; clear hS; go_simp; exact hK.out _ (Below.refl _ _)); simp only [Act.put, List.setIfInBounds_toArray, List.set_cons_zero, List.set_cons_succ]
  refine wpU_take (v := ?_) 2 hst (fun _ h => h) rfl ?_ ?_; rotate_left; (intro W hS K hK; have ld : W.cell? ⟨g_1, 1, none⟩ = some (.int .i64 nd) := hS.2.1.cell 1; clear hS; go_simp; exact hK.out _ (Below.refl _ _)); simp only [Act.put, List.setIfInBounds_toArray, List.set_cons_zero, List.set_cons_succ]
  refine wpU_take (v := ?_) 3 hst (fun _ h => h) rfl ?_ ?_; rotate_left; (intro W hS K hK; clear hS; go_simp; exact hK.out _ (Below.refl _ _)); simp only [Act.put, List.setIfInBounds_toArray, List.set_cons_zero, List.set_cons_succ]
  refine wpU_take (v := ?_) 4 hst (fun _ h => h) rfl ?_ ?_; rotate_left; (intro W hS K hK; clear hS; go_simp; exact hK.out _ (Below.refl _ _)); simp only [Act.put, List.setIfInBounds_toArray, List.set_cons_zero, List.set_cons_succ]
  refine wpU_take (v := ?_) 5 hst (fun _ h => h) rfl ?_ ?_; rotate_left; (intro W hS K hK; have ld : W.cell? ⟨qh, qho, none⟩ = some (.int .u8 (W8 o0)) := (rg_at hS.2.2.2 0 1 [.int .u8 (W8 o0)] rfl (Nat.succ_pos _)).2 0 _ rfl; clear hS; go_simp; exact hK.out _ (Below.refl _ _)); simp only [Act.put, List.setIfInBounds_toArray, List.set_cons_zero, List.set_cons_succ]
  refine wpU_take (v := ?_) 6 hst (fun _ h => h) rfl ?_ ?_; rotate_left; (intro W hS K hK; clear hS; go_simp; exact hK.out _ (Below.refl _ _)); simp only [Act.put, List.setIfInBounds_toArray, List.set_cons_zero, List.set_cons_succ]
  refine wpU_take (v := ?_) 7 hst (fun _ h => h) rfl ?_ ?_; rotate_left; (intro W hS K hK; clear hS; go_simp; exact hK.out _ (Below.refl _ _)); simp only [Act.put, List.setIfInBounds_toArray, List.set_cons_zero, List.set_cons_succ]
  refine wpU_take (v := ?_) 8 hst (fun _ h => h) rfl ?_ ?_; rotate_left; (intro W hS K hK; clear hS; go_simp; exact hK.out _ (Below.refl _ _)); simp only [Act.put, List.setIfInBounds_toArray, List.set_cons_zero, List.set_cons_succ]
  refine wpU_take (v := ?_) 9 hst (fun _ h => h) rfl ?_ ?_; rotate_left; (intro W hS K hK; have ld : W.cell? ⟨qh, qho, none⟩ = some (.int .u8 (W8 o0)) := (rg_at hS.2.2.2 0 1 [.int .u8 (W8 o0)] rfl (Nat.succ_pos _)).2 0 _ rfl; clear hS; go_simp; exact hK.out _ (Below.refl _ _)); simp only [Act.put, List.setIfInBounds_toArray, List.set_cons_zero, List.set_cons_succ]
  refine wpU_take (v := ?_) 10 hst (fun _ h => h) rfl ?_ ?_; rotate_left; (intro W hS K hK; clear hS; go_simp; exact hK.out _ (Below.refl _ _)); simp only [Act.put, List.setIfInBounds_toArray, List.set_cons_zero, List.set_cons_succ]
  refine wpU_take (v := ?_) 11 hst (fun _ h => h) rfl ?_ ?_; rotate_left; (intro W hS K hK; clear hS; go_simp; exact hK.out _ (Below.refl _ _)); simp only [Act.put, List.setIfInBounds_toArray, List.set_cons_zero, List.set_cons_succ]
  refine wpU_take (v := ?_) 12 hst (fun _ h => h) rfl ?_ ?_; rotate_left; (intro W hS K hK; clear hS; go_simp; exact hK.out _ (Below.refl _ _)); simp only [Act.put, List.setIfInBounds_toArray, List.set_cons_zero, List.set_cons_succ]
  refine wpU_take (v := ?_) 13 hst (fun _ h => h) rfl ?_ ?_; rotate_left; (intro W hS K hK; clear hS; go_simp; exact hK.out _ (Below.refl _ _)); simp only [Act.put, List.setIfInBounds_toArray, List.set_cons_zero, List.set_cons_succ]
  refine wpU_take (v := ?_) 16 hst (fun _ h => h) rfl ?_ ?_; rotate_left; (intro W hS K hK; clear hS; go_simp; exact hK.out _ (Below.refl _ _)); simp only [Act.put, List.setIfInBounds_toArray, List.set_cons_zero, List.set_cons_succ]
  refine wpU_take (v := ?_) 17 hst (fun _ h => h) rfl ?_ ?_; rotate_left; (intro W hS K hK; clear hS; go_simp; exact hK.out _ (Below.refl _ _)); simp only [Act.put, List.setIfInBounds_toArray, List.set_cons_zero, List.set_cons_succ]
  refine wpU_take (v := .int .u64 (W64 v1)) 14 hst (fun _ h => h) rfl ?_ ?_; (intro W hS K hK; go_simp; refine (CV1.out _ _ _ _ hS.2.2.2).mono ?_; rintro e w9 ⟨rfl, rfl⟩; refine CallPost.mk ?_; exact hK.out _ (Below.refl _ _)); simp only [Act.put, List.setIfInBounds_toArray, List.set_cons_zero, List.set_cons_succ]
  refine wpU_take (v := ?_) 15 hst (fun _ h => h) rfl ?_ ?_; rotate_left; (intro W hS K hK; clear hS; go_simp; exact hK.out _ (Below.refl _ _)); simp only [Act.put, List.setIfInBounds_toArray, List.set_cons_zero, List.set_cons_succ]
  refine wpU_take (v := .int .u64 (W64 v2)) 18 hst (fun _ h => h) rfl ?_ ?_; (intro W hS K hK; go_simp; refine (CV2.out _ _ _ _ hS.2.2.2).mono ?_; rintro e w9 ⟨rfl, rfl⟩; refine CallPost.mk ?_; exact hK.out _ (Below.refl _ _)); simp only [Act.put, List.setIfInBounds_toArray, List.set_cons_zero, List.set_cons_succ]
  refine wpU_take (v := ?_) 19 hst (fun _ h => h) rfl ?_ ?_; rotate_left; (intro W hS K hK; clear hS; go_simp; exact hK.out _ (Below.refl _ _)); simp only [Act.put, List.setIfInBounds_toArray, List.set_cons_zero, List.set_cons_succ]
  refine wpU_take (v := ?_) 20 hst (fun _ h => h) rfl ?_ ?_; rotate_left; (intro W hS K hK; clear hS; go_simp; exact hK.out _ (Below.refl _ _)); simp only [Act.put, List.setIfInBounds_toArray, List.set_cons_zero, List.set_cons_succ]
  refine wpV_new 21 hst rfl ?_; intro W hS K hK
  have l8_21_g_1 : g_1 < W.heap.size := hS.2.1.lt
  have l8_21_g_8 : g_8 < W.heap.size := hS.2.2.1.lt
  have n8_21a : w.heap.size ≤ W.heap.size := hS.1.size
  clear hS
  go_simp
  refine hK.out (fun W' => Room W.heap.size 44 8 W') _ _ (stable_room _ _ _) ((Below.refl _ _).alloc (Nat.le_refl _) _) (⟨_, rfl, rfl, Blk.new _ _ _⟩) (fun hst => ?_)
  clear hK K
  try simp only [Act.put, List.setIfInBounds_toArray, List.set_cons_zero, List.set_cons_succ]
  generalize W.heap.size = g8_21 at hst l8_21_g_1 l8_21_g_8 n8_21a ⊢
  clear W
  refine wpV_st 22 hst (fun _ h => h) #[.int .u32 (W32 iv), .int .i64 nd, .bool fc, .int .i64 (W8 (o0 &&& 127#8)), .int .u32 (W32 (BitVec.setWidth 32 v1)), .int .u16 (W16 (BitVec.setWidth 16 v2)), .int .u16 0, .slice none 0 0] rfl rfl rfl rfl (fun W hS => hS.2) (fun W W' h hU hG => ?_) (by kernel_rfl) rfl (fun hst => ?_)
  · obtain ⟨⟨h0_0, h0_1, h0_2, h0_3⟩, ⟨ch1_0, ah1_0, bh1_0, h1_0⟩⟩ := h
    exact ⟨⟨hU.below h0_0 (by omega), hU.blk h0_1 (by omega), hU.blk h0_2 (by omega), RdB.upd h0_3 h1_0 hU bh1_0⟩, ⟨_, rfl, rfl, hG⟩⟩
  refine wpU_done (fun w_18 hS => ?_)
  obtain ⟨⟨⟨hB, G_4, G_11, RO⟩, -⟩, G8_21s⟩ := hS
  clear hst
  go_wp2_with (first | (with_reducible refine stop_store ?_) | (with_reducible refine stop_box ?_) | (with_reducible refine stop_alloc ?_) | (with_reducible refine stop_bslice ?_) | (with_reducible refine stop_append ?_))
  have hst : Stable fun W => Below w.heap.size w W ∧ Blk W g_1 25 #[.int .u64 (W64 k1), .int .i64 nd, .int .u64 (W64 k3), .int .u64 (W64 k4), .int .u64 (W64 k5)] ∧ Blk W g_8 44 #[.int .u32 0, .int .i64 0, .bool false, .int .i64 0, .int .u32 0, .int .u16 0, .int .u16 0, .slice none 0 0] ∧ Blk W g8_21 44 #[.int .u32 (W32 iv), .int .i64 nd, .bool fc, .int .i64 (W8 (o0 &&& 127#8)), .int .u32 (W32 (BitVec.setWidth 32 v1)), .int .u16 (W16 (BitVec.setWidth 16 v2)), .int .u16 0, .slice none 0 0] ∧ RdB W (some ⟨qh, qho, none⟩) [o0, o1, o2, o3, o4, o5] := stable_and (stable_below _ _ (Nat.le_refl _)) (stable_and (stable_blk _ _ _) (stable_and (stable_blk _ _ _) (stable_and (stable_blk _ _ _) (stable_rdB _ _))))
  refine wp_region_v _ 18 hst ⟨hB.drew, G_4, G_11, G8_21s, RO⟩ ?_
  clear hB G_4 G_11 G8_21s RO
  refine wpU_take (v := ?_) 0 hst (fun _ h => h) rfl ?_ ?_; rotate_left; (intro W hS K hK; clear hS; go_simp; exact hK.out _ (Below.refl _ _)); simp only [Act.put, List.setIfInBounds_toArray, List.set_cons_zero, List.set_cons_succ]
  refine wpU_take (v := ?_) 1 hst (fun _ h => h) rfl ?_ ?_; rotate_left; (intro W hS K hK; have ld : W.cell? ⟨g_1, 2, none⟩ = some (.int .u64 (W64 k3)) := hS.2.1.cell 2; clear hS; go_simp; exact hK.out _ (Below.refl _ _)); simp only [Act.put, List.setIfInBounds_toArray, List.set_cons_zero, List.set_cons_succ]
  refine wpU_take (v := ?_) 2 hst (fun _ h => h) rfl ?_ ?_; rotate_left; (intro W hS K hK; clear hS; go_simp; exact hK.out _ (Below.refl _ _)); simp only [Act.put, List.setIfInBounds_toArray, List.set_cons_zero, List.set_cons_succ]
  refine wpU_take (v := ?_) 3 hst (fun _ h => h) rfl ?_ ?_; rotate_left; (intro W hS K hK; have ld : W.cell? ⟨g8_21, 5, none⟩ = some (.int .u16 (W16 (BitVec.setWidth 16 v2))) := hS.2.2.2.1.cell 5; clear hS; go_simp; exact hK.out _ (Below.refl _ _)); simp only [Act.put, List.setIfInBounds_toArray, List.set_cons_zero, List.set_cons_succ]
  refine wpU_take (v := ?_) 4 hst (fun _ h => h) rfl ?_ ?_; rotate_left; (intro W hS K hK; clear hS; go_simp; exact hK.out _ (Below.refl _ _)); simp only [Act.put, List.setIfInBounds_toArray, List.set_cons_zero, List.set_cons_succ]
  refine wpU_take (v := ?_) 5 hst (fun _ h => h) rfl ?_ ?_; rotate_left; (intro W hS K hK; have ld : W.cell? ⟨g8_21, 4, none⟩ = some (.int .u32 (W32 (BitVec.setWidth 32 v1))) := hS.2.2.2.1.cell 4; clear hS; go_simp; exact hK.out _ (Below.refl _ _)); simp only [Act.put, List.setIfInBounds_toArray, List.set_cons_zero, List.set_cons_succ]
  refine wpU_take (v := ?_) 6 hst (fun _ h => h) rfl ?_ ?_; rotate_left; (intro W hS K hK; clear hS; go_simp; exact hK.out _ (Below.refl _ _)); simp only [Act.put, List.setIfInBounds_toArray, List.set_cons_zero, List.set_cons_succ]
  refine wpU_take (v := ?_) 8 hst (fun _ h => h) rfl ?_ ?_; rotate_left; (intro W hS K hK; clear hS; go_simp; exact hK.out _ (Below.refl _ _)); simp only [Act.put, List.setIfInBounds_toArray, List.set_cons_zero, List.set_cons_succ]
  refine wpU_take (v := ?_) 9 hst (fun _ h => h) rfl ?_ ?_; rotate_left; (intro W hS K hK; clear hS; go_simp; exact hK.out _ (Below.refl _ _)); simp only [Act.put, List.setIfInBounds_toArray, List.set_cons_zero, List.set_cons_succ]
  refine wpU_take (v := ?_) 10 hst (fun _ h => h) rfl ?_ ?_; rotate_left; (intro W hS K hK; clear hS; go_simp; exact hK.out _ (Below.refl _ _)); simp only [Act.put, List.setIfInBounds_toArray, List.set_cons_zero, List.set_cons_succ]
  refine wpU_take (v := ?_) 11 hst (fun _ h => h) rfl ?_ ?_; rotate_left; (intro W hS K hK; clear hS; go_simp; exact hK.out _ (Below.refl _ _)); simp only [Act.put, List.setIfInBounds_toArray, List.set_cons_zero, List.set_cons_succ]
  refine wpU_take (v := .int .u64 (W64 non)) 7 hst (fun _ h => h) rfl ?_ ?_; (intro W hS K hK; clear hS; go_simp; refine (CN.out _).mono ?_; rintro e w9 ⟨rfl, hb⟩; refine CallPost.mk ?_; exact hK.out _ (hb)); simp only [Act.put, List.setIfInBounds_toArray, List.set_cons_zero, List.set_cons_succ]
  refine wpV_new 12 hst rfl ?_; intro W hS K hK
  go_simp
  refine (CO.out _ _ _ _ hS.2.2.2.2 hS.1).mono ?_; rintro e w9 ⟨q, qo, cp, rfl, RP, RS, c2, d2, hb⟩
  refine hK.out (fun W => RdB W (some ⟨q, qo, none⟩) (p0 :: p1 :: ps) ∧ RdB W (some ⟨q, qo + 2, none⟩) ps) _ _ (stable_and (stable_rdB _ _) (stable_rdB _ _)) hb (⟨RP, RS⟩) (fun hst => ?_)
  clear hK K hb RP RS hS
  try simp only [Act.put, List.setIfInBounds_toArray, List.set_cons_zero, List.set_cons_succ]
  refine wpU_take (v := ?_) 13 hst (fun _ h => h) rfl ?_ ?_; rotate_left; (intro W hS K hK; clear hS; go_simp; exact hK.out _ (Below.refl _ _)); simp only [Act.put, List.setIfInBounds_toArray, List.set_cons_zero, List.set_cons_succ]
  refine wpU_take (v := ?_) 14 hst (fun _ h => h) rfl ?_ ?_; rotate_left; (intro W hS K hK; clear hS; go_simp; exact hK.out _ (Below.refl _ _)); simp only [Act.put, List.setIfInBounds_toArray, List.set_cons_zero, List.set_cons_succ]
  refine wpU_take (v := ?_) 15 hst (fun _ h => h) rfl ?_ ?_; rotate_left; (intro W hS K hK; clear hS; go_simp; exact hK.out _ (Below.refl _ _)); simp only [Act.put, List.setIfInBounds_toArray, List.set_cons_zero, List.set_cons_succ]
  refine wpU_take (v := ?_) 16 hst (fun _ h => h) rfl ?_ ?_; rotate_left; (intro W hS K hK; clear hS; go_simp; exact hK.out _ (Below.refl _ _)); simp only [Act.put, List.setIfInBounds_toArray, List.set_cons_zero, List.set_cons_succ]
  refine wpU_take (v := ?_) 17 hst (fun _ h => h) rfl ?_ ?_; rotate_left; (intro W hS K hK; clear hS; go_simp; exact hK.out _ (Below.refl _ _)); simp only [Act.put, List.setIfInBounds_toArray, List.set_cons_zero, List.set_cons_succ]
  refine wpU_done (fun w_19 hS => ?_)
  obtain ⟨⟨hB, G_4, G_11, G8_21s, RO⟩, ⟨RP, RS⟩⟩ := hS
  clear hst
  go_wp2_with (first | (with_reducible refine stop_store ?_) | (with_reducible refine stop_box ?_) | (with_reducible refine stop_alloc ?_) | (with_reducible refine stop_bslice ?_) | (with_reducible refine stop_append ?_))
  refine (CV3.out _ _ _ _ RP).mono ?_; rintro e w_20 ⟨rfl, rfl⟩
  go_wp2_with (first | (with_reducible refine stop_store ?_) | (with_reducible refine stop_box ?_) | (with_reducible refine stop_alloc ?_) | (with_reducible refine stop_bslice ?_) | (with_reducible refine stop_append ?_))
  unfold Kept
  refine wpList_st1 6 (.int .u16 (W16 (BitVec.setWidth 16 v3))) #[.int .u32 (W32 iv), .int .i64 nd, .bool fc, .int .i64 (W8 (o0 &&& 127#8)), .int .u32 (W32 (BitVec.setWidth 32 v1)), .int .u16 (W16 (BitVec.setWidth 16 v2)), .int .u16 (W16 (BitVec.setWidth 16 v3)), .slice none 0 0] G8_21s rfl rfl rfl (by kernel_rfl) rfl (of_decide_eq_true rfl) rfl ?_
  intro w_22 G_24 hU_23
  replace G_4 := hU_23.blk G_4 (by omega)
  replace G_11 := hU_23.blk G_11 (by omega)
  replace RO := RdB.upd RO G8_21s hU_23 (by rfl)
  replace RP := RdB.upd RP G8_21s hU_23 (by rfl)
  replace RS := RdB.upd RS G8_21s hU_23 (by rfl)
  replace hB := hU_23.below hB (by omega)
  clear G8_21s hU_23
  go_wp2_with (first | (with_reducible refine stop_store ?_) | (with_reducible refine stop_box ?_) | (with_reducible refine stop_alloc ?_) | (with_reducible refine stop_bslice ?_) | (with_reducible refine stop_append ?_))
  unfold Kept
  refine go_mem (ty := 5) (cs := #[]) (fun g => .slice (some ⟨g, 0, none⟩) 0 0) rfl (by kernel_rfl) ?_
  intro g_25 w_26 z_30 l_29 hb_27 G_28
  have n_31 : g8_21 < g_25 := Nat.lt_of_lt_of_le G_24.lt l_29
  have n_32 : w.heap.size ≤ g_25 := Nat.le_trans hB.size l_29
  replace G_4 := G_4.to hb_27 G_4.lt
  replace G_11 := G_11.to hb_27 G_11.lt
  replace G_24 := G_24.to hb_27 G_24.lt
  replace RO := Rd.to RO hb_27
  replace RP := Rd.to RP hb_27
  replace RS := Rd.to RS hb_27
  replace hB := hB.trans (hb_27.mono hB.size)
  clear hb_27 l_29 z_30
  go_wp2_with (first | (with_reducible refine stop_store ?_) | (with_reducible refine stop_box ?_) | (with_reducible refine stop_alloc ?_) | (with_reducible refine stop_bslice ?_) | (with_reducible refine stop_append ?_))
  unfold Kept
  refine wpList_append_rd _ rfl _ _ 36 rfl w.heap.size 5 i0 _ 1 1 Try.underlying36 hi0 hz0 hz1 hz2 rfl (by omega) (.slice (some ⟨g_25, 0, none⟩) 0 0) 0 (bcells []) rfl (own_of_blk (l := []) G_28 (by omega) (by simp [maxLen])) (some ⟨q, qo + 2, none⟩) (np - 2) (cp - 2) (bcells ps) rfl (RS) (by rw [bcells_length, HPS.out, Nat.mul_one]) ((bcells_one _)) (by simp only [maxLen]; omega) (by omega) hB.size ?_
  intro A_33 c_34 w_35 ho_36 hb_37 hg_38
  replace ho_36 : w_35.ownsRow w.heap.size 5 1 (.slice A_33 (np - 2) c_34) (np - 2) ((bcells ps)) := by skip; rw [Nat.zero_add] at ho_36; exact ho_36
  replace G_4 := Blk.own G_4 (own_of_blk (l := []) G_28 (by omega) (by simp [maxLen])) (by decide) hg_38
  replace G_11 := Blk.own G_11 (own_of_blk (l := []) G_28 (by omega) (by simp [maxLen])) (by decide) hg_38
  replace G_24 := Blk.own G_24 (own_of_blk (l := []) G_28 (by omega) (by simp [maxLen])) (by decide) hg_38
  clear RO
  clear RP
  clear RS
  replace hB := hB.trans hb_37
  clear G_28
  clear hg_38 hb_37
  go_wp2_with (first | (with_reducible refine stop_store ?_) | (with_reducible refine stop_box ?_) | (with_reducible refine stop_alloc ?_) | (with_reducible refine stop_bslice ?_) | (with_reducible refine stop_append ?_))
  unfold Kept
  refine wpList_st1 7 (.slice A_33 (np - 2) c_34) #[.int .u32 (W32 iv), .int .i64 nd, .bool fc, .int .i64 (W8 (o0 &&& 127#8)), .int .u32 (W32 (BitVec.setWidth 32 v1)), .int .u16 (W16 (BitVec.setWidth 16 v2)), .int .u16 (W16 (BitVec.setWidth 16 v3)), .slice A_33 (np - 2) c_34] G_24 rfl rfl rfl (by kernel_rfl) rfl (of_decide_eq_true rfl) rfl ?_
  intro w_39 G_41 hU_40
  replace G_4 := hU_40.blk G_4 (by omega)
  replace G_11 := hU_40.blk G_11 (by omega)
  replace ho_36 := own_upd ho_36 G_24 hU_40 (by decide)
  replace hB := hU_40.below hB (by omega)
  clear G_24 hU_40
  go_wp2_with (first | (with_reducible refine stop_store ?_) | (with_reducible refine stop_box ?_) | (with_reducible refine stop_alloc ?_) | (with_reducible refine stop_bslice ?_) | (with_reducible refine stop_append ?_) | ((with_reducible refine wpList_ld 0 [.int .u32 (W32 iv), .int .i64 nd, .bool fc, .int .i64 (W8 (o0 &&& 127#8)), .int .u32 (W32 (BitVec.setWidth 32 v1)), .int .u16 (W16 (BitVec.setWidth 16 v2)), .int .u16 (W16 (BitVec.setWidth 16 v3)), .slice A_33 (np - 2) c_34] G_41 ?_ ?_ Try.underlying44 ?_ ?_ ?_); rfl; rfl; rfl; kernel_rfl))
  refine (CK.out _ _ _).mono ?_; rintro e w_43 ⟨rfl, hb_44⟩
  replace G_4 := G_4.to hb_44 G_4.lt
  replace G_11 := G_11.to hb_44 G_11.lt
  replace G_41 := G_41.to hb_44 G_41.lt
  replace ho_36 := own_to ho_36 hb_44
  replace hB := hB.trans (hb_44.mono hB.size)
  clear hb_44
  go_wp2_with (first | (with_reducible refine stop_store ?_) | (with_reducible refine stop_box ?_) | (with_reducible refine stop_alloc ?_) | (with_reducible refine stop_bslice ?_) | (with_reducible refine stop_append ?_))
  unfold Kept
  refine wpList_st 0 #[.int .u32 0, .int .i64 0, .bool false, .int .i64 0, .int .u32 0, .int .u16 0, .int .u16 0, .slice none 0 0] #[.int .u32 0, .int .i64 0, .bool false, .int .i64 0, .int .u32 0, .int .u16 0, .int .u16 0, .slice none 0 0] G_11 rfl rfl (by kernel_rfl) rfl (of_decide_eq_true rfl) rfl ?_
  intro w_45 G_47 hU_46
  replace G_4 := hU_46.blk G_4 (by omega)
  replace G_41 := hU_46.blk G_41 (by omega)
  replace ho_36 := own_upd ho_36 G_11 hU_46 (by decide)
  replace hB := hU_46.below hB (by omega)
  clear G_11 hU_46
  go_wp2_with (first | (with_reducible refine stop_store ?_) | (with_reducible refine stop_box ?_) | (with_reducible refine stop_alloc ?_) | (with_reducible refine stop_bslice ?_) | (with_reducible refine stop_append ?_))
  refine bodyPost_ret (results_ct rfl rfl (load_blk G_47 Try.underlying44 rfl (by kernel_rfl))) rfl ?_
  exact ⟨none, 0, rfl, bcell_nil _, Nat.le_refl _, hB⟩
set_option maxHeartbeats 8000000 in
theorem r48_Decode_o (k1 : BitVec 64) (k3 k4 k5 : BitVec 64) (nd : Int) (iv : BitVec 32) (pb po n d : Nat) (b0 x0 x1 x2 x3 x4 x5 : BitVec 8) (sd : List (BitVec 8)) (o0 o1 o2 o3 o4 o5 : BitVec 8) (fc : Bool) (non : BitVec 64) (v1 v2 : BitVec 64) (p0 p1 : BitVec 8) (ps : List (BitVec 8)) (np : Nat) (v3 : BitVec 64) (w : World) (RB0 : Rg pb po [.int .u8 (W8 b0)] w) (RX0 : Rg pb (po + 1) [.int .u8 (W8 x0), .int .u8 (W8 x1), .int .u8 (W8 x2), .int .u8 (W8 x3), .int .u8 (W8 x4), .int .u8 (W8 x5)] w) (hs0 : RdB w (some ⟨pb, po + 7, none⟩) sd) (hr0 : RdB w (some ⟨pb, po + 1, none⟩) [x0, x1, x2, x3, x4, x5]) (hn : sd.length + 7 = n) (hd : n ≤ d) (h14 : 14 ≤ n) (h29 : n ≤ 29) (hnd : W8 (b0 &&& 127#8) = nd) (hbi : W8 (b0 >>> 7) = W32 (iv &&& 1#32)) (hop : xorB [x0, x1, x2, x3, x4, x5] (maskL ⟨k1, nd, k3, k4, k5⟩ iv sd) = [o0, o1, o2, o3, o4, o5]) (hfc : (o0 &&& 128#8 != 0#8) = fc) (hnon : nonceK 0 (BitVec.setWidth 16 v2) (BitVec.setWidth 32 v1) iv = non) (hv1 : leVal [o1, o2, o3] = v1) (hv2 : leVal [o4, o5] = v2) (hres : openB k3 non [o0] sd = (p0 :: p1 :: ps, 0)) (hnp : (p0 :: p1 :: ps).length = np) (h3 : 3 ≤ np) (hv3 : leVal [p0, p1] = v3) (hck : checkN ⟨iv, nd, fc, W8 (o0 &&& 127#8), BitVec.setWidth 32 v1, BitVec.setWidth 16 v2, BitVec.setWidth 16 v3, ps⟩ = 0) :
    Calls Try.prog 35 #[.agg #[.int .u64 (W64 k1), .int .i64 nd, .int .u64 (W64 k3), .int .u64 (W64 k4), .int .u64 (W64 k5)], .int .u32 (W32 iv), .slice (some ⟨pb, po, none⟩) n d] w (RetN w (⟨iv, nd, fc, W8 (o0 &&& 127#8), BitVec.setWidth 32 v1, BitVec.setWidth 16 v2, BitVec.setWidth 16 v3, ps⟩, 0)) := by
  have g0 : 0 < n := by omega
  have RB := Lib.hid (fun W (hB : Below w.heap.size w W) => (Rg.to RB0 hB).2)
  have RX := Lib.hid (fun W (hB : Below w.heap.size w W) => (Rg.to RX0 hB).2)
  have i0 : decide ((n : Int) < 14) = false := by simp; omega
  have i1 : decide ((29 : Int) < (n : Int)) = false := by simp; omega
  obtain ⟨n7, hn7⟩ : ∃ x, n - 7 = x := ⟨_, rfl⟩
  have hsn : sd.length = n - 7 := by omega
  have CN := Lib.hid (fun W => show Calls Try.prog 18 #[.int .i64 0, .int .u16 (W16 (BitVec.setWidth 16 v2)), .int .u32 (W32 (BitVec.setWidth 32 v1)), .int .u32 (W32 iv)] W fun e w' => e = .returned (.int .u64 (W64 non)) ∧ Below W.heap.size W w' from by have := ref47_Nonce 0 (BitVec.setWidth 16 v2) (BitVec.setWidth 32 v1) iv W; rw [hnon] at this; exact this)
  have CH := Lib.hid (fun W (hB : Below w.heap.size w W) => show Calls Try.prog 56 #[.agg #[.int .u64 (W64 k1), .int .i64 nd, .int .u64 (W64 k3), .int .u64 (W64 k4), .int .u64 (W64 k5)], .int .u32 (W32 iv), .slice (some ⟨pb, po + 1, none⟩) 6 (d - 1), .slice (some ⟨pb, po + 7, none⟩) (n - 7) (d - 7)] W fun e w' => ∃ qh qho ch, e = .returned (.slice (some ⟨qh, qho, none⟩) 6 ch) ∧ RdB w' (some ⟨qh, qho, none⟩) [o0, o1, o2, o3, o4, o5] ∧ (6 : Int) ≤ (ch : Int) ∧ (4 : Int) ≤ (ch : Int) ∧ (1 : Int) ≤ (ch : Int) ∧ ¬ ch = 1 ∧ ¬ ch = 4 ∧ Below W.heap.size W w' from by
    have := r48_hide_f k1 nd k3 k4 k5 iv (some ⟨pb, po + 1, none⟩) (d - 1) [x0, x1, x2, x3, x4, x5] (some ⟨pb, po + 7, none⟩) (n - 7) (d - 7) sd W (Rd.to hr0 hB) rfl (Rd.to hs0 hB) hsn (by omega) (by omega) (by omega)
    rw [hop] at this
    refine this.mono ?_
    rintro e w' ⟨A, c, rfl, ho, hb⟩
    have hc : 6 ≤ c := (own_cap ho).1
    have hr : RdB w' A [o0, o1, o2, o3, o4, o5] := Rd.of_own ho
    obtain ⟨q, qo, rfl, _, _⟩ := Rd.open_ hr (by rw [bcells_length]; exact Nat.succ_pos _)
    exact ⟨q, qo, c, rfl, hr, by omega, by omega, by omega, by omega, by omega, hb⟩)
  have CV1 := Lib.hid (fun W q qo c (h : RdB W (some ⟨q, qo, none⟩) [o0, o1, o2, o3, o4, o5]) => show Calls Try.prog 57 #[.slice (some ⟨q, qo + 1, none⟩) 3 (c - 1)] W fun e w' => e = .returned (.int .u64 (W64 v1)) ∧ W = w' from by
    obtain ⟨_, _, hA1, hlt, _⟩ := Rd.open_ h (by rw [bcells_length]; exact Nat.succ_pos _)
    cases hA1
    have := ref2_Value (some ⟨q, qo + 1, none⟩) (c - 1) [o1, o2, o3] W ((rd_cut h hlt 1).take 3) (by simp)
    rw [hv1] at this
    exact this)
  have CV2 := Lib.hid (fun W q qo c (h : RdB W (some ⟨q, qo, none⟩) [o0, o1, o2, o3, o4, o5]) => show Calls Try.prog 57 #[.slice (some ⟨q, qo + 4, none⟩) 2 (c - 4)] W fun e w' => e = .returned (.int .u64 (W64 v2)) ∧ W = w' from by
    obtain ⟨_, _, hA1, hlt, _⟩ := Rd.open_ h (by rw [bcells_length]; exact Nat.succ_pos _)
    cases hA1
    have := ref2_Value (some ⟨q, qo + 4, none⟩) (c - 4) [o4, o5] W (rd_cut h hlt 4) (by simp)
    rw [hv2] at this
    exact this)
  have ef : decide ((127 : Int) < W8 o0) = fc := by have h : decide (W8 127#8 < W8 o0) = fc := (by rw [← hfc, ← (low7 o0).2.2]; simp only [W8_lt]); exact h
  have e2 : W8 (b0 % 128#8) = nd := by rw [(low7 b0).2.1]; exact hnd
  have e5 : ((W32 (BitVec.setWidth 32 (b0 / 128#8)) : Int) != W32 (iv % 2#32)) = false := by rw [(low7 b0).1, W32_bne]; simp only [bne_eq_false_iff_eq]; rw [mod2]; apply W32_inj; rw [← hbi]; exact w8_32 _
  have e6 : o0 % 128#8 = o0 &&& 127#8 := (low7 o0).2.1
  clear hop hv1 hv2
  have y3 : IntKind.i64.wrap (W8 (o0 &&& 127#8)) = W8 (o0 &&& 127#8) := IntWalk.i64_in _ (by have := W8_bd (o0 &&& 127#8); omega)
  have nb1 : 0 ≤ nd := by rw [← hnd]; exact (W8_bd _).1
  have nb2 : nd ≤ 255 := by rw [← hnd]; exact (W8_bd _).2
  have yw : IntKind.i64.wrap nd = nd := IntWalk.i64_in _ (by omega)
  have yv : IntKind.i64.wrap (W8 (b0 % 128#8)) = nd := by rw [e2, yw]
  have q7 : ¬ d = 7 := by omega
  have q1 : ¬ d = 1 := by omega
  have q8 : (7 : Int) ≤ (d : Int) := by omega
  have q9 : (7 : Int) ≤ (n : Int) := by omega
  have CO := Lib.hid (fun W g go gc (hh : RdB W (some ⟨g, go, none⟩) [o0, o1, o2, o3, o4, o5]) (hB : Below w.heap.size w W) => show Calls Try.prog 50 #[.int .u64 (W64 k3), .int .u64 (W64 non), .slice (some ⟨g, go, none⟩) 1 gc, .slice (some ⟨pb, po + 7, none⟩) (n - 7) (d - 7)] W fun e w' => ∃ q qo cp, e = .returned (.tuple #[.slice (some ⟨q, qo, none⟩) np cp, .int .i64 0]) ∧ RdB w' (some ⟨q, qo, none⟩) (p0 :: p1 :: ps) ∧ RdB w' (some ⟨q, qo + 2, none⟩) ps ∧ (2 : Int) ≤ (cp : Int) ∧ ¬ cp = 2 ∧ Below W.heap.size W w' from by
    have := ref6_Open k3 non (some ⟨g, go, none⟩) (some ⟨pb, po + 7, none⟩) gc (d - 7) [o0] sd W (RdB.take hh 1) (Rd.to hs0 hB) (by simp) (by omega) (by omega)
    rw [hsn, hres] at this
    refine this.mono ?_
    rintro e w' ⟨A, c, rfl, hr, hc, hb⟩
    dsimp only at hr hc
    rw [hnp] at hc
    obtain ⟨q, qo, rfl, hlt, _⟩ := Rd.open_ hr (by rw [bcells_length]; exact Nat.succ_pos _)
    exact ⟨q, qo, c, by dsimp only; rw [hnp], hr, rd_cut hr hlt 2, by omega, by omega, hb⟩)
  have CK := Lib.hid (fun W A c => show Calls Try.prog 27 #[.agg #[.int .u32 (W32 iv), .int .i64 nd, .bool fc, .int .i64 (W8 (o0 &&& 127#8)), .int .u32 (W32 (BitVec.setWidth 32 v1)), .int .u16 (W16 (BitVec.setWidth 16 v2)), .int .u16 (W16 (BitVec.setWidth 16 v3)), .slice A (np - 2) c]] W fun e w' => e = .returned (.int .i64 0) ∧ Below W.heap.size W w' from by
    have hq : ps.length = np - 2 := by simp at hnp; omega
    have hpl : (openB k3 non [o0] sd).1.length ≤ sd.length := openB_le _ _ _ _
    have hpl2 : (p0 :: p1 :: ps).length ≤ sd.length := by rw [hres] at hpl; exact hpl
    have := r48_Check ⟨iv, nd, fc, W8 (o0 &&& 127#8), BitVec.setWidth 32 v1, BitVec.setWidth 16 v2, BitVec.setWidth 16 v3, ps⟩ A c W (by dsimp only; omega)
    unfold npA at this
    dsimp only at this
    rw [hq, hck] at this
    exact this)
  have HPS := Lib.hid (show ps.length = np - 2 by simp at hnp; omega)
  have hnb : np ≤ 22 := by
    have hpl : (openB k3 non [o0] sd).1.length ≤ sd.length := openB_le _ _ _ _
    rw [hres] at hpl
    dsimp only at hpl
    omega
  have r2 : (2 : Int) ≤ (np : Int) := by omega
  have r0 : 0 < np := by omega
  have r1 : (1 : Int) < (np : Int) := by omega
  have CV3 := Lib.hid (fun W q qo c (h : RdB W (some ⟨q, qo, none⟩) (p0 :: p1 :: ps)) => show Calls Try.prog 57 #[.slice (some ⟨q, qo, none⟩) 2 c] W fun e w' => e = .returned (.int .u64 (W64 v3)) ∧ W = w' from by
    have := ref2_Value (some ⟨q, qo, none⟩) c [p0, p1] W (RdB.take h 2) (by simp)
    rw [hv3] at this
    exact this)
  clear hv3
  clear RB0 RX0 hnon hfc hbi hnd hn7
  clear hres hck
  obtain ⟨i0, hi0, hz0, hz1, hz2⟩ := info_parts info_u8
  go_enter Try.func35, Try.ntmps35
  have hB := Below.refl w.heap.size w
  go_wp2_with (first | (with_reducible refine stop_store ?_) | (with_reducible refine stop_box ?_) | (with_reducible refine stop_alloc ?_) | (with_reducible refine stop_bslice ?_) | (with_reducible refine stop_append ?_))
  unfold Kept
  refine go_mem (ty := 25) (cs := #[.int .u64 (W64 k1), .int .i64 nd, .int .u64 (W64 k3), .int .u64 (W64 k4), .int .u64 (W64 k5)]) (fun g => .pointer (some ⟨g, 0, none⟩)) rfl (by kernel_rfl) ?_
  intro g_1 w_2 z_6 l_5 hb_3 G_4
  have n_7 : w.heap.size ≤ g_1 := Nat.le_trans hB.size l_5
  replace hB := hB.trans (hb_3.mono hB.size)
  clear hb_3 l_5 z_6
  go_wp2_with (first | (with_reducible refine stop_store ?_) | (with_reducible refine stop_box ?_) | (with_reducible refine stop_alloc ?_) | (with_reducible refine stop_bslice ?_) | (with_reducible refine stop_append ?_))
  unfold Kept
  refine go_mem (ty := 44) (cs := #[.int .u32 0, .int .i64 0, .bool false, .int .i64 0, .int .u32 0, .int .u16 0, .int .u16 0, .slice none 0 0]) (fun g => .pointer (some ⟨g, 0, none⟩)) rfl (by kernel_rfl) ?_
  intro g_8 w_9 z_13 l_12 hb_10 G_11
  have n_14 : g_1 < g_8 := Nat.lt_of_lt_of_le G_4.lt l_12
  have n_15 : w.heap.size ≤ g_8 := Nat.le_trans hB.size l_12
  replace G_4 := G_4.to hb_10 G_4.lt
  replace hB := hB.trans (hb_10.mono hB.size)
  clear hb_10 l_12 z_13
  go_wp2_with (first | (with_reducible refine stop_store ?_) | (with_reducible refine stop_box ?_) | (with_reducible refine stop_alloc ?_) | (with_reducible refine stop_bslice ?_) | (with_reducible refine stop_append ?_))
  have hst : Stable fun W => Below w.heap.size w W ∧ Blk W g_1 25 #[.int .u64 (W64 k1), .int .i64 nd, .int .u64 (W64 k3), .int .u64 (W64 k4), .int .u64 (W64 k5)] ∧ Blk W g_8 44 #[.int .u32 0, .int .i64 0, .bool false, .int .i64 0, .int .u32 0, .int .u16 0, .int .u16 0, .slice none 0 0] := stable_and (stable_below _ _ (Nat.le_refl _)) (stable_and (stable_blk _ _ _) (stable_blk _ _ _))
  refine wp_region_v _ 18 hst ⟨hB.drew, G_4, G_11⟩ ?_
  clear hB G_4 G_11
  refine wpU_take (v := ?_) 0 hst (fun _ h => h) rfl ?_ ?_; rotate_left; (intro W hS K hK; clear hS; go_simp; exact hK.out _ (Below.refl _ _)); simp only [Act.put, List.setIfInBounds_toArray, List.set_cons_zero, List.set_cons_succ]
  refine wpU_take (v := ?_) 1 hst (fun _ h => h) rfl ?_ ?_; rotate_left; (intro W hS K hK; clear hS; go_simp; exact hK.out _ (Below.refl _ _)); simp only [Act.put, List.setIfInBounds_toArray, List.set_cons_zero, List.set_cons_succ]
  refine wpU_take (v := ?_) 2 hst (fun _ h => h) rfl ?_ ?_; rotate_left; (intro W hS K hK; have ld : W.cell? ⟨pb, po, none⟩ = some (.int .u8 (W8 b0)) := (RB.out _ hS.1) 0 _ rfl; clear hS; go_simp; exact hK.out _ (Below.refl _ _)); simp only [Act.put, List.setIfInBounds_toArray, List.set_cons_zero, List.set_cons_succ]
  refine wpU_take (v := ?_) 3 hst (fun _ h => h) rfl ?_ ?_; rotate_left; (intro W hS K hK; clear hS; go_simp; exact hK.out _ (Below.refl _ _)); simp only [Act.put, List.setIfInBounds_toArray, List.set_cons_zero, List.set_cons_succ]
  refine wpU_take (v := ?_) 4 hst (fun _ h => h) rfl ?_ ?_; rotate_left; (intro W hS K hK; clear hS; go_simp; exact hK.out _ (Below.refl _ _)); simp only [Act.put, List.setIfInBounds_toArray, List.set_cons_zero, List.set_cons_succ]
  refine wpU_take (v := ?_) 5 hst (fun _ h => h) rfl ?_ ?_; rotate_left; (intro W hS K hK; clear hS; go_simp; exact hK.out _ (Below.refl _ _)); simp only [Act.put, List.setIfInBounds_toArray, List.set_cons_zero, List.set_cons_succ]
  refine wpU_take (v := ?_) 6 hst (fun _ h => h) rfl ?_ ?_; rotate_left; (intro W hS K hK; have ld : W.cell? ⟨g_1, 1, none⟩ = some (.int .i64 nd) := hS.2.1.cell 1; clear hS; go_simp; exact hK.out _ (Below.refl _ _)); simp only [Act.put, List.setIfInBounds_toArray, List.set_cons_zero, List.set_cons_succ]
  refine wpU_take (v := ?_) 7 hst (fun _ h => h) rfl ?_ ?_; rotate_left; (intro W hS K hK; clear hS; go_simp; exact hK.out _ (Below.refl _ _)); simp only [Act.put, List.setIfInBounds_toArray, List.set_cons_zero, List.set_cons_succ]
  refine wpU_take (v := ?_) 8 hst (fun _ h => h) rfl ?_ ?_; rotate_left; (intro W hS K hK; clear hS; go_simp; exact hK.out _ (Below.refl _ _)); simp only [Act.put, List.setIfInBounds_toArray, List.set_cons_zero, List.set_cons_succ]
  refine wpU_take (v := ?_) 9 hst (fun _ h => h) rfl ?_ ?_; rotate_left; (intro W hS K hK; clear hS; go_simp; exact hK.out _ (Below.refl _ _)); simp only [Act.put, List.setIfInBounds_toArray, List.set_cons_zero, List.set_cons_succ]
  refine wpU_take (v := ?_) 10 hst (fun _ h => h) rfl ?_ ?_; rotate_left; (intro W hS K hK; clear hS; go_simp; exact hK.out _ (Below.refl _ _)); simp only [Act.put, List.setIfInBounds_toArray, List.set_cons_zero, List.set_cons_succ]
  refine wpU_take (v := ?_) 11 hst (fun _ h => h) rfl ?_ ?_; rotate_left; (intro W hS K hK; have ld : W.cell? ⟨pb, po, none⟩ = some (.int .u8 (W8 b0)) := (RB.out _ hS.1) 0 _ rfl; clear hS; go_simp; exact hK.out _ (Below.refl _ _)); simp only [Act.put, List.setIfInBounds_toArray, List.set_cons_zero, List.set_cons_succ]
  refine wpU_take (v := ?_) 12 hst (fun _ h => h) rfl ?_ ?_; rotate_left; (intro W hS K hK; clear hS; go_simp; exact hK.out _ (Below.refl _ _)); simp only [Act.put, List.setIfInBounds_toArray, List.set_cons_zero, List.set_cons_succ]
  refine wpU_take (v := ?_) 13 hst (fun _ h => h) rfl ?_ ?_; rotate_left; (intro W hS K hK; clear hS; go_simp; exact hK.out _ (Below.refl _ _)); simp only [Act.put, List.setIfInBounds_toArray, List.set_cons_zero, List.set_cons_succ]
  refine wpU_take (v := ?_) 14 hst (fun _ h => h) rfl ?_ ?_; rotate_left; (intro W hS K hK; clear hS; go_simp; exact hK.out _ (Below.refl _ _)); simp only [Act.put, List.setIfInBounds_toArray, List.set_cons_zero, List.set_cons_succ]
  refine wpU_take (v := ?_) 15 hst (fun _ h => h) rfl ?_ ?_; rotate_left; (intro W hS K hK; clear hS; go_simp; exact hK.out _ (Below.refl _ _)); simp only [Act.put, List.setIfInBounds_toArray, List.set_cons_zero, List.set_cons_succ]
  refine wpU_take (v := ?_) 16 hst (fun _ h => h) rfl ?_ ?_; rotate_left; (intro W hS K hK; clear hS; go_simp; exact hK.out _ (Below.refl _ _)); simp only [Act.put, List.setIfInBounds_toArray, List.set_cons_zero, List.set_cons_succ]
  refine wpU_take (v := ?_) 17 hst (fun _ h => h) rfl ?_ ?_; rotate_left; (intro W hS K hK; clear hS; go_simp; exact hK.out _ (Below.refl _ _)); simp only [Act.put, List.setIfInBounds_toArray, List.set_cons_zero, List.set_cons_succ]
  refine wpU_done (fun w_16 hS => ?_)
  obtain ⟨hB, G_4, G_11⟩ := hS
  clear hst
  go_wp2_with (first | (with_reducible refine stop_store ?_) | (with_reducible refine stop_box ?_) | (with_reducible refine stop_alloc ?_) | (with_reducible refine stop_bslice ?_) | (with_reducible refine stop_append ?_))
  have hst : Stable fun W => Below w.heap.size w W ∧ Blk W g_1 25 #[.int .u64 (W64 k1), .int .i64 nd, .int .u64 (W64 k3), .int .u64 (W64 k4), .int .u64 (W64 k5)] ∧ Blk W g_8 44 #[.int .u32 0, .int .i64 0, .bool false, .int .i64 0, .int .u32 0, .int .u16 0, .int .u16 0, .slice none 0 0] := stable_and (stable_below _ _ (Nat.le_refl _)) (stable_and (stable_blk _ _ _) (stable_blk _ _ _))
  refine wp_region_v _ 8 hst ⟨hB.drew, G_4, G_11⟩ ?_
  clear hB G_4 G_11
  refine wpU_take (v := .agg #[.int .u64 (W64 k1), .int .i64 nd, .int .u64 (W64 k3), .int .u64 (W64 k4), .int .u64 (W64 k5)]) 0 hst (fun _ h => h) rfl (fun W hS K hK => calm_load rfl rfl (load_part hS.2.1 0 [.int .u64 (W64 k1), .int .i64 nd, .int .u64 (W64 k3), .int .u64 (W64 k4), .int .u64 (W64 k5)] rfl Try.underlying25 rfl (by kernel_rfl)) (hK.out _ (Below.refl _ _))) ?_; simp only [Act.put, List.setIfInBounds_toArray, List.set_cons_zero, List.set_cons_succ]
  refine wpU_take (v := ?_) 1 hst (fun _ h => h) rfl ?_ ?_; rotate_left; (intro W hS K hK; clear hS; go_simp; exact hK.out _ (Below.refl _ _)); simp only [Act.put, List.setIfInBounds_toArray, List.set_cons_zero, List.set_cons_succ]
  refine wpU_take (v := ?_) 2 hst (fun _ h => h) rfl ?_ ?_; rotate_left; (intro W hS K hK; clear hS; go_simp; exact hK.out _ (Below.refl _ _)); simp only [Act.put, List.setIfInBounds_toArray, List.set_cons_zero, List.set_cons_succ]
  refine wpU_take (v := ?_) 3 hst (fun _ h => h) rfl ?_ ?_; rotate_left; (intro W hS K hK; clear hS; go_simp; exact hK.out _ (Below.refl _ _)); simp only [Act.put, List.setIfInBounds_toArray, List.set_cons_zero, List.set_cons_succ]
  refine wpU_take (v := ?_) 4 hst (fun _ h => h) rfl ?_ ?_; rotate_left; (intro W hS K hK; clear hS; go_simp; exact hK.out _ (Below.refl _ _)); simp only [Act.put, List.setIfInBounds_toArray, List.set_cons_zero, List.set_cons_succ]
  refine wpU_take (v := ?_) 5 hst (fun _ h => h) rfl ?_ ?_; rotate_left; (intro W hS K hK; clear hS; go_simp; exact hK.out _ (Below.refl _ _)); simp only [Act.put, List.setIfInBounds_toArray, List.set_cons_zero, List.set_cons_succ]
  refine wpV_new 6 hst rfl ?_; intro W hS K hK
  go_simp
  refine (CH.out _ hS.1).mono ?_; rintro e w9 ⟨qh, qho, ch, rfl, RO, c6, c4, c1, d1, d4, hb⟩
  refine hK.out (fun W => RdB W (some ⟨qh, qho, none⟩) [o0, o1, o2, o3, o4, o5]) _ _ (stable_rdB _ _) hb (RO) (fun hst => ?_)
  clear hK K hb RO hS
  try simp only [Act.put, List.setIfInBounds_toArray, List.set_cons_zero, List.set_cons_succ]
  refine wpU_take (v := ?_) 7 hst (fun _ h => h) rfl ?_ ?_; rotate_left; (intro W hS K hK; clear hS; go_simp; exact hK.out _ (Below.refl _ _)); simp only [Act.put, List.setIfInBounds_toArray, List.set_cons_zero, List.set_cons_succ]
  refine wpU_done (fun w_17 hS => ?_)
  obtain ⟨⟨hB, G_4, G_11⟩, RO⟩ := hS
  clear hst
  go_wp2_with (first | (with_reducible refine stop_store ?_) | (with_reducible refine stop_box ?_) | (with_reducible refine stop_alloc ?_) | (with_reducible refine stop_bslice ?_) | (with_reducible refine stop_append ?_))
  have hst : Stable fun W => Below w.heap.size w W ∧ Blk W g_1 25 #[.int .u64 (W64 k1), .int .i64 nd, .int .u64 (W64 k3), .int .u64 (W64 k4), .int .u64 (W64 k5)] ∧ Blk W g_8 44 #[.int .u32 0, .int .i64 0, .bool false, .int .i64 0, .int .u32 0, .int .u16 0, .int .u16 0, .slice none 0 0] ∧ RdB W (some ⟨qh, qho, none⟩) [o0, o1, o2, o3, o4, o5] := stable_and (stable_below _ _ (Nat.le_refl _)) (stable_and (stable_blk _ _ _) (stable_and (stable_blk _ _ _) (stable_rdB _ _)))
  refine wp_region_v _ 23 hst ⟨hB.drew, G_4, G_11, RO⟩ ?_
  clear hB G_4 G_11 RO
  refine wpU_take (v := ?_) 0 hst (fun _ h => h) rfl ?_ ?_; rotate_left; (intro W hS K hK; clear hS; go_simp; exact hK.out _ (Below.refl _ _)); simp only [Act.put, List.setIfInBounds_toArray, List.set_cons_zero, List.set_cons_succ]
  refine wpU_take (v := ?_) 1 hst (fun _ h => h) rfl ?_ ?_; rotate_left; (intro W hS K hK; clear hS; go_simp; exact hK.out _ (Below.refl _ _)); simp only [Act.put, List.setIfInBounds_toArray, List.set_cons_zero, List.set_cons_succ]
  refine wpU_take (v := ?_) 2 hst (fun _ h => h) rfl ?_ ?_; rotate_left; (intro W hS K hK; have ld : W.cell? ⟨g_1, 1, none⟩ = some (.int .i64 nd) := hS.2.1.cell 1; clear hS; go_simp; exact hK.out _ (Below.refl _ _)); simp only [Act.put, List.setIfInBounds_toArray, List.set_cons_zero, List.set_cons_succ]
  refine wpU_take (v := ?_) 3 hst (fun _ h => h) rfl ?_ ?_; rotate_left; (intro W hS K hK; clear hS; go_simp; exact hK.out _ (Below.refl _ _)); simp only [Act.put, List.setIfInBounds_toArray, List.set_cons_zero, List.set_cons_succ]
  refine wpU_take (v := ?_) 4 hst (fun _ h => h) rfl ?_ ?_; rotate_left; (intro W hS K hK; clear hS; go_simp; exact hK.out _ (Below.refl _ _)); simp only [Act.put, List.setIfInBounds_toArray, List.set_cons_zero, List.set_cons_succ]
  refine wpU_take (v := ?_) 5 hst (fun _ h => h) rfl ?_ ?_; rotate_left; (intro W hS K hK; have ld : W.cell? ⟨qh, qho, none⟩ = some (.int .u8 (W8 o0)) := (rg_at hS.2.2.2 0 1 [.int .u8 (W8 o0)] rfl (Nat.succ_pos _)).2 0 _ rfl; clear hS; go_simp; exact hK.out _ (Below.refl _ _)); simp only [Act.put, List.setIfInBounds_toArray, List.set_cons_zero, List.set_cons_succ]
  refine wpU_take (v := ?_) 6 hst (fun _ h => h) rfl ?_ ?_; rotate_left; (intro W hS K hK; clear hS; go_simp; exact hK.out _ (Below.refl _ _)); simp only [Act.put, List.setIfInBounds_toArray, List.set_cons_zero, List.set_cons_succ]
  refine wpU_take (v := ?_) 7 hst (fun _ h => h) rfl ?_ ?_; rotate_left; (intro W hS K hK; clear hS; go_simp; exact hK.out _ (Below.refl _ _)); simp only [Act.put, List.setIfInBounds_toArray, List.set_cons_zero, List.set_cons_succ]
  refine wpU_take (v := ?_) 8 hst (fun _ h => h) rfl ?_ ?_; rotate_left; (intro W hS K hK; clear hS; go_simp; exact hK.out _ (Below.refl _ _)); simp only [Act.put, List.setIfInBounds_toArray, List.set_cons_zero, List.set_cons_succ]
  refine wpU_take (v := ?_) 9 hst (fun _ h => h) rfl ?_ ?_; rotate_left; (intro W hS K hK; have ld : W.cell? ⟨qh, qho, none⟩ = some (.int .u8 (W8 o0)) := (rg_at hS.2.2.2 0 1 [.int .u8 (W8 o0)] rfl (Nat.succ_pos _)).2 0 _ rfl; clear hS; go_simp; exact hK.out _ (Below.refl _ _)); simp only [Act.put, List.setIfInBounds_toArray, List.set_cons_zero, List.set_cons_succ]
  refine wpU_take (v := ?_) 10 hst (fun _ h => h) rfl ?_ ?_; rotate_left; (intro W hS K hK; clear hS; go_simp; exact hK.out _ (Below.refl _ _)); simp only [Act.put, List.setIfInBounds_toArray, List.set_cons_zero, List.set_cons_succ]
  refine wpU_take (v := ?_) 11 hst (fun _ h => h) rfl ?_ ?_; rotate_left; (intro W hS K hK; clear hS; go_simp; exact hK.out _ (Below.refl _ _)); simp only [Act.put, List.setIfInBounds_toArray, List.set_cons_zero, List.set_cons_succ]
  refine wpU_take (v := ?_) 12 hst (fun _ h => h) rfl ?_ ?_; rotate_left; (intro W hS K hK; clear hS; go_simp; exact hK.out _ (Below.refl _ _)); simp only [Act.put, List.setIfInBounds_toArray, List.set_cons_zero, List.set_cons_succ]
  refine wpU_take (v := ?_) 13 hst (fun _ h => h) rfl ?_ ?_; rotate_left; (intro W hS K hK; clear hS; go_simp; exact hK.out _ (Below.refl _ _)); simp only [Act.put, List.setIfInBounds_toArray, List.set_cons_zero, List.set_cons_succ]
  refine wpU_take (v := ?_) 16 hst (fun _ h => h) rfl ?_ ?_; rotate_left; (intro W hS K hK; clear hS; go_simp; exact hK.out _ (Below.refl _ _)); simp only [Act.put, List.setIfInBounds_toArray, List.set_cons_zero, List.set_cons_succ]
  refine wpU_take (v := ?_) 17 hst (fun _ h => h) rfl ?_ ?_; rotate_left; (intro W hS K hK; clear hS; go_simp; exact hK.out _ (Below.refl _ _)); simp only [Act.put, List.setIfInBounds_toArray, List.set_cons_zero, List.set_cons_succ]
  refine wpU_take (v := .int .u64 (W64 v1)) 14 hst (fun _ h => h) rfl ?_ ?_; (intro W hS K hK; go_simp; refine (CV1.out _ _ _ _ hS.2.2.2).mono ?_; rintro e w9 ⟨rfl, rfl⟩; refine CallPost.mk ?_; exact hK.out _ (Below.refl _ _)); simp only [Act.put, List.setIfInBounds_toArray, List.set_cons_zero, List.set_cons_succ]
  refine wpU_take (v := ?_) 15 hst (fun _ h => h) rfl ?_ ?_; rotate_left; (intro W hS K hK; clear hS; go_simp; exact hK.out _ (Below.refl _ _)); simp only [Act.put, List.setIfInBounds_toArray, List.set_cons_zero, List.set_cons_succ]
  refine wpU_take (v := .int .u64 (W64 v2)) 18 hst (fun _ h => h) rfl ?_ ?_; (intro W hS K hK; go_simp; refine (CV2.out _ _ _ _ hS.2.2.2).mono ?_; rintro e w9 ⟨rfl, rfl⟩; refine CallPost.mk ?_; exact hK.out _ (Below.refl _ _)); simp only [Act.put, List.setIfInBounds_toArray, List.set_cons_zero, List.set_cons_succ]
  refine wpU_take (v := ?_) 19 hst (fun _ h => h) rfl ?_ ?_; rotate_left; (intro W hS K hK; clear hS; go_simp; exact hK.out _ (Below.refl _ _)); simp only [Act.put, List.setIfInBounds_toArray, List.set_cons_zero, List.set_cons_succ]
  refine wpU_take (v := ?_) 20 hst (fun _ h => h) rfl ?_ ?_; rotate_left; (intro W hS K hK; clear hS; go_simp; exact hK.out _ (Below.refl _ _)); simp only [Act.put, List.setIfInBounds_toArray, List.set_cons_zero, List.set_cons_succ]
  refine wpV_new 21 hst rfl ?_; intro W hS K hK
  have l8_21_g_1 : g_1 < W.heap.size := hS.2.1.lt
  have l8_21_g_8 : g_8 < W.heap.size := hS.2.2.1.lt
  have n8_21a : w.heap.size ≤ W.heap.size := hS.1.size
  clear hS
  go_simp
  refine hK.out (fun W' => Room W.heap.size 44 8 W') _ _ (stable_room _ _ _) ((Below.refl _ _).alloc (Nat.le_refl _) _) (⟨_, rfl, rfl, Blk.new _ _ _⟩) (fun hst => ?_)
  clear hK K
  try simp only [Act.put, List.setIfInBounds_toArray, List.set_cons_zero, List.set_cons_succ]
  generalize W.heap.size = g8_21 at hst l8_21_g_1 l8_21_g_8 n8_21a ⊢
  clear W
  refine wpV_st 22 hst (fun _ h => h) #[.int .u32 (W32 iv), .int .i64 nd, .bool fc, .int .i64 (W8 (o0 &&& 127#8)), .int .u32 (W32 (BitVec.setWidth 32 v1)), .int .u16 (W16 (BitVec.setWidth 16 v2)), .int .u16 0, .slice none 0 0] rfl rfl rfl rfl (fun W hS => hS.2) (fun W W' h hU hG => ?_) (by kernel_rfl) rfl (fun hst => ?_)
  · obtain ⟨⟨h0_0, h0_1, h0_2, h0_3⟩, ⟨ch1_0, ah1_0, bh1_0, h1_0⟩⟩ := h
    exact ⟨⟨hU.below h0_0 (by omega), hU.blk h0_1 (by omega), hU.blk h0_2 (by omega), RdB.upd h0_3 h1_0 hU bh1_0⟩, ⟨_, rfl, rfl, hG⟩⟩
  refine wpU_done (fun w_18 hS => ?_)
  obtain ⟨⟨⟨hB, G_4, G_11, RO⟩, -⟩, G8_21s⟩ := hS
  clear hst
  go_wp2_with (first | (with_reducible refine stop_store ?_) | (with_reducible refine stop_box ?_) | (with_reducible refine stop_alloc ?_) | (with_reducible refine stop_bslice ?_) | (with_reducible refine stop_append ?_))
  have hst : Stable fun W => Below w.heap.size w W ∧ Blk W g_1 25 #[.int .u64 (W64 k1), .int .i64 nd, .int .u64 (W64 k3), .int .u64 (W64 k4), .int .u64 (W64 k5)] ∧ Blk W g_8 44 #[.int .u32 0, .int .i64 0, .bool false, .int .i64 0, .int .u32 0, .int .u16 0, .int .u16 0, .slice none 0 0] ∧ Blk W g8_21 44 #[.int .u32 (W32 iv), .int .i64 nd, .bool fc, .int .i64 (W8 (o0 &&& 127#8)), .int .u32 (W32 (BitVec.setWidth 32 v1)), .int .u16 (W16 (BitVec.setWidth 16 v2)), .int .u16 0, .slice none 0 0] ∧ RdB W (some ⟨qh, qho, none⟩) [o0, o1, o2, o3, o4, o5] := stable_and (stable_below _ _ (Nat.le_refl _)) (stable_and (stable_blk _ _ _) (stable_and (stable_blk _ _ _) (stable_and (stable_blk _ _ _) (stable_rdB _ _))))
  refine wp_region_v _ 18 hst ⟨hB.drew, G_4, G_11, G8_21s, RO⟩ ?_
  clear hB G_4 G_11 G8_21s RO
  refine wpU_take (v := ?_) 0 hst (fun _ h => h) rfl ?_ ?_; rotate_left; (intro W hS K hK; clear hS; go_simp; exact hK.out _ (Below.refl _ _)); simp only [Act.put, List.setIfInBounds_toArray, List.set_cons_zero, List.set_cons_succ]
  refine wpU_take (v := ?_) 1 hst (fun _ h => h) rfl ?_ ?_; rotate_left; (intro W hS K hK; have ld : W.cell? ⟨g_1, 2, none⟩ = some (.int .u64 (W64 k3)) := hS.2.1.cell 2; clear hS; go_simp; exact hK.out _ (Below.refl _ _)); simp only [Act.put, List.setIfInBounds_toArray, List.set_cons_zero, List.set_cons_succ]
  refine wpU_take (v := ?_) 2 hst (fun _ h => h) rfl ?_ ?_; rotate_left; (intro W hS K hK; clear hS; go_simp; exact hK.out _ (Below.refl _ _)); simp only [Act.put, List.setIfInBounds_toArray, List.set_cons_zero, List.set_cons_succ]
  refine wpU_take (v := ?_) 3 hst (fun _ h => h) rfl ?_ ?_; rotate_left; (intro W hS K hK; have ld : W.cell? ⟨g8_21, 5, none⟩ = some (.int .u16 (W16 (BitVec.setWidth 16 v2))) := hS.2.2.2.1.cell 5; clear hS; go_simp; exact hK.out _ (Below.refl _ _)); simp only [Act.put, List.setIfInBounds_toArray, List.set_cons_zero, List.set_cons_succ]
  refine wpU_take (v := ?_) 4 hst (fun _ h => h) rfl ?_ ?_; rotate_left; (intro W hS K hK; clear hS; go_simp; exact hK.out _ (Below.refl _ _)); simp only [Act.put, List.setIfInBounds_toArray, List.set_cons_zero, List.set_cons_succ]
  refine wpU_take (v := ?_) 5 hst (fun _ h => h) rfl ?_ ?_; rotate_left; (intro W hS K hK; have ld : W.cell? ⟨g8_21, 4, none⟩ = some (.int .u32 (W32 (BitVec.setWidth 32 v1))) := hS.2.2.2.1.cell 4; clear hS; go_simp; exact hK.out _ (Below.refl _ _)); simp only [Act.put, List.setIfInBounds_toArray, List.set_cons_zero, List.set_cons_succ]
  refine wpU_take (v := ?_) 6 hst (fun _ h => h) rfl ?_ ?_; rotate_left; (intro W hS K hK; clear hS; go_simp; exact hK.out _ (Below.refl _ _)); simp only [Act.put, List.setIfInBounds_toArray, List.set_cons_zero, List.set_cons_succ]
  refine wpU_take (v := ?_) 8 hst (fun _ h => h) rfl ?_ ?_; rotate_left; (intro W hS K hK; clear hS; go_simp; exact hK.out _ (Below.refl _ _)); simp only [Act.put, List.setIfInBounds_toArray, List.set_cons_zero, List.set_cons_succ]
  refine wpU_take (v := ?_) 9 hst (fun _ h => h) rfl ?_ ?_; rotate_left; (intro W hS K hK; clear hS; go_simp; exact hK.out _ (Below.refl _ _)); simp only [Act.put, List.setIfInBounds_toArray, List.set_cons_zero, List.set_cons_succ]
  refine wpU_take (v := ?_) 10 hst (fun _ h => h) rfl ?_ ?_; rotate_left; (intro W hS K hK; clear hS; go_simp; exact hK.out _ (Below.refl _ _)); simp only [Act.put, List.setIfInBounds_toArray, List.set_cons_zero, List.set_cons_succ]
  refine wpU_take (v := ?_) 11 hst (fun _ h => h) rfl ?_ ?_; rotate_left; (intro W hS K hK; clear hS; go_simp; exact hK.out _ (Below.refl _ _)); simp only [Act.put, List.setIfInBounds_toArray, List.set_cons_zero, List.set_cons_succ]
  refine wpU_take (v := .int .u64 (W64 non)) 7 hst (fun _ h => h) rfl ?_ ?_; (intro W hS K hK; clear hS; go_simp; refine (CN.out _).mono ?_; rintro e w9 ⟨rfl, hb⟩; refine CallPost.mk ?_; exact hK.out _ (hb)); simp only [Act.put, List.setIfInBounds_toArray, List.set_cons_zero, List.set_cons_succ]
  refine wpV_new 12 hst rfl ?_; intro W hS K hK
  go_simp
  refine (CO.out _ _ _ _ hS.2.2.2.2 hS.1).mono ?_; rintro e w9 ⟨q, qo, cp, rfl, RP, RS, c2, d2, hb⟩
  refine hK.out (fun W => RdB W (some ⟨q, qo, none⟩) (p0 :: p1 :: ps) ∧ RdB W (some ⟨q, qo + 2, none⟩) ps) _ _ (stable_and (stable_rdB _ _) (stable_rdB _ _)) hb (⟨RP, RS⟩) (fun hst => ?_)
  clear hK K hb RP RS hS
  try simp only [Act.put, List.setIfInBounds_toArray, List.set_cons_zero, List.set_cons_succ]
  refine wpU_take (v := ?_) 13 hst (fun _ h => h) rfl ?_ ?_; rotate_left; (intro W hS K hK; clear hS; go_simp; exact hK.out _ (Below.refl _ _)); simp only [Act.put, List.setIfInBounds_toArray, List.set_cons_zero, List.set_cons_succ]
  refine wpU_take (v := ?_) 14 hst (fun _ h => h) rfl ?_ ?_; rotate_left; (intro W hS K hK; clear hS; go_simp; exact hK.out _ (Below.refl _ _)); simp only [Act.put, List.setIfInBounds_toArray, List.set_cons_zero, List.set_cons_succ]
  refine wpU_take (v := ?_) 15 hst (fun _ h => h) rfl ?_ ?_; rotate_left; (intro W hS K hK; clear hS; go_simp; exact hK.out _ (Below.refl _ _)); simp only [Act.put, List.setIfInBounds_toArray, List.set_cons_zero, List.set_cons_succ]
  refine wpU_take (v := ?_) 16 hst (fun _ h => h) rfl ?_ ?_; rotate_left; (intro W hS K hK; clear hS; go_simp; exact hK.out _ (Below.refl _ _)); simp only [Act.put, List.setIfInBounds_toArray, List.set_cons_zero, List.set_cons_succ]
  refine wpU_take (v := ?_) 17 hst (fun _ h => h) rfl ?_ ?_; rotate_left; (intro W hS K hK; clear hS; go_simp; exact hK.out _ (Below.refl _ _)); simp only [Act.put, List.setIfInBounds_toArray, List.set_cons_zero, List.set_cons_succ]
  refine wpU_done (fun w_19 hS => ?_)
  obtain ⟨⟨hB, G_4, G_11, G8_21s, RO⟩, ⟨RP, RS⟩⟩ := hS
  clear hst
  go_wp2_with (first | (with_reducible refine stop_store ?_) | (with_reducible refine stop_box ?_) | (with_reducible refine stop_alloc ?_) | (with_reducible refine stop_bslice ?_) | (with_reducible refine stop_append ?_))
  refine (CV3.out _ _ _ _ RP).mono ?_; rintro e w_20 ⟨rfl, rfl⟩
  go_wp2_with (first | (with_reducible refine stop_store ?_) | (with_reducible refine stop_box ?_) | (with_reducible refine stop_alloc ?_) | (with_reducible refine stop_bslice ?_) | (with_reducible refine stop_append ?_))
  unfold Kept
  refine wpList_st1 6 (.int .u16 (W16 (BitVec.setWidth 16 v3))) #[.int .u32 (W32 iv), .int .i64 nd, .bool fc, .int .i64 (W8 (o0 &&& 127#8)), .int .u32 (W32 (BitVec.setWidth 32 v1)), .int .u16 (W16 (BitVec.setWidth 16 v2)), .int .u16 (W16 (BitVec.setWidth 16 v3)), .slice none 0 0] G8_21s rfl rfl rfl (by kernel_rfl) rfl (of_decide_eq_true rfl) rfl ?_
  intro w_22 G_24 hU_23
  replace G_4 := hU_23.blk G_4 (by omega)
  replace G_11 := hU_23.blk G_11 (by omega)
  replace RO := RdB.upd RO G8_21s hU_23 (by rfl)
  replace RP := RdB.upd RP G8_21s hU_23 (by rfl)
  replace RS := RdB.upd RS G8_21s hU_23 (by rfl)
  replace hB := hU_23.below hB (by omega)
  clear G8_21s hU_23
  go_wp2_with (first | (with_reducible refine stop_store ?_) | (with_reducible refine stop_box ?_) | (with_reducible refine stop_alloc ?_) | (with_reducible refine stop_bslice ?_) | (with_reducible refine stop_append ?_))
  unfold Kept
  refine go_mem (ty := 5) (cs := #[]) (fun g => .slice (some ⟨g, 0, none⟩) 0 0) rfl (by kernel_rfl) ?_
  intro g_25 w_26 z_30 l_29 hb_27 G_28
  have n_31 : g8_21 < g_25 := Nat.lt_of_lt_of_le G_24.lt l_29
  have n_32 : w.heap.size ≤ g_25 := Nat.le_trans hB.size l_29
  replace G_4 := G_4.to hb_27 G_4.lt
  replace G_11 := G_11.to hb_27 G_11.lt
  replace G_24 := G_24.to hb_27 G_24.lt
  replace RO := Rd.to RO hb_27
  replace RP := Rd.to RP hb_27
  replace RS := Rd.to RS hb_27
  replace hB := hB.trans (hb_27.mono hB.size)
  clear hb_27 l_29 z_30
  go_wp2_with (first | (with_reducible refine stop_store ?_) | (with_reducible refine stop_box ?_) | (with_reducible refine stop_alloc ?_) | (with_reducible refine stop_bslice ?_) | (with_reducible refine stop_append ?_))
  unfold Kept
  refine wpList_append_rd _ rfl _ _ 36 rfl w.heap.size 5 i0 _ 1 1 Try.underlying36 hi0 hz0 hz1 hz2 rfl (by omega) (.slice (some ⟨g_25, 0, none⟩) 0 0) 0 (bcells []) rfl (own_of_blk (l := []) G_28 (by omega) (by simp [maxLen])) (some ⟨q, qo + 2, none⟩) (np - 2) (cp - 2) (bcells ps) rfl (RS) (by rw [bcells_length, HPS.out, Nat.mul_one]) ((bcells_one _)) (by simp only [maxLen]; omega) (by omega) hB.size ?_
  intro A_33 c_34 w_35 ho_36 hb_37 hg_38
  replace ho_36 : w_35.ownsRow w.heap.size 5 1 (.slice A_33 (np - 2) c_34) (np - 2) ((bcells ps)) := by skip; rw [Nat.zero_add] at ho_36; exact ho_36
  replace G_4 := Blk.own G_4 (own_of_blk (l := []) G_28 (by omega) (by simp [maxLen])) (by decide) hg_38
  replace G_11 := Blk.own G_11 (own_of_blk (l := []) G_28 (by omega) (by simp [maxLen])) (by decide) hg_38
  replace G_24 := Blk.own G_24 (own_of_blk (l := []) G_28 (by omega) (by simp [maxLen])) (by decide) hg_38
  clear RO
  clear RP
  clear RS
  replace hB := hB.trans hb_37
  clear G_28
  clear hg_38 hb_37
  go_wp2_with (first | (with_reducible refine stop_store ?_) | (with_reducible refine stop_box ?_) | (with_reducible refine stop_alloc ?_) | (with_reducible refine stop_bslice ?_) | (with_reducible refine stop_append ?_))
  unfold Kept
  refine wpList_st1 7 (.slice A_33 (np - 2) c_34) #[.int .u32 (W32 iv), .int .i64 nd, .bool fc, .int .i64 (W8 (o0 &&& 127#8)), .int .u32 (W32 (BitVec.setWidth 32 v1)), .int .u16 (W16 (BitVec.setWidth 16 v2)), .int .u16 (W16 (BitVec.setWidth 16 v3)), .slice A_33 (np - 2) c_34] G_24 rfl rfl rfl (by kernel_rfl) rfl (of_decide_eq_true rfl) rfl ?_
  intro w_39 G_41 hU_40
  replace G_4 := hU_40.blk G_4 (by omega)
  replace G_11 := hU_40.blk G_11 (by omega)
  replace ho_36 := own_upd ho_36 G_24 hU_40 (by decide)
  replace hB := hU_40.below hB (by omega)
  clear G_24 hU_40
  go_wp2_with (first | (with_reducible refine stop_store ?_) | (with_reducible refine stop_box ?_) | (with_reducible refine stop_alloc ?_) | (with_reducible refine stop_bslice ?_) | (with_reducible refine stop_append ?_) | ((with_reducible refine wpList_ld 0 [.int .u32 (W32 iv), .int .i64 nd, .bool fc, .int .i64 (W8 (o0 &&& 127#8)), .int .u32 (W32 (BitVec.setWidth 32 v1)), .int .u16 (W16 (BitVec.setWidth 16 v2)), .int .u16 (W16 (BitVec.setWidth 16 v3)), .slice A_33 (np - 2) c_34] G_41 ?_ ?_ Try.underlying44 ?_ ?_ ?_); rfl; rfl; rfl; kernel_rfl))
  refine (CK.out _ _ _).mono ?_; rintro e w_43 ⟨rfl, hb_44⟩
  replace G_4 := G_4.to hb_44 G_4.lt
  replace G_11 := G_11.to hb_44 G_11.lt
  replace G_41 := G_41.to hb_44 G_41.lt
  replace ho_36 := own_to ho_36 hb_44
  replace hB := hB.trans (hb_44.mono hB.size)
  clear hb_44
  go_wp2_with (first | (with_reducible refine stop_store ?_) | (with_reducible refine stop_box ?_) | (with_reducible refine stop_alloc ?_) | (with_reducible refine stop_bslice ?_) | (with_reducible refine stop_append ?_) | ((with_reducible refine wpList_ld 0 [.int .u32 (W32 iv), .int .i64 nd, .bool fc, .int .i64 (W8 (o0 &&& 127#8)), .int .u32 (W32 (BitVec.setWidth 32 v1)), .int .u16 (W16 (BitVec.setWidth 16 v2)), .int .u16 (W16 (BitVec.setWidth 16 v3)), .slice A_33 (np - 2) c_34] G_41 ?_ ?_ Try.underlying44 ?_ ?_ ?_); rfl; rfl; rfl; kernel_rfl))
  unfold Kept
  refine wpList_st 0 #[.int .u32 (W32 iv), .int .i64 nd, .bool fc, .int .i64 (W8 (o0 &&& 127#8)), .int .u32 (W32 (BitVec.setWidth 32 v1)), .int .u16 (W16 (BitVec.setWidth 16 v2)), .int .u16 (W16 (BitVec.setWidth 16 v3)), .slice A_33 (np - 2) c_34] #[.int .u32 (W32 iv), .int .i64 nd, .bool fc, .int .i64 (W8 (o0 &&& 127#8)), .int .u32 (W32 (BitVec.setWidth 32 v1)), .int .u16 (W16 (BitVec.setWidth 16 v2)), .int .u16 (W16 (BitVec.setWidth 16 v3)), .slice A_33 (np - 2) c_34] G_11 rfl rfl (by kernel_rfl) rfl (of_decide_eq_true rfl) rfl ?_
  intro w_46 G_48 hU_47
  replace G_4 := hU_47.blk G_4 (by omega)
  replace G_41 := hU_47.blk G_41 (by omega)
  replace ho_36 := own_upd ho_36 G_11 hU_47 (by decide)
  replace hB := hU_47.below hB (by omega)
  clear G_11 hU_47
  go_wp2_with (first | (with_reducible refine stop_store ?_) | (with_reducible refine stop_box ?_) | (with_reducible refine stop_alloc ?_) | (with_reducible refine stop_bslice ?_) | (with_reducible refine stop_append ?_))
  refine bodyPost_ret (results_ct rfl rfl (load_blk G_48 Try.underlying44 rfl (by kernel_rfl))) rfl ?_
  exact ⟨A_33, c_34, by unfold npA; dsimp only; rw [HPS.out]; rfl, Rd.of_own ho_36, by dsimp only; rw [HPS.out]; exact (own_cap ho_36).1, hB⟩
end Go.Proofs.Ytbkaeoaepmeceaa
