/- Hint and Decode of layer 48 (netpdu). -/
import Derived.Test.YtbkaeoaepmeceaaNetC
import Derived.Test.YtbkaeoaepmeceaaMacLawsB
namespace Go.Proofs.Ytbkaeoaepmeceaa
set_option maxRecDepth 100000
open Go.ChangeShapes Go.WideShapes Go.ChangeAt Go.RowKit
set_option linter.unusedVariables false
set_option linter.unusedSimpArgs false

theorem low7 : ∀ x : BitVec 8, x / 128#8 = x >>> 7 ∧ x % 128#8 = x &&& 127#8 ∧ decide (127#8 < x) = (x &&& 128#8 != 0#8) := by decide
set_option maxHeartbeats 1000000 in
theorem net_Hint_f (pb po n d : Nat) (b0 : BitVec 8) (w : World) (RB0 : Rg pb po [.int .u8 (W8 b0)] w) (hn : 0 < n) :
    Calls Try.prog 36 #[.slice (some ⟨pb, po, none⟩) n d] w (fun e w' => e = .returned (.tuple #[.int .i64 (W8 (b0 >>> 7)), .int .i64 (W8 (b0 &&& 127#8)), .int .i64 0]) ∧ Below w.heap.size w w') := by
  have RB := Lib.hid (fun W (hB : Below w.heap.size w W) => (Rg.to RB0 hB).2)
  have i0 : ((n : Int) == 0) = false := by simp; omega
  have i1 : (n == 0) = false := by simp; omega
  have i2 : ¬ n = 0 := by omega
  have y1 : IntKind.i64.wrap (W8 (b0 >>> 7)) = W8 (b0 >>> 7) := IntWalk.i64_in _ (by have := W8_bd (b0 >>> 7); omega)
  have y2 : IntKind.i64.wrap (W8 (b0 &&& 127#8)) = W8 (b0 &&& 127#8) := IntWalk.i64_in _ (by have := W8_bd (b0 &&& 127#8); omega)
  
  go_enter Try.func36, Try.ntmps36
  have hB := Below.refl w.heap.size w
  go_wp2_with (first | (with_reducible refine stop_store ?_) | (with_reducible refine stop_box ?_) | (with_reducible refine stop_alloc ?_) | (with_reducible refine stop_bslice ?_))
  have hst : Stable fun W => Below w.heap.size w W := stable_below _ _ (Nat.le_refl _)
  refine wp_region_v _ 13 hst (hB.drew) ?_
  clear hB
  refine wpU_take (v := ?_) 0 hst (fun _ h => h) rfl ?_ ?_; rotate_left; (intro W hS K hK; clear hS; go_simp; exact hK.out _ (Below.refl _ _)); simp only [Act.put, List.setIfInBounds_toArray, List.set_cons_zero, List.set_cons_succ]
  refine wpU_take (v := ?_) 1 hst (fun _ h => h) rfl ?_ ?_; rotate_left; (intro W hS K hK; clear hS; go_simp; exact hK.out _ (Below.refl _ _)); simp only [Act.put, List.setIfInBounds_toArray, List.set_cons_zero, List.set_cons_succ]
  refine wpU_take (v := ?_) 2 hst (fun _ h => h) rfl ?_ ?_; rotate_left; (intro W hS K hK; have ld : W.cell? ⟨pb, po, none⟩ = some (.int .u8 (W8 b0)) := (RB.out _ hS) 0 _ rfl; clear hS; go_simp; exact hK.out _ (Below.refl _ _)); simp only [Act.put, List.setIfInBounds_toArray, List.set_cons_zero, List.set_cons_succ]
  refine wpU_take (v := ?_) 3 hst (fun _ h => h) rfl ?_ ?_; rotate_left; (intro W hS K hK; clear hS; go_simp; exact hK.out _ (Below.refl _ _)); simp only [Act.put, List.setIfInBounds_toArray, List.set_cons_zero, List.set_cons_succ]
  refine wpU_take (v := ?_) 4 hst (fun _ h => h) rfl ?_ ?_; rotate_left; (intro W hS K hK; clear hS; go_simp; exact hK.out _ (Below.refl _ _)); simp only [Act.put, List.setIfInBounds_toArray, List.set_cons_zero, List.set_cons_succ]
  refine wpU_take (v := ?_) 5 hst (fun _ h => h) rfl ?_ ?_; rotate_left; (intro W hS K hK; clear hS; go_simp; exact hK.out _ (Below.refl _ _)); simp only [Act.put, List.setIfInBounds_toArray, List.set_cons_zero, List.set_cons_succ]
  refine wpU_take (v := ?_) 6 hst (fun _ h => h) rfl ?_ ?_; rotate_left; (intro W hS K hK; clear hS; go_simp; exact hK.out _ (Below.refl _ _)); simp only [Act.put, List.setIfInBounds_toArray, List.set_cons_zero, List.set_cons_succ]
  refine wpU_take (v := ?_) 7 hst (fun _ h => h) rfl ?_ ?_; rotate_left; (intro W hS K hK; have ld : W.cell? ⟨pb, po, none⟩ = some (.int .u8 (W8 b0)) := (RB.out _ hS) 0 _ rfl; clear hS; go_simp; exact hK.out _ (Below.refl _ _)); simp only [Act.put, List.setIfInBounds_toArray, List.set_cons_zero, List.set_cons_succ]
  refine wpU_take (v := ?_) 8 hst (fun _ h => h) rfl ?_ ?_; rotate_left; (intro W hS K hK; clear hS; go_simp; exact hK.out _ (Below.refl _ _)); simp only [Act.put, List.setIfInBounds_toArray, List.set_cons_zero, List.set_cons_succ]
  refine wpU_take (v := ?_) 9 hst (fun _ h => h) rfl ?_ ?_; rotate_left; (intro W hS K hK; clear hS; go_simp; exact hK.out _ (Below.refl _ _)); simp only [Act.put, List.setIfInBounds_toArray, List.set_cons_zero, List.set_cons_succ]
  refine wpU_take (v := ?_) 10 hst (fun _ h => h) rfl ?_ ?_; rotate_left; (intro W hS K hK; clear hS; go_simp; exact hK.out _ (Below.refl _ _)); simp only [Act.put, List.setIfInBounds_toArray, List.set_cons_zero, List.set_cons_succ]
  refine wpU_take (v := ?_) 11 hst (fun _ h => h) rfl ?_ ?_; rotate_left; (intro W hS K hK; clear hS; go_simp; exact hK.out _ (Below.refl _ _)); simp only [Act.put, List.setIfInBounds_toArray, List.set_cons_zero, List.set_cons_succ]
  refine wpU_take (v := ?_) 12 hst (fun _ h => h) rfl ?_ ?_; rotate_left; (intro W hS K hK; clear hS; go_simp; exact hK.out _ (Below.refl _ _)); simp only [Act.put, List.setIfInBounds_toArray, List.set_cons_zero, List.set_cons_succ]
  refine wpU_done (fun w_1 hS => ?_)
  have hB := hS
  clear hst
  go_wp2_with (first | (with_reducible refine stop_store ?_) | (with_reducible refine stop_box ?_) | (with_reducible refine stop_alloc ?_) | (with_reducible refine stop_bslice ?_))
  go_returns
  exact ⟨rfl, hB⟩
set_option maxHeartbeats 1000000 in
theorem net_Hint_0 (A : Option Addr) (d : Nat) (w : World) :
    Calls Try.prog 36 #[.slice A 0 d] w (fun e w' => e = .returned (.tuple #[.int .i64 0, .int .i64 0, .int .i64 3]) ∧ Below w.heap.size w w') := by
  go_enter Try.func36, Try.ntmps36
  have hB := Below.refl w.heap.size w
  go_wp2_with (first | (with_reducible refine stop_store ?_) | (with_reducible refine stop_box ?_) | (with_reducible refine stop_alloc ?_) | (with_reducible refine stop_bslice ?_))
  go_returns
  exact ⟨rfl, hB⟩
set_option maxHeartbeats 1000000 in
theorem r48_Hint_f (pb po n d : Nat) (b0 : BitVec 8) (w : World) (RB0 : Rg pb po [.int .u8 (W8 b0)] w) (hn : 0 < n) :
    Calls Try.prog 37 #[.slice (some ⟨pb, po, none⟩) n d] w (fun e w' => e = .returned (.tuple #[.int .i64 (W8 (b0 >>> 7)), .int .i64 (W8 (b0 &&& 127#8)), .int .i64 0]) ∧ Below w.heap.size w w') := by
  have RB := Lib.hid (fun W (hB : Below w.heap.size w W) => (Rg.to RB0 hB).2)
  have i0 : ((n : Int) == 0) = false := by simp; omega
  have i1 : (n == 0) = false := by simp; omega
  have i2 : ¬ n = 0 := by omega
  have y1 : IntKind.i64.wrap (W8 (b0 >>> 7)) = W8 (b0 >>> 7) := IntWalk.i64_in _ (by have := W8_bd (b0 >>> 7); omega)
  have y2 : IntKind.i64.wrap (W8 (b0 &&& 127#8)) = W8 (b0 &&& 127#8) := IntWalk.i64_in _ (by have := W8_bd (b0 &&& 127#8); omega)
  have e1 : b0 / 128#8 = b0 >>> 7 := (low7 b0).1
  have e2 : b0 % 128#8 = b0 &&& 127#8 := (low7 b0).2.1
  
  go_enter Try.func37, Try.ntmps37
  have hB := Below.refl w.heap.size w
  go_wp2_with (first | (with_reducible refine stop_store ?_) | (with_reducible refine stop_box ?_) | (with_reducible refine stop_alloc ?_) | (with_reducible refine stop_bslice ?_))
  have hst : Stable fun W => Below w.heap.size w W := stable_below _ _ (Nat.le_refl _)
  refine wp_region_v _ 13 hst (hB.drew) ?_
  clear hB
  refine wpU_take (v := ?_) 0 hst (fun _ h => h) rfl ?_ ?_; rotate_left; (intro W hS K hK; clear hS; go_simp; exact hK.out _ (Below.refl _ _)); simp only [Act.put, List.setIfInBounds_toArray, List.set_cons_zero, List.set_cons_succ]
  refine wpU_take (v := ?_) 1 hst (fun _ h => h) rfl ?_ ?_; rotate_left; (intro W hS K hK; clear hS; go_simp; exact hK.out _ (Below.refl _ _)); simp only [Act.put, List.setIfInBounds_toArray, List.set_cons_zero, List.set_cons_succ]
  refine wpU_take (v := ?_) 2 hst (fun _ h => h) rfl ?_ ?_; rotate_left; (intro W hS K hK; have ld : W.cell? ⟨pb, po, none⟩ = some (.int .u8 (W8 b0)) := (RB.out _ hS) 0 _ rfl; clear hS; go_simp; exact hK.out _ (Below.refl _ _)); simp only [Act.put, List.setIfInBounds_toArray, List.set_cons_zero, List.set_cons_succ]
  refine wpU_take (v := ?_) 3 hst (fun _ h => h) rfl ?_ ?_; rotate_left; (intro W hS K hK; clear hS; go_simp; exact hK.out _ (Below.refl _ _)); simp only [Act.put, List.setIfInBounds_toArray, List.set_cons_zero, List.set_cons_succ]
  refine wpU_take (v := ?_) 4 hst (fun _ h => h) rfl ?_ ?_; rotate_left; (intro W hS K hK; clear hS; go_simp; exact hK.out _ (Below.refl _ _)); simp only [Act.put, List.setIfInBounds_toArray, List.set_cons_zero, List.set_cons_succ]
  refine wpU_take (v := ?_) 5 hst (fun _ h => h) rfl ?_ ?_; rotate_left; (intro W hS K hK; clear hS; go_simp; exact hK.out _ (Below.refl _ _)); simp only [Act.put, List.setIfInBounds_toArray, List.set_cons_zero, List.set_cons_succ]
  refine wpU_take (v := ?_) 6 hst (fun _ h => h) rfl ?_ ?_; rotate_left; (intro W hS K hK; clear hS; go_simp; exact hK.out _ (Below.refl _ _)); simp only [Act.put, List.setIfInBounds_toArray, List.set_cons_zero, List.set_cons_succ]
  refine wpU_take (v := ?_) 7 hst (fun _ h => h) rfl ?_ ?_; rotate_left; (intro W hS K hK; have ld : W.cell? ⟨pb, po, none⟩ = some (.int .u8 (W8 b0)) := (RB.out _ hS) 0 _ rfl; clear hS; go_simp; exact hK.out _ (Below.refl _ _)); simp only [Act.put, List.setIfInBounds_toArray, List.set_cons_zero, List.set_cons_succ]
  refine wpU_take (v := ?_) 8 hst (fun _ h => h) rfl ?_ ?_; rotate_left; (intro W hS K hK; clear hS; go_simp; exact hK.out _ (Below.refl _ _)); simp only [Act.put, List.setIfInBounds_toArray, List.set_cons_zero, List.set_cons_succ]
  refine wpU_take (v := ?_) 9 hst (fun _ h => h) rfl ?_ ?_; rotate_left; (intro W hS K hK; clear hS; go_simp; exact hK.out _ (Below.refl _ _)); simp only [Act.put, List.setIfInBounds_toArray, List.set_cons_zero, List.set_cons_succ]
  refine wpU_take (v := ?_) 10 hst (fun _ h => h) rfl ?_ ?_; rotate_left; (intro W hS K hK; clear hS; go_simp; exact hK.out _ (Below.refl _ _)); simp only [Act.put, List.setIfInBounds_toArray, List.set_cons_zero, List.set_cons_succ]
  refine wpU_take (v := ?_) 11 hst (fun _ h => h) rfl ?_ ?_; rotate_left; (intro W hS K hK; clear hS; go_simp; exact hK.out _ (Below.refl _ _)); simp only [Act.put, List.setIfInBounds_toArray, List.set_cons_zero, List.set_cons_succ]
  refine wpU_take (v := ?_) 12 hst (fun _ h => h) rfl ?_ ?_; rotate_left; (intro W hS K hK; clear hS; go_simp; exact hK.out _ (Below.refl _ _)); simp only [Act.put, List.setIfInBounds_toArray, List.set_cons_zero, List.set_cons_succ]
  refine wpU_done (fun w_1 hS => ?_)
  have hB := hS
  clear hst
  go_wp2_with (first | (with_reducible refine stop_store ?_) | (with_reducible refine stop_box ?_) | (with_reducible refine stop_alloc ?_) | (with_reducible refine stop_bslice ?_))
  go_returns
  exact ⟨rfl, hB⟩
set_option maxHeartbeats 1000000 in
theorem r48_Hint_0 (A : Option Addr) (d : Nat) (w : World) :
    Calls Try.prog 37 #[.slice A 0 d] w (fun e w' => e = .returned (.tuple #[.int .i64 0, .int .i64 0, .int .i64 3]) ∧ Below w.heap.size w w') := by
  go_enter Try.func37, Try.ntmps37
  have hB := Below.refl w.heap.size w
  go_wp2_with (first | (with_reducible refine stop_store ?_) | (with_reducible refine stop_box ?_) | (with_reducible refine stop_alloc ?_) | (with_reducible refine stop_bslice ?_))
  go_returns
  exact ⟨rfl, hB⟩
theorem bcell_nil (w : World) : RdB w none [] := fun j u hu => by simp [bcells] at hu
theorem low_seq (a b c : BitVec 8) : (leVal [a, b, c]).setWidth 32 = a.setWidth 32 ||| (b.setWidth 32 <<< 8) ||| (c.setWidth 32 <<< 16) := by
  apply BitVec.eq_of_getLsbD_eq
  intro k hk
  simp only [leVal, BitVec.getLsbD_setWidth, BitVec.getLsbD_or, BitVec.getLsbD_shiftLeft]
  by_cases h1 : k < 8
  · simp [h1, hk, show k < 64 by omega, show k < 16 by omega]
  by_cases h2 : k < 16
  · simp [h1, h2, hk, show k - 8 < 8 by omega, show k < 64 by omega, show k - 8 < 64 by omega, show k - 8 < 32 by omega, Bool.or_comm]
  · simp [h1, h2, hk, show k - 8 < 64 by omega, show k < 64 by omega, show ¬ k - 8 < 8 by omega, show k - 8 - 8 < 64 by omega, show k - 16 = k - 8 - 8 by omega, show k - 8 - 8 < 32 by omega, BitVec.getLsbD_of_ge a k (by omega), BitVec.getLsbD_of_ge b (k - 8) (by omega)]
theorem low_two (a b : BitVec 8) : (leVal [a, b]).setWidth 16 = a.setWidth 16 ||| (b.setWidth 16 <<< 8) := by
  apply BitVec.eq_of_getLsbD_eq
  intro k hk
  simp only [leVal, BitVec.getLsbD_setWidth, BitVec.getLsbD_or, BitVec.getLsbD_shiftLeft]
  by_cases h1 : k < 8
  · simp [h1, hk, show k < 64 by omega]
  · simp [h1, hk, show k - 8 < 8 by omega, show k < 64 by omega, show k - 8 < 64 by omega, show k - 8 < 16 by omega, Bool.or_comm]
set_option maxHeartbeats 1000000 in
theorem net_Decode_s (k1 : BitVec 64) (k2 : Int) (k3 k4 k5 : BitVec 64) (iv : BitVec 32) (B : Option Addr) (n d : Nat) (w : World) (hl : n < 14) :
    Calls Try.prog 34 #[.agg #[.int .u64 (W64 k1), .int .i64 k2, .int .u64 (W64 k3), .int .u64 (W64 k4), .int .u64 (W64 k5)], .int .u32 (W32 iv), .slice B n d] w (RetN w (np0, 3)) := by
  have i0 : decide ((n : Int) < 14) = true := by simp; omega
  clear hl
  go_enter Try.func34, Try.ntmps34
  go_wp2_with (first | (with_reducible refine stop_store ?_) | (with_reducible refine stop_box ?_) | (with_reducible refine stop_alloc ?_) | (with_reducible refine stop_bslice ?_))
  unfold Kept
  refine go_mem (ty := 25) (cs := #[.int .u64 (W64 k1), .int .i64 k2, .int .u64 (W64 k3), .int .u64 (W64 k4), .int .u64 (W64 k5)]) (fun g => .pointer (some ⟨g, 0, none⟩)) rfl (by kernel_rfl) ?_
  intro g_1 w_2 z_6 l_5 hb_3 G_4
  have n_7 : w.heap.size ≤ g_1 := l_5
  have hB := hb_3
  clear hb_3 l_5 z_6
  go_wp2_with (first | (with_reducible refine stop_store ?_) | (with_reducible refine stop_box ?_) | (with_reducible refine stop_alloc ?_) | (with_reducible refine stop_bslice ?_))
  unfold Kept
  refine go_mem (ty := 44) (cs := #[.int .u32 0, .int .i64 0, .bool false, .int .i64 0, .int .u32 0, .int .u16 0, .int .u16 0, .slice none 0 0]) (fun g => .pointer (some ⟨g, 0, none⟩)) rfl (by kernel_rfl) ?_
  intro g_8 w_9 z_13 l_12 hb_10 G_11
  have n_14 : g_1 < g_8 := Nat.lt_of_lt_of_le G_4.lt l_12
  have n_15 : w.heap.size ≤ g_8 := Nat.le_trans hB.size l_12
  replace G_4 := G_4.to hb_10 G_4.lt
  replace hB := hB.trans (hb_10.mono hB.size)
  clear hb_10 l_12 z_13
  go_wp2_with (first | (with_reducible refine stop_store ?_) | (with_reducible refine stop_box ?_) | (with_reducible refine stop_alloc ?_) | (with_reducible refine stop_bslice ?_))
  unfold Kept
  refine wpList_st 0 #[.int .u32 0, .int .i64 0, .bool false, .int .i64 0, .int .u32 0, .int .u16 0, .int .u16 0, .slice none 0 0] #[.int .u32 0, .int .i64 0, .bool false, .int .i64 0, .int .u32 0, .int .u16 0, .int .u16 0, .slice none 0 0] G_11 rfl rfl (by kernel_rfl) rfl (of_decide_eq_true rfl) rfl ?_
  intro w_16 G_18 hU_17
  replace G_4 := hU_17.blk G_4 (by omega)
  replace hB := hU_17.below hB (by omega)
  clear G_11 hU_17
  go_wp2_with (first | (with_reducible refine stop_store ?_) | (with_reducible refine stop_box ?_) | (with_reducible refine stop_alloc ?_) | (with_reducible refine stop_bslice ?_))
  refine bodyPost_ret (results_ct rfl rfl (load_blk G_18 Try.underlying44 rfl (by kernel_rfl))) rfl ?_
  exact ⟨none, 0, rfl, bcell_nil _, Nat.le_refl _, hB⟩
set_option maxHeartbeats 1000000 in
theorem net_Decode_l (k1 : BitVec 64) (k2 : Int) (k3 k4 k5 : BitVec 64) (iv : BitVec 32) (B : Option Addr) (n d : Nat) (w : World) (hl : 29 < n) :
    Calls Try.prog 34 #[.agg #[.int .u64 (W64 k1), .int .i64 k2, .int .u64 (W64 k3), .int .u64 (W64 k4), .int .u64 (W64 k5)], .int .u32 (W32 iv), .slice B n d] w (RetN w (np0, 4)) := by
  have i0 : decide ((n : Int) < 14) = false := by simp; omega
  have i1 : decide ((29 : Int) < (n : Int)) = true := by simp; omega
  clear hl
  go_enter Try.func34, Try.ntmps34
  go_wp2_with (first | (with_reducible refine stop_store ?_) | (with_reducible refine stop_box ?_) | (with_reducible refine stop_alloc ?_) | (with_reducible refine stop_bslice ?_))
  unfold Kept
  refine go_mem (ty := 25) (cs := #[.int .u64 (W64 k1), .int .i64 k2, .int .u64 (W64 k3), .int .u64 (W64 k4), .int .u64 (W64 k5)]) (fun g => .pointer (some ⟨g, 0, none⟩)) rfl (by kernel_rfl) ?_
  intro g_1 w_2 z_6 l_5 hb_3 G_4
  have n_7 : w.heap.size ≤ g_1 := l_5
  have hB := hb_3
  clear hb_3 l_5 z_6
  go_wp2_with (first | (with_reducible refine stop_store ?_) | (with_reducible refine stop_box ?_) | (with_reducible refine stop_alloc ?_) | (with_reducible refine stop_bslice ?_))
  unfold Kept
  refine go_mem (ty := 44) (cs := #[.int .u32 0, .int .i64 0, .bool false, .int .i64 0, .int .u32 0, .int .u16 0, .int .u16 0, .slice none 0 0]) (fun g => .pointer (some ⟨g, 0, none⟩)) rfl (by kernel_rfl) ?_
  intro g_8 w_9 z_13 l_12 hb_10 G_11
  have n_14 : g_1 < g_8 := Nat.lt_of_lt_of_le G_4.lt l_12
  have n_15 : w.heap.size ≤ g_8 := Nat.le_trans hB.size l_12
  replace G_4 := G_4.to hb_10 G_4.lt
  replace hB := hB.trans (hb_10.mono hB.size)
  clear hb_10 l_12 z_13
  go_wp2_with (first | (with_reducible refine stop_store ?_) | (with_reducible refine stop_box ?_) | (with_reducible refine stop_alloc ?_) | (with_reducible refine stop_bslice ?_))
  unfold Kept
  refine wpList_st 0 #[.int .u32 0, .int .i64 0, .bool false, .int .i64 0, .int .u32 0, .int .u16 0, .int .u16 0, .slice none 0 0] #[.int .u32 0, .int .i64 0, .bool false, .int .i64 0, .int .u32 0, .int .u16 0, .int .u16 0, .slice none 0 0] G_11 rfl rfl (by kernel_rfl) rfl (of_decide_eq_true rfl) rfl ?_
  intro w_16 G_18 hU_17
  replace G_4 := hU_17.blk G_4 (by omega)
  replace hB := hU_17.below hB (by omega)
  clear G_11 hU_17
  go_wp2_with (first | (with_reducible refine stop_store ?_) | (with_reducible refine stop_box ?_) | (with_reducible refine stop_alloc ?_) | (with_reducible refine stop_bslice ?_))
  refine bodyPost_ret (results_ct rfl rfl (load_blk G_18 Try.underlying44 rfl (by kernel_rfl))) rfl ?_
  exact ⟨none, 0, rfl, bcell_nil _, Nat.le_refl _, hB⟩
set_option maxHeartbeats 2000000 in
theorem net_Decode_h1 (k1 : BitVec 64) (k2 : Int) (k3 k4 k5 : BitVec 64) (nd : Int) (iv : BitVec 32) (pb po n d : Nat) (b0 x0 x1 x2 x3 x4 x5 : BitVec 8) (sd : List (BitVec 8)) (w : World) (RB0 : Rg pb po [.int .u8 (W8 b0)] w) (RX0 : Rg pb (po + 1) [.int .u8 (W8 x0), .int .u8 (W8 x1), .int .u8 (W8 x2), .int .u8 (W8 x3), .int .u8 (W8 x4), .int .u8 (W8 x5)] w) (hs0 : RdB w (some ⟨pb, po + 7, none⟩) sd) (hr0 : RdB w (some ⟨pb, po + 1, none⟩) [x0, x1, x2, x3, x4, x5]) (hn : sd.length + 7 = n) (hd : n ≤ d) (h14 : 14 ≤ n) (h29 : n ≤ 29) (hnd : W8 (b0 &&& 127#8) = nd) (hne : nd ≠ k2) :
    Calls Try.prog 34 #[.agg #[.int .u64 (W64 k1), .int .i64 k2, .int .u64 (W64 k3), .int .u64 (W64 k4), .int .u64 (W64 k5)], .int .u32 (W32 iv), .slice (some ⟨pb, po, none⟩) n d] w (RetN w (np0, 17)) := by
  have RB := Lib.hid (fun W (hB : Below w.heap.size w W) => (Rg.to RB0 hB).2)
  have RX := Lib.hid (fun W (hB : Below w.heap.size w W) => (Rg.to RX0 hB).2)
  have i0 : decide ((n : Int) < 14) = false := by simp; omega
  have i1 : decide ((29 : Int) < (n : Int)) = false := by simp; omega
  obtain ⟨bt, hbt⟩ : ∃ x, W8 (b0 >>> 7) = x := ⟨_, rfl⟩
  have CHn := Lib.hid (fun W (hB : Below w.heap.size w W) => show Calls Try.prog 36 #[.slice (some ⟨pb, po, none⟩) n d] W fun e w' => e = .returned (.tuple #[.int .i64 bt, .int .i64 nd, .int .i64 0]) ∧ Below W.heap.size W w' from by have := net_Hint_f pb po n d b0 W (Rg.to RB0 hB) (by omega); rw [hbt, hnd] at this; exact this)
  have e0 : ((nd : Int) != k2) = true := by simpa using hne
  clear RB0 RX0 hs0 hr0 hn hd h14 h29 hnd hne hbt
  go_enter Try.func34, Try.ntmps34
  go_wp2_with (first | (with_reducible refine stop_store ?_) | (with_reducible refine stop_box ?_) | (with_reducible refine stop_alloc ?_) | (with_reducible refine stop_bslice ?_))
  unfold Kept
  refine go_mem (ty := 25) (cs := #[.int .u64 (W64 k1), .int .i64 k2, .int .u64 (W64 k3), .int .u64 (W64 k4), .int .u64 (W64 k5)]) (fun g => .pointer (some ⟨g, 0, none⟩)) rfl (by kernel_rfl) ?_
  intro g_1 w_2 z_6 l_5 hb_3 G_4
  have n_7 : w.heap.size ≤ g_1 := l_5
  have hB := hb_3
  clear hb_3 l_5 z_6
  go_wp2_with (first | (with_reducible refine stop_store ?_) | (with_reducible refine stop_box ?_) | (with_reducible refine stop_alloc ?_) | (with_reducible refine stop_bslice ?_))
  unfold Kept
  refine go_mem (ty := 44) (cs := #[.int .u32 0, .int .i64 0, .bool false, .int .i64 0, .int .u32 0, .int .u16 0, .int .u16 0, .slice none 0 0]) (fun g => .pointer (some ⟨g, 0, none⟩)) rfl (by kernel_rfl) ?_
  intro g_8 w_9 z_13 l_12 hb_10 G_11
  have n_14 : g_1 < g_8 := Nat.lt_of_lt_of_le G_4.lt l_12
  have n_15 : w.heap.size ≤ g_8 := Nat.le_trans hB.size l_12
  replace G_4 := G_4.to hb_10 G_4.lt
  replace hB := hB.trans (hb_10.mono hB.size)
  clear hb_10 l_12 z_13
  go_wp2_with (first | (with_reducible refine stop_store ?_) | (with_reducible refine stop_box ?_) | (with_reducible refine stop_alloc ?_) | (with_reducible refine stop_bslice ?_))
  refine (CHn.out _ hB).mono ?_; rintro e w_16 ⟨rfl, hb_17⟩
  replace G_4 := G_4.to hb_17 G_4.lt
  replace G_11 := G_11.to hb_17 G_11.lt
  replace hB := hB.trans (hb_17.mono hB.size)
  clear hb_17
  have ld_18 : w_16.cell? ⟨g_1, 1, none⟩ = some (.int .i64 k2) := G_4.cell 1
  go_wp2_with (first | (with_reducible refine stop_store ?_) | (with_reducible refine stop_box ?_) | (with_reducible refine stop_alloc ?_) | (with_reducible refine stop_bslice ?_))
  unfold Kept
  refine wpList_st 0 #[.int .u32 0, .int .i64 0, .bool false, .int .i64 0, .int .u32 0, .int .u16 0, .int .u16 0, .slice none 0 0] #[.int .u32 0, .int .i64 0, .bool false, .int .i64 0, .int .u32 0, .int .u16 0, .int .u16 0, .slice none 0 0] G_11 rfl rfl (by kernel_rfl) rfl (of_decide_eq_true rfl) rfl ?_
  intro w_19 G_21 hU_20
  clear ld_18
  replace G_4 := hU_20.blk G_4 (by omega)
  replace hB := hU_20.below hB (by omega)
  clear G_11 hU_20
  go_wp2_with (first | (with_reducible refine stop_store ?_) | (with_reducible refine stop_box ?_) | (with_reducible refine stop_alloc ?_) | (with_reducible refine stop_bslice ?_))
  refine bodyPost_ret (results_ct rfl rfl (load_blk G_21 Try.underlying44 rfl (by kernel_rfl))) rfl ?_
  exact ⟨none, 0, rfl, bcell_nil _, Nat.le_refl _, hB⟩
set_option maxHeartbeats 2000000 in
theorem net_Decode_h2 (k1 : BitVec 64) (k3 k4 k5 : BitVec 64) (nd : Int) (iv : BitVec 32) (pb po n d : Nat) (b0 x0 x1 x2 x3 x4 x5 : BitVec 8) (sd : List (BitVec 8)) (w : World) (RB0 : Rg pb po [.int .u8 (W8 b0)] w) (RX0 : Rg pb (po + 1) [.int .u8 (W8 x0), .int .u8 (W8 x1), .int .u8 (W8 x2), .int .u8 (W8 x3), .int .u8 (W8 x4), .int .u8 (W8 x5)] w) (hs0 : RdB w (some ⟨pb, po + 7, none⟩) sd) (hr0 : RdB w (some ⟨pb, po + 1, none⟩) [x0, x1, x2, x3, x4, x5]) (hn : sd.length + 7 = n) (hd : n ≤ d) (h14 : 14 ≤ n) (h29 : n ≤ 29) (hnd : W8 (b0 &&& 127#8) = nd) (hne : W8 (b0 >>> 7) ≠ W32 (iv &&& 1#32)) :
    Calls Try.prog 34 #[.agg #[.int .u64 (W64 k1), .int .i64 nd, .int .u64 (W64 k3), .int .u64 (W64 k4), .int .u64 (W64 k5)], .int .u32 (W32 iv), .slice (some ⟨pb, po, none⟩) n d] w (RetN w (np0, 17)) := by
  have RB := Lib.hid (fun W (hB : Below w.heap.size w W) => (Rg.to RB0 hB).2)
  have RX := Lib.hid (fun W (hB : Below w.heap.size w W) => (Rg.to RX0 hB).2)
  have i0 : decide ((n : Int) < 14) = false := by simp; omega
  have i1 : decide ((29 : Int) < (n : Int)) = false := by simp; omega
  obtain ⟨bt, hbt⟩ : ∃ x, W8 (b0 >>> 7) = x := ⟨_, rfl⟩
  have CHn := Lib.hid (fun W (hB : Below w.heap.size w W) => show Calls Try.prog 36 #[.slice (some ⟨pb, po, none⟩) n d] W fun e w' => e = .returned (.tuple #[.int .i64 bt, .int .i64 nd, .int .i64 0]) ∧ Below W.heap.size W w' from by have := net_Hint_f pb po n d b0 W (Rg.to RB0 hB) (by omega); rw [hbt, hnd] at this; exact this)
  obtain ⟨bi, hbi⟩ : ∃ x, W32 (iv &&& 1#32) = x := ⟨_, rfl⟩
  have bb1 : 0 ≤ bi := by rw [← hbi]; exact (W32_bd _).1
  have bb2 : bi ≤ 4294967295 := by rw [← hbi]; exact (W32_bd _).2
  have e0 : ((bt : Int) != bi) = true := by rw [← hbt, ← hbi]; simpa using hne
  clear RB0 RX0 hs0 hr0 hn hd h14 h29 hnd hne hbt
  go_enter Try.func34, Try.ntmps34
  go_wp2_with (first | (with_reducible refine stop_store ?_) | (with_reducible refine stop_box ?_) | (with_reducible refine stop_alloc ?_) | (with_reducible refine stop_bslice ?_))
  unfold Kept
  refine go_mem (ty := 25) (cs := #[.int .u64 (W64 k1), .int .i64 nd, .int .u64 (W64 k3), .int .u64 (W64 k4), .int .u64 (W64 k5)]) (fun g => .pointer (some ⟨g, 0, none⟩)) rfl (by kernel_rfl) ?_
  intro g_1 w_2 z_6 l_5 hb_3 G_4
  have n_7 : w.heap.size ≤ g_1 := l_5
  have hB := hb_3
  clear hb_3 l_5 z_6
  go_wp2_with (first | (with_reducible refine stop_store ?_) | (with_reducible refine stop_box ?_) | (with_reducible refine stop_alloc ?_) | (with_reducible refine stop_bslice ?_))
  unfold Kept
  refine go_mem (ty := 44) (cs := #[.int .u32 0, .int .i64 0, .bool false, .int .i64 0, .int .u32 0, .int .u16 0, .int .u16 0, .slice none 0 0]) (fun g => .pointer (some ⟨g, 0, none⟩)) rfl (by kernel_rfl) ?_
  intro g_8 w_9 z_13 l_12 hb_10 G_11
  have n_14 : g_1 < g_8 := Nat.lt_of_lt_of_le G_4.lt l_12
  have n_15 : w.heap.size ≤ g_8 := Nat.le_trans hB.size l_12
  replace G_4 := G_4.to hb_10 G_4.lt
  replace hB := hB.trans (hb_10.mono hB.size)
  clear hb_10 l_12 z_13
  go_wp2_with (first | (with_reducible refine stop_store ?_) | (with_reducible refine stop_box ?_) | (with_reducible refine stop_alloc ?_) | (with_reducible refine stop_bslice ?_))
  refine (CHn.out _ hB).mono ?_; rintro e w_16 ⟨rfl, hb_17⟩
  replace G_4 := G_4.to hb_17 G_4.lt
  replace G_11 := G_11.to hb_17 G_11.lt
  replace hB := hB.trans (hb_17.mono hB.size)
  clear hb_17
  have ld_18 : w_16.cell? ⟨g_1, 1, none⟩ = some (.int .i64 nd) := G_4.cell 1
  go_wp2_with (first | (with_reducible refine stop_store ?_) | (with_reducible refine stop_box ?_) | (with_reducible refine stop_alloc ?_) | (with_reducible refine stop_bslice ?_))
  unfold Kept
  refine wpList_st 0 #[.int .u32 0, .int .i64 0, .bool false, .int .i64 0, .int .u32 0, .int .u16 0, .int .u16 0, .slice none 0 0] #[.int .u32 0, .int .i64 0, .bool false, .int .i64 0, .int .u32 0, .int .u16 0, .int .u16 0, .slice none 0 0] G_11 rfl rfl (by kernel_rfl) rfl (of_decide_eq_true rfl) rfl ?_
  intro w_19 G_21 hU_20
  clear ld_18
  replace G_4 := hU_20.blk G_4 (by omega)
  replace hB := hU_20.below hB (by omega)
  clear G_11 hU_20
  go_wp2_with (first | (with_reducible refine stop_store ?_) | (with_reducible refine stop_box ?_) | (with_reducible refine stop_alloc ?_) | (with_reducible refine stop_bslice ?_))
  refine bodyPost_ret (results_ct rfl rfl (load_blk G_21 Try.underlying44 rfl (by kernel_rfl))) rfl ?_
  exact ⟨none, 0, rfl, bcell_nil _, Nat.le_refl _, hB⟩
set_option maxHeartbeats 8000000 in
theorem net_Decode_e (k1 : BitVec 64) (k3 k4 k5 : BitVec 64) (nd : Int) (iv : BitVec 32) (pb po n d : Nat) (b0 x0 x1 x2 x3 x4 x5 : BitVec 8) (sd : List (BitVec 8)) (o0 o1 o2 o3 o4 o5 : BitVec 8) (fc : Bool) (non : BitVec 64) (pl : List (BitVec 8)) (en : Int) (w : World) (RB0 : Rg pb po [.int .u8 (W8 b0)] w) (RX0 : Rg pb (po + 1) [.int .u8 (W8 x0), .int .u8 (W8 x1), .int .u8 (W8 x2), .int .u8 (W8 x3), .int .u8 (W8 x4), .int .u8 (W8 x5)] w) (hs0 : RdB w (some ⟨pb, po + 7, none⟩) sd) (hr0 : RdB w (some ⟨pb, po + 1, none⟩) [x0, x1, x2, x3, x4, x5]) (hn : sd.length + 7 = n) (hd : n ≤ d) (h14 : 14 ≤ n) (h29 : n ≤ 29) (hnd : W8 (b0 &&& 127#8) = nd) (hbi : W8 (b0 >>> 7) = W32 (iv &&& 1#32)) (hop : xorB [x0, x1, x2, x3, x4, x5] (maskL ⟨k1, nd, k3, k4, k5⟩ iv sd) = [o0, o1, o2, o3, o4, o5]) (hfc : (o0 &&& 128#8 != 0#8) = fc) (hnon : nonceK 0 ((BitVec.setWidth 16 o4) ||| ((BitVec.setWidth 16 o5) <<< 8)) (((BitVec.setWidth 32 o1) ||| ((BitVec.setWidth 32 o2) <<< 8)) ||| ((BitVec.setWidth 32 o3) <<< 16)) iv = non) (hres : openB k3 non [o0] sd = (pl, en)) (hen : en ≠ 0) :
    Calls Try.prog 34 #[.agg #[.int .u64 (W64 k1), .int .i64 nd, .int .u64 (W64 k3), .int .u64 (W64 k4), .int .u64 (W64 k5)], .int .u32 (W32 iv), .slice (some ⟨pb, po, none⟩) n d] w (RetN w (np0, en)) := by
  have RB := Lib.hid (fun W (hB : Below w.heap.size w W) => (Rg.to RB0 hB).2)
  have RX := Lib.hid (fun W (hB : Below w.heap.size w W) => (Rg.to RX0 hB).2)
  have i0 : decide ((n : Int) < 14) = false := by simp; omega
  have i1 : decide ((29 : Int) < (n : Int)) = false := by simp; omega
  obtain ⟨n7, hn7⟩ : ∃ x, n - 7 = x := ⟨_, rfl⟩
  have hsn : sd.length = n - 7 := by omega
  have CN := Lib.hid (fun W => show Calls Try.prog 17 #[.int .i64 0, .int .u16 (W16 ((BitVec.setWidth 16 o4) ||| ((BitVec.setWidth 16 o5) <<< 8))), .int .u32 (W32 (((BitVec.setWidth 32 o1) ||| ((BitVec.setWidth 32 o2) <<< 8)) ||| ((BitVec.setWidth 32 o3) <<< 16))), .int .u32 (W32 iv)] W fun e w' => e = .returned (.int .u64 (W64 non)) ∧ Below W.heap.size W w' from by have := mesh_Nonce 0 ((BitVec.setWidth 16 o4) ||| ((BitVec.setWidth 16 o5) <<< 8)) (((BitVec.setWidth 32 o1) ||| ((BitVec.setWidth 32 o2) <<< 8)) ||| ((BitVec.setWidth 32 o3) <<< 16)) iv W; rw [hnon] at this; exact this)
  obtain ⟨bt, hbt⟩ : ∃ x, W8 (b0 >>> 7) = x := ⟨_, rfl⟩
  have CHn := Lib.hid (fun W (hB : Below w.heap.size w W) => show Calls Try.prog 36 #[.slice (some ⟨pb, po, none⟩) n d] W fun e w' => e = .returned (.tuple #[.int .i64 bt, .int .i64 nd, .int .i64 0]) ∧ Below W.heap.size W w' from by have := net_Hint_f pb po n d b0 W (Rg.to RB0 hB) (by omega); rw [hbt, hnd] at this; exact this)
  obtain ⟨m0, m1, m2, m3, m4, m5, hmk⟩ := list6 (maskL_length ⟨k1, nd, k3, k4, k5⟩ iv sd)
  rw [hmk] at hop
  have hx : [x0 ^^^ m0, x1 ^^^ m1, x2 ^^^ m2, x3 ^^^ m3, x4 ^^^ m4, x5 ^^^ m5] = [o0, o1, o2, o3, o4, o5] := hop
  simp only [List.cons.injEq, and_true] at hx
  obtain ⟨e0, e1, e2, e3, e4, e5⟩ := hx
  have CM := Lib.hid (fun W (hB : Below w.heap.size w W) => show Calls Try.prog 54 #[.agg #[.int .u64 (W64 k1), .int .i64 nd, .int .u64 (W64 k3), .int .u64 (W64 k4), .int .u64 (W64 k5)], .int .u32 (W32 iv), .slice (some ⟨pb, po + 7, none⟩) (n - 7) (d - 7)] W fun e w' => e = .returned (.agg #[.int .u8 (W8 m0), .int .u8 (W8 m1), .int .u8 (W8 m2), .int .u8 (W8 m3), .int .u8 (W8 m4), .int .u8 (W8 m5)]) ∧ Below W.heap.size W w' from by have := net_mask_f k1 nd k3 k4 k5 iv (some ⟨pb, po + 7, none⟩) (n - 7) (d - 7) sd W (Rd.to hs0 hB) hsn (by omega) (by omega) (by omega); rw [hmk] at this; exact this)
  have CX := Lib.hid (fun W => show Calls Try.prog 53 #[.agg #[.int .u8 (W8 x0), .int .u8 (W8 x1), .int .u8 (W8 x2), .int .u8 (W8 x3), .int .u8 (W8 x4), .int .u8 (W8 x5)], .agg #[.int .u8 (W8 m0), .int .u8 (W8 m1), .int .u8 (W8 m2), .int .u8 (W8 m3), .int .u8 (W8 m4), .int .u8 (W8 m5)]] W fun e w' => e = .returned (.agg #[.int .u8 (W8 o0), .int .u8 (W8 o1), .int .u8 (W8 o2), .int .u8 (W8 o3), .int .u8 (W8 o4), .int .u8 (W8 o5)]) ∧ Below W.heap.size W w' from by have := net_xor_f x0 x1 x2 x3 x4 x5 m0 m1 m2 m3 m4 m5 W; rw [e0, e1, e2, e3, e4, e5] at this; exact this)
  have ef : ((W8 (o0 &&& 128#8) : Int) != 0) = fc := by have this : (W8 (o0 &&& 128#8) != W8 0#8) = fc := (by rw [W8_bne]; exact hfc); exact this
  have ebi : W32 (iv &&& 1#32) = bt := by rw [← hbi, hbt]
  have bb1 : 0 ≤ bt := by rw [← hbt]; exact (W8_bd _).1
  have bb2 : bt ≤ 255 := by rw [← hbt]; exact (W8_bd _).2
  clear e0 e1 e2 e3 e4 e5 hmk hop hbt
  have y3 : IntKind.i64.wrap (W8 (o0 &&& 127#8)) = W8 (o0 &&& 127#8) := IntWalk.i64_in _ (by have := W8_bd (o0 &&& 127#8); omega)
  have q7 : ¬ d = 7 := by omega
  have q1 : ¬ d = 1 := by omega
  have q8 : (7 : Int) ≤ (d : Int) := by omega
  have q9 : (7 : Int) ≤ (n : Int) := by omega
  have CO := Lib.hid (fun W g (hh : RdB W (some ⟨g, 0, none⟩) [o0]) (hB : Below w.heap.size w W) => show Calls Try.prog 49 #[.int .u64 (W64 k3), .int .u64 (W64 non), .slice (some ⟨g, 0, none⟩) 1 6, .slice (some ⟨pb, po + 7, none⟩) (n - 7) (d - 7)] W fun e w' => ∃ A c, e = .returned (.tuple #[.slice A pl.length c, .int .i64 en]) ∧ Below W.heap.size W w' from by
    have := mac_Open k3 non (some ⟨g, 0, none⟩) (some ⟨pb, po + 7, none⟩) 6 (d - 7) [o0] sd W hh (Rd.to hs0 hB) (by simp) (by omega) (by omega)
    rw [hsn, hres] at this
    obtain ⟨hh2⟩ : Nonempty True := ⟨trivial⟩
    exact this.mono fun e w' ⟨A, c, he, _, _, hb⟩ => ⟨A, c, he, hb⟩)
  have e9 : ((en : Int) != 0) = true := by simpa using hen
  have e8 : ((en : Int) == 0) = false := by simpa using hen
  clear RB0 RX0 hnon hfc hbi hnd hn7
  clear hres hen
  go_enter Try.func34, Try.ntmps34
  have hB := Below.refl w.heap.size w
  go_wp2_with (first | (with_reducible refine stop_store ?_) | (with_reducible refine stop_box ?_) | (with_reducible refine stop_alloc ?_) | (with_reducible refine stop_bslice ?_) | (with_reducible refine stop_append ?_))
  unfold Kept
  refine go_mem (ty := 25) (cs := #[.int .u64 (W64 k1), .int .i64 nd, .int .u64 (W64 k3), .int .u64 (W64 k4), .int .u64 (W64 k5)]) (fun g => .pointer (some ⟨g, 0, none⟩)) rfl (by kernel_rfl) ?_
  intro g_1 w_2 z_6 l_5 hb_3 G_4
  have n_7 : w.heap.size ≤ g_1 := Nat.le_trans hB.size l_5
  replace hB := hB.trans (hb_3.mono hB.size)
  clear hb_3 l_5 z_6
  go_wp2_with (first | (with_reducible refine stop_store ?_) | (with_reducible refine stop_box ?_) | (with_reducible refine stop_alloc ?_) | (with_reducible refine stop_bslice ?_) | (with_reducible refine stop_append ?_))
  unfold Kept
  refine go_mem (ty := 44) (cs := #[.int .u32 0, .int .i64 0, .bool false, .int .i64 0, .int .u32 0, .int .u16 0, .int .u16 0, .slice none 0 0]) (fun g => .pointer (some ⟨g, 0, none⟩)) rfl (by kernel_rfl) ?_
  intro g_8 w_9 z_13 l_12 hb_10 G_11
  have n_14 : g_1 < g_8 := Nat.lt_of_lt_of_le G_4.lt l_12
  have n_15 : w.heap.size ≤ g_8 := Nat.le_trans hB.size l_12
  replace G_4 := G_4.to hb_10 G_4.lt
  replace hB := hB.trans (hb_10.mono hB.size)
  clear hb_10 l_12 z_13
  go_wp2_with (first | (with_reducible refine stop_store ?_) | (with_reducible refine stop_box ?_) | (with_reducible refine stop_alloc ?_) | (with_reducible refine stop_bslice ?_) | (with_reducible refine stop_append ?_))
  refine (CHn.out _ hB).mono ?_; rintro e w_16 ⟨rfl, hb_17⟩
  replace G_4 := G_4.to hb_17 G_4.lt
  replace G_11 := G_11.to hb_17 G_11.lt
  replace hB := hB.trans (hb_17.mono hB.size)
  clear hb_17
  have ld_18 : w_16.cell? ⟨g_1, 1, none⟩ = some (.int .i64 nd) := G_4.cell 1
  go_wp2_with (first | (with_reducible refine stop_store ?_) | (with_reducible refine stop_box ?_) | (with_reducible refine stop_alloc ?_) | (with_reducible refine stop_bslice ?_) | (with_reducible refine stop_append ?_))
  clear ld_18
  try simp only [Act.put, List.setIfInBounds_toArray, List.set_cons_zero, List.set_cons_succ]
  have hst : Stable fun W => Below w.heap.size w W ∧ Blk W g_1 25 #[.int .u64 (W64 k1), .int .i64 nd, .int .u64 (W64 k3), .int .u64 (W64 k4), .int .u64 (W64 k5)] ∧ Blk W g_8 44 #[.int .u32 0, .int .i64 0, .bool false, .int .i64 0, .int .u32 0, .int .u16 0, .int .u16 0, .slice none 0 0] := stable_and (stable_below _ _ (Nat.le_refl _)) (stable_and (stable_blk _ _ _) (stable_blk _ _ _))
  refine wp_region_hh (fun W => Below w.heap.size w W ∧ Blk W g_1 25 #[.int .u64 (W64 k1), .int .i64 nd, .int .u64 (W64 k3), .int .u64 (W64 k4), .int .u64 (W64 k5)] ∧ Blk W g_8 44 #[.int .u32 0, .int .i64 0, .bool false, .int .i64 0, .int .u32 0, .int .u16 0, .int .u16 0, .slice none 0 0]) 10 hst ⟨hB.drew, G_4, G_11⟩ ⟨by kernel_rfl, by kernel_rfl, by kernel_rfl, by decide⟩ (fun hR => ?_)
  clear hB G_4 G_11
  refine wpH_take (v := ?_) 0 hR hst rfl ?_ ?_; rotate_left; (intro W hS K hK; clear hS; go_simp; exact hK.out _ (Below.refl _ _)); simp only [Act.put, List.setIfInBounds_toArray, List.set_cons_zero, List.set_cons_succ]
  refine wpH_take (v := ?_) 1 hR hst rfl ?_ ?_; rotate_left; (intro W hS K hK; clear hS; go_simp; exact hK.out _ (Below.refl _ _)); simp only [Act.put, List.setIfInBounds_toArray, List.set_cons_zero, List.set_cons_succ]
  refine wpH_take (v := ?_) 2 hR hst rfl ?_ ?_; rotate_left; (intro W hS K hK; clear hS; go_simp; exact hK.out _ (Below.refl _ _)); simp only [Act.put, List.setIfInBounds_toArray, List.set_cons_zero, List.set_cons_succ]
  refine wpH_take (v := .agg #[.int .u8 (W8 x0), .int .u8 (W8 x1), .int .u8 (W8 x2), .int .u8 (W8 x3), .int .u8 (W8 x4), .int .u8 (W8 x5)]) 3 hR hst rfl (fun W hS K hK => calm_load rfl rfl (run_loadVar_mid W pb (po + 1) 73 [.int .u8 (W8 x0), .int .u8 (W8 x1), .int .u8 (W8 x2), .int .u8 (W8 x3), .int .u8 (W8 x4), .int .u8 (W8 x5)] _ (range_part (RX.out _ hS.1) 0 [.int .u8 (W8 x0), .int .u8 (W8 x1), .int .u8 (W8 x2), .int .u8 (W8 x3), .int .u8 (W8 x4), .int .u8 (W8 x5)] rfl) Try.underlying73 rfl (by kernel_rfl)) (hK.out _ (Below.refl _ _))) ?_; simp only [Act.put, List.setIfInBounds_toArray, List.set_cons_zero, List.set_cons_succ]
  refine wpH_take (v := .agg #[.int .u64 (W64 k1), .int .i64 nd, .int .u64 (W64 k3), .int .u64 (W64 k4), .int .u64 (W64 k5)]) 4 hR hst rfl (fun W hS K hK => calm_load rfl rfl (load_part hS.2.1 0 [.int .u64 (W64 k1), .int .i64 nd, .int .u64 (W64 k3), .int .u64 (W64 k4), .int .u64 (W64 k5)] rfl Try.underlying25 rfl (by kernel_rfl)) (hK.out _ (Below.refl _ _))) ?_; simp only [Act.put, List.setIfInBounds_toArray, List.set_cons_zero, List.set_cons_succ]
  refine wpH_take (v := ?_) 5 hR hst rfl ?_ ?_; rotate_left; (intro W hS K hK; clear hS; go_simp; exact hK.out _ (Below.refl _ _)); simp only [Act.put, List.setIfInBounds_toArray, List.set_cons_zero, List.set_cons_succ]
  refine wpH_take (v := ?_) 6 hR hst rfl ?_ ?_; rotate_left; (intro W hS K hK; clear hS; go_simp; exact hK.out _ (Below.refl _ _)); simp only [Act.put, List.setIfInBounds_toArray, List.set_cons_zero, List.set_cons_succ]
  refine wpH_take (v := .agg #[.int .u8 (W8 m0), .int .u8 (W8 m1), .int .u8 (W8 m2), .int .u8 (W8 m3), .int .u8 (W8 m4), .int .u8 (W8 m5)]) 7 hR hst rfl ?_ ?_; (intro W hS K hK; go_simp; refine (CM.out _ hS.1).mono ?_; rintro e w9 ⟨rfl, hb⟩; refine CallPost.mk ?_; exact hK.out _ (hb)); simp only [Act.put, List.setIfInBounds_toArray, List.set_cons_zero, List.set_cons_succ]
  refine wpH_take (v := .agg #[.int .u8 (W8 o0), .int .u8 (W8 o1), .int .u8 (W8 o2), .int .u8 (W8 o3), .int .u8 (W8 o4), .int .u8 (W8 o5)]) 8 hR hst rfl ?_ ?_; (intro W hS K hK; clear hS; go_simp; refine (CX.out _).mono ?_; rintro e w9 ⟨rfl, hb⟩; refine CallPost.mk ?_; exact hK.out _ (hb)); simp only [Act.put, List.setIfInBounds_toArray, List.set_cons_zero, List.set_cons_succ]
  refine wpH_new 9 hst rfl ?_; intro W hS K hK
  have l9_9_g_1 : g_1 < W.heap.size := hS.2.1.lt
  have l9_9_g_8 : g_8 < W.heap.size := hS.2.2.lt
  have n9_9a : w.heap.size ≤ W.heap.size := hS.1.size
  clear hS
  go_simp
  refine hK.out (fun W' => Blk W' W.heap.size 73 #[.int .u8 0, .int .u8 0, .int .u8 0, .int .u8 0, .int .u8 0, .int .u8 0]) _ _ (stable_blk _ _ _) ((Below.refl _ _).alloc (Nat.le_refl _) _) (Blk.new _ _ _) (fun hst => ?_)
  clear hK K
  try simp only [Act.put, List.setIfInBounds_toArray, List.set_cons_zero, List.set_cons_succ]
  generalize W.heap.size = g9_9 at hst l9_9_g_1 l9_9_g_8 n9_9a ⊢
  clear W
  refine wpH_done (fun w_19 hS => ?_)
  obtain ⟨⟨hB, G_4, G_11⟩, G9_9⟩ := hS
  clear hst
  dsimp only [List.drop]
  go_wp2_with (first | (with_reducible refine stop_store ?_) | (with_reducible refine stop_box ?_) | (with_reducible refine stop_alloc ?_) | (with_reducible refine stop_bslice ?_) | (with_reducible refine stop_append ?_))
  unfold Kept
  refine wpList_st 0 #[.int .u8 (W8 o0), .int .u8 (W8 o1), .int .u8 (W8 o2), .int .u8 (W8 o3), .int .u8 (W8 o4), .int .u8 (W8 o5)] #[.int .u8 (W8 o0), .int .u8 (W8 o1), .int .u8 (W8 o2), .int .u8 (W8 o3), .int .u8 (W8 o4), .int .u8 (W8 o5)] G9_9 rfl rfl (by kernel_rfl) rfl (of_decide_eq_true rfl) rfl ?_
  intro w_20 G_22 hU_21
  replace G_4 := hU_21.blk G_4 (by omega)
  replace G_11 := hU_21.blk G_11 (by omega)
  replace hB := hU_21.below hB (by omega)
  clear G9_9 hU_21
  have ld_23 : w_20.cell? ⟨g_1, 1, none⟩ = some (.int .i64 nd) := G_4.cell 1
  have ld_24 : w_20.cell? ⟨g9_9, 0, none⟩ = some (.int .u8 (W8 o0)) := G_22.cell 0
  go_wp2_with (first | (with_reducible refine stop_store ?_) | (with_reducible refine stop_box ?_) | (with_reducible refine stop_alloc ?_) | (with_reducible refine stop_bslice ?_) | (with_reducible refine stop_append ?_))
  unfold Kept
  refine go_mem (ty := 44) (cs := #[.int .u32 0, .int .i64 0, .bool false, .int .i64 0, .int .u32 0, .int .u16 0, .int .u16 0, .slice none 0 0]) (fun g => .pointer (some ⟨g, 0, none⟩)) rfl (by kernel_rfl) ?_
  intro g_25 w_26 z_30 l_29 hb_27 G_28
  clear ld_23 ld_24
  have n_31 : g9_9 < g_25 := Nat.lt_of_lt_of_le G_22.lt l_29
  have n_32 : w.heap.size ≤ g_25 := Nat.le_trans hB.size l_29
  replace G_4 := G_4.to hb_27 G_4.lt
  replace G_11 := G_11.to hb_27 G_11.lt
  replace G_22 := G_22.to hb_27 G_22.lt
  replace hB := hB.trans (hb_27.mono hB.size)
  clear hb_27 l_29 z_30
  go_wp2_with (first | (with_reducible refine stop_store ?_) | (with_reducible refine stop_box ?_) | (with_reducible refine stop_alloc ?_) | (with_reducible refine stop_bslice ?_) | (with_reducible refine stop_append ?_))
  unfold Kept
  refine wpList_st 0 #[.int .u32 (W32 iv), .int .i64 nd, .bool fc, .int .i64 (W8 (o0 &&& 127#8)), .int .u32 0, .int .u16 0, .int .u16 0, .slice none 0 0] #[.int .u32 (W32 iv), .int .i64 nd, .bool fc, .int .i64 (W8 (o0 &&& 127#8)), .int .u32 0, .int .u16 0, .int .u16 0, .slice none 0 0] G_28 rfl rfl (by kernel_rfl) rfl (of_decide_eq_true rfl) rfl ?_
  intro w_33 G_35 hU_34
  replace G_4 := hU_34.blk G_4 (by omega)
  replace G_11 := hU_34.blk G_11 (by omega)
  replace G_22 := hU_34.blk G_22 (by omega)
  replace hB := hU_34.below hB (by omega)
  clear G_28 hU_34
  have ld_36 : w_33.cell? ⟨g9_9, 1, none⟩ = some (.int .u8 (W8 o1)) := G_22.cell 1
  have ld_37 : w_33.cell? ⟨g9_9, 2, none⟩ = some (.int .u8 (W8 o2)) := G_22.cell 2
  have ld_38 : w_33.cell? ⟨g9_9, 3, none⟩ = some (.int .u8 (W8 o3)) := G_22.cell 3
  go_wp2_with (first | (with_reducible refine stop_store ?_) | (with_reducible refine stop_box ?_) | (with_reducible refine stop_alloc ?_) | (with_reducible refine stop_bslice ?_) | (with_reducible refine stop_append ?_))
  unfold Kept
  refine wpList_st1 4 (.int .u32 (W32 (((BitVec.setWidth 32 o1) ||| ((BitVec.setWidth 32 o2) <<< 8)) ||| ((BitVec.setWidth 32 o3) <<< 16)))) #[.int .u32 (W32 iv), .int .i64 nd, .bool fc, .int .i64 (W8 (o0 &&& 127#8)), .int .u32 (W32 (((BitVec.setWidth 32 o1) ||| ((BitVec.setWidth 32 o2) <<< 8)) ||| ((BitVec.setWidth 32 o3) <<< 16))), .int .u16 0, .int .u16 0, .slice none 0 0] G_35 rfl rfl rfl (by kernel_rfl) rfl (of_decide_eq_true rfl) rfl ?_
  intro w_39 G_41 hU_40
  clear ld_36 ld_37 ld_38
  replace G_4 := hU_40.blk G_4 (by omega)
  replace G_11 := hU_40.blk G_11 (by omega)
  replace G_22 := hU_40.blk G_22 (by omega)
  replace hB := hU_40.below hB (by omega)
  clear G_35 hU_40
  have ld_42 : w_39.cell? ⟨g9_9, 4, none⟩ = some (.int .u8 (W8 o4)) := G_22.cell 4
  have ld_43 : w_39.cell? ⟨g9_9, 5, none⟩ = some (.int .u8 (W8 o5)) := G_22.cell 5
  go_wp2_with (first | (with_reducible refine stop_store ?_) | (with_reducible refine stop_box ?_) | (with_reducible refine stop_alloc ?_) | (with_reducible refine stop_bslice ?_) | (with_reducible refine stop_append ?_))
  unfold Kept
  refine wpList_st1 5 (.int .u16 (W16 ((BitVec.setWidth 16 o4) ||| ((BitVec.setWidth 16 o5) <<< 8)))) #[.int .u32 (W32 iv), .int .i64 nd, .bool fc, .int .i64 (W8 (o0 &&& 127#8)), .int .u32 (W32 (((BitVec.setWidth 32 o1) ||| ((BitVec.setWidth 32 o2) <<< 8)) ||| ((BitVec.setWidth 32 o3) <<< 16))), .int .u16 (W16 ((BitVec.setWidth 16 o4) ||| ((BitVec.setWidth 16 o5) <<< 8))), .int .u16 0, .slice none 0 0] G_41 rfl rfl rfl (by kernel_rfl) rfl (of_decide_eq_true rfl) rfl ?_
  intro w_44 G_46 hU_45
  clear ld_42 ld_43
  replace G_4 := hU_45.blk G_4 (by omega)
  replace G_11 := hU_45.blk G_11 (by omega)
  replace G_22 := hU_45.blk G_22 (by omega)
  replace hB := hU_45.below hB (by omega)
  clear G_41 hU_45
  go_wp2_with (first | (with_reducible refine stop_store ?_) | (with_reducible refine stop_box ?_) | (with_reducible refine stop_alloc ?_) | (with_reducible refine stop_bslice ?_) | (with_reducible refine stop_append ?_))
  have hst : Stable fun W => Below w.heap.size w W ∧ Blk W g_1 25 #[.int .u64 (W64 k1), .int .i64 nd, .int .u64 (W64 k3), .int .u64 (W64 k4), .int .u64 (W64 k5)] ∧ Blk W g_8 44 #[.int .u32 0, .int .i64 0, .bool false, .int .i64 0, .int .u32 0, .int .u16 0, .int .u16 0, .slice none 0 0] ∧ Blk W g9_9 73 #[.int .u8 (W8 o0), .int .u8 (W8 o1), .int .u8 (W8 o2), .int .u8 (W8 o3), .int .u8 (W8 o4), .int .u8 (W8 o5)] ∧ Blk W g_25 44 #[.int .u32 (W32 iv), .int .i64 nd, .bool fc, .int .i64 (W8 (o0 &&& 127#8)), .int .u32 (W32 (((BitVec.setWidth 32 o1) ||| ((BitVec.setWidth 32 o2) <<< 8)) ||| ((BitVec.setWidth 32 o3) <<< 16))), .int .u16 (W16 ((BitVec.setWidth 16 o4) ||| ((BitVec.setWidth 16 o5) <<< 8))), .int .u16 0, .slice none 0 0] := stable_and (stable_below _ _ (Nat.le_refl _)) (stable_and (stable_blk _ _ _) (stable_and (stable_blk _ _ _) (stable_and (stable_blk _ _ _) (stable_blk _ _ _))))
  refine wp_region_v _ 16 hst ⟨hB.drew, G_4, G_11, G_22, G_46⟩ ?_
  clear hB G_4 G_11 G_22 G_46
  refine wpU_take (v := ?_) 0 hst (fun _ h => h) rfl ?_ ?_; rotate_left; (intro W hS K hK; clear hS; go_simp; exact hK.out _ (Below.refl _ _)); simp only [Act.put, List.setIfInBounds_toArray, List.set_cons_zero, List.set_cons_succ]
  refine wpU_take (v := ?_) 1 hst (fun _ h => h) rfl ?_ ?_; rotate_left; (intro W hS K hK; have ld : W.cell? ⟨g_1, 2, none⟩ = some (.int .u64 (W64 k3)) := hS.2.1.cell 2; clear hS; go_simp; exact hK.out _ (Below.refl _ _)); simp only [Act.put, List.setIfInBounds_toArray, List.set_cons_zero, List.set_cons_succ]
  refine wpU_take (v := ?_) 2 hst (fun _ h => h) rfl ?_ ?_; rotate_left; (intro W hS K hK; clear hS; go_simp; exact hK.out _ (Below.refl _ _)); simp only [Act.put, List.setIfInBounds_toArray, List.set_cons_zero, List.set_cons_succ]
  refine wpU_take (v := ?_) 3 hst (fun _ h => h) rfl ?_ ?_; rotate_left; (intro W hS K hK; have ld : W.cell? ⟨g_25, 5, none⟩ = some (.int .u16 (W16 ((BitVec.setWidth 16 o4) ||| ((BitVec.setWidth 16 o5) <<< 8)))) := hS.2.2.2.2.cell 5; clear hS; go_simp; exact hK.out _ (Below.refl _ _)); simp only [Act.put, List.setIfInBounds_toArray, List.set_cons_zero, List.set_cons_succ]
  refine wpU_take (v := ?_) 4 hst (fun _ h => h) rfl ?_ ?_; rotate_left; (intro W hS K hK; clear hS; go_simp; exact hK.out _ (Below.refl _ _)); simp only [Act.put, List.setIfInBounds_toArray, List.set_cons_zero, List.set_cons_succ]
  refine wpU_take (v := ?_) 5 hst (fun _ h => h) rfl ?_ ?_; rotate_left; (intro W hS K hK; have ld : W.cell? ⟨g_25, 4, none⟩ = some (.int .u32 (W32 (((BitVec.setWidth 32 o1) ||| ((BitVec.setWidth 32 o2) <<< 8)) ||| ((BitVec.setWidth 32 o3) <<< 16)))) := hS.2.2.2.2.cell 4; clear hS; go_simp; exact hK.out _ (Below.refl _ _)); simp only [Act.put, List.setIfInBounds_toArray, List.set_cons_zero, List.set_cons_succ]
  refine wpU_take (v := ?_) 6 hst (fun _ h => h) rfl ?_ ?_; rotate_left; (intro W hS K hK; clear hS; go_simp; exact hK.out _ (Below.refl _ _)); simp only [Act.put, List.setIfInBounds_toArray, List.set_cons_zero, List.set_cons_succ]
  refine wpU_take (v := ?_) 8 hst (fun _ h => h) rfl ?_ ?_; rotate_left; (intro W hS K hK; clear hS; go_simp; exact hK.out _ (Below.refl _ _)); simp only [Act.put, List.setIfInBounds_toArray, List.set_cons_zero, List.set_cons_succ]
  refine wpU_take (v := ?_) 9 hst (fun _ h => h) rfl ?_ ?_; rotate_left; (intro W hS K hK; clear hS; go_simp; exact hK.out _ (Below.refl _ _)); simp only [Act.put, List.setIfInBounds_toArray, List.set_cons_zero, List.set_cons_succ]
  refine wpU_take (v := .int .u64 (W64 non)) 7 hst (fun _ h => h) rfl ?_ ?_; (intro W hS K hK; clear hS; go_simp; refine (CN.out _).mono ?_; rintro e w9 ⟨rfl, hb⟩; refine CallPost.mk ?_; exact hK.out _ (hb)); simp only [Act.put, List.setIfInBounds_toArray, List.set_cons_zero, List.set_cons_succ]
  refine wpV_new 10 hst rfl ?_; intro W hS K hK
  go_simp
  refine (CO.out _ g9_9 (show RdB _ _ [o0] from RdB.take (bs := [o0, o1, o2, o3, o4, o5]) (rd_blk hS.2.2.2.1) 1) hS.1).mono ?_; rintro e w9 ⟨Ao, co, rfl, hb⟩
  refine hK.out (fun W => True) _ _ (stable_const True) hb (trivial) (fun hst => ?_)
  clear hK K hb  hS
  try simp only [Act.put, List.setIfInBounds_toArray, List.set_cons_zero, List.set_cons_succ]
  refine wpU_take (v := ?_) 11 hst (fun _ h => h) rfl ?_ ?_; rotate_left; (intro W hS K hK; clear hS; go_simp; exact hK.out _ (Below.refl _ _)); simp only [Act.put, List.setIfInBounds_toArray, List.set_cons_zero, List.set_cons_succ]
  refine wpU_take (v := ?_) 12 hst (fun _ h => h) rfl ?_ ?_; rotate_left; (intro W hS K hK; clear hS; go_simp; exact hK.out _ (Below.refl _ _)); simp only [Act.put, List.setIfInBounds_toArray, List.set_cons_zero, List.set_cons_succ]
  refine wpU_take (v := ?_) 13 hst (fun _ h => h) rfl ?_ ?_; rotate_left; (intro W hS K hK; clear hS; go_simp; exact hK.out _ (Below.refl _ _)); simp only [Act.put, List.setIfInBounds_toArray, List.set_cons_zero, List.set_cons_succ]
  refine wpU_take (v := ?_) 14 hst (fun _ h => h) rfl ?_ ?_; rotate_left; (intro W hS K hK; clear hS; go_simp; exact hK.out _ (Below.refl _ _)); simp only [Act.put, List.setIfInBounds_toArray, List.set_cons_zero, List.set_cons_succ]
  refine wpU_take (v := ?_) 15 hst (fun _ h => h) rfl ?_ ?_; rotate_left; (intro W hS K hK; clear hS; go_simp; exact hK.out _ (Below.refl _ _)); simp only [Act.put, List.setIfInBounds_toArray, List.set_cons_zero, List.set_cons_succ]
  refine wpU_done (fun w_47 hS => ?_)
  obtain ⟨⟨hB, G_4, G_11, G_22, G_46⟩, hT⟩ := hS
  clear hst
  go_wp2_with (first | (with_reducible refine stop_store ?_) | (with_reducible refine stop_box ?_) | (with_reducible refine stop_alloc ?_) | (with_reducible refine stop_bslice ?_) | (with_reducible refine stop_append ?_))
  unfold Kept
  refine wpList_st 0 #[.int .u32 0, .int .i64 0, .bool false, .int .i64 0, .int .u32 0, .int .u16 0, .int .u16 0, .slice none 0 0] #[.int .u32 0, .int .i64 0, .bool false, .int .i64 0, .int .u32 0, .int .u16 0, .int .u16 0, .slice none 0 0] G_11 rfl rfl (by kernel_rfl) rfl (of_decide_eq_true rfl) rfl ?_
  intro w_48 G_50 hU_49
  replace G_4 := hU_49.blk G_4 (by omega)
  replace G_22 := hU_49.blk G_22 (by omega)
  replace G_46 := hU_49.blk G_46 (by omega)
  replace hB := hU_49.below hB (by omega)
  clear G_11 hU_49
  go_wp2_with (first | (with_reducible refine stop_store ?_) | (with_reducible refine stop_box ?_) | (with_reducible refine stop_alloc ?_) | (with_reducible refine stop_bslice ?_) | (with_reducible refine stop_append ?_))
  refine bodyPost_ret (results_ct rfl rfl (load_blk G_50 Try.underlying44 rfl (by kernel_rfl))) rfl ?_
  exact ⟨none, 0, rfl, bcell_nil _, Nat.le_refl _, hB⟩
set_option maxHeartbeats 8000000 in
theorem net_Decode_c (k1 : BitVec 64) (k3 k4 k5 : BitVec 64) (nd : Int) (iv : BitVec 32) (pb po n d : Nat) (b0 x0 x1 x2 x3 x4 x5 : BitVec 8) (sd : List (BitVec 8)) (o0 o1 o2 o3 o4 o5 : BitVec 8) (fc : Bool) (non : BitVec 64) (p0 p1 : BitVec 8) (ps : List (BitVec 8)) (np : Nat) (ck : Int) (w : World) (RB0 : Rg pb po [.int .u8 (W8 b0)] w) (RX0 : Rg pb (po + 1) [.int .u8 (W8 x0), .int .u8 (W8 x1), .int .u8 (W8 x2), .int .u8 (W8 x3), .int .u8 (W8 x4), .int .u8 (W8 x5)] w) (hs0 : RdB w (some ⟨pb, po + 7, none⟩) sd) (hr0 : RdB w (some ⟨pb, po + 1, none⟩) [x0, x1, x2, x3, x4, x5]) (hn : sd.length + 7 = n) (hd : n ≤ d) (h14 : 14 ≤ n) (h29 : n ≤ 29) (hnd : W8 (b0 &&& 127#8) = nd) (hbi : W8 (b0 >>> 7) = W32 (iv &&& 1#32)) (hop : xorB [x0, x1, x2, x3, x4, x5] (maskL ⟨k1, nd, k3, k4, k5⟩ iv sd) = [o0, o1, o2, o3, o4, o5]) (hfc : (o0 &&& 128#8 != 0#8) = fc) (hnon : nonceK 0 ((BitVec.setWidth 16 o4) ||| ((BitVec.setWidth 16 o5) <<< 8)) (((BitVec.setWidth 32 o1) ||| ((BitVec.setWidth 32 o2) <<< 8)) ||| ((BitVec.setWidth 32 o3) <<< 16)) iv = non) (hres : openB k3 non [o0] sd = (p0 :: p1 :: ps, 0)) (hnp : (p0 :: p1 :: ps).length = np) (h3 : 3 ≤ np) (hck : checkN ⟨iv, nd, fc, W8 (o0 &&& 127#8), ((BitVec.setWidth 32 o1) ||| ((BitVec.setWidth 32 o2) <<< 8)) ||| ((BitVec.setWidth 32 o3) <<< 16), (BitVec.setWidth 16 o4) ||| ((BitVec.setWidth 16 o5) <<< 8), (BitVec.setWidth 16 p0) ||| ((BitVec.setWidth 16 p1) <<< 8), ps⟩ = ck) (h0 : ck ≠ 0) :
    Calls Try.prog 34 #[.agg #[.int .u64 (W64 k1), .int .i64 nd, .int .u64 (W64 k3), .int .u64 (W64 k4), .int .u64 (W64 k5)], .int .u32 (W32 iv), .slice (some ⟨pb, po, none⟩) n d] w (RetN w (np0, ck)) := by
  have RB := Lib.hid (fun W (hB : Below w.heap.size w W) => (Rg.to RB0 hB).2)
  have RX := Lib.hid (fun W (hB : Below w.heap.size w W) => (Rg.to RX0 hB).2)
  have i0 : decide ((n : Int) < 14) = false := by simp; omega
  have i1 : decide ((29 : Int) < (n : Int)) = false := by simp; omega
  obtain ⟨n7, hn7⟩ : ∃ x, n - 7 = x := ⟨_, rfl⟩
  have hsn : sd.length = n - 7 := by omega
  have CN := Lib.hid (fun W => show Calls Try.prog 17 #[.int .i64 0, .int .u16 (W16 ((BitVec.setWidth 16 o4) ||| ((BitVec.setWidth 16 o5) <<< 8))), .int .u32 (W32 (((BitVec.setWidth 32 o1) ||| ((BitVec.setWidth 32 o2) <<< 8)) ||| ((BitVec.setWidth 32 o3) <<< 16))), .int .u32 (W32 iv)] W fun e w' => e = .returned (.int .u64 (W64 non)) ∧ Below W.heap.size W w' from by have := mesh_Nonce 0 ((BitVec.setWidth 16 o4) ||| ((BitVec.setWidth 16 o5) <<< 8)) (((BitVec.setWidth 32 o1) ||| ((BitVec.setWidth 32 o2) <<< 8)) ||| ((BitVec.setWidth 32 o3) <<< 16)) iv W; rw [hnon] at this; exact this)
  obtain ⟨bt, hbt⟩ : ∃ x, W8 (b0 >>> 7) = x := ⟨_, rfl⟩
  have CHn := Lib.hid (fun W (hB : Below w.heap.size w W) => show Calls Try.prog 36 #[.slice (some ⟨pb, po, none⟩) n d] W fun e w' => e = .returned (.tuple #[.int .i64 bt, .int .i64 nd, .int .i64 0]) ∧ Below W.heap.size W w' from by have := net_Hint_f pb po n d b0 W (Rg.to RB0 hB) (by omega); rw [hbt, hnd] at this; exact this)
  obtain ⟨m0, m1, m2, m3, m4, m5, hmk⟩ := list6 (maskL_length ⟨k1, nd, k3, k4, k5⟩ iv sd)
  rw [hmk] at hop
  have hx : [x0 ^^^ m0, x1 ^^^ m1, x2 ^^^ m2, x3 ^^^ m3, x4 ^^^ m4, x5 ^^^ m5] = [o0, o1, o2, o3, o4, o5] := hop
  simp only [List.cons.injEq, and_true] at hx
  obtain ⟨e0, e1, e2, e3, e4, e5⟩ := hx
  have CM := Lib.hid (fun W (hB : Below w.heap.size w W) => show Calls Try.prog 54 #[.agg #[.int .u64 (W64 k1), .int .i64 nd, .int .u64 (W64 k3), .int .u64 (W64 k4), .int .u64 (W64 k5)], .int .u32 (W32 iv), .slice (some ⟨pb, po + 7, none⟩) (n - 7) (d - 7)] W fun e w' => e = .returned (.agg #[.int .u8 (W8 m0), .int .u8 (W8 m1), .int .u8 (W8 m2), .int .u8 (W8 m3), .int .u8 (W8 m4), .int .u8 (W8 m5)]) ∧ Below W.heap.size W w' from by have := net_mask_f k1 nd k3 k4 k5 iv (some ⟨pb, po + 7, none⟩) (n - 7) (d - 7) sd W (Rd.to hs0 hB) hsn (by omega) (by omega) (by omega); rw [hmk] at this; exact this)
  have CX := Lib.hid (fun W => show Calls Try.prog 53 #[.agg #[.int .u8 (W8 x0), .int .u8 (W8 x1), .int .u8 (W8 x2), .int .u8 (W8 x3), .int .u8 (W8 x4), .int .u8 (W8 x5)], .agg #[.int .u8 (W8 m0), .int .u8 (W8 m1), .int .u8 (W8 m2), .int .u8 (W8 m3), .int .u8 (W8 m4), .int .u8 (W8 m5)]] W fun e w' => e = .returned (.agg #[.int .u8 (W8 o0), .int .u8 (W8 o1), .int .u8 (W8 o2), .int .u8 (W8 o3), .int .u8 (W8 o4), .int .u8 (W8 o5)]) ∧ Below W.heap.size W w' from by have := net_xor_f x0 x1 x2 x3 x4 x5 m0 m1 m2 m3 m4 m5 W; rw [e0, e1, e2, e3, e4, e5] at this; exact this)
  have ef : ((W8 (o0 &&& 128#8) : Int) != 0) = fc := by have this : (W8 (o0 &&& 128#8) != W8 0#8) = fc := (by rw [W8_bne]; exact hfc); exact this
  have ebi : W32 (iv &&& 1#32) = bt := by rw [← hbi, hbt]
  have bb1 : 0 ≤ bt := by rw [← hbt]; exact (W8_bd _).1
  have bb2 : bt ≤ 255 := by rw [← hbt]; exact (W8_bd _).2
  clear e0 e1 e2 e3 e4 e5 hmk hop hbt
  have y3 : IntKind.i64.wrap (W8 (o0 &&& 127#8)) = W8 (o0 &&& 127#8) := IntWalk.i64_in _ (by have := W8_bd (o0 &&& 127#8); omega)
  have q7 : ¬ d = 7 := by omega
  have q1 : ¬ d = 1 := by omega
  have q8 : (7 : Int) ≤ (d : Int) := by omega
  have q9 : (7 : Int) ≤ (n : Int) := by omega
  have CO := Lib.hid (fun W g (hh : RdB W (some ⟨g, 0, none⟩) [o0]) (hB : Below w.heap.size w W) => show Calls Try.prog 49 #[.int .u64 (W64 k3), .int .u64 (W64 non), .slice (some ⟨g, 0, none⟩) 1 6, .slice (some ⟨pb, po + 7, none⟩) (n - 7) (d - 7)] W fun e w' => ∃ q qo cp, e = .returned (.tuple #[.slice (some ⟨q, qo, none⟩) np cp, .int .i64 0]) ∧ RdB w' (some ⟨q, qo, none⟩) (p0 :: p1 :: ps) ∧ RdB w' (some ⟨q, qo + 2, none⟩) ps ∧ (2 : Int) ≤ (cp : Int) ∧ ¬ cp = 2 ∧ Below W.heap.size W w' from by
    have := mac_Open k3 non (some ⟨g, 0, none⟩) (some ⟨pb, po + 7, none⟩) 6 (d - 7) [o0] sd W hh (Rd.to hs0 hB) (by simp) (by omega) (by omega)
    rw [hsn, hres] at this
    refine this.mono ?_
    rintro e w' ⟨A, c, rfl, hr, hc, hb⟩
    dsimp only at hr hc
    rw [hnp] at hc
    obtain ⟨q, qo, rfl, hlt, _⟩ := Rd.open_ hr (by rw [bcells_length]; exact Nat.succ_pos _)
    exact ⟨q, qo, c, by dsimp only; rw [hnp], hr, rd_cut hr hlt 2, by omega, by omega, hb⟩)
  have CK := Lib.hid (fun W A c => show Calls Try.prog 26 #[.agg #[.int .u32 (W32 iv), .int .i64 nd, .bool fc, .int .i64 (W8 (o0 &&& 127#8)), .int .u32 (W32 (((BitVec.setWidth 32 o1) ||| ((BitVec.setWidth 32 o2) <<< 8)) ||| ((BitVec.setWidth 32 o3) <<< 16))), .int .u16 (W16 ((BitVec.setWidth 16 o4) ||| ((BitVec.setWidth 16 o5) <<< 8))), .int .u16 (W16 ((BitVec.setWidth 16 p0) ||| ((BitVec.setWidth 16 p1) <<< 8))), .slice A (np - 2) c]] W fun e w' => e = .returned (.int .i64 ck) ∧ Below W.heap.size W w' from by
    have hq : ps.length = np - 2 := by simp at hnp; omega
    have hpl : (openB k3 non [o0] sd).1.length ≤ sd.length := openB_le _ _ _ _
    have hpl2 : (p0 :: p1 :: ps).length ≤ sd.length := by rw [hres] at hpl; exact hpl
    have := net_Check ⟨iv, nd, fc, W8 (o0 &&& 127#8), ((BitVec.setWidth 32 o1) ||| ((BitVec.setWidth 32 o2) <<< 8)) ||| ((BitVec.setWidth 32 o3) <<< 16), (BitVec.setWidth 16 o4) ||| ((BitVec.setWidth 16 o5) <<< 8), (BitVec.setWidth 16 p0) ||| ((BitVec.setWidth 16 p1) <<< 8), ps⟩ A c W (by dsimp only; omega)
    unfold npA at this
    dsimp only at this
    rw [hq, hck] at this
    exact this)
  have HPS := Lib.hid (show ps.length = np - 2 by simp at hnp; omega)
  have hnb : np ≤ 22 := by
    have hpl : (openB k3 non [o0] sd).1.length ≤ sd.length := openB_le _ _ _ _
    rw [hres] at hpl
    dsimp only at hpl
    omega
  have r2 : (2 : Int) ≤ (np : Int) := by omega
  have r0 : 0 < np := by omega
  have r1 : (1 : Int) < (np : Int) := by omega
  have e9 : ((ck : Int) != 0) = true := by simpa using h0
  have e8 : ((ck : Int) == 0) = false := by simpa using h0
  clear h0
  clear RB0 RX0 hnon hfc hbi hnd hn7
  clear hres hck
  go_enter Try.func34, Try.ntmps34
  have hB := Below.refl w.heap.size w
  go_wp2_with (first | (with_reducible refine stop_store ?_) | (with_reducible refine stop_box ?_) | (with_reducible refine stop_alloc ?_) | (with_reducible refine stop_bslice ?_) | (with_reducible refine stop_append ?_))
  unfold Kept
  refine go_mem (ty := 25) (cs := #[.int .u64 (W64 k1), .int .i64 nd, .int .u64 (W64 k3), .int .u64 (W64 k4), .int .u64 (W64 k5)]) (fun g => .pointer (some ⟨g, 0, none⟩)) rfl (by kernel_rfl) ?_
  intro g_1 w_2 z_6 l_5 hb_3 G_4
  have n_7 : w.heap.size ≤ g_1 := Nat.le_trans hB.size l_5
  replace hB := hB.trans (hb_3.mono hB.size)
  clear hb_3 l_5 z_6
  go_wp2_with (first | (with_reducible refine stop_store ?_) | (with_reducible refine stop_box ?_) | (with_reducible refine stop_alloc ?_) | (with_reducible refine stop_bslice ?_) | (with_reducible refine stop_append ?_))
  unfold Kept
  refine go_mem (ty := 44) (cs := #[.int .u32 0, .int .i64 0, .bool false, .int .i64 0, .int .u32 0, .int .u16 0, .int .u16 0, .slice none 0 0]) (fun g => .pointer (some ⟨g, 0, none⟩)) rfl (by kernel_rfl) ?_
  intro g_8 w_9 z_13 l_12 hb_10 G_11
  have n_14 : g_1 < g_8 := Nat.lt_of_lt_of_le G_4.lt l_12
  have n_15 : w.heap.size ≤ g_8 := Nat.le_trans hB.size l_12
  replace G_4 := G_4.to hb_10 G_4.lt
  replace hB := hB.trans (hb_10.mono hB.size)
  clear hb_10 l_12 z_13
  go_wp2_with (first | (with_reducible refine stop_store ?_) | (with_reducible refine stop_box ?_) | (with_reducible refine stop_alloc ?_) | (with_reducible refine stop_bslice ?_) | (with_reducible refine stop_append ?_))
  refine (CHn.out _ hB).mono ?_; rintro e w_16 ⟨rfl, hb_17⟩
  replace G_4 := G_4.to hb_17 G_4.lt
  replace G_11 := G_11.to hb_17 G_11.lt
  replace hB := hB.trans (hb_17.mono hB.size)
  clear hb_17
  have ld_18 : w_16.cell? ⟨g_1, 1, none⟩ = some (.int .i64 nd) := G_4.cell 1
  go_wp2_with (first | (with_reducible refine stop_store ?_) | (with_reducible refine stop_box ?_) | (with_reducible refine stop_alloc ?_) | (with_reducible refine stop_bslice ?_) | (with_reducible refine stop_append ?_))
  clear ld_18
  try simp only [Act.put, List.setIfInBounds_toArray, List.set_cons_zero, List.set_cons_succ]
  have hst : Stable fun W => Below w.heap.size w W ∧ Blk W g_1 25 #[.int .u64 (W64 k1), .int .i64 nd, .int .u64 (W64 k3), .int .u64 (W64 k4), .int .u64 (W64 k5)] ∧ Blk W g_8 44 #[.int .u32 0, .int .i64 0, .bool false, .int .i64 0, .int .u32 0, .int .u16 0, .int .u16 0, .slice none 0 0] := stable_and (stable_below _ _ (Nat.le_refl _)) (stable_and (stable_blk _ _ _) (stable_blk _ _ _))
  refine wp_region_hh (fun W => Below w.heap.size w W ∧ Blk W g_1 25 #[.int .u64 (W64 k1), .int .i64 nd, .int .u64 (W64 k3), .int .u64 (W64 k4), .int .u64 (W64 k5)] ∧ Blk W g_8 44 #[.int .u32 0, .int .i64 0, .bool false, .int .i64 0, .int .u32 0, .int .u16 0, .int .u16 0, .slice none 0 0]) 10 hst ⟨hB.drew, G_4, G_11⟩ ⟨by kernel_rfl, by kernel_rfl, by kernel_rfl, by decide⟩ (fun hR => ?_)
  clear hB G_4 G_11
  refine wpH_take (v := ?_) 0 hR hst rfl ?_ ?_; rotate_left; (intro W hS K hK; clear hS; go_simp; exact hK.out _ (Below.refl _ _)); simp only [Act.put, List.setIfInBounds_toArray, List.set_cons_zero, List.set_cons_succ]
  refine wpH_take (v := ?_) 1 hR hst rfl ?_ ?_; rotate_left; (intro W hS K hK; clear hS; go_simp; exact hK.out _ (Below.refl _ _)); simp only [Act.put, List.setIfInBounds_toArray, List.set_cons_zero, List.set_cons_succ]
  refine wpH_take (v := ?_) 2 hR hst rfl ?_ ?_; rotate_left; (intro W hS K hK; clear hS; go_simp; exact hK.out _ (Below.refl _ _)); simp only [Act.put, List.setIfInBounds_toArray, List.set_cons_zero, List.set_cons_succ]
  refine wpH_take (v := .agg #[.int .u8 (W8 x0), .int .u8 (W8 x1), .int .u8 (W8 x2), .int .u8 (W8 x3), .int .u8 (W8 x4), .int .u8 (W8 x5)]) 3 hR hst rfl (fun W hS K hK => calm_load rfl rfl (run_loadVar_mid W pb (po + 1) 73 [.int .u8 (W8 x0), .int .u8 (W8 x1), .int .u8 (W8 x2), .int .u8 (W8 x3), .int .u8 (W8 x4), .int .u8 (W8 x5)] _ (range_part (RX.out _ hS.1) 0 [.int .u8 (W8 x0), .int .u8 (W8 x1), .int .u8 (W8 x2), .int .u8 (W8 x3), .int .u8 (W8 x4), .int .u8 (W8 x5)] rfl) Try.underlying73 rfl (by kernel_rfl)) (hK.out _ (Below.refl _ _))) ?_; simp only [Act.put, List.setIfInBounds_toArray, List.set_cons_zero, List.set_cons_succ]
  refine wpH_take (v := .agg #[.int .u64 (W64 k1), .int .i64 nd, .int .u64 (W64 k3), .int .u64 (W64 k4), .int .u64 (W64 k5)]) 4 hR hst rfl (fun W hS K hK => calm_load rfl rfl (load_part hS.2.1 0 [.int .u64 (W64 k1), .int .i64 nd, .int .u64 (W64 k3), .int .u64 (W64 k4), .int .u64 (W64 k5)] rfl Try.underlying25 rfl (by kernel_rfl)) (hK.out _ (Below.refl _ _))) ?_; simp only [Act.put, List.setIfInBounds_toArray, List.set_cons_zero, List.set_cons_succ]
  refine wpH_take (v := ?_) 5 hR hst rfl ?_ ?_; rotate_left; (intro W hS K hK; clear hS; go_simp; exact hK.out _ (Below.refl _ _)); simp only [Act.put, List.setIfInBounds_toArray, List.set_cons_zero, List.set_cons_succ]
  refine wpH_take (v := ?_) 6 hR hst rfl ?_ ?_; rotate_left; (intro W hS K hK; clear hS; go_simp; exact hK.out _ (Below.refl _ _)); simp only [Act.put, List.setIfInBounds_toArray, List.set_cons_zero, List.set_cons_succ]
  refine wpH_take (v := .agg #[.int .u8 (W8 m0), .int .u8 (W8 m1), .int .u8 (W8 m2), .int .u8 (W8 m3), .int .u8 (W8 m4), .int .u8 (W8 m5)]) 7 hR hst rfl ?_ ?_; (intro W hS K hK; go_simp; refine (CM.out _ hS.1).mono ?_; rintro e w9 ⟨rfl, hb⟩; refine CallPost.mk ?_; exact hK.out _ (hb)); simp only [Act.put, List.setIfInBounds_toArray, List.set_cons_zero, List.set_cons_succ]
  refine wpH_take (v := .agg #[.int .u8 (W8 o0), .int .u8 (W8 o1), .int .u8 (W8 o2), .int .u8 (W8 o3), .int .u8 (W8 o4), .int .u8 (W8 o5)]) 8 hR hst rfl ?_ ?_; (intro W hS K hK; clear hS; go_simp; refine (CX.out _).mono ?_; rintro e w9 ⟨rfl, hb⟩; refine CallPost.mk ?_; exact hK.out _ (hb)); simp only [Act.put, List.setIfInBounds_toArray, List.set_cons_zero, List.set_cons_succ]
  refine wpH_new 9 hst rfl ?_; intro W hS K hK
  have l9_9_g_1 : g_1 < W.heap.size := hS.2.1.lt
  have l9_9_g_8 : g_8 < W.heap.size := hS.2.2.lt
  have n9_9a : w.heap.size ≤ W.heap.size := hS.1.size
  clear hS
  go_simp
  refine hK.out (fun W' => Blk W' W.heap.size 73 #[.int .u8 0, .int .u8 0, .int .u8 0, .int .u8 0, .int .u8 0, .int .u8 0]) _ _ (stable_blk _ _ _) ((Below.refl _ _).alloc (Nat.le_refl _) _) (Blk.new _ _ _) (fun hst => ?_)
  clear hK K
  try simp only [Act.put, List.setIfInBounds_toArray, List.set_cons_zero, List.set_cons_succ]
  generalize W.heap.size = g9_9 at hst l9_9_g_1 l9_9_g_8 n9_9a ⊢
  clear W
  refine wpH_done (fun w_19 hS => ?_)
  obtain ⟨⟨hB, G_4, G_11⟩, G9_9⟩ := hS
  clear hst
  dsimp only [List.drop]
  go_wp2_with (first | (with_reducible refine stop_store ?_) | (with_reducible refine stop_box ?_) | (with_reducible refine stop_alloc ?_) | (with_reducible refine stop_bslice ?_) | (with_reducible refine stop_append ?_))
  unfold Kept
  refine wpList_st 0 #[.int .u8 (W8 o0), .int .u8 (W8 o1), .int .u8 (W8 o2), .int .u8 (W8 o3), .int .u8 (W8 o4), .int .u8 (W8 o5)] #[.int .u8 (W8 o0), .int .u8 (W8 o1), .int .u8 (W8 o2), .int .u8 (W8 o3), .int .u8 (W8 o4), .int .u8 (W8 o5)] G9_9 rfl rfl (by kernel_rfl) rfl (of_decide_eq_true rfl) rfl ?_
  intro w_20 G_22 hU_21
  replace G_4 := hU_21.blk G_4 (by omega)
  replace G_11 := hU_21.blk G_11 (by omega)
  replace hB := hU_21.below hB (by omega)
  clear G9_9 hU_21
  have ld_23 : w_20.cell? ⟨g_1, 1, none⟩ = some (.int .i64 nd) := G_4.cell 1
  have ld_24 : w_20.cell? ⟨g9_9, 0, none⟩ = some (.int .u8 (W8 o0)) := G_22.cell 0
  go_wp2_with (first | (with_reducible refine stop_store ?_) | (with_reducible refine stop_box ?_) | (with_reducible refine stop_alloc ?_) | (with_reducible refine stop_bslice ?_) | (with_reducible refine stop_append ?_))
  unfold Kept
  refine go_mem (ty := 44) (cs := #[.int .u32 0, .int .i64 0, .bool false, .int .i64 0, .int .u32 0, .int .u16 0, .int .u16 0, .slice none 0 0]) (fun g => .pointer (some ⟨g, 0, none⟩)) rfl (by kernel_rfl) ?_
  intro g_25 w_26 z_30 l_29 hb_27 G_28
  clear ld_23 ld_24
  have n_31 : g9_9 < g_25 := Nat.lt_of_lt_of_le G_22.lt l_29
  have n_32 : w.heap.size ≤ g_25 := Nat.le_trans hB.size l_29
  replace G_4 := G_4.to hb_27 G_4.lt
  replace G_11 := G_11.to hb_27 G_11.lt
  replace G_22 := G_22.to hb_27 G_22.lt
  replace hB := hB.trans (hb_27.mono hB.size)
  clear hb_27 l_29 z_30
  go_wp2_with (first | (with_reducible refine stop_store ?_) | (with_reducible refine stop_box ?_) | (with_reducible refine stop_alloc ?_) | (with_reducible refine stop_bslice ?_) | (with_reducible refine stop_append ?_))
  unfold Kept
  refine wpList_st 0 #[.int .u32 (W32 iv), .int .i64 nd, .bool fc, .int .i64 (W8 (o0 &&& 127#8)), .int .u32 0, .int .u16 0, .int .u16 0, .slice none 0 0] #[.int .u32 (W32 iv), .int .i64 nd, .bool fc, .int .i64 (W8 (o0 &&& 127#8)), .int .u32 0, .int .u16 0, .int .u16 0, .slice none 0 0] G_28 rfl rfl (by kernel_rfl) rfl (of_decide_eq_true rfl) rfl ?_
  intro w_33 G_35 hU_34
  replace G_4 := hU_34.blk G_4 (by omega)
  replace G_11 := hU_34.blk G_11 (by omega)
  replace G_22 := hU_34.blk G_22 (by omega)
  replace hB := hU_34.below hB (by omega)
  clear G_28 hU_34
  have ld_36 : w_33.cell? ⟨g9_9, 1, none⟩ = some (.int .u8 (W8 o1)) := G_22.cell 1
  have ld_37 : w_33.cell? ⟨g9_9, 2, none⟩ = some (.int .u8 (W8 o2)) := G_22.cell 2
  have ld_38 : w_33.cell? ⟨g9_9, 3, none⟩ = some (.int .u8 (W8 o3)) := G_22.cell 3
  go_wp2_with (first | (with_reducible refine stop_store ?_) | (with_reducible refine stop_box ?_) | (with_reducible refine stop_alloc ?_) | (with_reducible refine stop_bslice ?_) | (with_reducible refine stop_append ?_))
  unfold Kept
  refine wpList_st1 4 (.int .u32 (W32 (((BitVec.setWidth 32 o1) ||| ((BitVec.setWidth 32 o2) <<< 8)) ||| ((BitVec.setWidth 32 o3) <<< 16)))) #[.int .u32 (W32 iv), .int .i64 nd, .bool fc, .int .i64 (W8 (o0 &&& 127#8)), .int .u32 (W32 (((BitVec.setWidth 32 o1) ||| ((BitVec.setWidth 32 o2) <<< 8)) ||| ((BitVec.setWidth 32 o3) <<< 16))), .int .u16 0, .int .u16 0, .slice none 0 0] G_35 rfl rfl rfl (by kernel_rfl) rfl (of_decide_eq_true rfl) rfl ?_
  intro w_39 G_41 hU_40
  clear ld_36 ld_37 ld_38
  replace G_4 := hU_40.blk G_4 (by omega)
  replace G_11 := hU_40.blk G_11 (by omega)
  replace G_22 := hU_40.blk G_22 (by omega)
  replace hB := hU_40.below hB (by omega)
  clear G_35 hU_40
  have ld_42 : w_39.cell? ⟨g9_9, 4, none⟩ = some (.int .u8 (W8 o4)) := G_22.cell 4
  have ld_43 : w_39.cell? ⟨g9_9, 5, none⟩ = some (.int .u8 (W8 o5)) := G_22.cell 5
  go_wp2_with (first | (with_reducible refine stop_store ?_) | (with_reducible refine stop_box ?_) | (with_reducible refine stop_alloc ?_) | (with_reducible refine stop_bslice ?_) | (with_reducible refine stop_append ?_))
  unfold Kept
  refine wpList_st1 5 (.int .u16 (W16 ((BitVec.setWidth 16 o4) ||| ((BitVec.setWidth 16 o5) <<< 8)))) #[.int .u32 (W32 iv), .int .i64 nd, .bool fc, .int .i64 (W8 (o0 &&& 127#8)), .int .u32 (W32 (((BitVec.setWidth 32 o1) ||| ((BitVec.setWidth 32 o2) <<< 8)) ||| ((BitVec.setWidth 32 o3) <<< 16))), .int .u16 (W16 ((BitVec.setWidth 16 o4) ||| ((BitVec.setWidth 16 o5) <<< 8))), .int .u16 0, .slice none 0 0] G_41 rfl rfl rfl (by kernel_rfl) rfl (of_decide_eq_true rfl) rfl ?_
  intro w_44 G_46 hU_45
  clear ld_42 ld_43
  replace G_4 := hU_45.blk G_4 (by omega)
  replace G_11 := hU_45.blk G_11 (by omega)
  replace G_22 := hU_45.blk G_22 (by omega)
  replace hB := hU_45.below hB (by omega)
  clear G_41 hU_45
  go_wp2_with (first | (with_reducible refine stop_store ?_) | (with_reducible refine stop_box ?_) | (with_reducible refine stop_alloc ?_) | (with_reducible refine stop_bslice ?_) | (with_reducible refine stop_append ?_))
  have hst : Stable fun W => Below w.heap.size w W ∧ Blk W g_1 25 #[.int .u64 (W64 k1), .int .i64 nd, .int .u64 (W64 k3), .int .u64 (W64 k4), .int .u64 (W64 k5)] ∧ Blk W g_8 44 #[.int .u32 0, .int .i64 0, .bool false, .int .i64 0, .int .u32 0, .int .u16 0, .int .u16 0, .slice none 0 0] ∧ Blk W g9_9 73 #[.int .u8 (W8 o0), .int .u8 (W8 o1), .int .u8 (W8 o2), .int .u8 (W8 o3), .int .u8 (W8 o4), .int .u8 (W8 o5)] ∧ Blk W g_25 44 #[.int .u32 (W32 iv), .int .i64 nd, .bool fc, .int .i64 (W8 (o0 &&& 127#8)), .int .u32 (W32 (((BitVec.setWidth 32 o1) ||| ((BitVec.setWidth 32 o2) <<< 8)) ||| ((BitVec.setWidth 32 o3) <<< 16))), .int .u16 (W16 ((BitVec.setWidth 16 o4) ||| ((BitVec.setWidth 16 o5) <<< 8))), .int .u16 0, .slice none 0 0] := stable_and (stable_below _ _ (Nat.le_refl _)) (stable_and (stable_blk _ _ _) (stable_and (stable_blk _ _ _) (stable_and (stable_blk _ _ _) (stable_blk _ _ _))))
  refine wp_region_v _ 16 hst ⟨hB.drew, G_4, G_11, G_22, G_46⟩ ?_
  clear hB G_4 G_11 G_22 G_46
  refine wpU_take (v := ?_) 0 hst (fun _ h => h) rfl ?_ ?_; rotate_left; (intro W hS K hK; clear hS; go_simp; exact hK.out _ (Below.refl _ _)); simp only [Act.put, List.setIfInBounds_toArray, List.set_cons_zero, List.set_cons_succ]
  refine wpU_take (v := ?_) 1 hst (fun _ h => h) rfl ?_ ?_; rotate_left; (intro W hS K hK; have ld : W.cell? ⟨g_1, 2, none⟩ = some (.int .u64 (W64 k3)) := hS.2.1.cell 2; clear hS; go_simp; exact hK.out _ (Below.refl _ _)); simp only [Act.put, List.setIfInBounds_toArray, List.set_cons_zero, List.set_cons_succ]
  refine wpU_take (v := ?_) 2 hst (fun _ h => h) rfl ?_ ?_; rotate_left; (intro W hS K hK; clear hS; go_simp; exact hK.out _ (Below.refl _ _)); simp only [Act.put, List.setIfInBounds_toArray, List.set_cons_zero, List.set_cons_succ]
  refine wpU_take (v := ?_) 3 hst (fun _ h => h) rfl ?_ ?_; rotate_left; (intro W hS K hK; have ld : W.cell? ⟨g_25, 5, none⟩ = some (.int .u16 (W16 ((BitVec.setWidth 16 o4) ||| ((BitVec.setWidth 16 o5) <<< 8)))) := hS.2.2.2.2.cell 5; clear hS; go_simp; exact hK.out _ (Below.refl _ _)); simp only [Act.put, List.setIfInBounds_toArray, List.set_cons_zero, List.set_cons_succ]
  refine wpU_take (v := ?_) 4 hst (fun _ h => h) rfl ?_ ?_; rotate_left; (intro W hS K hK; clear hS; go_simp; exact hK.out _ (Below.refl _ _)); simp only [Act.put, List.setIfInBounds_toArray, List.set_cons_zero, List.set_cons_succ]
  refine wpU_take (v := ?_) 5 hst (fun _ h => h) rfl ?_ ?_; rotate_left; (intro W hS K hK; have ld : W.cell? ⟨g_25, 4, none⟩ = some (.int .u32 (W32 (((BitVec.setWidth 32 o1) ||| ((BitVec.setWidth 32 o2) <<< 8)) ||| ((BitVec.setWidth 32 o3) <<< 16)))) := hS.2.2.2.2.cell 4; clear hS; go_simp; exact hK.out _ (Below.refl _ _)); simp only [Act.put, List.setIfInBounds_toArray, List.set_cons_zero, List.set_cons_succ]
  refine wpU_take (v := ?_) 6 hst (fun _ h => h) rfl ?_ ?_; rotate_left; (intro W hS K hK; clear hS; go_simp; exact hK.out _ (Below.refl _ _)); simp only [Act.put, List.setIfInBounds_toArray, List.set_cons_zero, List.set_cons_succ]
  refine wpU_take (v := ?_) 8 hst (fun _ h => h) rfl ?_ ?_; rotate_left; (intro W hS K hK; clear hS; go_simp; exact hK.out _ (Below.refl _ _)); simp only [Act.put, List.setIfInBounds_toArray, List.set_cons_zero, List.set_cons_succ]
  refine wpU_take (v := ?_) 9 hst (fun _ h => h) rfl ?_ ?_; rotate_left; (intro W hS K hK; clear hS; go_simp; exact hK.out _ (Below.refl _ _)); simp only [Act.put, List.setIfInBounds_toArray, List.set_cons_zero, List.set_cons_succ]
  refine wpU_take (v := .int .u64 (W64 non)) 7 hst (fun _ h => h) rfl ?_ ?_; (intro W hS K hK; clear hS; go_simp; refine (CN.out _).mono ?_; rintro e w9 ⟨rfl, hb⟩; refine CallPost.mk ?_; exact hK.out _ (hb)); simp only [Act.put, List.setIfInBounds_toArray, List.set_cons_zero, List.set_cons_succ]
  refine wpV_new 10 hst rfl ?_; intro W hS K hK
  go_simp
  refine (CO.out _ g9_9 (show RdB _ _ [o0] from RdB.take (bs := [o0, o1, o2, o3, o4, o5]) (rd_blk hS.2.2.2.1) 1) hS.1).mono ?_; rintro e w9 ⟨q, qo, cp, rfl, RP, RS, c2, d2, hb⟩
  refine hK.out (fun W => RdB W (some ⟨q, qo, none⟩) (p0 :: p1 :: ps) ∧ RdB W (some ⟨q, qo + 2, none⟩) ps) _ _ (stable_and (stable_rdB _ _) (stable_rdB _ _)) hb (⟨RP, RS⟩) (fun hst => ?_)
  clear hK K hb RP RS hS
  try simp only [Act.put, List.setIfInBounds_toArray, List.set_cons_zero, List.set_cons_succ]
  refine wpU_take (v := ?_) 11 hst (fun _ h => h) rfl ?_ ?_; rotate_left; (intro W hS K hK; clear hS; go_simp; exact hK.out _ (Below.refl _ _)); simp only [Act.put, List.setIfInBounds_toArray, List.set_cons_zero, List.set_cons_succ]
  refine wpU_take (v := ?_) 12 hst (fun _ h => h) rfl ?_ ?_; rotate_left; (intro W hS K hK; clear hS; go_simp; exact hK.out _ (Below.refl _ _)); simp only [Act.put, List.setIfInBounds_toArray, List.set_cons_zero, List.set_cons_succ]
  refine wpU_take (v := ?_) 13 hst (fun _ h => h) rfl ?_ ?_; rotate_left; (intro W hS K hK; clear hS; go_simp; exact hK.out _ (Below.refl _ _)); simp only [Act.put, List.setIfInBounds_toArray, List.set_cons_zero, List.set_cons_succ]
  refine wpU_take (v := ?_) 14 hst (fun _ h => h) rfl ?_ ?_; rotate_left; (intro W hS K hK; clear hS; go_simp; exact hK.out _ (Below.refl _ _)); simp only [Act.put, List.setIfInBounds_toArray, List.set_cons_zero, List.set_cons_succ]
  refine wpU_take (v := ?_) 15 hst (fun _ h => h) rfl ?_ ?_; rotate_left; (intro W hS K hK; clear hS; go_simp; exact hK.out _ (Below.refl _ _)); simp only [Act.put, List.setIfInBounds_toArray, List.set_cons_zero, List.set_cons_succ]
  refine wpU_done (fun w_47 hS => ?_)
  obtain ⟨⟨hB, G_4, G_11, G_22, G_46⟩, ⟨RP, RS⟩⟩ := hS
  clear hst
  go_wp2_with (first | (with_reducible refine stop_store ?_) | (with_reducible refine stop_box ?_) | (with_reducible refine stop_alloc ?_) | (with_reducible refine stop_bslice ?_) | (with_reducible refine stop_append ?_))
  try simp only [Act.put, List.setIfInBounds_toArray, List.set_cons_zero, List.set_cons_succ]
  have hst : Stable fun W => Below w.heap.size w W ∧ Blk W g_1 25 #[.int .u64 (W64 k1), .int .i64 nd, .int .u64 (W64 k3), .int .u64 (W64 k4), .int .u64 (W64 k5)] ∧ Blk W g_8 44 #[.int .u32 0, .int .i64 0, .bool false, .int .i64 0, .int .u32 0, .int .u16 0, .int .u16 0, .slice none 0 0] ∧ Blk W g9_9 73 #[.int .u8 (W8 o0), .int .u8 (W8 o1), .int .u8 (W8 o2), .int .u8 (W8 o3), .int .u8 (W8 o4), .int .u8 (W8 o5)] ∧ Blk W g_25 44 #[.int .u32 (W32 iv), .int .i64 nd, .bool fc, .int .i64 (W8 (o0 &&& 127#8)), .int .u32 (W32 (((BitVec.setWidth 32 o1) ||| ((BitVec.setWidth 32 o2) <<< 8)) ||| ((BitVec.setWidth 32 o3) <<< 16))), .int .u16 (W16 ((BitVec.setWidth 16 o4) ||| ((BitVec.setWidth 16 o5) <<< 8))), .int .u16 0, .slice none 0 0] ∧ RdB W (some ⟨q, qo, none⟩) (p0 :: p1 :: ps) ∧ RdB W (some ⟨q, qo + 2, none⟩) ps := stable_and (stable_below _ _ (Nat.le_refl _)) (stable_and (stable_blk _ _ _) (stable_and (stable_blk _ _ _) (stable_and (stable_blk _ _ _) (stable_and (stable_blk _ _ _) (stable_and (stable_rdB _ _) (stable_rdB _ _))))))
  refine wp_region_hh (fun W => Below w.heap.size w W ∧ Blk W g_1 25 #[.int .u64 (W64 k1), .int .i64 nd, .int .u64 (W64 k3), .int .u64 (W64 k4), .int .u64 (W64 k5)] ∧ Blk W g_8 44 #[.int .u32 0, .int .i64 0, .bool false, .int .i64 0, .int .u32 0, .int .u16 0, .int .u16 0, .slice none 0 0] ∧ Blk W g9_9 73 #[.int .u8 (W8 o0), .int .u8 (W8 o1), .int .u8 (W8 o2), .int .u8 (W8 o3), .int .u8 (W8 o4), .int .u8 (W8 o5)] ∧ Blk W g_25 44 #[.int .u32 (W32 iv), .int .i64 nd, .bool fc, .int .i64 (W8 (o0 &&& 127#8)), .int .u32 (W32 (((BitVec.setWidth 32 o1) ||| ((BitVec.setWidth 32 o2) <<< 8)) ||| ((BitVec.setWidth 32 o3) <<< 16))), .int .u16 (W16 ((BitVec.setWidth 16 o4) ||| ((BitVec.setWidth 16 o5) <<< 8))), .int .u16 0, .slice none 0 0] ∧ RdB W (some ⟨q, qo, none⟩) (p0 :: p1 :: ps) ∧ RdB W (some ⟨q, qo + 2, none⟩) ps) 11 hst ⟨hB.drew, G_4, G_11, G_22, G_46, RP, RS⟩ ⟨by kernel_rfl, by kernel_rfl, by kernel_rfl, by decide⟩ (fun hR => ?_)
  clear hB G_4 G_11 G_22 G_46 RP RS
  refine wpH_take (v := ?_) 0 hR hst rfl ?_ ?_; rotate_left; (intro W hS K hK; clear hS; go_simp; exact hK.out _ (Below.refl _ _)); simp only [Act.put, List.setIfInBounds_toArray, List.set_cons_zero, List.set_cons_succ]
  refine wpH_take (v := ?_) 1 hR hst rfl ?_ ?_; rotate_left; (intro W hS K hK; clear hS; go_simp; exact hK.out _ (Below.refl _ _)); simp only [Act.put, List.setIfInBounds_toArray, List.set_cons_zero, List.set_cons_succ]
  refine wpH_take (v := ?_) 2 hR hst rfl ?_ ?_; rotate_left; (intro W hS K hK; have ld : W.cell? ⟨q, qo, none⟩ = some (.int .u8 (W8 p0)) := (rg_at hS.2.2.2.2.2.1 0 2 [.int .u8 (W8 p0), .int .u8 (W8 p1)] rfl (Nat.succ_pos _)).2 0 _ rfl; clear hS; go_simp; exact hK.out _ (Below.refl _ _)); simp only [Act.put, List.setIfInBounds_toArray, List.set_cons_zero, List.set_cons_succ]
  refine wpH_take (v := ?_) 3 hR hst rfl ?_ ?_; rotate_left; (intro W hS K hK; clear hS; go_simp; exact hK.out _ (Below.refl _ _)); simp only [Act.put, List.setIfInBounds_toArray, List.set_cons_zero, List.set_cons_succ]
  refine wpH_take (v := ?_) 4 hR hst rfl ?_ ?_; rotate_left; (intro W hS K hK; clear hS; go_simp; exact hK.out _ (Below.refl _ _)); simp only [Act.put, List.setIfInBounds_toArray, List.set_cons_zero, List.set_cons_succ]
  refine wpH_take (v := ?_) 5 hR hst rfl ?_ ?_; rotate_left; (intro W hS K hK; clear hS; go_simp; exact hK.out _ (Below.refl _ _)); simp only [Act.put, List.setIfInBounds_toArray, List.set_cons_zero, List.set_cons_succ]
  refine wpH_take (v := ?_) 6 hR hst rfl ?_ ?_; rotate_left; (intro W hS K hK; have ld : W.cell? ⟨q, qo + 1, none⟩ = some (.int .u8 (W8 p1)) := (rg_at hS.2.2.2.2.2.1 0 2 [.int .u8 (W8 p0), .int .u8 (W8 p1)] rfl (Nat.succ_pos _)).2 1 _ rfl; clear hS; go_simp; exact hK.out _ (Below.refl _ _)); simp only [Act.put, List.setIfInBounds_toArray, List.set_cons_zero, List.set_cons_succ]
  refine wpH_take (v := ?_) 7 hR hst rfl ?_ ?_; rotate_left; (intro W hS K hK; clear hS; go_simp; exact hK.out _ (Below.refl _ _)); simp only [Act.put, List.setIfInBounds_toArray, List.set_cons_zero, List.set_cons_succ]
  refine wpH_take (v := ?_) 8 hR hst rfl ?_ ?_; rotate_left; (intro W hS K hK; clear hS; go_simp; exact hK.out _ (Below.refl _ _)); simp only [Act.put, List.setIfInBounds_toArray, List.set_cons_zero, List.set_cons_succ]
  refine wpH_take (v := ?_) 9 hR hst rfl ?_ ?_; rotate_left; (intro W hS K hK; clear hS; go_simp; exact hK.out _ (Below.refl _ _)); simp only [Act.put, List.setIfInBounds_toArray, List.set_cons_zero, List.set_cons_succ]
  refine wpH_take (v := ?_) 10 hR hst rfl ?_ ?_; rotate_left; (intro W hS K hK; clear hS; go_simp; exact hK.out _ (Below.refl _ _)); simp only [Act.put, List.setIfInBounds_toArray, List.set_cons_zero, List.set_cons_succ]
  refine wpH_done (fun w_48 hS => ?_)
  obtain ⟨hB, G_4, G_11, G_22, G_46, RP, RS⟩ := hS
  clear hst
  dsimp only [List.drop]
  go_wp2_with (first | (with_reducible refine stop_store ?_) | (with_reducible refine stop_box ?_) | (with_reducible refine stop_alloc ?_) | (with_reducible refine stop_bslice ?_) | (with_reducible refine stop_append ?_))
  unfold Kept
  refine wpList_st1 6 (.int .u16 (W16 ((BitVec.setWidth 16 p0) ||| ((BitVec.setWidth 16 p1) <<< 8)))) #[.int .u32 (W32 iv), .int .i64 nd, .bool fc, .int .i64 (W8 (o0 &&& 127#8)), .int .u32 (W32 (((BitVec.setWidth 32 o1) ||| ((BitVec.setWidth 32 o2) <<< 8)) ||| ((BitVec.setWidth 32 o3) <<< 16))), .int .u16 (W16 ((BitVec.setWidth 16 o4) ||| ((BitVec.setWidth 16 o5) <<< 8))), .int .u16 (W16 ((BitVec.setWidth 16 p0) ||| ((BitVec.setWidth 16 p1) <<< 8))), .slice none 0 0] G_46 rfl rfl rfl (by kernel_rfl) rfl (of_decide_eq_true rfl) rfl ?_
  intro w_49 G_51 hU_50
  replace G_4 := hU_50.blk G_4 (by omega)
  replace G_11 := hU_50.blk G_11 (by omega)
  replace G_22 := hU_50.blk G_22 (by omega)
  replace RP := RdB.upd RP G_46 hU_50 (by rfl)
  replace RS := RdB.upd RS G_46 hU_50 (by rfl)
  replace hB := hU_50.below hB (by omega)
  clear G_46 hU_50
  go_wp2_with (first | (with_reducible refine stop_store ?_) | (with_reducible refine stop_box ?_) | (with_reducible refine stop_alloc ?_) | (with_reducible refine stop_bslice ?_) | (with_reducible refine stop_append ?_))
  unfold Kept
  refine go_mem (ty := 36) (cs := #[.slice (some ⟨q, qo + 2, none⟩) (np - 2) (cp - 2)]) (fun g => .slice (some ⟨g, 0, none⟩) 1 1) rfl (by kernel_rfl) ?_
  intro g_52 w_53 z_57 l_56 hb_54 G_55
  have n_58 : g_25 < g_52 := Nat.lt_of_lt_of_le G_51.lt l_56
  have n_59 : w.heap.size ≤ g_52 := Nat.le_trans hB.size l_56
  replace G_4 := G_4.to hb_54 G_4.lt
  replace G_11 := G_11.to hb_54 G_11.lt
  replace G_22 := G_22.to hb_54 G_22.lt
  replace G_51 := G_51.to hb_54 G_51.lt
  replace RP := Rd.to RP hb_54
  replace RS := Rd.to RS hb_54
  replace hB := hB.trans (hb_54.mono hB.size)
  clear hb_54 l_56 z_57
  go_wp2_with (first | (with_reducible refine stop_store ?_) | (with_reducible refine stop_box ?_) | (with_reducible refine stop_alloc ?_) | (with_reducible refine stop_bslice ?_) | (with_reducible refine stop_append ?_))
  refine (join_at (n := 1) (m := (np - 2)) [(some ⟨q, qo + 2, none⟩, cp - 2, ps)] ps G_55 (by simp only [pcells, List.map_cons, List.map_nil, HPS.out]; try rfl) rfl (by simp) (HPS.out) (fun p hp => by
      simp only [List.mem_cons, List.not_mem_nil, or_false] at hp
      subst hp
      exact RS) (by omega) (by decide) hB.size).mono ?_; rintro e w_60 ⟨A17_3, c17_3, rfl, R17_3, hb_61⟩
  replace G_4 := G_4.to hb_61 G_4.lt
  replace G_11 := G_11.to hb_61 G_11.lt
  replace G_22 := G_22.to hb_61 G_22.lt
  replace G_51 := G_51.to hb_61 G_51.lt
  replace G_55 := G_55.to hb_61 G_55.lt
  replace RP := Rd.to RP hb_61
  replace RS := Rd.to RS hb_61
  replace hB := hB.trans (hb_61.mono hB.size)
  clear hb_61
  go_wp2_with (first | (with_reducible refine stop_store ?_) | (with_reducible refine stop_box ?_) | (with_reducible refine stop_alloc ?_) | (with_reducible refine stop_bslice ?_) | (with_reducible refine stop_append ?_))
  unfold Kept
  refine wpList_st1 7 (.slice A17_3 ((np - 2)) c17_3) #[.int .u32 (W32 iv), .int .i64 nd, .bool fc, .int .i64 (W8 (o0 &&& 127#8)), .int .u32 (W32 (((BitVec.setWidth 32 o1) ||| ((BitVec.setWidth 32 o2) <<< 8)) ||| ((BitVec.setWidth 32 o3) <<< 16))), .int .u16 (W16 ((BitVec.setWidth 16 o4) ||| ((BitVec.setWidth 16 o5) <<< 8))), .int .u16 (W16 ((BitVec.setWidth 16 p0) ||| ((BitVec.setWidth 16 p1) <<< 8))), .slice A17_3 ((np - 2)) c17_3] G_51 rfl rfl rfl (by kernel_rfl) rfl (of_decide_eq_true rfl) rfl ?_
  intro w_62 G_64 hU_63
  replace G_4 := hU_63.blk G_4 (by omega)
  replace G_11 := hU_63.blk G_11 (by omega)
  replace G_22 := hU_63.blk G_22 (by omega)
  replace G_55 := hU_63.blk G_55 (by omega)
  replace RP := RdB.upd RP G_51 hU_63 (by rfl)
  replace RS := RdB.upd RS G_51 hU_63 (by rfl)
  replace R17_3 := own_upd R17_3 G_51 hU_63 (by decide)
  replace hB := hU_63.below hB (by omega)
  clear G_51 hU_63
  go_wp2_with (first | (with_reducible refine stop_store ?_) | (with_reducible refine stop_box ?_) | (with_reducible refine stop_alloc ?_) | (with_reducible refine stop_bslice ?_) | (with_reducible refine stop_append ?_) | ((with_reducible refine wpList_ld 0 [.int .u32 (W32 iv), .int .i64 nd, .bool fc, .int .i64 (W8 (o0 &&& 127#8)), .int .u32 (W32 (((BitVec.setWidth 32 o1) ||| ((BitVec.setWidth 32 o2) <<< 8)) ||| ((BitVec.setWidth 32 o3) <<< 16))), .int .u16 (W16 ((BitVec.setWidth 16 o4) ||| ((BitVec.setWidth 16 o5) <<< 8))), .int .u16 (W16 ((BitVec.setWidth 16 p0) ||| ((BitVec.setWidth 16 p1) <<< 8))), .slice A17_3 ((np - 2)) c17_3] G_64 ?_ ?_ Try.underlying44 ?_ ?_ ?_); rfl; rfl; rfl; kernel_rfl))
  refine (CK.out _ _ _).mono ?_; rintro e w_66 ⟨rfl, hb_67⟩
  replace G_4 := G_4.to hb_67 G_4.lt
  replace G_11 := G_11.to hb_67 G_11.lt
  replace G_22 := G_22.to hb_67 G_22.lt
  replace G_64 := G_64.to hb_67 G_64.lt
  replace G_55 := G_55.to hb_67 G_55.lt
  replace RP := Rd.to RP hb_67
  replace RS := Rd.to RS hb_67
  replace R17_3 := own_to R17_3 hb_67
  replace hB := hB.trans (hb_67.mono hB.size)
  clear hb_67
  go_wp2_with (first | (with_reducible refine stop_store ?_) | (with_reducible refine stop_box ?_) | (with_reducible refine stop_alloc ?_) | (with_reducible refine stop_bslice ?_) | (with_reducible refine stop_append ?_))
  unfold Kept
  refine wpList_st 0 #[.int .u32 0, .int .i64 0, .bool false, .int .i64 0, .int .u32 0, .int .u16 0, .int .u16 0, .slice none 0 0] #[.int .u32 0, .int .i64 0, .bool false, .int .i64 0, .int .u32 0, .int .u16 0, .int .u16 0, .slice none 0 0] G_11 rfl rfl (by kernel_rfl) rfl (of_decide_eq_true rfl) rfl ?_
  intro w_68 G_70 hU_69
  replace G_4 := hU_69.blk G_4 (by omega)
  replace G_22 := hU_69.blk G_22 (by omega)
  replace G_64 := hU_69.blk G_64 (by omega)
  replace G_55 := hU_69.blk G_55 (by omega)
  replace RP := RdB.upd RP G_11 hU_69 (by rfl)
  replace RS := RdB.upd RS G_11 hU_69 (by rfl)
  replace R17_3 := own_upd R17_3 G_11 hU_69 (by decide)
  replace hB := hU_69.below hB (by omega)
  clear G_11 hU_69
  go_wp2_with (first | (with_reducible refine stop_store ?_) | (with_reducible refine stop_box ?_) | (with_reducible refine stop_alloc ?_) | (with_reducible refine stop_bslice ?_) | (with_reducible refine stop_append ?_))
  refine bodyPost_ret (results_ct rfl rfl (load_blk G_70 Try.underlying44 rfl (by kernel_rfl))) rfl ?_
  exact ⟨none, 0, rfl, bcell_nil _, Nat.le_refl _, hB⟩
set_option maxHeartbeats 8000000 in
theorem net_Decode_o (k1 : BitVec 64) (k3 k4 k5 : BitVec 64) (nd : Int) (iv : BitVec 32) (pb po n d : Nat) (b0 x0 x1 x2 x3 x4 x5 : BitVec 8) (sd : List (BitVec 8)) (o0 o1 o2 o3 o4 o5 : BitVec 8) (fc : Bool) (non : BitVec 64) (p0 p1 : BitVec 8) (ps : List (BitVec 8)) (np : Nat) (w : World) (RB0 : Rg pb po [.int .u8 (W8 b0)] w) (RX0 : Rg pb (po + 1) [.int .u8 (W8 x0), .int .u8 (W8 x1), .int .u8 (W8 x2), .int .u8 (W8 x3), .int .u8 (W8 x4), .int .u8 (W8 x5)] w) (hs0 : RdB w (some ⟨pb, po + 7, none⟩) sd) (hr0 : RdB w (some ⟨pb, po + 1, none⟩) [x0, x1, x2, x3, x4, x5]) (hn : sd.length + 7 = n) (hd : n ≤ d) (h14 : 14 ≤ n) (h29 : n ≤ 29) (hnd : W8 (b0 &&& 127#8) = nd) (hbi : W8 (b0 >>> 7) = W32 (iv &&& 1#32)) (hop : xorB [x0, x1, x2, x3, x4, x5] (maskL ⟨k1, nd, k3, k4, k5⟩ iv sd) = [o0, o1, o2, o3, o4, o5]) (hfc : (o0 &&& 128#8 != 0#8) = fc) (hnon : nonceK 0 ((BitVec.setWidth 16 o4) ||| ((BitVec.setWidth 16 o5) <<< 8)) (((BitVec.setWidth 32 o1) ||| ((BitVec.setWidth 32 o2) <<< 8)) ||| ((BitVec.setWidth 32 o3) <<< 16)) iv = non) (hres : openB k3 non [o0] sd = (p0 :: p1 :: ps, 0)) (hnp : (p0 :: p1 :: ps).length = np) (h3 : 3 ≤ np) (hck : checkN ⟨iv, nd, fc, W8 (o0 &&& 127#8), ((BitVec.setWidth 32 o1) ||| ((BitVec.setWidth 32 o2) <<< 8)) ||| ((BitVec.setWidth 32 o3) <<< 16), (BitVec.setWidth 16 o4) ||| ((BitVec.setWidth 16 o5) <<< 8), (BitVec.setWidth 16 p0) ||| ((BitVec.setWidth 16 p1) <<< 8), ps⟩ = 0) :
    Calls Try.prog 34 #[.agg #[.int .u64 (W64 k1), .int .i64 nd, .int .u64 (W64 k3), .int .u64 (W64 k4), .int .u64 (W64 k5)], .int .u32 (W32 iv), .slice (some ⟨pb, po, none⟩) n d] w (RetN w (⟨iv, nd, fc, W8 (o0 &&& 127#8), ((BitVec.setWidth 32 o1) ||| ((BitVec.setWidth 32 o2) <<< 8)) ||| ((BitVec.setWidth 32 o3) <<< 16), (BitVec.setWidth 16 o4) ||| ((BitVec.setWidth 16 o5) <<< 8), (BitVec.setWidth 16 p0) ||| ((BitVec.setWidth 16 p1) <<< 8), ps⟩, 0)) := by
  have RB := Lib.hid (fun W (hB : Below w.heap.size w W) => (Rg.to RB0 hB).2)
  have RX := Lib.hid (fun W (hB : Below w.heap.size w W) => (Rg.to RX0 hB).2)
  have i0 : decide ((n : Int) < 14) = false := by simp; omega
  have i1 : decide ((29 : Int) < (n : Int)) = false := by simp; omega
  obtain ⟨n7, hn7⟩ : ∃ x, n - 7 = x := ⟨_, rfl⟩
  have hsn : sd.length = n - 7 := by omega
  have CN := Lib.hid (fun W => show Calls Try.prog 17 #[.int .i64 0, .int .u16 (W16 ((BitVec.setWidth 16 o4) ||| ((BitVec.setWidth 16 o5) <<< 8))), .int .u32 (W32 (((BitVec.setWidth 32 o1) ||| ((BitVec.setWidth 32 o2) <<< 8)) ||| ((BitVec.setWidth 32 o3) <<< 16))), .int .u32 (W32 iv)] W fun e w' => e = .returned (.int .u64 (W64 non)) ∧ Below W.heap.size W w' from by have := mesh_Nonce 0 ((BitVec.setWidth 16 o4) ||| ((BitVec.setWidth 16 o5) <<< 8)) (((BitVec.setWidth 32 o1) ||| ((BitVec.setWidth 32 o2) <<< 8)) ||| ((BitVec.setWidth 32 o3) <<< 16)) iv W; rw [hnon] at this; exact this)
  obtain ⟨bt, hbt⟩ : ∃ x, W8 (b0 >>> 7) = x := ⟨_, rfl⟩
  have CHn := Lib.hid (fun W (hB : Below w.heap.size w W) => show Calls Try.prog 36 #[.slice (some ⟨pb, po, none⟩) n d] W fun e w' => e = .returned (.tuple #[.int .i64 bt, .int .i64 nd, .int .i64 0]) ∧ Below W.heap.size W w' from by have := net_Hint_f pb po n d b0 W (Rg.to RB0 hB) (by omega); rw [hbt, hnd] at this; exact this)
  obtain ⟨m0, m1, m2, m3, m4, m5, hmk⟩ := list6 (maskL_length ⟨k1, nd, k3, k4, k5⟩ iv sd)
  rw [hmk] at hop
  have hx : [x0 ^^^ m0, x1 ^^^ m1, x2 ^^^ m2, x3 ^^^ m3, x4 ^^^ m4, x5 ^^^ m5] = [o0, o1, o2, o3, o4, o5] := hop
  simp only [List.cons.injEq, and_true] at hx
  obtain ⟨e0, e1, e2, e3, e4, e5⟩ := hx
  have CM := Lib.hid (fun W (hB : Below w.heap.size w W) => show Calls Try.prog 54 #[.agg #[.int .u64 (W64 k1), .int .i64 nd, .int .u64 (W64 k3), .int .u64 (W64 k4), .int .u64 (W64 k5)], .int .u32 (W32 iv), .slice (some ⟨pb, po + 7, none⟩) (n - 7) (d - 7)] W fun e w' => e = .returned (.agg #[.int .u8 (W8 m0), .int .u8 (W8 m1), .int .u8 (W8 m2), .int .u8 (W8 m3), .int .u8 (W8 m4), .int .u8 (W8 m5)]) ∧ Below W.heap.size W w' from by have := net_mask_f k1 nd k3 k4 k5 iv (some ⟨pb, po + 7, none⟩) (n - 7) (d - 7) sd W (Rd.to hs0 hB) hsn (by omega) (by omega) (by omega); rw [hmk] at this; exact this)
  have CX := Lib.hid (fun W => show Calls Try.prog 53 #[.agg #[.int .u8 (W8 x0), .int .u8 (W8 x1), .int .u8 (W8 x2), .int .u8 (W8 x3), .int .u8 (W8 x4), .int .u8 (W8 x5)], .agg #[.int .u8 (W8 m0), .int .u8 (W8 m1), .int .u8 (W8 m2), .int .u8 (W8 m3), .int .u8 (W8 m4), .int .u8 (W8 m5)]] W fun e w' => e = .returned (.agg #[.int .u8 (W8 o0), .int .u8 (W8 o1), .int .u8 (W8 o2), .int .u8 (W8 o3), .int .u8 (W8 o4), .int .u8 (W8 o5)]) ∧ Below W.heap.size W w' from by have := net_xor_f x0 x1 x2 x3 x4 x5 m0 m1 m2 m3 m4 m5 W; rw [e0, e1, e2, e3, e4, e5] at this; exact this)
  have ef : ((W8 (o0 &&& 128#8) : Int) != 0) = fc := by have this : (W8 (o0 &&& 128#8) != W8 0#8) = fc := (by rw [W8_bne]; exact hfc); exact this
  have ebi : W32 (iv &&& 1#32) = bt := by rw [← hbi, hbt]
  have bb1 : 0 ≤ bt := by rw [← hbt]; exact (W8_bd _).1
  have bb2 : bt ≤ 255 := by rw [← hbt]; exact (W8_bd _).2
  clear e0 e1 e2 e3 e4 e5 hmk hop hbt
  have y3 : IntKind.i64.wrap (W8 (o0 &&& 127#8)) = W8 (o0 &&& 127#8) := IntWalk.i64_in _ (by have := W8_bd (o0 &&& 127#8); omega)
  have q7 : ¬ d = 7 := by omega
  have q1 : ¬ d = 1 := by omega
  have q8 : (7 : Int) ≤ (d : Int) := by omega
  have q9 : (7 : Int) ≤ (n : Int) := by omega
  have CO := Lib.hid (fun W g (hh : RdB W (some ⟨g, 0, none⟩) [o0]) (hB : Below w.heap.size w W) => show Calls Try.prog 49 #[.int .u64 (W64 k3), .int .u64 (W64 non), .slice (some ⟨g, 0, none⟩) 1 6, .slice (some ⟨pb, po + 7, none⟩) (n - 7) (d - 7)] W fun e w' => ∃ q qo cp, e = .returned (.tuple #[.slice (some ⟨q, qo, none⟩) np cp, .int .i64 0]) ∧ RdB w' (some ⟨q, qo, none⟩) (p0 :: p1 :: ps) ∧ RdB w' (some ⟨q, qo + 2, none⟩) ps ∧ (2 : Int) ≤ (cp : Int) ∧ ¬ cp = 2 ∧ Below W.heap.size W w' from by
    have := mac_Open k3 non (some ⟨g, 0, none⟩) (some ⟨pb, po + 7, none⟩) 6 (d - 7) [o0] sd W hh (Rd.to hs0 hB) (by simp) (by omega) (by omega)
    rw [hsn, hres] at this
    refine this.mono ?_
    rintro e w' ⟨A, c, rfl, hr, hc, hb⟩
    dsimp only at hr hc
    rw [hnp] at hc
    obtain ⟨q, qo, rfl, hlt, _⟩ := Rd.open_ hr (by rw [bcells_length]; exact Nat.succ_pos _)
    exact ⟨q, qo, c, by dsimp only; rw [hnp], hr, rd_cut hr hlt 2, by omega, by omega, hb⟩)
  have CK := Lib.hid (fun W A c => show Calls Try.prog 26 #[.agg #[.int .u32 (W32 iv), .int .i64 nd, .bool fc, .int .i64 (W8 (o0 &&& 127#8)), .int .u32 (W32 (((BitVec.setWidth 32 o1) ||| ((BitVec.setWidth 32 o2) <<< 8)) ||| ((BitVec.setWidth 32 o3) <<< 16))), .int .u16 (W16 ((BitVec.setWidth 16 o4) ||| ((BitVec.setWidth 16 o5) <<< 8))), .int .u16 (W16 ((BitVec.setWidth 16 p0) ||| ((BitVec.setWidth 16 p1) <<< 8))), .slice A (np - 2) c]] W fun e w' => e = .returned (.int .i64 0) ∧ Below W.heap.size W w' from by
    have hq : ps.length = np - 2 := by simp at hnp; omega
    have hpl : (openB k3 non [o0] sd).1.length ≤ sd.length := openB_le _ _ _ _
    have hpl2 : (p0 :: p1 :: ps).length ≤ sd.length := by rw [hres] at hpl; exact hpl
    have := net_Check ⟨iv, nd, fc, W8 (o0 &&& 127#8), ((BitVec.setWidth 32 o1) ||| ((BitVec.setWidth 32 o2) <<< 8)) ||| ((BitVec.setWidth 32 o3) <<< 16), (BitVec.setWidth 16 o4) ||| ((BitVec.setWidth 16 o5) <<< 8), (BitVec.setWidth 16 p0) ||| ((BitVec.setWidth 16 p1) <<< 8), ps⟩ A c W (by dsimp only; omega)
    unfold npA at this
    dsimp only at this
    rw [hq, hck] at this
    exact this)
  have HPS := Lib.hid (show ps.length = np - 2 by simp at hnp; omega)
  have hnb : np ≤ 22 := by
    have hpl : (openB k3 non [o0] sd).1.length ≤ sd.length := openB_le _ _ _ _
    rw [hres] at hpl
    dsimp only at hpl
    omega
  have r2 : (2 : Int) ≤ (np : Int) := by omega
  have r0 : 0 < np := by omega
  have r1 : (1 : Int) < (np : Int) := by omega
  clear RB0 RX0 hnon hfc hbi hnd hn7
  clear hres hck
  go_enter Try.func34, Try.ntmps34
  have hB := Below.refl w.heap.size w
  go_wp2_with (first | (with_reducible refine stop_store ?_) | (with_reducible refine stop_box ?_) | (with_reducible refine stop_alloc ?_) | (with_reducible refine stop_bslice ?_) | (with_reducible refine stop_append ?_))
  unfold Kept
  refine go_mem (ty := 25) (cs := #[.int .u64 (W64 k1), .int .i64 nd, .int .u64 (W64 k3), .int .u64 (W64 k4), .int .u64 (W64 k5)]) (fun g => .pointer (some ⟨g, 0, none⟩)) rfl (by kernel_rfl) ?_
  intro g_1 w_2 z_6 l_5 hb_3 G_4
  have n_7 : w.heap.size ≤ g_1 := Nat.le_trans hB.size l_5
  replace hB := hB.trans (hb_3.mono hB.size)
  clear hb_3 l_5 z_6
  go_wp2_with (first | (with_reducible refine stop_store ?_) | (with_reducible refine stop_box ?_) | (with_reducible refine stop_alloc ?_) | (with_reducible refine stop_bslice ?_) | (with_reducible refine stop_append ?_))
  unfold Kept
  refine go_mem (ty := 44) (cs := #[.int .u32 0, .int .i64 0, .bool false, .int .i64 0, .int .u32 0, .int .u16 0, .int .u16 0, .slice none 0 0]) (fun g => .pointer (some ⟨g, 0, none⟩)) rfl (by kernel_rfl) ?_
  intro g_8 w_9 z_13 l_12 hb_10 G_11
  have n_14 : g_1 < g_8 := Nat.lt_of_lt_of_le G_4.lt l_12
  have n_15 : w.heap.size ≤ g_8 := Nat.le_trans hB.size l_12
  replace G_4 := G_4.to hb_10 G_4.lt
  replace hB := hB.trans (hb_10.mono hB.size)
  clear hb_10 l_12 z_13
  go_wp2_with (first | (with_reducible refine stop_store ?_) | (with_reducible refine stop_box ?_) | (with_reducible refine stop_alloc ?_) | (with_reducible refine stop_bslice ?_) | (with_reducible refine stop_append ?_))
  refine (CHn.out _ hB).mono ?_; rintro e w_16 ⟨rfl, hb_17⟩
  replace G_4 := G_4.to hb_17 G_4.lt
  replace G_11 := G_11.to hb_17 G_11.lt
  replace hB := hB.trans (hb_17.mono hB.size)
  clear hb_17
  have ld_18 : w_16.cell? ⟨g_1, 1, none⟩ = some (.int .i64 nd) := G_4.cell 1
  go_wp2_with (first | (with_reducible refine stop_store ?_) | (with_reducible refine stop_box ?_) | (with_reducible refine stop_alloc ?_) | (with_reducible refine stop_bslice ?_) | (with_reducible refine stop_append ?_))
  clear ld_18
  try simp only [Act.put, List.setIfInBounds_toArray, List.set_cons_zero, List.set_cons_succ]
  have hst : Stable fun W => Below w.heap.size w W ∧ Blk W g_1 25 #[.int .u64 (W64 k1), .int .i64 nd, .int .u64 (W64 k3), .int .u64 (W64 k4), .int .u64 (W64 k5)] ∧ Blk W g_8 44 #[.int .u32 0, .int .i64 0, .bool false, .int .i64 0, .int .u32 0, .int .u16 0, .int .u16 0, .slice none 0 0] := stable_and (stable_below _ _ (Nat.le_refl _)) (stable_and (stable_blk _ _ _) (stable_blk _ _ _))
  refine wp_region_hh (fun W => Below w.heap.size w W ∧ Blk W g_1 25 #[.int .u64 (W64 k1), .int .i64 nd, .int .u64 (W64 k3), .int .u64 (W64 k4), .int .u64 (W64 k5)] ∧ Blk W g_8 44 #[.int .u32 0, .int .i64 0, .bool false, .int .i64 0, .int .u32 0, .int .u16 0, .int .u16 0, .slice none 0 0]) 10 hst ⟨hB.drew, G_4, G_11⟩ ⟨by kernel_rfl, by kernel_rfl, by kernel_rfl, by decide⟩ (fun hR => ?_)
  clear hB G_4 G_11
  refine wpH_take (v := ?_) 0 hR hst rfl ?_ ?_; rotate_left; (intro W hS K hK; clear hS; go_simp; exact hK.out _ (Below.refl _ _)); simp only [Act.put, List.setIfInBounds_toArray, List.set_cons_zero, List.set_cons_succ]
  refine wpH_take (v := ?_) 1 hR hst rfl ?_ ?_; rotate_left; (intro W hS K hK; clear hS; go_simp; exact hK.out _ (Below.refl _ _)); simp only [Act.put, List.setIfInBounds_toArray, List.set_cons_zero, List.set_cons_succ]
  refine wpH_take (v := ?_) 2 hR hst rfl ?_ ?_; rotate_left; (intro W hS K hK; clear hS; go_simp; exact hK.out _ (Below.refl _ _)); simp only [Act.put, List.setIfInBounds_toArray, List.set_cons_zero, List.set_cons_succ]
  refine wpH_take (v := .agg #[.int .u8 (W8 x0), .int .u8 (W8 x1), .int .u8 (W8 x2), .int .u8 (W8 x3), .int .u8 (W8 x4), .int .u8 (W8 x5)]) 3 hR hst rfl (fun W hS K hK => calm_load rfl rfl (run_loadVar_mid W pb (po + 1) 73 [.int .u8 (W8 x0), .int .u8 (W8 x1), .int .u8 (W8 x2), .int .u8 (W8 x3), .int .u8 (W8 x4), .int .u8 (W8 x5)] _ (range_part (RX.out _ hS.1) 0 [.int .u8 (W8 x0), .int .u8 (W8 x1), .int .u8 (W8 x2), .int .u8 (W8 x3), .int .u8 (W8 x4), .int .u8 (W8 x5)] rfl) Try.underlying73 rfl (by kernel_rfl)) (hK.out _ (Below.refl _ _))) ?_; simp only [Act.put, List.setIfInBounds_toArray, List.set_cons_zero, List.set_cons_succ]
  refine wpH_take (v := .agg #[.int .u64 (W64 k1), .int .i64 nd, .int .u64 (W64 k3), .int .u64 (W64 k4), .int .u64 (W64 k5)]) 4 hR hst rfl (fun W hS K hK => calm_load rfl rfl (load_part hS.2.1 0 [.int .u64 (W64 k1), .int .i64 nd, .int .u64 (W64 k3), .int .u64 (W64 k4), .int .u64 (W64 k5)] rfl Try.underlying25 rfl (by kernel_rfl)) (hK.out _ (Below.refl _ _))) ?_; simp only [Act.put, List.setIfInBounds_toArray, List.set_cons_zero, List.set_cons_succ]
  refine wpH_take (v := ?_) 5 hR hst rfl ?_ ?_; rotate_left; (intro W hS K hK; clear hS; go_simp; exact hK.out _ (Below.refl _ _)); simp only [Act.put, List.setIfInBounds_toArray, List.set_cons_zero, List.set_cons_succ]
  refine wpH_take (v := ?_) 6 hR hst rfl ?_ ?_; rotate_left; (intro W hS K hK; clear hS; go_simp; exact hK.out _ (Below.refl _ _)); simp only [Act.put, List.setIfInBounds_toArray, List.set_cons_zero, List.set_cons_succ]
  refine wpH_take (v := .agg #[.int .u8 (W8 m0), .int .u8 (W8 m1), .int .u8 (W8 m2), .int .u8 (W8 m3), .int .u8 (W8 m4), .int .u8 (W8 m5)]) 7 hR hst rfl ?_ ?_; (intro W hS K hK; go_simp; refine (CM.out _ hS.1).mono ?_; rintro e w9 ⟨rfl, hb⟩; refine CallPost.mk ?_; exact hK.out _ (hb)); simp only [Act.put, List.setIfInBounds_toArray, List.set_cons_zero, List.set_cons_succ]
  refine wpH_take (v := .agg #[.int .u8 (W8 o0), .int .u8 (W8 o1), .int .u8 (W8 o2), .int .u8 (W8 o3), .int .u8 (W8 o4), .int .u8 (W8 o5)]) 8 hR hst rfl ?_ ?_; (intro W hS K hK; clear hS; go_simp; refine (CX.out _).mono ?_; rintro e w9 ⟨rfl, hb⟩; refine CallPost.mk ?_; exact hK.out _ (hb)); simp only [Act.put, List.setIfInBounds_toArray, List.set_cons_zero, List.set_cons_succ]
  refine wpH_new 9 hst rfl ?_; intro W hS K hK
  have l9_9_g_1 : g_1 < W.heap.size := hS.2.1.lt
  have l9_9_g_8 : g_8 < W.heap.size := hS.2.2.lt
  have n9_9a : w.heap.size ≤ W.heap.size := hS.1.size
  clear hS
  go_simp
  refine hK.out (fun W' => Blk W' W.heap.size 73 #[.int .u8 0, .int .u8 0, .int .u8 0, .int .u8 0, .int .u8 0, .int .u8 0]) _ _ (stable_blk _ _ _) ((Below.refl _ _).alloc (Nat.le_refl _) _) (Blk.new _ _ _) (fun hst => ?_)
  clear hK K
  try simp only [Act.put, List.setIfInBounds_toArray, List.set_cons_zero, List.set_cons_succ]
  generalize W.heap.size = g9_9 at hst l9_9_g_1 l9_9_g_8 n9_9a ⊢
  clear W
  refine wpH_done (fun w_19 hS => ?_)
  obtain ⟨⟨hB, G_4, G_11⟩, G9_9⟩ := hS
  clear hst
  dsimp only [List.drop]
  go_wp2_with (first | (with_reducible refine stop_store ?_) | (with_reducible refine stop_box ?_) | (with_reducible refine stop_alloc ?_) | (with_reducible refine stop_bslice ?_) | (with_reducible refine stop_append ?_))
  unfold Kept
  refine wpList_st 0 #[.int .u8 (W8 o0), .int .u8 (W8 o1), .int .u8 (W8 o2), .int .u8 (W8 o3), .int .u8 (W8 o4), .int .u8 (W8 o5)] #[.int .u8 (W8 o0), .int .u8 (W8 o1), .int .u8 (W8 o2), .int .u8 (W8 o3), .int .u8 (W8 o4), .int .u8 (W8 o5)] G9_9 rfl rfl (by kernel_rfl) rfl (of_decide_eq_true rfl) rfl ?_
  intro w_20 G_22 hU_21
  replace G_4 := hU_21.blk G_4 (by omega)
  replace G_11 := hU_21.blk G_11 (by omega)
  replace hB := hU_21.below hB (by omega)
  clear G9_9 hU_21
  have ld_23 : w_20.cell? ⟨g_1, 1, none⟩ = some (.int .i64 nd) := G_4.cell 1
  have ld_24 : w_20.cell? ⟨g9_9, 0, none⟩ = some (.int .u8 (W8 o0)) := G_22.cell 0
  go_wp2_with (first | (with_reducible refine stop_store ?_) | (with_reducible refine stop_box ?_) | (with_reducible refine stop_alloc ?_) | (with_reducible refine stop_bslice ?_) | (with_reducible refine stop_append ?_))
  unfold Kept
  refine go_mem (ty := 44) (cs := #[.int .u32 0, .int .i64 0, .bool false, .int .i64 0, .int .u32 0, .int .u16 0, .int .u16 0, .slice none 0 0]) (fun g => .pointer (some ⟨g, 0, none⟩)) rfl (by kernel_rfl) ?_
  intro g_25 w_26 z_30 l_29 hb_27 G_28
  clear ld_23 ld_24
  have n_31 : g9_9 < g_25 := Nat.lt_of_lt_of_le G_22.lt l_29
  have n_32 : w.heap.size ≤ g_25 := Nat.le_trans hB.size l_29
  replace G_4 := G_4.to hb_27 G_4.lt
  replace G_11 := G_11.to hb_27 G_11.lt
  replace G_22 := G_22.to hb_27 G_22.lt
  replace hB := hB.trans (hb_27.mono hB.size)
  clear hb_27 l_29 z_30
  go_wp2_with (first | (with_reducible refine stop_store ?_) | (with_reducible refine stop_box ?_) | (with_reducible refine stop_alloc ?_) | (with_reducible refine stop_bslice ?_) | (with_reducible refine stop_append ?_))
  unfold Kept
  refine wpList_st 0 #[.int .u32 (W32 iv), .int .i64 nd, .bool fc, .int .i64 (W8 (o0 &&& 127#8)), .int .u32 0, .int .u16 0, .int .u16 0, .slice none 0 0] #[.int .u32 (W32 iv), .int .i64 nd, .bool fc, .int .i64 (W8 (o0 &&& 127#8)), .int .u32 0, .int .u16 0, .int .u16 0, .slice none 0 0] G_28 rfl rfl (by kernel_rfl) rfl (of_decide_eq_true rfl) rfl ?_
  intro w_33 G_35 hU_34
  replace G_4 := hU_34.blk G_4 (by omega)
  replace G_11 := hU_34.blk G_11 (by omega)
  replace G_22 := hU_34.blk G_22 (by omega)
  replace hB := hU_34.below hB (by omega)
  clear G_28 hU_34
  have ld_36 : w_33.cell? ⟨g9_9, 1, none⟩ = some (.int .u8 (W8 o1)) := G_22.cell 1
  have ld_37 : w_33.cell? ⟨g9_9, 2, none⟩ = some (.int .u8 (W8 o2)) := G_22.cell 2
  have ld_38 : w_33.cell? ⟨g9_9, 3, none⟩ = some (.int .u8 (W8 o3)) := G_22.cell 3
  go_wp2_with (first | (with_reducible refine stop_store ?_) | (with_reducible refine stop_box ?_) | (with_reducible refine stop_alloc ?_) | (with_reducible refine stop_bslice ?_) | (with_reducible refine stop_append ?_))
  unfold Kept
  refine wpList_st1 4 (.int .u32 (W32 (((BitVec.setWidth 32 o1) ||| ((BitVec.setWidth 32 o2) <<< 8)) ||| ((BitVec.setWidth 32 o3) <<< 16)))) #[.int .u32 (W32 iv), .int .i64 nd, .bool fc, .int .i64 (W8 (o0 &&& 127#8)), .int .u32 (W32 (((BitVec.setWidth 32 o1) ||| ((BitVec.setWidth 32 o2) <<< 8)) ||| ((BitVec.setWidth 32 o3) <<< 16))), .int .u16 0, .int .u16 0, .slice none 0 0] G_35 rfl rfl rfl (by kernel_rfl) rfl (of_decide_eq_true rfl) rfl ?_
  intro w_39 G_41 hU_40
  clear ld_36 ld_37 ld_38
  replace G_4 := hU_40.blk G_4 (by omega)
  replace G_11 := hU_40.blk G_11 (by omega)
  replace G_22 := hU_40.blk G_22 (by omega)
  replace hB := hU_40.below hB (by omega)
  clear G_35 hU_40
  have ld_42 : w_39.cell? ⟨g9_9, 4, none⟩ = some (.int .u8 (W8 o4)) := G_22.cell 4
  have ld_43 : w_39.cell? ⟨g9_9, 5, none⟩ = some (.int .u8 (W8 o5)) := G_22.cell 5
  go_wp2_with (first | (with_reducible refine stop_store ?_) | (with_reducible refine stop_box ?_) | (with_reducible refine stop_alloc ?_) | (with_reducible refine stop_bslice ?_) | (with_reducible refine stop_append ?_))
  unfold Kept
  refine wpList_st1 5 (.int .u16 (W16 ((BitVec.setWidth 16 o4) ||| ((BitVec.setWidth 16 o5) <<< 8)))) #[.int .u32 (W32 iv), .int .i64 nd, .bool fc, .int .i64 (W8 (o0 &&& 127#8)), .int .u32 (W32 (((BitVec.setWidth 32 o1) ||| ((BitVec.setWidth 32 o2) <<< 8)) ||| ((BitVec.setWidth 32 o3) <<< 16))), .int .u16 (W16 ((BitVec.setWidth 16 o4) ||| ((BitVec.setWidth 16 o5) <<< 8))), .int .u16 0, .slice none 0 0] G_41 rfl rfl rfl (by kernel_rfl) rfl (of_decide_eq_true rfl) rfl ?_
  intro w_44 G_46 hU_45
  clear ld_42 ld_43
  replace G_4 := hU_45.blk G_4 (by omega)
  replace G_11 := hU_45.blk G_11 (by omega)
  replace G_22 := hU_45.blk G_22 (by omega)
  replace hB := hU_45.below hB (by omega)
  clear G_41 hU_45
  go_wp2_with (first | (with_reducible refine stop_store ?_) | (with_reducible refine stop_box ?_) | (with_reducible refine stop_alloc ?_) | (with_reducible refine stop_bslice ?_) | (with_reducible refine stop_append ?_))
  have hst : Stable fun W => Below w.heap.size w W ∧ Blk W g_1 25 #[.int .u64 (W64 k1), .int .i64 nd, .int .u64 (W64 k3), .int .u64 (W64 k4), .int .u64 (W64 k5)] ∧ Blk W g_8 44 #[.int .u32 0, .int .i64 0, .bool false, .int .i64 0, .int .u32 0, .int .u16 0, .int .u16 0, .slice none 0 0] ∧ Blk W g9_9 73 #[.int .u8 (W8 o0), .int .u8 (W8 o1), .int .u8 (W8 o2), .int .u8 (W8 o3), .int .u8 (W8 o4), .int .u8 (W8 o5)] ∧ Blk W g_25 44 #[.int .u32 (W32 iv), .int .i64 nd, .bool fc, .int .i64 (W8 (o0 &&& 127#8)), .int .u32 (W32 (((BitVec.setWidth 32 o1) ||| ((BitVec.setWidth 32 o2) <<< 8)) ||| ((BitVec.setWidth 32 o3) <<< 16))), .int .u16 (W16 ((BitVec.setWidth 16 o4) ||| ((BitVec.setWidth 16 o5) <<< 8))), .int .u16 0, .slice none 0 0] := stable_and (stable_below _ _ (Nat.le_refl _)) (stable_and (stable_blk _ _ _) (stable_and (stable_blk _ _ _) (stable_and (stable_blk _ _ _) (stable_blk _ _ _))))
  refine wp_region_v _ 16 hst ⟨hB.drew, G_4, G_11, G_22, G_46⟩ ?_
  clear hB G_4 G_11 G_22 G_46
  refine wpU_take (v := ?_) 0 hst (fun _ h => h) rfl ?_ ?_; rotate_left; (intro W hS K hK; clear hS; go_simp; exact hK.out _ (Below.refl _ _)); simp only [Act.put, List.setIfInBounds_toArray, List.set_cons_zero, List.set_cons_succ]
  refine wpU_take (v := ?_) 1 hst (fun _ h => h) rfl ?_ ?_; rotate_left; (intro W hS K hK; have ld : W.cell? ⟨g_1, 2, none⟩ = some (.int .u64 (W64 k3)) := hS.2.1.cell 2; clear hS; go_simp; exact hK.out _ (Below.refl _ _)); simp only [Act.put, List.setIfInBounds_toArray, List.set_cons_zero, List.set_cons_succ]
  refine wpU_take (v := ?_) 2 hst (fun _ h => h) rfl ?_ ?_; rotate_left; (intro W hS K hK; clear hS; go_simp; exact hK.out _ (Below.refl _ _)); simp only [Act.put, List.setIfInBounds_toArray, List.set_cons_zero, List.set_cons_succ]
  refine wpU_take (v := ?_) 3 hst (fun _ h => h) rfl ?_ ?_; rotate_left; (intro W hS K hK; have ld : W.cell? ⟨g_25, 5, none⟩ = some (.int .u16 (W16 ((BitVec.setWidth 16 o4) ||| ((BitVec.setWidth 16 o5) <<< 8)))) := hS.2.2.2.2.cell 5; clear hS; go_simp; exact hK.out _ (Below.refl _ _)); simp only [Act.put, List.setIfInBounds_toArray, List.set_cons_zero, List.set_cons_succ]
  refine wpU_take (v := ?_) 4 hst (fun _ h => h) rfl ?_ ?_; rotate_left; (intro W hS K hK; clear hS; go_simp; exact hK.out _ (Below.refl _ _)); simp only [Act.put, List.setIfInBounds_toArray, List.set_cons_zero, List.set_cons_succ]
  refine wpU_take (v := ?_) 5 hst (fun _ h => h) rfl ?_ ?_; rotate_left; (intro W hS K hK; have ld : W.cell? ⟨g_25, 4, none⟩ = some (.int .u32 (W32 (((BitVec.setWidth 32 o1) ||| ((BitVec.setWidth 32 o2) <<< 8)) ||| ((BitVec.setWidth 32 o3) <<< 16)))) := hS.2.2.2.2.cell 4; clear hS; go_simp; exact hK.out _ (Below.refl _ _)); simp only [Act.put, List.setIfInBounds_toArray, List.set_cons_zero, List.set_cons_succ]
  refine wpU_take (v := ?_) 6 hst (fun _ h => h) rfl ?_ ?_; rotate_left; (intro W hS K hK; clear hS; go_simp; exact hK.out _ (Below.refl _ _)); simp only [Act.put, List.setIfInBounds_toArray, List.set_cons_zero, List.set_cons_succ]
  refine wpU_take (v := ?_) 8 hst (fun _ h => h) rfl ?_ ?_; rotate_left; (intro W hS K hK; clear hS; go_simp; exact hK.out _ (Below.refl _ _)); simp only [Act.put, List.setIfInBounds_toArray, List.set_cons_zero, List.set_cons_succ]
  refine wpU_take (v := ?_) 9 hst (fun _ h => h) rfl ?_ ?_; rotate_left; (intro W hS K hK; clear hS; go_simp; exact hK.out _ (Below.refl _ _)); simp only [Act.put, List.setIfInBounds_toArray, List.set_cons_zero, List.set_cons_succ]
  refine wpU_take (v := .int .u64 (W64 non)) 7 hst (fun _ h => h) rfl ?_ ?_; (intro W hS K hK; clear hS; go_simp; refine (CN.out _).mono ?_; rintro e w9 ⟨rfl, hb⟩; refine CallPost.mk ?_; exact hK.out _ (hb)); simp only [Act.put, List.setIfInBounds_toArray, List.set_cons_zero, List.set_cons_succ]
  refine wpV_new 10 hst rfl ?_; intro W hS K hK
  go_simp
  refine (CO.out _ g9_9 (show RdB _ _ [o0] from RdB.take (bs := [o0, o1, o2, o3, o4, o5]) (rd_blk hS.2.2.2.1) 1) hS.1).mono ?_; rintro e w9 ⟨q, qo, cp, rfl, RP, RS, c2, d2, hb⟩
  refine hK.out (fun W => RdB W (some ⟨q, qo, none⟩) (p0 :: p1 :: ps) ∧ RdB W (some ⟨q, qo + 2, none⟩) ps) _ _ (stable_and (stable_rdB _ _) (stable_rdB _ _)) hb (⟨RP, RS⟩) (fun hst => ?_)
  clear hK K hb RP RS hS
  try simp only [Act.put, List.setIfInBounds_toArray, List.set_cons_zero, List.set_cons_succ]
  refine wpU_take (v := ?_) 11 hst (fun _ h => h) rfl ?_ ?_; rotate_left; (intro W hS K hK; clear hS; go_simp; exact hK.out _ (Below.refl _ _)); simp only [Act.put, List.setIfInBounds_toArray, List.set_cons_zero, List.set_cons_succ]
  refine wpU_take (v := ?_) 12 hst (fun _ h => h) rfl ?_ ?_; rotate_left; (intro W hS K hK; clear hS; go_simp; exact hK.out _ (Below.refl _ _)); simp only [Act.put, List.setIfInBounds_toArray, List.set_cons_zero, List.set_cons_succ]
  refine wpU_take (v := ?_) 13 hst (fun _ h => h) rfl ?_ ?_; rotate_left; (intro W hS K hK; clear hS; go_simp; exact hK.out _ (Below.refl _ _)); simp only [Act.put, List.setIfInBounds_toArray, List.set_cons_zero, List.set_cons_succ]
  refine wpU_take (v := ?_) 14 hst (fun _ h => h) rfl ?_ ?_; rotate_left; (intro W hS K hK; clear hS; go_simp; exact hK.out _ (Below.refl _ _)); simp only [Act.put, List.setIfInBounds_toArray, List.set_cons_zero, List.set_cons_succ]
  refine wpU_take (v := ?_) 15 hst (fun _ h => h) rfl ?_ ?_; rotate_left; (intro W hS K hK; clear hS; go_simp; exact hK.out _ (Below.refl _ _)); simp only [Act.put, List.setIfInBounds_toArray, List.set_cons_zero, List.set_cons_succ]
  refine wpU_done (fun w_47 hS => ?_)
  obtain ⟨⟨hB, G_4, G_11, G_22, G_46⟩, ⟨RP, RS⟩⟩ := hS
  clear hst
  go_wp2_with (first | (with_reducible refine stop_store ?_) | (with_reducible refine stop_box ?_) | (with_reducible refine stop_alloc ?_) | (with_reducible refine stop_bslice ?_) | (with_reducible refine stop_append ?_))
  try simp only [Act.put, List.setIfInBounds_toArray, List.set_cons_zero, List.set_cons_succ]
  have hst : Stable fun W => Below w.heap.size w W ∧ Blk W g_1 25 #[.int .u64 (W64 k1), .int .i64 nd, .int .u64 (W64 k3), .int .u64 (W64 k4), .int .u64 (W64 k5)] ∧ Blk W g_8 44 #[.int .u32 0, .int .i64 0, .bool false, .int .i64 0, .int .u32 0, .int .u16 0, .int .u16 0, .slice none 0 0] ∧ Blk W g9_9 73 #[.int .u8 (W8 o0), .int .u8 (W8 o1), .int .u8 (W8 o2), .int .u8 (W8 o3), .int .u8 (W8 o4), .int .u8 (W8 o5)] ∧ Blk W g_25 44 #[.int .u32 (W32 iv), .int .i64 nd, .bool fc, .int .i64 (W8 (o0 &&& 127#8)), .int .u32 (W32 (((BitVec.setWidth 32 o1) ||| ((BitVec.setWidth 32 o2) <<< 8)) ||| ((BitVec.setWidth 32 o3) <<< 16))), .int .u16 (W16 ((BitVec.setWidth 16 o4) ||| ((BitVec.setWidth 16 o5) <<< 8))), .int .u16 0, .slice none 0 0] ∧ RdB W (some ⟨q, qo, none⟩) (p0 :: p1 :: ps) ∧ RdB W (some ⟨q, qo + 2, none⟩) ps := stable_and (stable_below _ _ (Nat.le_refl _)) (stable_and (stable_blk _ _ _) (stable_and (stable_blk _ _ _) (stable_and (stable_blk _ _ _) (stable_and (stable_blk _ _ _) (stable_and (stable_rdB _ _) (stable_rdB _ _))))))
  refine wp_region_hh (fun W => Below w.heap.size w W ∧ Blk W g_1 25 #[.int .u64 (W64 k1), .int .i64 nd, .int .u64 (W64 k3), .int .u64 (W64 k4), .int .u64 (W64 k5)] ∧ Blk W g_8 44 #[.int .u32 0, .int .i64 0, .bool false, .int .i64 0, .int .u32 0, .int .u16 0, .int .u16 0, .slice none 0 0] ∧ Blk W g9_9 73 #[.int .u8 (W8 o0), .int .u8 (W8 o1), .int .u8 (W8 o2), .int .u8 (W8 o3), .int .u8 (W8 o4), .int .u8 (W8 o5)] ∧ Blk W g_25 44 #[.int .u32 (W32 iv), .int .i64 nd, .bool fc, .int .i64 (W8 (o0 &&& 127#8)), .int .u32 (W32 (((BitVec.setWidth 32 o1) ||| ((BitVec.setWidth 32 o2) <<< 8)) ||| ((BitVec.setWidth 32 o3) <<< 16))), .int .u16 (W16 ((BitVec.setWidth 16 o4) ||| ((BitVec.setWidth 16 o5) <<< 8))), .int .u16 0, .slice none 0 0] ∧ RdB W (some ⟨q, qo, none⟩) (p0 :: p1 :: ps) ∧ RdB W (some ⟨q, qo + 2, none⟩) ps) 11 hst ⟨hB.drew, G_4, G_11, G_22, G_46, RP, RS⟩ ⟨by kernel_rfl, by kernel_rfl, by kernel_rfl, by decide⟩ (fun hR => ?_)
  clear hB G_4 G_11 G_22 G_46 RP RS
  refine wpH_take (v := ?_) 0 hR hst rfl ?_ ?_; rotate_left; (intro W hS K hK; clear hS; go_simp; exact hK.out _ (Below.refl _ _)); simp only [Act.put, List.setIfInBounds_toArray, List.set_cons_zero, List.set_cons_succ]
  refine wpH_take (v := ?_) 1 hR hst rfl ?_ ?_; rotate_left; (intro W hS K hK; clear hS; go_simp; exact hK.out _ (Below.refl _ _)); simp only [Act.put, List.setIfInBounds_toArray, List.set_cons_zero, List.set_cons_succ]
  refine wpH_take (v := ?_) 2 hR hst rfl ?_ ?_; rotate_left; (intro W hS K hK; have ld : W.cell? ⟨q, qo, none⟩ = some (.int .u8 (W8 p0)) := (rg_at hS.2.2.2.2.2.1 0 2 [.int .u8 (W8 p0), .int .u8 (W8 p1)] rfl (Nat.succ_pos _)).2 0 _ rfl; clear hS; go_simp; exact hK.out _ (Below.refl _ _)); simp only [Act.put, List.setIfInBounds_toArray, List.set_cons_zero, List.set_cons_succ]
  refine wpH_take (v := ?_) 3 hR hst rfl ?_ ?_; rotate_left; (intro W hS K hK; clear hS; go_simp; exact hK.out _ (Below.refl _ _)); simp only [Act.put, List.setIfInBounds_toArray, List.set_cons_zero, List.set_cons_succ]
  refine wpH_take (v := ?_) 4 hR hst rfl ?_ ?_; rotate_left; (intro W hS K hK; clear hS; go_simp; exact hK.out _ (Below.refl _ _)); simp only [Act.put, List.setIfInBounds_toArray, List.set_cons_zero, List.set_cons_succ]
  refine wpH_take (v := ?_) 5 hR hst rfl ?_ ?_; rotate_left; (intro W hS K hK; clear hS; go_simp; exact hK.out _ (Below.refl _ _)); simp only [Act.put, List.setIfInBounds_toArray, List.set_cons_zero, List.set_cons_succ]
  refine wpH_take (v := ?_) 6 hR hst rfl ?_ ?_; rotate_left; (intro W hS K hK; have ld : W.cell? ⟨q, qo + 1, none⟩ = some (.int .u8 (W8 p1)) := (rg_at hS.2.2.2.2.2.1 0 2 [.int .u8 (W8 p0), .int .u8 (W8 p1)] rfl (Nat.succ_pos _)).2 1 _ rfl; clear hS; go_simp; exact hK.out _ (Below.refl _ _)); simp only [Act.put, List.setIfInBounds_toArray, List.set_cons_zero, List.set_cons_succ]
  refine wpH_take (v := ?_) 7 hR hst rfl ?_ ?_; rotate_left; (intro W hS K hK; clear hS; go_simp; exact hK.out _ (Below.refl _ _)); simp only [Act.put, List.setIfInBounds_toArray, List.set_cons_zero, List.set_cons_succ]
  refine wpH_take (v := ?_) 8 hR hst rfl ?_ ?_; rotate_left; (intro W hS K hK; clear hS; go_simp; exact hK.out _ (Below.refl _ _)); simp only [Act.put, List.setIfInBounds_toArray, List.set_cons_zero, List.set_cons_succ]
  refine wpH_take (v := ?_) 9 hR hst rfl ?_ ?_; rotate_left; (intro W hS K hK; clear hS; go_simp; exact hK.out _ (Below.refl _ _)); simp only [Act.put, List.setIfInBounds_toArray, List.set_cons_zero, List.set_cons_succ]
  refine wpH_take (v := ?_) 10 hR hst rfl ?_ ?_; rotate_left; (intro W hS K hK; clear hS; go_simp; exact hK.out _ (Below.refl _ _)); simp only [Act.put, List.setIfInBounds_toArray, List.set_cons_zero, List.set_cons_succ]
  refine wpH_done (fun w_48 hS => ?_)
  obtain ⟨hB, G_4, G_11, G_22, G_46, RP, RS⟩ := hS
  clear hst
  dsimp only [List.drop]
  go_wp2_with (first | (with_reducible refine stop_store ?_) | (with_reducible refine stop_box ?_) | (with_reducible refine stop_alloc ?_) | (with_reducible refine stop_bslice ?_) | (with_reducible refine stop_append ?_))
  unfold Kept
  refine wpList_st1 6 (.int .u16 (W16 ((BitVec.setWidth 16 p0) ||| ((BitVec.setWidth 16 p1) <<< 8)))) #[.int .u32 (W32 iv), .int .i64 nd, .bool fc, .int .i64 (W8 (o0 &&& 127#8)), .int .u32 (W32 (((BitVec.setWidth 32 o1) ||| ((BitVec.setWidth 32 o2) <<< 8)) ||| ((BitVec.setWidth 32 o3) <<< 16))), .int .u16 (W16 ((BitVec.setWidth 16 o4) ||| ((BitVec.setWidth 16 o5) <<< 8))), .int .u16 (W16 ((BitVec.setWidth 16 p0) ||| ((BitVec.setWidth 16 p1) <<< 8))), .slice none 0 0] G_46 rfl rfl rfl (by kernel_rfl) rfl (of_decide_eq_true rfl) rfl ?_
  intro w_49 G_51 hU_50
  replace G_4 := hU_50.blk G_4 (by omega)
  replace G_11 := hU_50.blk G_11 (by omega)
  replace G_22 := hU_50.blk G_22 (by omega)
  replace RP := RdB.upd RP G_46 hU_50 (by rfl)
  replace RS := RdB.upd RS G_46 hU_50 (by rfl)
  replace hB := hU_50.below hB (by omega)
  clear G_46 hU_50
  go_wp2_with (first | (with_reducible refine stop_store ?_) | (with_reducible refine stop_box ?_) | (with_reducible refine stop_alloc ?_) | (with_reducible refine stop_bslice ?_) | (with_reducible refine stop_append ?_))
  unfold Kept
  refine go_mem (ty := 36) (cs := #[.slice (some ⟨q, qo + 2, none⟩) (np - 2) (cp - 2)]) (fun g => .slice (some ⟨g, 0, none⟩) 1 1) rfl (by kernel_rfl) ?_
  intro g_52 w_53 z_57 l_56 hb_54 G_55
  have n_58 : g_25 < g_52 := Nat.lt_of_lt_of_le G_51.lt l_56
  have n_59 : w.heap.size ≤ g_52 := Nat.le_trans hB.size l_56
  replace G_4 := G_4.to hb_54 G_4.lt
  replace G_11 := G_11.to hb_54 G_11.lt
  replace G_22 := G_22.to hb_54 G_22.lt
  replace G_51 := G_51.to hb_54 G_51.lt
  replace RP := Rd.to RP hb_54
  replace RS := Rd.to RS hb_54
  replace hB := hB.trans (hb_54.mono hB.size)
  clear hb_54 l_56 z_57
  go_wp2_with (first | (with_reducible refine stop_store ?_) | (with_reducible refine stop_box ?_) | (with_reducible refine stop_alloc ?_) | (with_reducible refine stop_bslice ?_) | (with_reducible refine stop_append ?_))
  refine (join_at (n := 1) (m := (np - 2)) [(some ⟨q, qo + 2, none⟩, cp - 2, ps)] ps G_55 (by simp only [pcells, List.map_cons, List.map_nil, HPS.out]; try rfl) rfl (by simp) (HPS.out) (fun p hp => by
      simp only [List.mem_cons, List.not_mem_nil, or_false] at hp
      subst hp
      exact RS) (by omega) (by decide) hB.size).mono ?_; rintro e w_60 ⟨A17_3, c17_3, rfl, R17_3, hb_61⟩
  replace G_4 := G_4.to hb_61 G_4.lt
  replace G_11 := G_11.to hb_61 G_11.lt
  replace G_22 := G_22.to hb_61 G_22.lt
  replace G_51 := G_51.to hb_61 G_51.lt
  replace G_55 := G_55.to hb_61 G_55.lt
  replace RP := Rd.to RP hb_61
  replace RS := Rd.to RS hb_61
  replace hB := hB.trans (hb_61.mono hB.size)
  clear hb_61
  go_wp2_with (first | (with_reducible refine stop_store ?_) | (with_reducible refine stop_box ?_) | (with_reducible refine stop_alloc ?_) | (with_reducible refine stop_bslice ?_) | (with_reducible refine stop_append ?_))
  unfold Kept
  refine wpList_st1 7 (.slice A17_3 ((np - 2)) c17_3) #[.int .u32 (W32 iv), .int .i64 nd, .bool fc, .int .i64 (W8 (o0 &&& 127#8)), .int .u32 (W32 (((BitVec.setWidth 32 o1) ||| ((BitVec.setWidth 32 o2) <<< 8)) ||| ((BitVec.setWidth 32 o3) <<< 16))), .int .u16 (W16 ((BitVec.setWidth 16 o4) ||| ((BitVec.setWidth 16 o5) <<< 8))), .int .u16 (W16 ((BitVec.setWidth 16 p0) ||| ((BitVec.setWidth 16 p1) <<< 8))), .slice A17_3 ((np - 2)) c17_3] G_51 rfl rfl rfl (by kernel_rfl) rfl (of_decide_eq_true rfl) rfl ?_
  intro w_62 G_64 hU_63
  replace G_4 := hU_63.blk G_4 (by omega)
  replace G_11 := hU_63.blk G_11 (by omega)
  replace G_22 := hU_63.blk G_22 (by omega)
  replace G_55 := hU_63.blk G_55 (by omega)
  replace RP := RdB.upd RP G_51 hU_63 (by rfl)
  replace RS := RdB.upd RS G_51 hU_63 (by rfl)
  replace R17_3 := own_upd R17_3 G_51 hU_63 (by decide)
  replace hB := hU_63.below hB (by omega)
  clear G_51 hU_63
  go_wp2_with (first | (with_reducible refine stop_store ?_) | (with_reducible refine stop_box ?_) | (with_reducible refine stop_alloc ?_) | (with_reducible refine stop_bslice ?_) | (with_reducible refine stop_append ?_) | ((with_reducible refine wpList_ld 0 [.int .u32 (W32 iv), .int .i64 nd, .bool fc, .int .i64 (W8 (o0 &&& 127#8)), .int .u32 (W32 (((BitVec.setWidth 32 o1) ||| ((BitVec.setWidth 32 o2) <<< 8)) ||| ((BitVec.setWidth 32 o3) <<< 16))), .int .u16 (W16 ((BitVec.setWidth 16 o4) ||| ((BitVec.setWidth 16 o5) <<< 8))), .int .u16 (W16 ((BitVec.setWidth 16 p0) ||| ((BitVec.setWidth 16 p1) <<< 8))), .slice A17_3 ((np - 2)) c17_3] G_64 ?_ ?_ Try.underlying44 ?_ ?_ ?_); rfl; rfl; rfl; kernel_rfl))
  refine (CK.out _ _ _).mono ?_; rintro e w_66 ⟨rfl, hb_67⟩
  replace G_4 := G_4.to hb_67 G_4.lt
  replace G_11 := G_11.to hb_67 G_11.lt
  replace G_22 := G_22.to hb_67 G_22.lt
  replace G_64 := G_64.to hb_67 G_64.lt
  replace G_55 := G_55.to hb_67 G_55.lt
  replace RP := Rd.to RP hb_67
  replace RS := Rd.to RS hb_67
  replace R17_3 := own_to R17_3 hb_67
  replace hB := hB.trans (hb_67.mono hB.size)
  clear hb_67
  go_wp2_with (first | (with_reducible refine stop_store ?_) | (with_reducible refine stop_box ?_) | (with_reducible refine stop_alloc ?_) | (with_reducible refine stop_bslice ?_) | (with_reducible refine stop_append ?_) | ((with_reducible refine wpList_ld 0 [.int .u32 (W32 iv), .int .i64 nd, .bool fc, .int .i64 (W8 (o0 &&& 127#8)), .int .u32 (W32 (((BitVec.setWidth 32 o1) ||| ((BitVec.setWidth 32 o2) <<< 8)) ||| ((BitVec.setWidth 32 o3) <<< 16))), .int .u16 (W16 ((BitVec.setWidth 16 o4) ||| ((BitVec.setWidth 16 o5) <<< 8))), .int .u16 (W16 ((BitVec.setWidth 16 p0) ||| ((BitVec.setWidth 16 p1) <<< 8))), .slice A17_3 ((np - 2)) c17_3] G_64 ?_ ?_ Try.underlying44 ?_ ?_ ?_); rfl; rfl; rfl; kernel_rfl))
  unfold Kept
  refine wpList_st 0 #[.int .u32 (W32 iv), .int .i64 nd, .bool fc, .int .i64 (W8 (o0 &&& 127#8)), .int .u32 (W32 (((BitVec.setWidth 32 o1) ||| ((BitVec.setWidth 32 o2) <<< 8)) ||| ((BitVec.setWidth 32 o3) <<< 16))), .int .u16 (W16 ((BitVec.setWidth 16 o4) ||| ((BitVec.setWidth 16 o5) <<< 8))), .int .u16 (W16 ((BitVec.setWidth 16 p0) ||| ((BitVec.setWidth 16 p1) <<< 8))), .slice A17_3 ((np - 2)) c17_3] #[.int .u32 (W32 iv), .int .i64 nd, .bool fc, .int .i64 (W8 (o0 &&& 127#8)), .int .u32 (W32 (((BitVec.setWidth 32 o1) ||| ((BitVec.setWidth 32 o2) <<< 8)) ||| ((BitVec.setWidth 32 o3) <<< 16))), .int .u16 (W16 ((BitVec.setWidth 16 o4) ||| ((BitVec.setWidth 16 o5) <<< 8))), .int .u16 (W16 ((BitVec.setWidth 16 p0) ||| ((BitVec.setWidth 16 p1) <<< 8))), .slice A17_3 ((np - 2)) c17_3] G_11 rfl rfl (by kernel_rfl) rfl (of_decide_eq_true rfl) rfl ?_
  intro w_69 G_71 hU_70
  replace G_4 := hU_70.blk G_4 (by omega)
  replace G_22 := hU_70.blk G_22 (by omega)
  replace G_64 := hU_70.blk G_64 (by omega)
  replace G_55 := hU_70.blk G_55 (by omega)
  replace RP := RdB.upd RP G_11 hU_70 (by rfl)
  replace RS := RdB.upd RS G_11 hU_70 (by rfl)
  replace R17_3 := own_upd R17_3 G_11 hU_70 (by decide)
  replace hB := hU_70.below hB (by omega)
  clear G_11 hU_70
  go_wp2_with (first | (with_reducible refine stop_store ?_) | (with_reducible refine stop_box ?_) | (with_reducible refine stop_alloc ?_) | (with_reducible refine stop_bslice ?_) | (with_reducible refine stop_append ?_))
  refine bodyPost_ret (results_ct rfl rfl (load_blk G_71 Try.underlying44 rfl (by kernel_rfl))) rfl ?_
  exact ⟨A17_3, c17_3, by unfold npA; dsimp only; rw [HPS.out]; rfl, Rd.of_own R17_3, by dsimp only; rw [HPS.out]; exact (own_cap R17_3).1, hB⟩
end Go.Proofs.Ytbkaeoaepmeceaa
