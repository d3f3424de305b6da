/- The walk of EncryptNews. -/
import Derived.Test.YtmehemojopfihaaEncX
namespace Go.Proofs.Ytmehemojopfihaa
set_option maxRecDepth 100000
open Go.ChangeShapes Go.WideShapes Go.ChangeAt Go.RowKit
set_option linter.unusedVariables false
set_option linter.unusedSimpArgs false

set_option maxHeartbeats 4000000 in
theorem law_EncryptNews (role : Int) (wrole : (Lit.int .i64 role).wf = true) (key salt : BitVec 64) (txon rxon : Bool) (tx rx : BitVec 64) (h0 h1 : BitVec 64) (a b : Bool) (w : World) :
    Calls Try.prog 4 #[.agg #[.int .i64 role, .int .u64 (W64 key), .int .u64 (W64 salt), .bool txon, .bool rxon, .int .u64 (W64 tx), .int .u64 (W64 rx)], .agg #[.int .u64 (W64 h0), .int .u64 (W64 h1)], .bool a, .bool b] w fun e w' => e = .returned (.bool true) ∧ Below w.heap.size w w' := by
  obtain ⟨⟨n1, n2, n3, n4, n5, n6, n7⟩, hn⟩ : ∃ r, newS role key h0 h1 = r := ⟨_, rfl⟩
  obtain ⟨⟨x1, x2, x3, x4, x5, x6, x7⟩, hx⟩ : ∃ r, nextS ⟨role, key, salt, txon, rxon, tx, rx⟩ a b = r := ⟨_, rfl⟩
  have N1 := Lib.hid (show ∀ W, Calls Try.prog 25 #[.int .i64 role, .int .u64 (W64 key), .int .u64 (W64 h0), .int .u64 (W64 h1)] W fun e w' => e = .returned (.agg #[.int .i64 n1, .int .u64 (W64 n2), .int .u64 (W64 n3), .bool n4, .bool n5, .int .u64 (W64 n6), .int .u64 (W64 n7)]) ∧ Below W.heap.size W w' from fun W => by have := enc_New role key h0 h1 W; rw [hn] at this; exact this)
  have N2 := Lib.hid (show ∀ W, Calls Try.prog 26 #[.int .i64 role, .int .u64 (W64 key), .int .u64 (W64 h0), .int .u64 (W64 h1)] W fun e w' => e = .returned (.agg #[.int .i64 n1, .int .u64 (W64 n2), .int .u64 (W64 n3), .bool n4, .bool n5, .int .u64 (W64 n6), .int .u64 (W64 n7)]) ∧ Below W.heap.size W w' from fun W => by have := r29_New role key h0 h1 W; rw [hn] at this; exact this)
  have T1 := Lib.hid (show ∀ W, Calls Try.prog 27 #[.agg #[.int .i64 role, .int .u64 (W64 key), .int .u64 (W64 salt), .bool txon, .bool rxon, .int .u64 (W64 tx), .int .u64 (W64 rx)], .bool a, .bool b] W fun e w' => e = .returned (.agg #[.int .i64 role, .int .u64 (W64 key), .int .u64 (W64 salt), .bool a, .bool b, .int .u64 (W64 tx), .int .u64 (W64 rx)]) ∧ Below W.heap.size W w' from fun W => enc_Turn ⟨role, key, salt, txon, rxon, tx, rx⟩ a b W)
  have T2 := Lib.hid (show ∀ W, Calls Try.prog 28 #[.agg #[.int .i64 role, .int .u64 (W64 key), .int .u64 (W64 salt), .bool txon, .bool rxon, .int .u64 (W64 tx), .int .u64 (W64 rx)], .bool a, .bool b] W fun e w' => e = .returned (.agg #[.int .i64 role, .int .u64 (W64 key), .int .u64 (W64 salt), .bool a, .bool b, .int .u64 (W64 tx), .int .u64 (W64 rx)]) ∧ Below W.heap.size W w' from fun W => r29_Turn ⟨role, key, salt, txon, rxon, tx, rx⟩ a b W)
  have X1 := Lib.hid (show ∀ W, Calls Try.prog 29 #[.agg #[.int .i64 role, .int .u64 (W64 key), .int .u64 (W64 salt), .bool txon, .bool rxon, .int .u64 (W64 tx), .int .u64 (W64 rx)], .bool a, .bool b] W fun e w' => e = .returned (.agg #[.int .i64 x1, .int .u64 (W64 x2), .int .u64 (W64 x3), .bool x4, .bool x5, .int .u64 (W64 x6), .int .u64 (W64 x7)]) ∧ Below W.heap.size W w' from fun W => by have := enc_Next ⟨role, key, salt, txon, rxon, tx, rx⟩ a b W; rw [hx] at this; exact this)
  have X2 := Lib.hid (show ∀ W, Calls Try.prog 30 #[.agg #[.int .i64 role, .int .u64 (W64 key), .int .u64 (W64 salt), .bool txon, .bool rxon, .int .u64 (W64 tx), .int .u64 (W64 rx)], .bool a, .bool b] W fun e w' => e = .returned (.agg #[.int .i64 x1, .int .u64 (W64 x2), .int .u64 (W64 x3), .bool x4, .bool x5, .int .u64 (W64 x6), .int .u64 (W64 x7)]) ∧ Below W.heap.size W w' from fun W => by have := r29_Next ⟨role, key, salt, txon, rxon, tx, rx⟩ a b W; rw [hx] at this; exact this)
  clear hn hx
  go_enter Try.func4, Try.ntmps4
  go_wp2_with (first | (with_reducible refine stop_store ?_) | (with_reducible refine stop_box ?_) | (with_reducible refine stop_alloc ?_) | (with_reducible refine stop_bslice ?_))
  unfold Kept
  refine go_mem (ty := 40) (cs := #[.int .i64 role, .int .u64 (W64 key), .int .u64 (W64 salt), .bool txon, .bool rxon, .int .u64 (W64 tx), .int .u64 (W64 rx)]) (fun g => .pointer (some ⟨g, 0, none⟩)) rfl (by kernel_rfl) ?_
  intro g_1 w_2 z_6 l_5 hb_3 G_4
  have n_7 : w.heap.size ≤ g_1 := l_5
  have hB := hb_3
  clear hb_3 l_5 z_6
  go_wp2_with (first | (with_reducible refine stop_store ?_) | (with_reducible refine stop_box ?_) | (with_reducible refine stop_alloc ?_) | (with_reducible refine stop_bslice ?_))
  unfold Kept
  refine go_mem (ty := 41) (cs := #[.int .u64 (W64 h0), .int .u64 (W64 h1)]) (fun g => .pointer (some ⟨g, 0, none⟩)) rfl (by kernel_rfl) ?_
  intro g_8 w_9 z_13 l_12 hb_10 G_11
  have n_14 : g_1 < g_8 := Nat.lt_of_lt_of_le G_4.lt l_12
  have n_15 : w.heap.size ≤ g_8 := Nat.le_trans hB.size l_12
  replace G_4 := G_4.to hb_10 G_4.lt
  replace hB := hB.trans (hb_10.mono hB.size)
  clear hb_10 l_12 z_13
  have ld_16 : w_9.cell? ⟨g_1, 0, none⟩ = some (.int .i64 role) := G_4.cell 0
  have ld_17 : w_9.cell? ⟨g_1, 1, none⟩ = some (.int .u64 (W64 key)) := G_4.cell 1
  have ld_18 : w_9.cell? ⟨g_8, 0, none⟩ = some (.int .u64 (W64 h0)) := G_11.cell 0
  have ld_19 : w_9.cell? ⟨g_8, 1, none⟩ = some (.int .u64 (W64 h1)) := G_11.cell 1
  go_wp2_with (first | (with_reducible refine stop_store ?_) | (with_reducible refine stop_box ?_) | (with_reducible refine stop_alloc ?_) | (with_reducible refine stop_bslice ?_))
  refine (N1.out _).mono ?_; rintro e w_20 ⟨rfl, hb_21⟩
  clear ld_16 ld_17 ld_18 ld_19
  replace G_4 := G_4.to hb_21 G_4.lt
  replace G_11 := G_11.to hb_21 G_11.lt
  replace hB := hB.trans (hb_21.mono hB.size)
  clear hb_21
  go_wp2_with (first | (with_reducible refine stop_store ?_) | (with_reducible refine stop_box ?_) | (with_reducible refine stop_alloc ?_) | (with_reducible refine stop_bslice ?_))
  unfold Kept
  refine go_mem (ty := 40) (cs := #[.int .i64 0, .int .u64 0, .int .u64 0, .bool false, .bool false, .int .u64 0, .int .u64 0]) (fun g => .pointer (some ⟨g, 0, none⟩)) rfl (by kernel_rfl) ?_
  intro g_22 w_23 z_27 l_26 hb_24 G_25
  have n_28 : g_8 < g_22 := Nat.lt_of_lt_of_le G_11.lt l_26
  have n_29 : w.heap.size ≤ g_22 := Nat.le_trans hB.size l_26
  replace G_4 := G_4.to hb_24 G_4.lt
  replace G_11 := G_11.to hb_24 G_11.lt
  replace hB := hB.trans (hb_24.mono hB.size)
  clear hb_24 l_26 z_27
  go_wp2_with (first | (with_reducible refine stop_store ?_) | (with_reducible refine stop_box ?_) | (with_reducible refine stop_alloc ?_) | (with_reducible refine stop_bslice ?_))
  unfold Kept
  refine wpList_st 0 #[.int .i64 n1, .int .u64 (W64 n2), .int .u64 (W64 n3), .bool n4, .bool n5, .int .u64 (W64 n6), .int .u64 (W64 n7)] #[.int .i64 n1, .int .u64 (W64 n2), .int .u64 (W64 n3), .bool n4, .bool n5, .int .u64 (W64 n6), .int .u64 (W64 n7)] G_25 rfl rfl (by kernel_rfl) rfl (of_decide_eq_true rfl) rfl ?_
  intro w_30 G_32 hU_31
  replace G_4 := hU_31.blk G_4 (by omega)
  replace G_11 := hU_31.blk G_11 (by omega)
  replace hB := hU_31.below hB (by omega)
  clear G_25 hU_31
  go_wp2_with (first | (with_reducible refine stop_store ?_) | (with_reducible refine stop_box ?_) | (with_reducible refine stop_alloc ?_) | (with_reducible refine stop_bslice ?_))
  have hst : Stable fun W => Below w.heap.size w W ∧ Blk W g_1 40 #[.int .i64 role, .int .u64 (W64 key), .int .u64 (W64 salt), .bool txon, .bool rxon, .int .u64 (W64 tx), .int .u64 (W64 rx)] ∧ Blk W g_8 41 #[.int .u64 (W64 h0), .int .u64 (W64 h1)] ∧ Blk W g_22 40 #[.int .i64 n1, .int .u64 (W64 n2), .int .u64 (W64 n3), .bool n4, .bool n5, .int .u64 (W64 n6), .int .u64 (W64 n7)] := stable_and (stable_below _ _ (Nat.le_refl _)) (stable_and (stable_blk _ _ _) (stable_and (stable_blk _ _ _) (stable_blk _ _ _)))
  refine wp_region_v _ 22 hst ⟨hB.drew, G_4, G_11, G_32⟩ ?_
  clear hB G_4 G_11 G_32
  refine wpU_take (v := .agg #[.int .i64 n1, .int .u64 (W64 n2), .int .u64 (W64 n3), .bool n4, .bool n5, .int .u64 (W64 n6), .int .u64 (W64 n7)]) 0 hst (fun _ h => h) rfl (fun W hS K hK => calm_load rfl rfl (load_part hS.2.2.2 0 [.int .i64 n1, .int .u64 (W64 n2), .int .u64 (W64 n3), .bool n4, .bool n5, .int .u64 (W64 n6), .int .u64 (W64 n7)] rfl Try.underlying40 rfl (by kernel_rfl)) (hK.out _ (Below.refl _ _))) ?_; simp only [Act.put, List.setIfInBounds_toArray, List.set_cons_zero, List.set_cons_succ]
  refine wpU_take (v := ?_) 1 hst (fun _ h => h) rfl ?_ ?_; rotate_left; (intro W hS K hK; clear hS; go_simp; exact hK.out _ (Below.refl _ _)); simp only [Act.put, List.setIfInBounds_toArray, List.set_cons_zero, List.set_cons_succ]
  refine wpU_take (v := ?_) 2 hst (fun _ h => h) rfl ?_ ?_; rotate_left; (intro W hS K hK; have ld : W.cell? ⟨g_1, 0, none⟩ = some (.int .i64 role) := hS.2.1.cell 0; clear hS; go_simp; exact hK.out _ (Below.refl _ _)); simp only [Act.put, List.setIfInBounds_toArray, List.set_cons_zero, List.set_cons_succ]
  refine wpU_take (v := ?_) 3 hst (fun _ h => h) rfl ?_ ?_; rotate_left; (intro W hS K hK; clear hS; go_simp; exact hK.out _ (Below.refl _ _)); simp only [Act.put, List.setIfInBounds_toArray, List.set_cons_zero, List.set_cons_succ]
  refine wpU_take (v := ?_) 4 hst (fun _ h => h) rfl ?_ ?_; rotate_left; (intro W hS K hK; have ld : W.cell? ⟨g_1, 1, none⟩ = some (.int .u64 (W64 key)) := hS.2.1.cell 1; clear hS; go_simp; exact hK.out _ (Below.refl _ _)); simp only [Act.put, List.setIfInBounds_toArray, List.set_cons_zero, List.set_cons_succ]
  refine wpU_take (v := ?_) 5 hst (fun _ h => h) rfl ?_ ?_; rotate_left; (intro W hS K hK; clear hS; go_simp; exact hK.out _ (Below.refl _ _)); simp only [Act.put, List.setIfInBounds_toArray, List.set_cons_zero, List.set_cons_succ]
  refine wpU_take (v := ?_) 6 hst (fun _ h => h) rfl ?_ ?_; rotate_left; (intro W hS K hK; have ld : W.cell? ⟨g_8, 0, none⟩ = some (.int .u64 (W64 h0)) := hS.2.2.1.cell 0; clear hS; go_simp; exact hK.out _ (Below.refl _ _)); simp only [Act.put, List.setIfInBounds_toArray, List.set_cons_zero, List.set_cons_succ]
  refine wpU_take (v := ?_) 7 hst (fun _ h => h) rfl ?_ ?_; rotate_left; (intro W hS K hK; clear hS; go_simp; exact hK.out _ (Below.refl _ _)); simp only [Act.put, List.setIfInBounds_toArray, List.set_cons_zero, List.set_cons_succ]
  refine wpU_take (v := ?_) 8 hst (fun _ h => h) rfl ?_ ?_; rotate_left; (intro W hS K hK; have ld : W.cell? ⟨g_8, 1, none⟩ = some (.int .u64 (W64 h1)) := hS.2.2.1.cell 1; clear hS; go_simp; exact hK.out _ (Below.refl _ _)); simp only [Act.put, List.setIfInBounds_toArray, List.set_cons_zero, List.set_cons_succ]
  refine wpU_take (v := ?_) 9 hst (fun _ h => h) rfl ?_ ?_; rotate_left; (intro W hS K hK; clear hS; go_simp; refine (N2.out _).mono ?_; rintro e w9 ⟨rfl, hb⟩; refine CallPost.mk ?_; exact hK.out _ (hb)); simp only [Act.put, List.setIfInBounds_toArray, List.set_cons_zero, List.set_cons_succ]
  refine wpU_take (v := ?_) 10 hst (fun _ h => h) rfl ?_ ?_; rotate_left; (intro W hS K hK; clear hS; go_simp; exact hK.out _ (Below.refl _ _)); simp only [Act.put, List.setIfInBounds_toArray, List.set_cons_zero, List.set_cons_succ]
  refine wpU_take (v := ?_) 11 hst (fun _ h => h) rfl ?_ ?_; rotate_left; (intro W hS K hK; clear hS; go_simp; exact hK.out _ (Below.refl _ _)); simp only [Act.put, List.setIfInBounds_toArray, List.set_cons_zero, List.set_cons_succ]
  refine wpU_take (v := .agg #[.int .i64 role, .int .u64 (W64 key), .int .u64 (W64 salt), .bool txon, .bool rxon, .int .u64 (W64 tx), .int .u64 (W64 rx)]) 12 hst (fun _ h => h) rfl (fun W hS K hK => calm_load rfl rfl (load_part hS.2.1 0 [.int .i64 role, .int .u64 (W64 key), .int .u64 (W64 salt), .bool txon, .bool rxon, .int .u64 (W64 tx), .int .u64 (W64 rx)] rfl Try.underlying40 rfl (by kernel_rfl)) (hK.out _ (Below.refl _ _))) ?_; simp only [Act.put, List.setIfInBounds_toArray, List.set_cons_zero, List.set_cons_succ]
  refine wpU_take (v := ?_) 13 hst (fun _ h => h) rfl ?_ ?_; rotate_left; (intro W hS K hK; clear hS; go_simp; exact hK.out _ (Below.refl _ _)); simp only [Act.put, List.setIfInBounds_toArray, List.set_cons_zero, List.set_cons_succ]
  refine wpU_take (v := ?_) 14 hst (fun _ h => h) rfl ?_ ?_; rotate_left; (intro W hS K hK; clear hS; go_simp; exact hK.out _ (Below.refl _ _)); simp only [Act.put, List.setIfInBounds_toArray, List.set_cons_zero, List.set_cons_succ]
  refine wpU_take (v := .agg #[.int .i64 role, .int .u64 (W64 key), .int .u64 (W64 salt), .bool txon, .bool rxon, .int .u64 (W64 tx), .int .u64 (W64 rx)]) 16 hst (fun _ h => h) rfl (fun W hS K hK => calm_load rfl rfl (load_part hS.2.1 0 [.int .i64 role, .int .u64 (W64 key), .int .u64 (W64 salt), .bool txon, .bool rxon, .int .u64 (W64 tx), .int .u64 (W64 rx)] rfl Try.underlying40 rfl (by kernel_rfl)) (hK.out _ (Below.refl _ _))) ?_; simp only [Act.put, List.setIfInBounds_toArray, List.set_cons_zero, List.set_cons_succ]
  refine wpU_take (v := ?_) 17 hst (fun _ h => h) rfl ?_ ?_; rotate_left; (intro W hS K hK; clear hS; go_simp; exact hK.out _ (Below.refl _ _)); simp only [Act.put, List.setIfInBounds_toArray, List.set_cons_zero, List.set_cons_succ]
  refine wpU_take (v := ?_) 18 hst (fun _ h => h) rfl ?_ ?_; rotate_left; (intro W hS K hK; clear hS; go_simp; exact hK.out _ (Below.refl _ _)); simp only [Act.put, List.setIfInBounds_toArray, List.set_cons_zero, List.set_cons_succ]
  refine wpU_take (v := ?_) 15 hst (fun _ h => h) rfl ?_ ?_; rotate_left; (intro W hS K hK; clear hS; go_simp; refine (T1.out _).mono ?_; rintro e w9 ⟨rfl, hb⟩; refine CallPost.mk ?_; exact hK.out _ (hb)); simp only [Act.put, List.setIfInBounds_toArray, List.set_cons_zero, List.set_cons_succ]
  refine wpU_take (v := ?_) 19 hst (fun _ h => h) rfl ?_ ?_; rotate_left; (intro W hS K hK; clear hS; go_simp; refine (T2.out _).mono ?_; rintro e w9 ⟨rfl, hb⟩; refine CallPost.mk ?_; exact hK.out _ (hb)); simp only [Act.put, List.setIfInBounds_toArray, List.set_cons_zero, List.set_cons_succ]
  refine wpU_take (v := ?_) 20 hst (fun _ h => h) rfl ?_ ?_; rotate_left; (intro W hS K hK; clear hS; go_simp; exact hK.out _ (Below.refl _ _)); simp only [Act.put, List.setIfInBounds_toArray, List.set_cons_zero, List.set_cons_succ]
  refine wpU_take (v := ?_) 21 hst (fun _ h => h) rfl ?_ ?_; rotate_left; (intro W hS K hK; clear hS; go_simp; exact hK.out _ (Below.refl _ _)); simp only [Act.put, List.setIfInBounds_toArray, List.set_cons_zero, List.set_cons_succ]
  refine wpU_done (fun w_33 hS => ?_)
  obtain ⟨hB, G_4, G_11, G_32⟩ := hS
  clear hst
  go_wp2_with (first | (with_reducible refine stop_store ?_) | (with_reducible refine stop_box ?_) | (with_reducible refine stop_alloc ?_) | (with_reducible refine stop_bslice ?_))
  have hst : Stable fun W => Below w.heap.size w W ∧ Blk W g_1 40 #[.int .i64 role, .int .u64 (W64 key), .int .u64 (W64 salt), .bool txon, .bool rxon, .int .u64 (W64 tx), .int .u64 (W64 rx)] ∧ Blk W g_8 41 #[.int .u64 (W64 h0), .int .u64 (W64 h1)] ∧ Blk W g_22 40 #[.int .i64 n1, .int .u64 (W64 n2), .int .u64 (W64 n3), .bool n4, .bool n5, .int .u64 (W64 n6), .int .u64 (W64 n7)] := stable_and (stable_below _ _ (Nat.le_refl _)) (stable_and (stable_blk _ _ _) (stable_and (stable_blk _ _ _) (stable_blk _ _ _)))
  refine wp_region_v _ 13 hst ⟨hB.drew, G_4, G_11, G_32⟩ ?_
  clear hB G_4 G_11 G_32
  refine wpU_take (v := .agg #[.int .i64 role, .int .u64 (W64 key), .int .u64 (W64 salt), .bool txon, .bool rxon, .int .u64 (W64 tx), .int .u64 (W64 rx)]) 0 hst (fun _ h => h) rfl (fun W hS K hK => calm_load rfl rfl (load_part hS.2.1 0 [.int .i64 role, .int .u64 (W64 key), .int .u64 (W64 salt), .bool txon, .bool rxon, .int .u64 (W64 tx), .int .u64 (W64 rx)] rfl Try.underlying40 rfl (by kernel_rfl)) (hK.out _ (Below.refl _ _))) ?_; simp only [Act.put, List.setIfInBounds_toArray, List.set_cons_zero, List.set_cons_succ]
  refine wpU_take (v := ?_) 1 hst (fun _ h => h) rfl ?_ ?_; rotate_left; (intro W hS K hK; clear hS; go_simp; exact hK.out _ (Below.refl _ _)); simp only [Act.put, List.setIfInBounds_toArray, List.set_cons_zero, List.set_cons_succ]
  refine wpU_take (v := ?_) 2 hst (fun _ h => h) rfl ?_ ?_; rotate_left; (intro W hS K hK; clear hS; go_simp; exact hK.out _ (Below.refl _ _)); simp only [Act.put, List.setIfInBounds_toArray, List.set_cons_zero, List.set_cons_succ]
  refine wpU_take (v := .agg #[.int .i64 role, .int .u64 (W64 key), .int .u64 (W64 salt), .bool txon, .bool rxon, .int .u64 (W64 tx), .int .u64 (W64 rx)]) 4 hst (fun _ h => h) rfl (fun W hS K hK => calm_load rfl rfl (load_part hS.2.1 0 [.int .i64 role, .int .u64 (W64 key), .int .u64 (W64 salt), .bool txon, .bool rxon, .int .u64 (W64 tx), .int .u64 (W64 rx)] rfl Try.underlying40 rfl (by kernel_rfl)) (hK.out _ (Below.refl _ _))) ?_; simp only [Act.put, List.setIfInBounds_toArray, List.set_cons_zero, List.set_cons_succ]
  refine wpU_take (v := ?_) 5 hst (fun _ h => h) rfl ?_ ?_; rotate_left; (intro W hS K hK; clear hS; go_simp; exact hK.out _ (Below.refl _ _)); simp only [Act.put, List.setIfInBounds_toArray, List.set_cons_zero, List.set_cons_succ]
  refine wpU_take (v := ?_) 6 hst (fun _ h => h) rfl ?_ ?_; rotate_left; (intro W hS K hK; clear hS; go_simp; exact hK.out _ (Below.refl _ _)); simp only [Act.put, List.setIfInBounds_toArray, List.set_cons_zero, List.set_cons_succ]
  refine wpU_take (v := ?_) 3 hst (fun _ h => h) rfl ?_ ?_; rotate_left; (intro W hS K hK; clear hS; go_simp; refine (X1.out _).mono ?_; rintro e w9 ⟨rfl, hb⟩; refine CallPost.mk ?_; exact hK.out _ (hb)); simp only [Act.put, List.setIfInBounds_toArray, List.set_cons_zero, List.set_cons_succ]
  refine wpU_take (v := ?_) 7 hst (fun _ h => h) rfl ?_ ?_; rotate_left; (intro W hS K hK; clear hS; go_simp; refine (X2.out _).mono ?_; rintro e w9 ⟨rfl, hb⟩; refine CallPost.mk ?_; exact hK.out _ (hb)); simp only [Act.put, List.setIfInBounds_toArray, List.set_cons_zero, List.set_cons_succ]
  refine wpU_take (v := ?_) 8 hst (fun _ h => h) rfl ?_ ?_; rotate_left; (intro W hS K hK; clear hS; go_simp; exact hK.out _ (Below.refl _ _)); simp only [Act.put, List.setIfInBounds_toArray, List.set_cons_zero, List.set_cons_succ]
  refine wpU_take (v := ?_) 9 hst (fun _ h => h) rfl ?_ ?_; rotate_left; (intro W hS K hK; clear hS; go_simp; exact hK.out _ (Below.refl _ _)); simp only [Act.put, List.setIfInBounds_toArray, List.set_cons_zero, List.set_cons_succ]
  refine wpU_take (v := ?_) 10 hst (fun _ h => h) rfl ?_ ?_; rotate_left; (intro W hS K hK; clear hS; go_simp; refine (ex29 _).mono ?_; rintro e w9 ⟨rfl, hb⟩; refine CallPost.mk ?_; exact hK.out _ (hb)); simp only [Act.put, List.setIfInBounds_toArray, List.set_cons_zero, List.set_cons_succ]
  refine wpU_take (v := ?_) 11 hst (fun _ h => h) rfl ?_ ?_; rotate_left; (intro W hS K hK; clear hS; go_simp; exact hK.out _ (Below.refl _ _)); simp only [Act.put, List.setIfInBounds_toArray, List.set_cons_zero, List.set_cons_succ]
  refine wpU_take (v := ?_) 12 hst (fun _ h => h) rfl ?_ ?_; rotate_left; (intro W hS K hK; clear hS; go_simp; exact hK.out _ (Below.refl _ _)); simp only [Act.put, List.setIfInBounds_toArray, List.set_cons_zero, List.set_cons_succ]
  refine wpU_done (fun w_34 hS => ?_)
  obtain ⟨hB, G_4, G_11, G_32⟩ := hS
  clear hst
  go_wp2_with (first | (with_reducible refine stop_store ?_) | (with_reducible refine stop_box ?_) | (with_reducible refine stop_alloc ?_) | (with_reducible refine stop_bslice ?_))
  go_returns
  exact ⟨rfl, hB⟩
end Go.Proofs.Ytmehemojopfihaa
