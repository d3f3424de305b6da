/- Decode of layer 52: the code and the reference. -/
import Derived.Test.YtmehemojopfihaaBed
namespace Go.Proofs.Ytmehemojopfihaa
set_option maxRecDepth 100000
open Go.ChangeShapes Go.WideShapes Go.ChangeAt Go.RowKit
set_option linter.unusedVariables false
set_option linter.unusedSimpArgs false

set_option maxHeartbeats 1000000 in
theorem rf_Decode_s (A : Option Addr) (c : Nat) (ks : List NK) (B : Option Addr) (d : Nat) (bs : List (BitVec 8)) (w : World) (ha : Rd w A (nksL ks)) (hb0 : RdB w B bs) (hd : bs.length ≤ d) (hk : ks.length ≤ 1048576) (hl : bs.length < 13) :
    Calls Try.prog 54 #[.slice A ks.length c, .slice B bs.length d] w (fun e w' => e = .returned (.tuple #[.agg (beA (decK ks bs).1), .int .i64 (decK ks bs).2.1, .int .i64 (decK ks bs).2.2]) ∧ Below w.heap.size w w') := by
  have hr : decK ks bs = (bea0, 0, 3) := by unfold decK; rw [if_pos hl]
  rw [hr]
  have i0 : decide (((bs.length : Nat) : Int) < 13) = true := by simp; omega
  have HD := Lib.hid hd
  have HL := Lib.hid hl
  clear hd hl hr ha hb0
  go_enter Try.func54, Try.ntmps54
  go_wp2_with (first | (with_reducible refine stop_store ?_) | (with_reducible refine stop_box ?_) | (with_reducible refine stop_alloc ?_) | (with_reducible refine stop_bslice ?_))
  unfold Kept
  refine go_mem (ty := 71) (cs := #[.bool false, .bool false, .int .u32 0]) (fun g => .pointer (some ⟨g, 0, none⟩)) rfl (by kernel_rfl) ?_
  intro g_1 w_2 z_6 l_5 hb_3 G_4
  have n_7 : w.heap.size ≤ g_1 := l_5
  have hB := hb_3
  clear hb_3 l_5 z_6
  go_wp2_with (first | (with_reducible refine stop_store ?_) | (with_reducible refine stop_box ?_) | (with_reducible refine stop_alloc ?_) | (with_reducible refine stop_bslice ?_))
  unfold Kept
  refine wpList_st 0 #[.bool false, .bool false, .int .u32 0] #[.bool false, .bool false, .int .u32 0] G_4 rfl rfl (by kernel_rfl) rfl (of_decide_eq_true rfl) rfl ?_
  intro w_8 G_10 hU_9
  replace hB := hU_9.below hB (by omega)
  clear G_4 hU_9
  go_wp2_with (first | (with_reducible refine stop_store ?_) | (with_reducible refine stop_box ?_) | (with_reducible refine stop_alloc ?_) | (with_reducible refine stop_bslice ?_))
  refine bodyPost_ret (results_ctt rfl rfl (load_blk G_10 Try.underlying71 rfl (by kernel_rfl))) rfl ?_
  exact ⟨rfl, hB⟩
set_option maxHeartbeats 1000000 in
theorem rf_Decode_l (A : Option Addr) (c : Nat) (ks : List NK) (B : Option Addr) (d : Nat) (bs : List (BitVec 8)) (w : World) (ha : Rd w A (nksL ks)) (hb0 : RdB w B bs) (hd : bs.length ≤ d) (hk : ks.length ≤ 1048576) (hl : 13 < bs.length) :
    Calls Try.prog 54 #[.slice A ks.length c, .slice B bs.length d] w (fun e w' => e = .returned (.tuple #[.agg (beA (decK ks bs).1), .int .i64 (decK ks bs).2.1, .int .i64 (decK ks bs).2.2]) ∧ Below w.heap.size w w') := by
  have hr : decK ks bs = (bea0, 0, 4) := by unfold decK; rw [if_neg (by omega), if_pos hl]
  rw [hr]
  have i0 : decide (((bs.length : Nat) : Int) < 13) = false := by simp; omega
  have i1 : decide ((13 : Int) < ((bs.length : Nat) : Int)) = true := by simp; omega
  have HD := Lib.hid hd
  have HL := Lib.hid hl
  clear hd hl hr ha hb0
  go_enter Try.func54, Try.ntmps54
  go_wp2_with (first | (with_reducible refine stop_store ?_) | (with_reducible refine stop_box ?_) | (with_reducible refine stop_alloc ?_) | (with_reducible refine stop_bslice ?_))
  unfold Kept
  refine go_mem (ty := 71) (cs := #[.bool false, .bool false, .int .u32 0]) (fun g => .pointer (some ⟨g, 0, none⟩)) rfl (by kernel_rfl) ?_
  intro g_1 w_2 z_6 l_5 hb_3 G_4
  have n_7 : w.heap.size ≤ g_1 := l_5
  have hB := hb_3
  clear hb_3 l_5 z_6
  go_wp2_with (first | (with_reducible refine stop_store ?_) | (with_reducible refine stop_box ?_) | (with_reducible refine stop_alloc ?_) | (with_reducible refine stop_bslice ?_))
  unfold Kept
  refine wpList_st 0 #[.bool false, .bool false, .int .u32 0] #[.bool false, .bool false, .int .u32 0] G_4 rfl rfl (by kernel_rfl) rfl (of_decide_eq_true rfl) rfl ?_
  intro w_8 G_10 hU_9
  replace hB := hU_9.below hB (by omega)
  clear G_4 hU_9
  go_wp2_with (first | (with_reducible refine stop_store ?_) | (with_reducible refine stop_box ?_) | (with_reducible refine stop_alloc ?_) | (with_reducible refine stop_bslice ?_))
  refine bodyPost_ret (results_ctt rfl rfl (load_blk G_10 Try.underlying71 rfl (by kernel_rfl))) rfl ?_
  exact ⟨rfl, hB⟩
set_option maxHeartbeats 1000000 in
theorem rf_Decode_h (A : Option Addr) (c : Nat) (ks : List NK) (pb po d : Nat) (b0 b1 b2 b3 b4 b5 b6 b7 b8 b9 b10 b11 b12 : BitVec 8) (w : World) (ha : Rd w A (nksL ks)) (hb0 : RdB w (some ⟨pb, po, none⟩) [b0, b1, b2, b3, b4, b5, b6, b7, b8, b9, b10, b11, b12]) (RB : Rg pb po [.int .u8 (W8 b0)] w) (hd : 13 ≤ d) (hk : ks.length ≤ 1048576) (h3 : 3#8 < b0) :
    Calls Try.prog 54 #[.slice A ks.length c, .slice (some ⟨pb, po, none⟩) 13 d] w (fun e w' => e = .returned (.tuple #[.agg (beA (decK ks [b0, b1, b2, b3, b4, b5, b6, b7, b8, b9, b10, b11, b12]).1), .int .i64 (decK ks [b0, b1, b2, b3, b4, b5, b6, b7, b8, b9, b10, b11, b12]).2.1, .int .i64 (decK ks [b0, b1, b2, b3, b4, b5, b6, b7, b8, b9, b10, b11, b12]).2.2]) ∧ Below w.heap.size w w') := by
  have RB := Lib.hid (fun W (hB : Below w.heap.size w W) => (Rg.to RB hB).2)
  have hr : decK ks [b0, b1, b2, b3, b4, b5, b6, b7, b8, b9, b10, b11, b12] = (bea0, 0, 2) := by unfold decK; rw [if_neg (by simp), if_neg (by simp)]; exact if_pos h3
  rw [hr]
  have i3 : decide ((3 : Int) < W8 b0) = true := decide_eq_true (show W8 3#8 < W8 b0 by rw [W8_lt]; exact h3)
  clear hr h3 ha hb0
  go_enter Try.func54, Try.ntmps54
  go_wp2_with (first | (with_reducible refine stop_store ?_) | (with_reducible refine stop_box ?_) | (with_reducible refine stop_alloc ?_) | (with_reducible refine stop_bslice ?_))
  unfold Kept
  refine go_mem (ty := 71) (cs := #[.bool false, .bool false, .int .u32 0]) (fun g => .pointer (some ⟨g, 0, none⟩)) rfl (by kernel_rfl) ?_
  intro g_1 w_2 z_6 l_5 hb_3 G_4
  have n_7 : w.heap.size ≤ g_1 := l_5
  have hB := hb_3
  clear hb_3 l_5 z_6
  have ld_8 : w_2.cell? ⟨pb, po, none⟩ = some (.int .u8 (W8 b0)) := (RB.out _ hB) 0 _ rfl
  go_wp2_with (first | (with_reducible refine stop_store ?_) | (with_reducible refine stop_box ?_) | (with_reducible refine stop_alloc ?_) | (with_reducible refine stop_bslice ?_))
  unfold Kept
  refine wpList_st 0 #[.bool false, .bool false, .int .u32 0] #[.bool false, .bool false, .int .u32 0] G_4 rfl rfl (by kernel_rfl) rfl (of_decide_eq_true rfl) rfl ?_
  intro w_9 G_11 hU_10
  clear ld_8
  replace hB := hU_10.below hB (by omega)
  clear G_4 hU_10
  go_wp2_with (first | (with_reducible refine stop_store ?_) | (with_reducible refine stop_box ?_) | (with_reducible refine stop_alloc ?_) | (with_reducible refine stop_bslice ?_))
  refine bodyPost_ret (results_ctt rfl rfl (load_blk G_11 Try.underlying71 rfl (by kernel_rfl))) rfl ?_
  exact ⟨rfl, hB⟩
set_option maxHeartbeats 8000000 in
theorem rf_Decode_m (A : Option Addr) (c : Nat) (ks : List NK) (pb po d : Nat) (b0 b1 b2 b3 b4 b5 b6 b7 b8 b9 b10 b11 b12 : BitVec 8) (w : World) (ha : Rd w A (nksL ks)) (hb0 : RdB w (some ⟨pb, po, none⟩) [b0, b1, b2, b3, b4, b5, b6, b7, b8, b9, b10, b11, b12]) (RB : Rg pb po [.int .u8 (W8 b0)] w) (hd : 13 ≤ d) (hk : ks.length ≤ 1048576) (h3 : ¬ 3#8 < b0) :
    Calls Try.prog 54 #[.slice A ks.length c, .slice (some ⟨pb, po, none⟩) 13 d] w (fun e w' => e = .returned (.tuple #[.agg (beA (decK ks [b0, b1, b2, b3, b4, b5, b6, b7, b8, b9, b10, b11, b12]).1), .int .i64 (decK ks [b0, b1, b2, b3, b4, b5, b6, b7, b8, b9, b10, b11, b12]).2.1, .int .i64 (decK ks [b0, b1, b2, b3, b4, b5, b6, b7, b8, b9, b10, b11, b12]).2.2]) ∧ Below w.heap.size w w') := by
  have RB := Lib.hid (fun W (hB : Below w.heap.size w W) => (Rg.to RB hB).2)
  obtain ⟨la, lo, hA⟩ : ∃ la lo, A = some ⟨la, lo, none⟩ ∨ ks = [] := by
    rcases ks with _ | ⟨k0, ks⟩
    · exact ⟨0, 0, .inr rfl⟩
    · obtain ⟨b', o', hA, _, _⟩ := Rd.open_ ha (by unfold nksL; rw [List.flatMap_cons, List.length_append]; exact Nat.lt_of_lt_of_le (Nat.succ_pos 4) (Nat.le_add_right 5 _))
      exact ⟨b', o', .inl hA⟩
  have i3 : decide ((3 : Int) < W8 b0) = false := decide_eq_false (show ¬ W8 3#8 < W8 b0 by rw [W8_lt]; exact h3)
  obtain ⟨fr, hfr⟩ : ∃ f, (b0 % 2#8 == 1#8) = f := ⟨_, rfl⟩
  obtain ⟨fu, hfu⟩ : ∃ f, (b0 / 2#8 == 1#8) = f := ⟨_, rfl⟩
  obtain ⟨xw, hxw⟩ : ∃ x, leVal [b1, b2, b3, b4] = x := ⟨_, rfl⟩
  have hX : headBea [b0, b1, b2, b3, b4, b5, b6, b7, b8, b9, b10, b11, b12] = ⟨fr, fu, xw.setWidth 32⟩ := by rw [← hfr, ← hfu, ← hxw]; rfl
  have HX := Lib.hid hX
  obtain ⟨r, hr⟩ : ∃ r, decK ks [b0, b1, b2, b3, b4, b5, b6, b7, b8, b9, b10, b11, b12] = r := ⟨_, rfl⟩
  rw [hr]
  have HR := Lib.hid hr
  have H3 := Lib.hid h3
  have HK := Lib.hid hk
  have HA := Lib.hid hA
  have TK := Lib.hid (fun W g (h : Rd W (some ⟨g, 0, none⟩) [.int .i64 1, .int .i64 4]) (hb : RdB W (some ⟨pb, po, none⟩) [b0, b1, b2, b3, b4, b5, b6, b7, b8, b9, b10, b11, b12]) => show Calls Try.prog 83 #[.slice (some ⟨pb, po, none⟩) 13 d, .slice (some ⟨g, 0, none⟩) 2 2] W fun e w' => ∃ q o c1 A2 c2, e = .returned (.tuple #[.slice (some ⟨q, o, none⟩) 2 c1, .slice A2 8 c2, .int .i64 0]) ∧ Rg q o [.int .u64 (W64 (leVal [b0])), .int .u64 (W64 xw)] w' ∧ Below W.heap.size W w' from by
    have := take14 (bs := [b0, b1, b2, b3, b4, b5, b6, b7, b8, b9, b10, b11, b12]) rfl hd hb h
    rw [← hxw]
    exact this)
  obtain ⟨hl1, hl2⟩ := low3 b0 h3
  have hv0 : leVal [b0] = b0.setWidth 64 := by simp [leVal]
  rw [← hv0] at hl1 hl2
  obtain ⟨x0, hx0⟩ : ∃ x, leVal [b0] = x := ⟨_, rfl⟩
  rw [hx0] at TK hl1 hl2
  have e1 : ((W64 (x0 &&& 1#64) : Int) != 0) = fr := by have this : (W64 (x0 &&& 1#64) != W64 0#64) = fr := (by rw [W64_bne, ← hfr, hl1]); exact this
  have e2 : ((W64 (x0 &&& 2#64) : Int) != 0) = fu := by have this : (W64 (x0 &&& 2#64) != W64 0#64) = fu := (by rw [W64_bne, ← hfu, hl2]); exact this
  clear hl1 hl2 hv0 hx0
  have q5 : (5 : Int) ≤ (d : Int) := by omega
  have q1 : ¬ d = 1 := by omega
  obtain ⟨xi, hxi⟩ : ∃ x, xw.setWidth 32 = x := ⟨_, rfl⟩
  rw [hxi] at hX HX
  have exi : W32 (xw.setWidth 32) = W32 xi := by rw [hxi]
  clear hX hr h3 hA hfr hfu hxw hxi
  go_enter Try.func54, Try.ntmps54
  go_wp2_with (first | (with_reducible refine stop_store ?_) | (with_reducible refine stop_box ?_) | (with_reducible refine stop_alloc ?_) | (with_reducible refine stop_bslice ?_))
  unfold Kept
  refine go_mem (ty := 71) (cs := #[.bool false, .bool false, .int .u32 0]) (fun g => .pointer (some ⟨g, 0, none⟩)) rfl (by kernel_rfl) ?_
  intro g_1 w_2 z_6 l_5 hb_3 G_4
  have n_7 : w.heap.size ≤ g_1 := l_5
  have hB := hb_3
  clear hb_3 l_5 z_6
  have ld_8 : w_2.cell? ⟨pb, po, none⟩ = some (.int .u8 (W8 b0)) := (RB.out _ hB) 0 _ rfl
  go_wp2_with (first | (with_reducible refine stop_store ?_) | (with_reducible refine stop_box ?_) | (with_reducible refine stop_alloc ?_) | (with_reducible refine stop_bslice ?_))
  unfold Kept
  refine go_mem (ty := 3) (cs := #[.int .i64 1, .int .i64 4]) (fun g => .slice (some ⟨g, 0, none⟩) 2 2) rfl (by kernel_rfl) ?_
  intro g_9 w_10 z_14 l_13 hb_11 G_12
  clear ld_8
  have n_15 : g_1 < g_9 := Nat.lt_of_lt_of_le G_4.lt l_13
  have n_16 : w.heap.size ≤ g_9 := Nat.le_trans hB.size l_13
  replace G_4 := G_4.to hb_11 G_4.lt
  replace hB := hB.trans (hb_11.mono hB.size)
  clear hb_11 l_13 z_14
  go_wp2_with (first | (with_reducible refine stop_store ?_) | (with_reducible refine stop_box ?_) | (with_reducible refine stop_alloc ?_) | (with_reducible refine stop_bslice ?_))
  refine (TK.out _ _ (rd_blk G_12) (Rd.to hb0 hB)).mono ?_; rintro e w_17 ⟨q, qo, c1, A2, c2, rfl, RQ, hb_18⟩
  replace G_4 := G_4.to hb_18 G_4.lt
  replace G_12 := G_12.to hb_18 G_12.lt
  replace hB := hB.trans (hb_18.mono hB.size)
  clear hb_18
  go_wp2_with (first | (with_reducible refine stop_store ?_) | (with_reducible refine stop_box ?_) | (with_reducible refine stop_alloc ?_) | (with_reducible refine stop_bslice ?_))
  have hst : Stable fun W => Below w.heap.size w W ∧ Blk W g_1 71 #[.bool false, .bool false, .int .u32 0] ∧ Blk W g_9 3 #[.int .i64 1, .int .i64 4] ∧ Rg q qo [.int .u64 (W64 x0), .int .u64 (W64 xw)] W := stable_and (stable_below _ _ (Nat.le_refl _)) (stable_and (stable_blk _ _ _) (stable_and (stable_blk _ _ _) (stable_rg _ _ _)))
  refine wp_region_v _ 17 hst ⟨hB.drew, G_4, G_12, RQ⟩ ?_
  clear hB G_4 G_12 RQ
  refine wpU_take (v := ?_) 0 hst (fun _ h => h) rfl ?_ ?_; rotate_left; (intro W hS K hK; clear hS; go_simp; exact hK.out _ (Below.refl _ _)); simp only [Act.put, List.setIfInBounds_toArray, List.set_cons_zero, List.set_cons_succ]
  refine wpU_take (v := ?_) 1 hst (fun _ h => h) rfl ?_ ?_; rotate_left; (intro W hS K hK; clear hS; go_simp; exact hK.out _ (Below.refl _ _)); simp only [Act.put, List.setIfInBounds_toArray, List.set_cons_zero, List.set_cons_succ]
  refine wpU_take (v := ?_) 2 hst (fun _ h => h) rfl ?_ ?_; rotate_left; (intro W hS K hK; have ld : W.cell? ⟨q, qo, none⟩ = some (.int .u64 (W64 x0)) := hS.2.2.2.2 0 _ rfl; clear hS; go_simp; exact hK.out _ (Below.refl _ _)); simp only [Act.put, List.setIfInBounds_toArray, List.set_cons_zero, List.set_cons_succ]
  refine wpU_take (v := ?_) 3 hst (fun _ h => h) rfl ?_ ?_; rotate_left; (intro W hS K hK; clear hS; go_simp; exact hK.out _ (Below.refl _ _)); simp only [Act.put, List.setIfInBounds_toArray, List.set_cons_zero, List.set_cons_succ]
  refine wpU_take (v := ?_) 4 hst (fun _ h => h) rfl ?_ ?_; rotate_left; (intro W hS K hK; clear hS; go_simp; exact hK.out _ (Below.refl _ _)); simp only [Act.put, List.setIfInBounds_toArray, List.set_cons_zero, List.set_cons_succ]
  refine wpU_take (v := ?_) 5 hst (fun _ h => h) rfl ?_ ?_; rotate_left; (intro W hS K hK; clear hS; go_simp; exact hK.out _ (Below.refl _ _)); simp only [Act.put, List.setIfInBounds_toArray, List.set_cons_zero, List.set_cons_succ]
  refine wpU_take (v := ?_) 6 hst (fun _ h => h) rfl ?_ ?_; rotate_left; (intro W hS K hK; clear hS; go_simp; exact hK.out _ (Below.refl _ _)); simp only [Act.put, List.setIfInBounds_toArray, List.set_cons_zero, List.set_cons_succ]
  refine wpU_take (v := ?_) 7 hst (fun _ h => h) rfl ?_ ?_; rotate_left; (intro W hS K hK; have ld : W.cell? ⟨q, qo, none⟩ = some (.int .u64 (W64 x0)) := hS.2.2.2.2 0 _ rfl; clear hS; go_simp; exact hK.out _ (Below.refl _ _)); simp only [Act.put, List.setIfInBounds_toArray, List.set_cons_zero, List.set_cons_succ]
  refine wpU_take (v := ?_) 8 hst (fun _ h => h) rfl ?_ ?_; rotate_left; (intro W hS K hK; clear hS; go_simp; exact hK.out _ (Below.refl _ _)); simp only [Act.put, List.setIfInBounds_toArray, List.set_cons_zero, List.set_cons_succ]
  refine wpU_take (v := ?_) 9 hst (fun _ h => h) rfl ?_ ?_; rotate_left; (intro W hS K hK; clear hS; go_simp; exact hK.out _ (Below.refl _ _)); simp only [Act.put, List.setIfInBounds_toArray, List.set_cons_zero, List.set_cons_succ]
  refine wpU_take (v := ?_) 10 hst (fun _ h => h) rfl ?_ ?_; rotate_left; (intro W hS K hK; clear hS; go_simp; exact hK.out _ (Below.refl _ _)); simp only [Act.put, List.setIfInBounds_toArray, List.set_cons_zero, List.set_cons_succ]
  refine wpU_take (v := ?_) 11 hst (fun _ h => h) rfl ?_ ?_; rotate_left; (intro W hS K hK; clear hS; go_simp; exact hK.out _ (Below.refl _ _)); simp only [Act.put, List.setIfInBounds_toArray, List.set_cons_zero, List.set_cons_succ]
  refine wpU_take (v := ?_) 12 hst (fun _ h => h) rfl ?_ ?_; rotate_left; (intro W hS K hK; have ld : W.cell? ⟨q, qo + 1, none⟩ = some (.int .u64 (W64 xw)) := hS.2.2.2.2 1 _ rfl; clear hS; go_simp; exact hK.out _ (Below.refl _ _)); simp only [Act.put, List.setIfInBounds_toArray, List.set_cons_zero, List.set_cons_succ]
  refine wpU_take (v := ?_) 13 hst (fun _ h => h) rfl ?_ ?_; rotate_left; (intro W hS K hK; clear hS; go_simp; exact hK.out _ (Below.refl _ _)); simp only [Act.put, List.setIfInBounds_toArray, List.set_cons_zero, List.set_cons_succ]
  refine wpU_take (v := ?_) 14 hst (fun _ h => h) rfl ?_ ?_; rotate_left; (intro W hS K hK; clear hS; go_simp; exact hK.out _ (Below.refl _ _)); simp only [Act.put, List.setIfInBounds_toArray, List.set_cons_zero, List.set_cons_succ]
  refine wpV_new 15 hst rfl ?_; intro W hS K hK
  have l8_15_g_1 : g_1 < W.heap.size := hS.2.1.lt
  have l8_15_g_9 : g_9 < W.heap.size := hS.2.2.1.lt
  have l8_15_q : q < W.heap.size := hS.2.2.2.1
  have n8_15a : w.heap.size ≤ W.heap.size := hS.1.size
  clear hS
  go_simp
  refine hK.out (fun W' => Room W.heap.size 71 3 W') _ _ (stable_room _ _ _) ((Below.refl _ _).alloc (Nat.le_refl _) _) (⟨_, rfl, rfl, Blk.new _ _ _⟩) (fun hst => ?_)
  clear hK K
  try simp only [Act.put, List.setIfInBounds_toArray, List.set_cons_zero, List.set_cons_succ]
  generalize W.heap.size = g8_15 at hst l8_15_g_1 l8_15_g_9 l8_15_q n8_15a ⊢
  clear W
  refine wpV_st 16 hst (fun _ h => h) #[.bool fr, .bool fu, .int .u32 (W32 xi)] rfl rfl rfl rfl (fun W hS => hS.2) (fun W W' h hU hG => ?_) (by kernel_rfl) rfl (fun hst => ?_)
  · obtain ⟨⟨h0_0, h0_1, h0_2, h0_3⟩, ⟨ch1_0, ah1_0, bh1_0, h1_0⟩⟩ := h
    exact ⟨⟨hU.below h0_0 (by omega), hU.blk h0_1 (by omega), hU.blk h0_2 (by omega), Rg.upd h0_3 hU (by omega)⟩, ⟨_, rfl, rfl, hG⟩⟩
  refine wpU_done (fun w_19 hS => ?_)
  obtain ⟨⟨⟨hB, G_4, G_12, RQ⟩, -⟩, G8_15s⟩ := hS
  clear hst
  go_wp2_with (first | (with_reducible refine stop_store ?_) | (with_reducible refine stop_box ?_) | (with_reducible refine stop_alloc ?_) | (with_reducible refine stop_bslice ?_))
  try simp only [Act.put, List.setIfInBounds_toArray, List.set_cons_zero, List.set_cons_succ]
  go_loopw [53] (fun i wr => ∃ (j : Nat), j ≤ ks.length ∧ i = .int .i64 j ∧ Below w.heap.size w wr ∧ Blk wr g_1 71 #[.bool false, .bool false, .int .u32 0] ∧ Blk wr g8_15 71 #[.bool fr, .bool fu, .int .u32 (W32 xi)] ∧ ∀ (q : Nat), q < j → ∀ (h : q < ks.length), beaB ks[q] (headBea [b0, b1, b2, b3, b4, b5, b6, b7, b8, b9, b10, b11, b12]) ≠ [b0, b1, b2, b3, b4, b5, b6, b7, b8, b9, b10, b11, b12]) (fun i _ => ks.length - (intOf i).toNat)
  case atStart => exact ⟨0, Nat.zero_le _, rfl, hB, G_4, G8_15s, fun q hq => absurd hq (Nat.not_lt_zero q)⟩
  case round =>
    clear G_4 G_12 G8_15s RQ hB
    obtain ⟨j, hj0, rfl, hB, H0, H1, hno⟩ := hrel
    by_cases hlt : j < ks.length
    ·
      obtain rfl : A = some ⟨la, lo, none⟩ := HA.out.resolve_right (fun h => by rw [h] at hlt; simp at hlt)
      have RX := rg_nk (Rd.to ha hB) j hlt
      obtain ⟨⟨x_1, x_2, x_3, x_4, x_5⟩, hx⟩ : ∃ z, ks[j] = z := ⟨_, rfl⟩
      rw [hx] at RX
      replace RX : Rg la (lo + j * 5) [.int .u64 (W64 x_1), .int .i64 x_2, .int .u64 (W64 x_3), .int .u64 (W64 x_4), .int .u64 (W64 x_5)] wr := RX
      have HXJ := Lib.hid hx
      have HNO := Lib.hid hno
      have i1 : decide ((j : Int) < ((ks.length : Nat) : Int)) = true := by simp; exact hlt
      have i2 : decide (j < ks.length) = true := decide_eq_true hlt
      clear hx hno
      have ld_20 := RX.2
      go_wp2_with (first | (with_reducible refine stop_store ?_) | (with_reducible refine stop_box ?_) | (with_reducible refine stop_alloc ?_) | (with_reducible refine stop_bslice ?_) | ((with_reducible refine wpList_ldr [.int .u64 (W64 x_1), .int .i64 x_2, .int .u64 (W64 x_3), .int .u64 (W64 x_4), .int .u64 (W64 x_5)] (ld_20) ?_ Try.underlying25 ?_ ?_ ?_); rfl; rfl; kernel_rfl))
      unfold Kept
      refine go_mem (ty := 25) (cs := #[.int .u64 0, .int .i64 0, .int .u64 0, .int .u64 0, .int .u64 0]) (fun g => .pointer (some ⟨g, 0, none⟩)) rfl (by kernel_rfl) ?_
      intro g_21 w_22 z_26 l_25 hb_23 G_24
      clear ld_20
      have n_27 : g8_15 < g_21 := Nat.lt_of_lt_of_le H1.lt l_25
      have n_28 : w.heap.size ≤ g_21 := Nat.le_trans hB.size l_25
      replace H0 := H0.to hb_23 H0.lt
      replace H1 := H1.to hb_23 H1.lt
      replace RX := Rg.to RX hb_23
      replace hB := hB.trans (hb_23.mono hB.size)
      clear hb_23 l_25 z_26
      go_wp2_with (first | (with_reducible refine stop_store ?_) | (with_reducible refine stop_box ?_) | (with_reducible refine stop_alloc ?_) | (with_reducible refine stop_bslice ?_))
      unfold Kept
      refine wpList_st 0 #[.int .u64 (W64 x_1), .int .i64 x_2, .int .u64 (W64 x_3), .int .u64 (W64 x_4), .int .u64 (W64 x_5)] #[.int .u64 (W64 x_1), .int .i64 x_2, .int .u64 (W64 x_3), .int .u64 (W64 x_4), .int .u64 (W64 x_5)] G_24 rfl rfl (by kernel_rfl) rfl (of_decide_eq_true rfl) rfl ?_
      intro w_29 G_31 hU_30
      replace H0 := hU_30.blk H0 (by omega)
      replace H1 := hU_30.blk H1 (by omega)
      clear RX
      replace hB := hU_30.below hB (by omega)
      clear G_24 hU_30
      by_cases hc_32 : beaB ⟨x_1, x_2, x_3, x_4, x_5⟩ ⟨fr, fu, xi⟩ = [b0, b1, b2, b3, b4, b5, b6, b7, b8, b9, b10, b11, b12]
      ·
        have ec_32 : ((bstr (beaB ⟨x_1, x_2, x_3, x_4, x_5⟩ ⟨fr, fu, xi⟩)).toList == (bstr [b0, b1, b2, b3, b4, b5, b6, b7, b8, b9, b10, b11, b12]).toList) = true := by rw [bstr_beq]; exact decide_eq_true hc_32
        have kc_32 := Lib.hid hc_32
        clear hc_32
        go_wp2_with (first | (with_reducible refine stop_store ?_) | (with_reducible refine stop_box ?_) | (with_reducible refine stop_alloc ?_) | (with_reducible refine stop_bslice ?_))
        have hst : Stable fun W => Below w.heap.size w W ∧ Blk W g_1 71 #[.bool false, .bool false, .int .u32 0] ∧ Blk W g8_15 71 #[.bool fr, .bool fu, .int .u32 (W32 xi)] ∧ Blk W g_21 25 #[.int .u64 (W64 x_1), .int .i64 x_2, .int .u64 (W64 x_3), .int .u64 (W64 x_4), .int .u64 (W64 x_5)] := stable_and (stable_below _ _ (Nat.le_refl _)) (stable_and (stable_blk _ _ _) (stable_and (stable_blk _ _ _) (stable_blk _ _ _)))
        refine wp_region_v _ 7 hst ⟨hB.drew, H0, H1, G_31⟩ ?_
        clear hB H0 H1 G_31
        refine wpU_take (v := .agg #[.int .u64 (W64 x_1), .int .i64 x_2, .int .u64 (W64 x_3), .int .u64 (W64 x_4), .int .u64 (W64 x_5)]) 0 hst (fun _ h => h) rfl (fun W hS K hK => calm_load rfl rfl (load_part hS.2.2.2 0 [.int .u64 (W64 x_1), .int .i64 x_2, .int .u64 (W64 x_3), .int .u64 (W64 x_4), .int .u64 (W64 x_5)] rfl Try.underlying25 rfl (by kernel_rfl)) (hK.out _ (Below.refl _ _))) ?_; simp only [Act.put, List.setIfInBounds_toArray, List.set_cons_zero, List.set_cons_succ]
        refine wpU_take (v := .agg #[.bool fr, .bool fu, .int .u32 (W32 xi)]) 1 hst (fun _ h => h) rfl (fun W hS K hK => calm_load rfl rfl (load_part hS.2.2.1 0 [.bool fr, .bool fu, .int .u32 (W32 xi)] rfl Try.underlying71 rfl (by kernel_rfl)) (hK.out _ (Below.refl _ _))) ?_; simp only [Act.put, List.setIfInBounds_toArray, List.set_cons_zero, List.set_cons_succ]
        refine wpU_take (v := ?_) 4 hst (fun _ h => h) rfl ?_ ?_; rotate_left; (intro W hS K hK; clear hS; go_simp; exact hK.out _ (Below.refl _ _)); simp only [Act.put, List.setIfInBounds_toArray, List.set_cons_zero, List.set_cons_succ]
        refine wpU_take (v := ?_) 5 hst (fun _ h => h) rfl ?_ ?_; rotate_left; (intro W hS K hK; have ld := str_at (n := 13) (Rd.to hb0 hS.1) (rfl) d; clear hS; go_simp; exact hK.out _ (Below.refl _ _)); simp only [Act.put, List.setIfInBounds_toArray, List.set_cons_zero, List.set_cons_succ]
        refine wpV_new 2 hst rfl ?_; intro W hS K hK
        go_simp
        refine (retB_at (rf_Encode ⟨x_1, x_2, x_3, x_4, x_5⟩ ⟨fr, fu, xi⟩ _) (beaB_length _ _) hS.1.size).mono ?_; rintro e w9 ⟨A12_2, c12_2, rfl, R12_2, hb⟩
        refine hK.out (fun W => W.ownsRow w.heap.size 5 1 (.slice A12_2 13 c12_2) 13 (bcells (beaB ⟨x_1, x_2, x_3, x_4, x_5⟩ ⟨fr, fu, xi⟩))) _ _ (stable_own _ _ _ _ _ _) hb (R12_2) (fun hst => ?_)
        clear hK K hb R12_2 hS
        try simp only [Act.put, List.setIfInBounds_toArray, List.set_cons_zero, List.set_cons_succ]
        refine wpU_take (v := ?_) 3 hst (fun _ h => h) rfl ?_ ?_; rotate_left; (intro W hS K hK; have ld := str_at (n := 13) (Rd.of_own hS.2) (own_len hS.2) c12_2; clear hS; go_simp; exact hK.out _ (Below.refl _ _)); simp only [Act.put, List.setIfInBounds_toArray, List.set_cons_zero, List.set_cons_succ]
        refine wpU_take (v := ?_) 6 hst (fun _ h => h) rfl ?_ ?_; rotate_left; (intro W hS K hK; clear hS; go_simp; exact hK.out _ (Below.refl _ _)); simp only [Act.put, List.setIfInBounds_toArray, List.set_cons_zero, List.set_cons_succ]
        refine wpU_done (fun w_33 hS => ?_)
        obtain ⟨⟨hB, H0, H1, G_31⟩, R12_2⟩ := hS
        clear hst
        go_wp2_with (first | (with_reducible refine stop_store ?_) | (with_reducible refine stop_box ?_) | (with_reducible refine stop_alloc ?_) | (with_reducible refine stop_bslice ?_) | ((with_reducible refine wpList_ld 0 [.bool fr, .bool fu, .int .u32 (W32 xi)] H1 ?_ ?_ Try.underlying71 ?_ ?_ ?_); rfl; rfl; rfl; kernel_rfl))
        unfold Kept
        refine wpList_st 0 #[.bool fr, .bool fu, .int .u32 (W32 xi)] #[.bool fr, .bool fu, .int .u32 (W32 xi)] H0 rfl rfl (by kernel_rfl) rfl (of_decide_eq_true rfl) rfl ?_
        intro w_35 G_37 hU_36
        replace H1 := hU_36.blk H1 (by omega)
        replace G_31 := hU_36.blk G_31 (by omega)
        clear R12_2
        replace hB := hU_36.below hB (by omega)
        clear H0 hU_36
        go_wp2_with (first | (with_reducible refine stop_store ?_) | (with_reducible refine stop_box ?_) | (with_reducible refine stop_alloc ?_) | (with_reducible refine stop_bslice ?_))
        refine bodyPost_ret (results_ctt rfl rfl (load_blk G_37 Try.underlying71 rfl (by kernel_rfl))) rfl ?_
        refine ⟨?_, hB⟩
        have er : r = (⟨fr, fu, xi⟩, (j : Int), 0) := by rw [← HR.out, decK_hit ks [b0, b1, b2, b3, b4, b5, b6, b7, b8, b9, b10, b11, b12] rfl H3.out j hlt (by rw [HXJ.out, HX.out]; exact kc_32.out) HNO.out, HX.out]
        rw [er]; rfl
      ·
        have ec_32 : ((bstr (beaB ⟨x_1, x_2, x_3, x_4, x_5⟩ ⟨fr, fu, xi⟩)).toList == (bstr [b0, b1, b2, b3, b4, b5, b6, b7, b8, b9, b10, b11, b12]).toList) = false := by rw [bstr_beq]; exact decide_eq_false hc_32
        have kc_32 := Lib.hid hc_32
        clear hc_32
        go_wp2_with (first | (with_reducible refine stop_store ?_) | (with_reducible refine stop_box ?_) | (with_reducible refine stop_alloc ?_) | (with_reducible refine stop_bslice ?_))
        have hst : Stable fun W => Below w.heap.size w W ∧ Blk W g_1 71 #[.bool false, .bool false, .int .u32 0] ∧ Blk W g8_15 71 #[.bool fr, .bool fu, .int .u32 (W32 xi)] ∧ Blk W g_21 25 #[.int .u64 (W64 x_1), .int .i64 x_2, .int .u64 (W64 x_3), .int .u64 (W64 x_4), .int .u64 (W64 x_5)] := stable_and (stable_below _ _ (Nat.le_refl _)) (stable_and (stable_blk _ _ _) (stable_and (stable_blk _ _ _) (stable_blk _ _ _)))
        refine wp_region_v _ 7 hst ⟨hB.drew, H0, H1, G_31⟩ ?_
        clear hB H0 H1 G_31
        refine wpU_take (v := .agg #[.int .u64 (W64 x_1), .int .i64 x_2, .int .u64 (W64 x_3), .int .u64 (W64 x_4), .int .u64 (W64 x_5)]) 0 hst (fun _ h => h) rfl (fun W hS K hK => calm_load rfl rfl (load_part hS.2.2.2 0 [.int .u64 (W64 x_1), .int .i64 x_2, .int .u64 (W64 x_3), .int .u64 (W64 x_4), .int .u64 (W64 x_5)] rfl Try.underlying25 rfl (by kernel_rfl)) (hK.out _ (Below.refl _ _))) ?_; simp only [Act.put, List.setIfInBounds_toArray, List.set_cons_zero, List.set_cons_succ]
        refine wpU_take (v := .agg #[.bool fr, .bool fu, .int .u32 (W32 xi)]) 1 hst (fun _ h => h) rfl (fun W hS K hK => calm_load rfl rfl (load_part hS.2.2.1 0 [.bool fr, .bool fu, .int .u32 (W32 xi)] rfl Try.underlying71 rfl (by kernel_rfl)) (hK.out _ (Below.refl _ _))) ?_; simp only [Act.put, List.setIfInBounds_toArray, List.set_cons_zero, List.set_cons_succ]
        refine wpU_take (v := ?_) 4 hst (fun _ h => h) rfl ?_ ?_; rotate_left; (intro W hS K hK; clear hS; go_simp; exact hK.out _ (Below.refl _ _)); simp only [Act.put, List.setIfInBounds_toArray, List.set_cons_zero, List.set_cons_succ]
        refine wpU_take (v := ?_) 5 hst (fun _ h => h) rfl ?_ ?_; rotate_left; (intro W hS K hK; have ld := str_at (n := 13) (Rd.to hb0 hS.1) (rfl) d; clear hS; go_simp; exact hK.out _ (Below.refl _ _)); simp only [Act.put, List.setIfInBounds_toArray, List.set_cons_zero, List.set_cons_succ]
        refine wpV_new 2 hst rfl ?_; intro W hS K hK
        go_simp
        refine (retB_at (rf_Encode ⟨x_1, x_2, x_3, x_4, x_5⟩ ⟨fr, fu, xi⟩ _) (beaB_length _ _) hS.1.size).mono ?_; rintro e w9 ⟨A12_2, c12_2, rfl, R12_2, hb⟩
        refine hK.out (fun W => W.ownsRow w.heap.size 5 1 (.slice A12_2 13 c12_2) 13 (bcells (beaB ⟨x_1, x_2, x_3, x_4, x_5⟩ ⟨fr, fu, xi⟩))) _ _ (stable_own _ _ _ _ _ _) hb (R12_2) (fun hst => ?_)
        clear hK K hb R12_2 hS
        try simp only [Act.put, List.setIfInBounds_toArray, List.set_cons_zero, List.set_cons_succ]
        refine wpU_take (v := ?_) 3 hst (fun _ h => h) rfl ?_ ?_; rotate_left; (intro W hS K hK; have ld := str_at (n := 13) (Rd.of_own hS.2) (own_len hS.2) c12_2; clear hS; go_simp; exact hK.out _ (Below.refl _ _)); simp only [Act.put, List.setIfInBounds_toArray, List.set_cons_zero, List.set_cons_succ]
        refine wpU_take (v := ?_) 6 hst (fun _ h => h) rfl ?_ ?_; rotate_left; (intro W hS K hK; clear hS; go_simp; exact hK.out _ (Below.refl _ _)); simp only [Act.put, List.setIfInBounds_toArray, List.set_cons_zero, List.set_cons_succ]
        refine wpU_done (fun w_38 hS => ?_)
        obtain ⟨⟨hB, H0, H1, G_31⟩, R12_2⟩ := hS
        clear hst
        go_wp2_with (first | (with_reducible refine stop_store ?_) | (with_reducible refine stop_box ?_) | (with_reducible refine stop_alloc ?_) | (with_reducible refine stop_bslice ?_))
        go_roundw
        case rel => exact ⟨j + 1, by omega, by go_num, hB, H0, H1, fun q hq hql => (Nat.lt_or_ge q j).elim (fun h => HNO.out q h hql) (fun h => by have hqj : q = j := (by omega); subst hqj; rw [HXJ.out, HX.out]; exact kc_32.out)⟩
        case measure => simp [intOf]; omega
    ·
      have i1 : decide ((j : Int) < ((ks.length : Nat) : Int)) = false := by simp; omega
      have i2 : decide (j < ks.length) = false := decide_eq_false hlt
      have HNO := Lib.hid hno
      clear hno
      go_wp2_with (first | (with_reducible refine stop_store ?_) | (with_reducible refine stop_box ?_) | (with_reducible refine stop_alloc ?_) | (with_reducible refine stop_bslice ?_))
      unfold Kept
      refine wpList_st 0 #[.bool false, .bool false, .int .u32 0] #[.bool false, .bool false, .int .u32 0] H0 rfl rfl (by kernel_rfl) rfl (of_decide_eq_true rfl) rfl ?_
      intro w_39 G_41 hU_40
      replace H1 := hU_40.blk H1 (by omega)
      replace hB := hU_40.below hB (by omega)
      clear H0 hU_40
      go_wp2_with (first | (with_reducible refine stop_store ?_) | (with_reducible refine stop_box ?_) | (with_reducible refine stop_alloc ?_) | (with_reducible refine stop_bslice ?_))
      refine bodyPost_ret (results_ctt rfl rfl (load_blk G_41 Try.underlying71 rfl (by kernel_rfl))) rfl ?_
      refine ⟨?_, hB⟩
      have er : r = (bea0, 0, 15) := by rw [← HR.out, decK_miss ks [b0, b1, b2, b3, b4, b5, b6, b7, b8, b9, b10, b11, b12] rfl H3.out (fun q h => HNO.out q (by omega) h)]
      rw [er]; rfl
theorem rf_Decode (A : Option Addr) (c : Nat) (ks : List NK) (B : Option Addr) (d : Nat) (bs : List (BitVec 8)) (w : World) (ha : Rd w A (nksL ks)) (hb0 : RdB w B bs) (hd : bs.length ≤ d) (hk : ks.length ≤ 1048576) :
    Calls Try.prog 54 #[.slice A ks.length c, .slice B bs.length d] w (fun e w' => e = .returned (.tuple #[.agg (beA (decK ks bs).1), .int .i64 (decK ks bs).2.1, .int .i64 (decK ks bs).2.2]) ∧ Below w.heap.size w w') := by
  rcases Nat.lt_trichotomy bs.length 13 with h | h | h
  · exact rf_Decode_s A c ks B d bs w ha hb0 hd hk h
  · obtain ⟨b0, b1, b2, b3, b4, b5, b6, b7, b8, b9, b10, b11, b12, rfl⟩ := list13 h
    obtain ⟨pb, po, rfl, hpb, _⟩ := Rd.open_ hb0 (by rw [bcells_length]; exact Nat.succ_pos _)
    have RB : Rg pb po [.int .u8 (W8 b0)] w := by have := rg_at hb0 0 1 [.int .u8 (W8 b0)] rfl (Nat.succ_pos _); rwa [Nat.add_zero] at this
    by_cases h3 : 3#8 < b0
    · exact rf_Decode_h A c ks pb po d b0 b1 b2 b3 b4 b5 b6 b7 b8 b9 b10 b11 b12 w ha hb0 RB hd hk h3
    · exact rf_Decode_m A c ks pb po d b0 b1 b2 b3 b4 b5 b6 b7 b8 b9 b10 b11 b12 w ha hb0 RB hd hk h3
  · exact rf_Decode_l A c ks B d bs w ha hb0 hd hk h
set_option maxHeartbeats 1000000 in
theorem r52_Decode_s (A : Option Addr) (c : Nat) (ks : List NK) (B : Option Addr) (d : Nat) (bs : List (BitVec 8)) (w : World) (ha : Rd w A (nksL ks)) (hb0 : RdB w B bs) (hd : bs.length ≤ d) (hk : ks.length ≤ 1048576) (hl : bs.length < 13) :
    Calls Try.prog 57 #[.slice A ks.length c, .slice B bs.length d] w (fun e w' => e = .returned (.tuple #[.agg (beA (decK ks bs).1), .int .i64 (decK ks bs).2.1, .int .i64 (decK ks bs).2.2]) ∧ Below w.heap.size w w') := by
  have hr : decK ks bs = (bea0, 0, 3) := by unfold decK; rw [if_pos hl]
  rw [hr]
  have i0 : decide (((bs.length : Nat) : Int) < 13) = true := by simp; omega
  have HD := Lib.hid hd
  have HL := Lib.hid hl
  clear hd hl hr ha hb0
  go_enter Try.func57, Try.ntmps57
  go_wp2_with (first | (with_reducible refine stop_store ?_) | (with_reducible refine stop_box ?_) | (with_reducible refine stop_alloc ?_) | (with_reducible refine stop_bslice ?_))
  unfold Kept
  refine go_mem (ty := 71) (cs := #[.bool false, .bool false, .int .u32 0]) (fun g => .pointer (some ⟨g, 0, none⟩)) rfl (by kernel_rfl) ?_
  intro g_1 w_2 z_6 l_5 hb_3 G_4
  have n_7 : w.heap.size ≤ g_1 := l_5
  have hB := hb_3
  clear hb_3 l_5 z_6
  go_wp2_with (first | (with_reducible refine stop_store ?_) | (with_reducible refine stop_box ?_) | (with_reducible refine stop_alloc ?_) | (with_reducible refine stop_bslice ?_))
  unfold Kept
  refine wpList_st 0 #[.bool false, .bool false, .int .u32 0] #[.bool false, .bool false, .int .u32 0] G_4 rfl rfl (by kernel_rfl) rfl (of_decide_eq_true rfl) rfl ?_
  intro w_8 G_10 hU_9
  replace hB := hU_9.below hB (by omega)
  clear G_4 hU_9
  go_wp2_with (first | (with_reducible refine stop_store ?_) | (with_reducible refine stop_box ?_) | (with_reducible refine stop_alloc ?_) | (with_reducible refine stop_bslice ?_))
  refine bodyPost_ret (results_ctt rfl rfl (load_blk G_10 Try.underlying71 rfl (by kernel_rfl))) rfl ?_
  exact ⟨rfl, hB⟩
set_option maxHeartbeats 1000000 in
theorem r52_Decode_l (A : Option Addr) (c : Nat) (ks : List NK) (B : Option Addr) (d : Nat) (bs : List (BitVec 8)) (w : World) (ha : Rd w A (nksL ks)) (hb0 : RdB w B bs) (hd : bs.length ≤ d) (hk : ks.length ≤ 1048576) (hl : 13 < bs.length) :
    Calls Try.prog 57 #[.slice A ks.length c, .slice B bs.length d] w (fun e w' => e = .returned (.tuple #[.agg (beA (decK ks bs).1), .int .i64 (decK ks bs).2.1, .int .i64 (decK ks bs).2.2]) ∧ Below w.heap.size w w') := by
  have hr : decK ks bs = (bea0, 0, 4) := by unfold decK; rw [if_neg (by omega), if_pos hl]
  rw [hr]
  have i0 : decide (((bs.length : Nat) : Int) < 13) = false := by simp; omega
  have i1 : decide ((13 : Int) < ((bs.length : Nat) : Int)) = true := by simp; omega
  have HD := Lib.hid hd
  have HL := Lib.hid hl
  clear hd hl hr ha hb0
  go_enter Try.func57, Try.ntmps57
  go_wp2_with (first | (with_reducible refine stop_store ?_) | (with_reducible refine stop_box ?_) | (with_reducible refine stop_alloc ?_) | (with_reducible refine stop_bslice ?_))
  unfold Kept
  refine go_mem (ty := 71) (cs := #[.bool false, .bool false, .int .u32 0]) (fun g => .pointer (some ⟨g, 0, none⟩)) rfl (by kernel_rfl) ?_
  intro g_1 w_2 z_6 l_5 hb_3 G_4
  have n_7 : w.heap.size ≤ g_1 := l_5
  have hB := hb_3
  clear hb_3 l_5 z_6
  go_wp2_with (first | (with_reducible refine stop_store ?_) | (with_reducible refine stop_box ?_) | (with_reducible refine stop_alloc ?_) | (with_reducible refine stop_bslice ?_))
  unfold Kept
  refine wpList_st 0 #[.bool false, .bool false, .int .u32 0] #[.bool false, .bool false, .int .u32 0] G_4 rfl rfl (by kernel_rfl) rfl (of_decide_eq_true rfl) rfl ?_
  intro w_8 G_10 hU_9
  replace hB := hU_9.below hB (by omega)
  clear G_4 hU_9
  go_wp2_with (first | (with_reducible refine stop_store ?_) | (with_reducible refine stop_box ?_) | (with_reducible refine stop_alloc ?_) | (with_reducible refine stop_bslice ?_))
  refine bodyPost_ret (results_ctt rfl rfl (load_blk G_10 Try.underlying71 rfl (by kernel_rfl))) rfl ?_
  exact ⟨rfl, hB⟩
set_option maxHeartbeats 1000000 in
theorem r52_Decode_h (A : Option Addr) (c : Nat) (ks : List NK) (pb po d : Nat) (b0 b1 b2 b3 b4 b5 b6 b7 b8 b9 b10 b11 b12 : BitVec 8) (w : World) (ha : Rd w A (nksL ks)) (hb0 : RdB w (some ⟨pb, po, none⟩) [b0, b1, b2, b3, b4, b5, b6, b7, b8, b9, b10, b11, b12]) (RB : Rg pb po [.int .u8 (W8 b0)] w) (hd : 13 ≤ d) (hk : ks.length ≤ 1048576) (h3 : 3#8 < b0) :
    Calls Try.prog 57 #[.slice A ks.length c, .slice (some ⟨pb, po, none⟩) 13 d] w (fun e w' => e = .returned (.tuple #[.agg (beA (decK ks [b0, b1, b2, b3, b4, b5, b6, b7, b8, b9, b10, b11, b12]).1), .int .i64 (decK ks [b0, b1, b2, b3, b4, b5, b6, b7, b8, b9, b10, b11, b12]).2.1, .int .i64 (decK ks [b0, b1, b2, b3, b4, b5, b6, b7, b8, b9, b10, b11, b12]).2.2]) ∧ Below w.heap.size w w') := by
  have RB := Lib.hid (fun W (hB : Below w.heap.size w W) => (Rg.to RB hB).2)
  have hr : decK ks [b0, b1, b2, b3, b4, b5, b6, b7, b8, b9, b10, b11, b12] = (bea0, 0, 2) := by unfold decK; rw [if_neg (by simp), if_neg (by simp)]; exact if_pos h3
  rw [hr]
  have i3 : decide ((3 : Int) < W8 b0) = true := decide_eq_true (show W8 3#8 < W8 b0 by rw [W8_lt]; exact h3)
  clear hr h3 ha hb0
  go_enter Try.func57, Try.ntmps57
  go_wp2_with (first | (with_reducible refine stop_store ?_) | (with_reducible refine stop_box ?_) | (with_reducible refine stop_alloc ?_) | (with_reducible refine stop_bslice ?_))
  unfold Kept
  refine go_mem (ty := 71) (cs := #[.bool false, .bool false, .int .u32 0]) (fun g => .pointer (some ⟨g, 0, none⟩)) rfl (by kernel_rfl) ?_
  intro g_1 w_2 z_6 l_5 hb_3 G_4
  have n_7 : w.heap.size ≤ g_1 := l_5
  have hB := hb_3
  clear hb_3 l_5 z_6
  have ld_8 : w_2.cell? ⟨pb, po, none⟩ = some (.int .u8 (W8 b0)) := (RB.out _ hB) 0 _ rfl
  go_wp2_with (first | (with_reducible refine stop_store ?_) | (with_reducible refine stop_box ?_) | (with_reducible refine stop_alloc ?_) | (with_reducible refine stop_bslice ?_))
  unfold Kept
  refine wpList_st 0 #[.bool false, .bool false, .int .u32 0] #[.bool false, .bool false, .int .u32 0] G_4 rfl rfl (by kernel_rfl) rfl (of_decide_eq_true rfl) rfl ?_
  intro w_9 G_11 hU_10
  clear ld_8
  replace hB := hU_10.below hB (by omega)
  clear G_4 hU_10
  go_wp2_with (first | (with_reducible refine stop_store ?_) | (with_reducible refine stop_box ?_) | (with_reducible refine stop_alloc ?_) | (with_reducible refine stop_bslice ?_))
  refine bodyPost_ret (results_ctt rfl rfl (load_blk G_11 Try.underlying71 rfl (by kernel_rfl))) rfl ?_
  exact ⟨rfl, hB⟩
set_option maxHeartbeats 8000000 in
theorem r52_Decode_m (A : Option Addr) (c : Nat) (ks : List NK) (pb po d : Nat) (b0 b1 b2 b3 b4 b5 b6 b7 b8 b9 b10 b11 b12 : BitVec 8) (w : World) (ha : Rd w A (nksL ks)) (hb0 : RdB w (some ⟨pb, po, none⟩) [b0, b1, b2, b3, b4, b5, b6, b7, b8, b9, b10, b11, b12]) (RB : Rg pb po [.int .u8 (W8 b0)] w) (hd : 13 ≤ d) (hk : ks.length ≤ 1048576) (h3 : ¬ 3#8 < b0) :
    Calls Try.prog 57 #[.slice A ks.length c, .slice (some ⟨pb, po, none⟩) 13 d] w (fun e w' => e = .returned (.tuple #[.agg (beA (decK ks [b0, b1, b2, b3, b4, b5, b6, b7, b8, b9, b10, b11, b12]).1), .int .i64 (decK ks [b0, b1, b2, b3, b4, b5, b6, b7, b8, b9, b10, b11, b12]).2.1, .int .i64 (decK ks [b0, b1, b2, b3, b4, b5, b6, b7, b8, b9, b10, b11, b12]).2.2]) ∧ Below w.heap.size w w') := by
  have RB := Lib.hid (fun W (hB : Below w.heap.size w W) => (Rg.to RB hB).2)
  obtain ⟨la, lo, hA⟩ : ∃ la lo, A = some ⟨la, lo, none⟩ ∨ ks = [] := by
    rcases ks with _ | ⟨k0, ks⟩
    · exact ⟨0, 0, .inr rfl⟩
    · obtain ⟨b', o', hA, _, _⟩ := Rd.open_ ha (by unfold nksL; rw [List.flatMap_cons, List.length_append]; exact Nat.lt_of_lt_of_le (Nat.succ_pos 4) (Nat.le_add_right 5 _))
      exact ⟨b', o', .inl hA⟩
  have i3 : decide ((3 : Int) < W8 b0) = false := decide_eq_false (show ¬ W8 3#8 < W8 b0 by rw [W8_lt]; exact h3)
  obtain ⟨fr, hfr⟩ : ∃ f, (b0 % 2#8 == 1#8) = f := ⟨_, rfl⟩
  obtain ⟨fu, hfu⟩ : ∃ f, (b0 / 2#8 == 1#8) = f := ⟨_, rfl⟩
  obtain ⟨xw, hxw⟩ : ∃ x, leVal [b1, b2, b3, b4] = x := ⟨_, rfl⟩
  have hX : headBea [b0, b1, b2, b3, b4, b5, b6, b7, b8, b9, b10, b11, b12] = ⟨fr, fu, xw.setWidth 32⟩ := by rw [← hfr, ← hfu, ← hxw]; rfl
  have HX := Lib.hid hX
  obtain ⟨r, hr⟩ : ∃ r, decK ks [b0, b1, b2, b3, b4, b5, b6, b7, b8, b9, b10, b11, b12] = r := ⟨_, rfl⟩
  rw [hr]
  have HR := Lib.hid hr
  have H3 := Lib.hid h3
  have HK := Lib.hid hk
  have HA := Lib.hid hA
  have CV := Lib.hid (fun W (h : RdB W (some ⟨pb, po, none⟩) [b0, b1, b2, b3, b4, b5, b6, b7, b8, b9, b10, b11, b12]) => show Calls Try.prog 86 #[.slice (some ⟨pb, po + 1, none⟩) 4 (d - 1)] W fun e w' => e = .returned (.int .u64 (W64 xw)) ∧ W = w' from by
    obtain ⟨_, _, hA1, hlt, _⟩ := Rd.open_ h (by rw [bcells_length]; exact Nat.succ_pos _)
    cases hA1
    have := ref2_Value (some ⟨pb, po + 1, none⟩) (d - 1) [b1, b2, b3, b4] W ((rd_cut h hlt 1).take 4) (by simp)
    rw [hxw] at this
    exact this)
  have e1 : ((W8 (b0 % 2#8) : Int) == 1) = fr := by have this : (W8 (b0 % 2#8) == W8 1#8) = fr := (by rw [W8_beq]; exact hfr); exact this
  have e2 : ((W8 (b0 / 2#8) : Int) == 1) = fu := by have this : (W8 (b0 / 2#8) == W8 1#8) = fu := (by rw [W8_beq]; exact hfu); exact this
  have q5 : (5 : Int) ≤ (d : Int) := by omega
  have q1 : ¬ d = 1 := by omega
  obtain ⟨xi, hxi⟩ : ∃ x, xw.setWidth 32 = x := ⟨_, rfl⟩
  rw [hxi] at hX HX
  have exi : W32 (xw.setWidth 32) = W32 xi := by rw [hxi]
  clear hX hr h3 hA hfr hfu hxw hxi
  go_enter Try.func57, Try.ntmps57
  go_wp2_with (first | (with_reducible refine stop_store ?_) | (with_reducible refine stop_box ?_) | (with_reducible refine stop_alloc ?_) | (with_reducible refine stop_bslice ?_))
  unfold Kept
  refine go_mem (ty := 71) (cs := #[.bool false, .bool false, .int .u32 0]) (fun g => .pointer (some ⟨g, 0, none⟩)) rfl (by kernel_rfl) ?_
  intro g_1 w_2 z_6 l_5 hb_3 G_4
  have n_7 : w.heap.size ≤ g_1 := l_5
  have hB := hb_3
  clear hb_3 l_5 z_6
  have ld_8 : w_2.cell? ⟨pb, po, none⟩ = some (.int .u8 (W8 b0)) := (RB.out _ hB) 0 _ rfl
  go_wp2_with (first | (with_reducible refine stop_store ?_) | (with_reducible refine stop_box ?_) | (with_reducible refine stop_alloc ?_) | (with_reducible refine stop_bslice ?_))
  clear ld_8
  have hst : Stable fun W => Below w.heap.size w W ∧ Blk W g_1 71 #[.bool false, .bool false, .int .u32 0] := stable_and (stable_below _ _ (Nat.le_refl _)) (stable_blk _ _ _)
  refine wp_region_v _ 17 hst ⟨hB.drew, G_4⟩ ?_
  clear hB G_4
  refine wpU_take (v := ?_) 0 hst (fun _ h => h) rfl ?_ ?_; rotate_left; (intro W hS K hK; clear hS; go_simp; exact hK.out _ (Below.refl _ _)); simp only [Act.put, List.setIfInBounds_toArray, List.set_cons_zero, List.set_cons_succ]
  refine wpU_take (v := ?_) 1 hst (fun _ h => h) rfl ?_ ?_; rotate_left; (intro W hS K hK; clear hS; go_simp; exact hK.out _ (Below.refl _ _)); simp only [Act.put, List.setIfInBounds_toArray, List.set_cons_zero, List.set_cons_succ]
  refine wpU_take (v := ?_) 2 hst (fun _ h => h) rfl ?_ ?_; rotate_left; (intro W hS K hK; have ld : W.cell? ⟨pb, po, none⟩ = some (.int .u8 (W8 b0)) := (RB.out _ hS.1) 0 _ rfl; clear hS; go_simp; exact hK.out _ (Below.refl _ _)); simp only [Act.put, List.setIfInBounds_toArray, List.set_cons_zero, List.set_cons_succ]
  refine wpU_take (v := ?_) 3 hst (fun _ h => h) rfl ?_ ?_; rotate_left; (intro W hS K hK; clear hS; go_simp; exact hK.out _ (Below.refl _ _)); simp only [Act.put, List.setIfInBounds_toArray, List.set_cons_zero, List.set_cons_succ]
  refine wpU_take (v := ?_) 4 hst (fun _ h => h) rfl ?_ ?_; rotate_left; (intro W hS K hK; clear hS; go_simp; exact hK.out _ (Below.refl _ _)); simp only [Act.put, List.setIfInBounds_toArray, List.set_cons_zero, List.set_cons_succ]
  refine wpU_take (v := ?_) 5 hst (fun _ h => h) rfl ?_ ?_; rotate_left; (intro W hS K hK; clear hS; go_simp; exact hK.out _ (Below.refl _ _)); simp only [Act.put, List.setIfInBounds_toArray, List.set_cons_zero, List.set_cons_succ]
  refine wpU_take (v := ?_) 6 hst (fun _ h => h) rfl ?_ ?_; rotate_left; (intro W hS K hK; clear hS; go_simp; exact hK.out _ (Below.refl _ _)); simp only [Act.put, List.setIfInBounds_toArray, List.set_cons_zero, List.set_cons_succ]
  refine wpU_take (v := ?_) 7 hst (fun _ h => h) rfl ?_ ?_; rotate_left; (intro W hS K hK; have ld : W.cell? ⟨pb, po, none⟩ = some (.int .u8 (W8 b0)) := (RB.out _ hS.1) 0 _ rfl; clear hS; go_simp; exact hK.out _ (Below.refl _ _)); simp only [Act.put, List.setIfInBounds_toArray, List.set_cons_zero, List.set_cons_succ]
  refine wpU_take (v := ?_) 8 hst (fun _ h => h) rfl ?_ ?_; rotate_left; (intro W hS K hK; clear hS; go_simp; exact hK.out _ (Below.refl _ _)); simp only [Act.put, List.setIfInBounds_toArray, List.set_cons_zero, List.set_cons_succ]
  refine wpU_take (v := ?_) 9 hst (fun _ h => h) rfl ?_ ?_; rotate_left; (intro W hS K hK; clear hS; go_simp; exact hK.out _ (Below.refl _ _)); simp only [Act.put, List.setIfInBounds_toArray, List.set_cons_zero, List.set_cons_succ]
  refine wpU_take (v := ?_) 10 hst (fun _ h => h) rfl ?_ ?_; rotate_left; (intro W hS K hK; clear hS; go_simp; exact hK.out _ (Below.refl _ _)); simp only [Act.put, List.setIfInBounds_toArray, List.set_cons_zero, List.set_cons_succ]
  refine wpU_take (v := ?_) 11 hst (fun _ h => h) rfl ?_ ?_; rotate_left; (intro W hS K hK; clear hS; go_simp; exact hK.out _ (Below.refl _ _)); simp only [Act.put, List.setIfInBounds_toArray, List.set_cons_zero, List.set_cons_succ]
  refine wpU_take (v := ?_) 12 hst (fun _ h => h) rfl ?_ ?_; rotate_left; (intro W hS K hK; go_simp; refine (CV.out _ (Rd.to hb0 hS.1)).mono ?_; rintro e w9 ⟨rfl, rfl⟩; refine CallPost.mk ?_; exact hK.out _ (Below.refl _ _)); simp only [Act.put, List.setIfInBounds_toArray, List.set_cons_zero, List.set_cons_succ]
  refine wpU_take (v := ?_) 13 hst (fun _ h => h) rfl ?_ ?_; rotate_left; (intro W hS K hK; clear hS; go_simp; exact hK.out _ (Below.refl _ _)); simp only [Act.put, List.setIfInBounds_toArray, List.set_cons_zero, List.set_cons_succ]
  refine wpU_take (v := ?_) 14 hst (fun _ h => h) rfl ?_ ?_; rotate_left; (intro W hS K hK; clear hS; go_simp; exact hK.out _ (Below.refl _ _)); simp only [Act.put, List.setIfInBounds_toArray, List.set_cons_zero, List.set_cons_succ]
  refine wpV_new 15 hst rfl ?_; intro W hS K hK
  have l7_15_g_1 : g_1 < W.heap.size := hS.2.lt
  have n7_15a : w.heap.size ≤ W.heap.size := hS.1.size
  clear hS
  go_simp
  refine hK.out (fun W' => Room W.heap.size 71 3 W') _ _ (stable_room _ _ _) ((Below.refl _ _).alloc (Nat.le_refl _) _) (⟨_, rfl, rfl, Blk.new _ _ _⟩) (fun hst => ?_)
  clear hK K
  try simp only [Act.put, List.setIfInBounds_toArray, List.set_cons_zero, List.set_cons_succ]
  generalize W.heap.size = g7_15 at hst l7_15_g_1 n7_15a ⊢
  clear W
  refine wpV_st 16 hst (fun _ h => h) #[.bool fr, .bool fu, .int .u32 (W32 xi)] rfl rfl rfl rfl (fun W hS => hS.2) (fun W W' h hU hG => ?_) (by kernel_rfl) rfl (fun hst => ?_)
  · obtain ⟨⟨h0_0, h0_1⟩, ⟨ch1_0, ah1_0, bh1_0, h1_0⟩⟩ := h
    exact ⟨⟨hU.below h0_0 (by omega), hU.blk h0_1 (by omega)⟩, ⟨_, rfl, rfl, hG⟩⟩
  refine wpU_done (fun w_9 hS => ?_)
  obtain ⟨⟨⟨hB, G_4⟩, -⟩, G7_15s⟩ := hS
  clear hst
  go_wp2_with (first | (with_reducible refine stop_store ?_) | (with_reducible refine stop_box ?_) | (with_reducible refine stop_alloc ?_) | (with_reducible refine stop_bslice ?_))
  try simp only [Act.put, List.setIfInBounds_toArray, List.set_cons_zero, List.set_cons_succ]
  go_loopw [8] (fun i wr => ∃ (j : Nat), j ≤ ks.length ∧ i = .int .i64 j ∧ Below w.heap.size w wr ∧ Blk wr g_1 71 #[.bool false, .bool false, .int .u32 0] ∧ Blk wr g7_15 71 #[.bool fr, .bool fu, .int .u32 (W32 xi)] ∧ ∀ (q : Nat), q < j → ∀ (h : q < ks.length), beaB ks[q] (headBea [b0, b1, b2, b3, b4, b5, b6, b7, b8, b9, b10, b11, b12]) ≠ [b0, b1, b2, b3, b4, b5, b6, b7, b8, b9, b10, b11, b12]) (fun i _ => ks.length - (intOf i).toNat)
  case atStart => exact ⟨0, Nat.zero_le _, rfl, hB, G_4, G7_15s, fun q hq => absurd hq (Nat.not_lt_zero q)⟩
  case round =>
    clear G_4 G7_15s hB
    obtain ⟨j, hj0, rfl, hB, H0, H1, hno⟩ := hrel
    by_cases hlt : j < ks.length
    ·
      obtain rfl : A = some ⟨la, lo, none⟩ := HA.out.resolve_right (fun h => by rw [h] at hlt; simp at hlt)
      have RX := rg_nk (Rd.to ha hB) j hlt
      obtain ⟨⟨x_1, x_2, x_3, x_4, x_5⟩, hx⟩ : ∃ z, ks[j] = z := ⟨_, rfl⟩
      rw [hx] at RX
      replace RX : Rg la (lo + j * 5) [.int .u64 (W64 x_1), .int .i64 x_2, .int .u64 (W64 x_3), .int .u64 (W64 x_4), .int .u64 (W64 x_5)] wr := RX
      have HXJ := Lib.hid hx
      have HNO := Lib.hid hno
      have i1 : decide ((j : Int) < ((ks.length : Nat) : Int)) = true := by simp; exact hlt
      have i2 : decide (j < ks.length) = true := decide_eq_true hlt
      clear hx hno
      by_cases hc_10 : beaB ⟨x_1, x_2, x_3, x_4, x_5⟩ ⟨fr, fu, xi⟩ = [b0, b1, b2, b3, b4, b5, b6, b7, b8, b9, b10, b11, b12]
      ·
        have ec_10 : ((bstr (beaB ⟨x_1, x_2, x_3, x_4, x_5⟩ ⟨fr, fu, xi⟩)).toList == (bstr [b0, b1, b2, b3, b4, b5, b6, b7, b8, b9, b10, b11, b12]).toList) = true := by rw [bstr_beq]; exact decide_eq_true hc_10
        have kc_10 := Lib.hid hc_10
        clear hc_10
        go_wp2_with (first | (with_reducible refine stop_store ?_) | (with_reducible refine stop_box ?_) | (with_reducible refine stop_alloc ?_) | (with_reducible refine stop_bslice ?_))
        have hst : Stable fun W => Below w.heap.size w W ∧ Blk W g_1 71 #[.bool false, .bool false, .int .u32 0] ∧ Blk W g7_15 71 #[.bool fr, .bool fu, .int .u32 (W32 xi)] ∧ Rg la (lo + j * 5) [.int .u64 (W64 x_1), .int .i64 x_2, .int .u64 (W64 x_3), .int .u64 (W64 x_4), .int .u64 (W64 x_5)] W := stable_and (stable_below _ _ (Nat.le_refl _)) (stable_and (stable_blk _ _ _) (stable_and (stable_blk _ _ _) (stable_rg _ _ _)))
        refine wp_region_v _ 8 hst ⟨hB.drew, H0, H1, RX⟩ ?_
        clear hB H0 H1 RX
        refine wpU_take (v := ?_) 0 hst (fun _ h => h) rfl ?_ ?_; rotate_left; (intro W hS K hK; clear hS; go_simp; exact hK.out _ (Below.refl _ _)); simp only [Act.put, List.setIfInBounds_toArray, List.set_cons_zero, List.set_cons_succ]
        refine wpU_take (v := ?_) 1 hst (fun _ h => h) rfl ?_ ?_; rotate_left; (intro W hS K hK; clear hS; go_simp; exact hK.out _ (Below.refl _ _)); simp only [Act.put, List.setIfInBounds_toArray, List.set_cons_zero, List.set_cons_succ]
        refine wpU_take (v := ?_) 2 hst (fun _ h => h) rfl ?_ ?_; rotate_left; (intro W hS K hK; clear hS; go_simp; exact hK.out _ (Below.refl _ _)); simp only [Act.put, List.setIfInBounds_toArray, List.set_cons_zero, List.set_cons_succ]
        refine wpU_take (v := .agg #[.int .u64 (W64 x_1), .int .i64 x_2, .int .u64 (W64 x_3), .int .u64 (W64 x_4), .int .u64 (W64 x_5)]) 3 hst (fun _ h => h) rfl (fun W hS K hK => calm_load rfl rfl (run_loadVar_mid W la (lo + j * 5) 25 [.int .u64 (W64 x_1), .int .i64 x_2, .int .u64 (W64 x_3), .int .u64 (W64 x_4), .int .u64 (W64 x_5)] _ (range_part hS.2.2.2.2 0 [.int .u64 (W64 x_1), .int .i64 x_2, .int .u64 (W64 x_3), .int .u64 (W64 x_4), .int .u64 (W64 x_5)] rfl) Try.underlying25 rfl (by kernel_rfl)) (hK.out _ (Below.refl _ _))) ?_; simp only [Act.put, List.setIfInBounds_toArray, List.set_cons_zero, List.set_cons_succ]
        refine wpU_take (v := .agg #[.bool fr, .bool fu, .int .u32 (W32 xi)]) 4 hst (fun _ h => h) rfl (fun W hS K hK => calm_load rfl rfl (load_part hS.2.2.1 0 [.bool fr, .bool fu, .int .u32 (W32 xi)] rfl Try.underlying71 rfl (by kernel_rfl)) (hK.out _ (Below.refl _ _))) ?_; simp only [Act.put, List.setIfInBounds_toArray, List.set_cons_zero, List.set_cons_succ]
        refine wpU_take (v := ?_) 6 hst (fun _ h => h) rfl ?_ ?_; rotate_left; (intro W hS K hK; clear hS; go_simp; exact hK.out _ (Below.refl _ _)); simp only [Act.put, List.setIfInBounds_toArray, List.set_cons_zero, List.set_cons_succ]
        refine wpV_new 5 hst rfl ?_; intro W hS K hK
        go_simp
        refine (retB_at (r52_Encode ⟨x_1, x_2, x_3, x_4, x_5⟩ ⟨fr, fu, xi⟩ _) (beaB_length _ _) hS.1.size).mono ?_; rintro e w9 ⟨A11_5, c11_5, rfl, R11_5, hb⟩
        refine hK.out (fun W => W.ownsRow w.heap.size 5 1 (.slice A11_5 13 c11_5) 13 (bcells (beaB ⟨x_1, x_2, x_3, x_4, x_5⟩ ⟨fr, fu, xi⟩))) _ _ (stable_own _ _ _ _ _ _) hb (R11_5) (fun hst => ?_)
        clear hK K hb R11_5 hS
        try simp only [Act.put, List.setIfInBounds_toArray, List.set_cons_zero, List.set_cons_succ]
        refine wpU_take (v := ?_) 7 hst (fun _ h => h) rfl ?_ ?_; rotate_left; (intro W hS K hK; go_simp; refine (same_t kc_10.out (Rd.of_own hS.2) (Rd.to hb0 hS.1.1) (own_len hS.2) rfl).mono ?_; rintro e w9 ⟨rfl, rfl⟩; refine CallPost.mk ?_; exact hK.out _ (Below.refl _ _)); simp only [Act.put, List.setIfInBounds_toArray, List.set_cons_zero, List.set_cons_succ]
        refine wpU_done (fun w_11 hS => ?_)
        obtain ⟨⟨hB, H0, H1, RX⟩, R11_5⟩ := hS
        clear hst
        go_wp2_with (first | (with_reducible refine stop_store ?_) | (with_reducible refine stop_box ?_) | (with_reducible refine stop_alloc ?_) | (with_reducible refine stop_bslice ?_) | ((with_reducible refine wpList_ld 0 [.bool fr, .bool fu, .int .u32 (W32 xi)] H1 ?_ ?_ Try.underlying71 ?_ ?_ ?_); rfl; rfl; rfl; kernel_rfl))
        unfold Kept
        refine wpList_st 0 #[.bool fr, .bool fu, .int .u32 (W32 xi)] #[.bool fr, .bool fu, .int .u32 (W32 xi)] H0 rfl rfl (by kernel_rfl) rfl (of_decide_eq_true rfl) rfl ?_
        intro w_13 G_15 hU_14
        replace H1 := hU_14.blk H1 (by omega)
        clear RX
        clear R11_5
        replace hB := hU_14.below hB (by omega)
        clear H0 hU_14
        go_wp2_with (first | (with_reducible refine stop_store ?_) | (with_reducible refine stop_box ?_) | (with_reducible refine stop_alloc ?_) | (with_reducible refine stop_bslice ?_))
        refine bodyPost_ret (results_ctt rfl rfl (load_blk G_15 Try.underlying71 rfl (by kernel_rfl))) rfl ?_
        refine ⟨?_, hB⟩
        have er : r = (⟨fr, fu, xi⟩, (j : Int), 0) := by rw [← HR.out, decK_hit ks [b0, b1, b2, b3, b4, b5, b6, b7, b8, b9, b10, b11, b12] rfl H3.out j hlt (by rw [HXJ.out, HX.out]; exact kc_10.out) HNO.out, HX.out]
        rw [er]; rfl
      ·
        have ec_10 : ((bstr (beaB ⟨x_1, x_2, x_3, x_4, x_5⟩ ⟨fr, fu, xi⟩)).toList == (bstr [b0, b1, b2, b3, b4, b5, b6, b7, b8, b9, b10, b11, b12]).toList) = false := by rw [bstr_beq]; exact decide_eq_false hc_10
        have kc_10 := Lib.hid hc_10
        clear hc_10
        go_wp2_with (first | (with_reducible refine stop_store ?_) | (with_reducible refine stop_box ?_) | (with_reducible refine stop_alloc ?_) | (with_reducible refine stop_bslice ?_))
        have hst : Stable fun W => Below w.heap.size w W ∧ Blk W g_1 71 #[.bool false, .bool false, .int .u32 0] ∧ Blk W g7_15 71 #[.bool fr, .bool fu, .int .u32 (W32 xi)] ∧ Rg la (lo + j * 5) [.int .u64 (W64 x_1), .int .i64 x_2, .int .u64 (W64 x_3), .int .u64 (W64 x_4), .int .u64 (W64 x_5)] W := stable_and (stable_below _ _ (Nat.le_refl _)) (stable_and (stable_blk _ _ _) (stable_and (stable_blk _ _ _) (stable_rg _ _ _)))
        refine wp_region_v _ 8 hst ⟨hB.drew, H0, H1, RX⟩ ?_
        clear hB H0 H1 RX
        refine wpU_take (v := ?_) 0 hst (fun _ h => h) rfl ?_ ?_; rotate_left; (intro W hS K hK; clear hS; go_simp; exact hK.out _ (Below.refl _ _)); simp only [Act.put, List.setIfInBounds_toArray, List.set_cons_zero, List.set_cons_succ]
        refine wpU_take (v := ?_) 1 hst (fun _ h => h) rfl ?_ ?_; rotate_left; (intro W hS K hK; clear hS; go_simp; exact hK.out _ (Below.refl _ _)); simp only [Act.put, List.setIfInBounds_toArray, List.set_cons_zero, List.set_cons_succ]
        refine wpU_take (v := ?_) 2 hst (fun _ h => h) rfl ?_ ?_; rotate_left; (intro W hS K hK; clear hS; go_simp; exact hK.out _ (Below.refl _ _)); simp only [Act.put, List.setIfInBounds_toArray, List.set_cons_zero, List.set_cons_succ]
        refine wpU_take (v := .agg #[.int .u64 (W64 x_1), .int .i64 x_2, .int .u64 (W64 x_3), .int .u64 (W64 x_4), .int .u64 (W64 x_5)]) 3 hst (fun _ h => h) rfl (fun W hS K hK => calm_load rfl rfl (run_loadVar_mid W la (lo + j * 5) 25 [.int .u64 (W64 x_1), .int .i64 x_2, .int .u64 (W64 x_3), .int .u64 (W64 x_4), .int .u64 (W64 x_5)] _ (range_part hS.2.2.2.2 0 [.int .u64 (W64 x_1), .int .i64 x_2, .int .u64 (W64 x_3), .int .u64 (W64 x_4), .int .u64 (W64 x_5)] rfl) Try.underlying25 rfl (by kernel_rfl)) (hK.out _ (Below.refl _ _))) ?_; simp only [Act.put, List.setIfInBounds_toArray, List.set_cons_zero, List.set_cons_succ]
        refine wpU_take (v := .agg #[.bool fr, .bool fu, .int .u32 (W32 xi)]) 4 hst (fun _ h => h) rfl (fun W hS K hK => calm_load rfl rfl (load_part hS.2.2.1 0 [.bool fr, .bool fu, .int .u32 (W32 xi)] rfl Try.underlying71 rfl (by kernel_rfl)) (hK.out _ (Below.refl _ _))) ?_; simp only [Act.put, List.setIfInBounds_toArray, List.set_cons_zero, List.set_cons_succ]
        refine wpU_take (v := ?_) 6 hst (fun _ h => h) rfl ?_ ?_; rotate_left; (intro W hS K hK; clear hS; go_simp; exact hK.out _ (Below.refl _ _)); simp only [Act.put, List.setIfInBounds_toArray, List.set_cons_zero, List.set_cons_succ]
        refine wpV_new 5 hst rfl ?_; intro W hS K hK
        go_simp
        refine (retB_at (r52_Encode ⟨x_1, x_2, x_3, x_4, x_5⟩ ⟨fr, fu, xi⟩ _) (beaB_length _ _) hS.1.size).mono ?_; rintro e w9 ⟨A11_5, c11_5, rfl, R11_5, hb⟩
        refine hK.out (fun W => W.ownsRow w.heap.size 5 1 (.slice A11_5 13 c11_5) 13 (bcells (beaB ⟨x_1, x_2, x_3, x_4, x_5⟩ ⟨fr, fu, xi⟩))) _ _ (stable_own _ _ _ _ _ _) hb (R11_5) (fun hst => ?_)
        clear hK K hb R11_5 hS
        try simp only [Act.put, List.setIfInBounds_toArray, List.set_cons_zero, List.set_cons_succ]
        refine wpU_take (v := ?_) 7 hst (fun _ h => h) rfl ?_ ?_; rotate_left; (intro W hS K hK; go_simp; refine (same_f kc_10.out (Rd.of_own hS.2) (Rd.to hb0 hS.1.1) (own_len hS.2) rfl).mono ?_; rintro e w9 ⟨rfl, rfl⟩; refine CallPost.mk ?_; exact hK.out _ (Below.refl _ _)); simp only [Act.put, List.setIfInBounds_toArray, List.set_cons_zero, List.set_cons_succ]
        refine wpU_done (fun w_16 hS => ?_)
        obtain ⟨⟨hB, H0, H1, RX⟩, R11_5⟩ := hS
        clear hst
        go_wp2_with (first | (with_reducible refine stop_store ?_) | (with_reducible refine stop_box ?_) | (with_reducible refine stop_alloc ?_) | (with_reducible refine stop_bslice ?_))
        go_roundw
        case rel => exact ⟨j + 1, by omega, by go_num, hB, H0, H1, fun q hq hql => (Nat.lt_or_ge q j).elim (fun h => HNO.out q h hql) (fun h => by have hqj : q = j := (by omega); subst hqj; rw [HXJ.out, HX.out]; exact kc_10.out)⟩
        case measure => simp [intOf]; omega
    ·
      have i1 : decide ((j : Int) < ((ks.length : Nat) : Int)) = false := by simp; omega
      have i2 : decide (j < ks.length) = false := decide_eq_false hlt
      have HNO := Lib.hid hno
      clear hno
      go_wp2_with (first | (with_reducible refine stop_store ?_) | (with_reducible refine stop_box ?_) | (with_reducible refine stop_alloc ?_) | (with_reducible refine stop_bslice ?_))
      unfold Kept
      refine wpList_st 0 #[.bool false, .bool false, .int .u32 0] #[.bool false, .bool false, .int .u32 0] H0 rfl rfl (by kernel_rfl) rfl (of_decide_eq_true rfl) rfl ?_
      intro w_17 G_19 hU_18
      replace H1 := hU_18.blk H1 (by omega)
      replace hB := hU_18.below hB (by omega)
      clear H0 hU_18
      go_wp2_with (first | (with_reducible refine stop_store ?_) | (with_reducible refine stop_box ?_) | (with_reducible refine stop_alloc ?_) | (with_reducible refine stop_bslice ?_))
      refine bodyPost_ret (results_ctt rfl rfl (load_blk G_19 Try.underlying71 rfl (by kernel_rfl))) rfl ?_
      refine ⟨?_, hB⟩
      have er : r = (bea0, 0, 15) := by rw [← HR.out, decK_miss ks [b0, b1, b2, b3, b4, b5, b6, b7, b8, b9, b10, b11, b12] rfl H3.out (fun q h => HNO.out q (by omega) h)]
      rw [er]; rfl
theorem r52_Decode (A : Option Addr) (c : Nat) (ks : List NK) (B : Option Addr) (d : Nat) (bs : List (BitVec 8)) (w : World) (ha : Rd w A (nksL ks)) (hb0 : RdB w B bs) (hd : bs.length ≤ d) (hk : ks.length ≤ 1048576) :
    Calls Try.prog 57 #[.slice A ks.length c, .slice B bs.length d] w (fun e w' => e = .returned (.tuple #[.agg (beA (decK ks bs).1), .int .i64 (decK ks bs).2.1, .int .i64 (decK ks bs).2.2]) ∧ Below w.heap.size w w') := by
  rcases Nat.lt_trichotomy bs.length 13 with h | h | h
  · exact r52_Decode_s A c ks B d bs w ha hb0 hd hk h
  · obtain ⟨b0, b1, b2, b3, b4, b5, b6, b7, b8, b9, b10, b11, b12, rfl⟩ := list13 h
    obtain ⟨pb, po, rfl, hpb, _⟩ := Rd.open_ hb0 (by rw [bcells_length]; exact Nat.succ_pos _)
    have RB : Rg pb po [.int .u8 (W8 b0)] w := by have := rg_at hb0 0 1 [.int .u8 (W8 b0)] rfl (Nat.succ_pos _); rwa [Nat.add_zero] at this
    by_cases h3 : 3#8 < b0
    · exact r52_Decode_h A c ks pb po d b0 b1 b2 b3 b4 b5 b6 b7 b8 b9 b10 b11 b12 w ha hb0 RB hd hk h3
    · exact r52_Decode_m A c ks pb po d b0 b1 b2 b3 b4 b5 b6 b7 b8 b9 b10 b11 b12 w ha hb0 RB hd hk h3
  · exact r52_Decode_l A c ks B d bs w ha hb0 hd hk h
end Go.Proofs.Ytmehemojopfihaa
