/- Contracts of layer 48 (netpdu): open bytes, mask, hide. -/
import Derived.Test.YtbkaeoaepmeceaaNetA
import Derived.Test.YtbkaeoaepmeceaaTakeW
import Derived.Test.YtbkaeoaepmeceaaMesh
import Derived.Test.YtbkaeoaepmeceaaDer2
namespace Go.Proofs.Ytbkaeoaepmeceaa
set_option maxRecDepth 100000
open Go.ChangeShapes Go.WideShapes Go.ChangeAt Go.RowKit
set_option linter.unusedVariables false
set_option linter.unusedSimpArgs false

theorem take7 {W : World} {B : Option Addr} {d g m : Nat} {bs : List (BitVec 8)} (hm : bs.length = m) (h7 : 7 ≤ m) (hl : m ≤ 1048576) (hd : m ≤ d) (hb : RdB W B bs) (hg : Rd W (some ⟨g, 0, none⟩) [.int .i64 7]) :
    Calls Try.prog 68 #[.slice B m d, .slice (some ⟨g, 0, none⟩) 1 1] W fun e w' => ∃ q o c1 A2 n2 c2, e = .returned (.tuple #[.slice (some ⟨q, o, none⟩) 1 c1, .slice A2 n2 c2, .int .i64 0]) ∧ Rg q o [.int .u64 (W64 (leVal (bs.take 7)))] w' ∧ Below W.heap.size W w' := by
  subst hm
  have h := octets_Take B d bs (some ⟨g, 0, none⟩) 1 [7] W hb hd hg (by decide) (by simpa using h7) hl (by decide)
  refine h.mono ?_
  rintro e w' ⟨A1, c1, A2, c2, rfl, hr1, hr2, hbl⟩
  obtain ⟨q, o, rfl, hq, hc⟩ := Rd.open_ hr1 (by rw [ucells_length, valsTo_len]; decide)
  exact ⟨q, o, c1, A2, _, c2, rfl, by
    have := rg_at hr1 0 1 [.int .u64 (W64 (leVal (bs.take 7)))] rfl (Nat.succ_pos _)
    rwa [Nat.add_zero] at this, hbl⟩
set_option maxHeartbeats 2000000 in
theorem net_openOf_f (iv : BitVec 32) (nid : Int) (ctl : Bool) (ttl : Int) (seq : BitVec 32) (src dst : BitVec 16) (A : Option Addr) (c : Nat) (pay : List (BitVec 8)) (w : World) (h0 : 0 ≤ ttl) (h1 : ttl ≤ 127) :
    Calls Try.prog 52 #[.agg #[.int .u32 (W32 iv), .int .i64 nid, .bool ctl, .int .i64 ttl, .int .u32 (W32 seq), .int .u16 (W16 src), .int .u16 (W16 dst), .slice A pay.length c]] w (fun e w' => e = .returned (.agg (bcells (openL ⟨iv, nid, ctl, ttl, seq, src, dst, pay⟩)).toArray) ∧ Below w.heap.size w w') := by
  have CC := Lib.hid (fun W => net_control ⟨iv, nid, ctl, ttl, seq, src, dst, pay⟩ A c W h0 h1)
  dsimp only at CC
  unfold npA at CC
  dsimp only at CC
  unfold openL
  dsimp only
  obtain ⟨cb, hcb⟩ : ∃ x, ctlB ctl ttl = x := ⟨_, rfl⟩
  rw [hcb] at CC ⊢
  clear hcb h0 h1
  go_enter Try.func52, Try.ntmps52
  go_wp2_with (first | (with_reducible refine stop_store ?_) | (with_reducible refine stop_box ?_) | (with_reducible refine stop_alloc ?_) | (with_reducible refine stop_bslice ?_))
  unfold Kept
  refine go_mem (ty := 44) (cs := #[.int .u32 (W32 iv), .int .i64 nid, .bool ctl, .int .i64 ttl, .int .u32 (W32 seq), .int .u16 (W16 src), .int .u16 (W16 dst), .slice A pay.length c]) (fun g => .pointer (some ⟨g, 0, none⟩)) rfl (by kernel_rfl) ?_
  intro g_1 w_2 z_6 l_5 hb_3 G_4
  have n_7 : w.heap.size ≤ g_1 := l_5
  have hB := hb_3
  clear hb_3 l_5 z_6
  go_wp2_with (first | (with_reducible refine stop_store ?_) | (with_reducible refine stop_box ?_) | (with_reducible refine stop_alloc ?_) | (with_reducible refine stop_bslice ?_))
  unfold Kept
  refine go_mem (ty := 73) (cs := #[.int .u8 0, .int .u8 0, .int .u8 0, .int .u8 0, .int .u8 0, .int .u8 0]) (fun g => .pointer (some ⟨g, 0, none⟩)) rfl (by kernel_rfl) ?_
  intro g_8 w_9 z_13 l_12 hb_10 G_11
  have n_14 : g_1 < g_8 := Nat.lt_of_lt_of_le G_4.lt l_12
  have n_15 : w.heap.size ≤ g_8 := Nat.le_trans hB.size l_12
  replace G_4 := G_4.to hb_10 G_4.lt
  replace hB := hB.trans (hb_10.mono hB.size)
  clear hb_10 l_12 z_13
  go_wp2_with (first | (with_reducible refine stop_store ?_) | (with_reducible refine stop_box ?_) | (with_reducible refine stop_alloc ?_) | (with_reducible refine stop_bslice ?_))
  try simp only [Act.put, List.setIfInBounds_toArray, List.set_cons_zero, List.set_cons_succ]
  have hst : Stable fun W => Below w.heap.size w W ∧ Blk W g_1 44 #[.int .u32 (W32 iv), .int .i64 nid, .bool ctl, .int .i64 ttl, .int .u32 (W32 seq), .int .u16 (W16 src), .int .u16 (W16 dst), .slice A pay.length c] ∧ Blk W g_8 73 #[.int .u8 0, .int .u8 0, .int .u8 0, .int .u8 0, .int .u8 0, .int .u8 0] := stable_and (stable_below _ _ (Nat.le_refl _)) (stable_and (stable_blk _ _ _) (stable_blk _ _ _))
  refine wp_region_hh (fun W => Below w.heap.size w W ∧ Blk W g_1 44 #[.int .u32 (W32 iv), .int .i64 nid, .bool ctl, .int .i64 ttl, .int .u32 (W32 seq), .int .u16 (W16 src), .int .u16 (W16 dst), .slice A pay.length c] ∧ Blk W g_8 73 #[.int .u8 0, .int .u8 0, .int .u8 0, .int .u8 0, .int .u8 0, .int .u8 0]) 21 hst ⟨hB.drew, G_4, G_11⟩ ⟨by kernel_rfl, by kernel_rfl, by kernel_rfl, by decide⟩ (fun hR => ?_)
  clear hB G_4 G_11
  refine wpH_take (v := .agg #[.int .u32 (W32 iv), .int .i64 nid, .bool ctl, .int .i64 ttl, .int .u32 (W32 seq), .int .u16 (W16 src), .int .u16 (W16 dst), .slice A pay.length c]) 0 hR hst rfl (fun W hS K hK => calm_load rfl rfl (load_part hS.2.1 0 [.int .u32 (W32 iv), .int .i64 nid, .bool ctl, .int .i64 ttl, .int .u32 (W32 seq), .int .u16 (W16 src), .int .u16 (W16 dst), .slice A pay.length c] rfl Try.underlying44 rfl (by kernel_rfl)) (hK.out _ (Below.refl _ _))) ?_; simp only [Act.put, List.setIfInBounds_toArray, List.set_cons_zero, List.set_cons_succ]
  refine wpH_take (v := ?_) 2 hR hst rfl ?_ ?_; rotate_left; (intro W hS K hK; clear hS; go_simp; exact hK.out _ (Below.refl _ _)); simp only [Act.put, List.setIfInBounds_toArray, List.set_cons_zero, List.set_cons_succ]
  refine wpH_take (v := ?_) 3 hR hst rfl ?_ ?_; rotate_left; (intro W hS K hK; have ld : W.cell? ⟨g_1, 4, none⟩ = some (.int .u32 (W32 seq)) := hS.2.1.cell 4; clear hS; go_simp; exact hK.out _ (Below.refl _ _)); simp only [Act.put, List.setIfInBounds_toArray, List.set_cons_zero, List.set_cons_succ]
  refine wpH_take (v := ?_) 4 hR hst rfl ?_ ?_; rotate_left; (intro W hS K hK; clear hS; go_simp; exact hK.out _ (Below.refl _ _)); simp only [Act.put, List.setIfInBounds_toArray, List.set_cons_zero, List.set_cons_succ]
  refine wpH_take (v := ?_) 5 hR hst rfl ?_ ?_; rotate_left; (intro W hS K hK; clear hS; go_simp; exact hK.out _ (Below.refl _ _)); simp only [Act.put, List.setIfInBounds_toArray, List.set_cons_zero, List.set_cons_succ]
  refine wpH_take (v := ?_) 6 hR hst rfl ?_ ?_; rotate_left; (intro W hS K hK; have ld : W.cell? ⟨g_1, 4, none⟩ = some (.int .u32 (W32 seq)) := hS.2.1.cell 4; clear hS; go_simp; exact hK.out _ (Below.refl _ _)); simp only [Act.put, List.setIfInBounds_toArray, List.set_cons_zero, List.set_cons_succ]
  refine wpH_take (v := ?_) 7 hR hst rfl ?_ ?_; rotate_left; (intro W hS K hK; clear hS; go_simp; exact hK.out _ (Below.refl _ _)); simp only [Act.put, List.setIfInBounds_toArray, List.set_cons_zero, List.set_cons_succ]
  refine wpH_take (v := ?_) 8 hR hst rfl ?_ ?_; rotate_left; (intro W hS K hK; clear hS; go_simp; exact hK.out _ (Below.refl _ _)); simp only [Act.put, List.setIfInBounds_toArray, List.set_cons_zero, List.set_cons_succ]
  refine wpH_take (v := ?_) 9 hR hst rfl ?_ ?_; rotate_left; (intro W hS K hK; clear hS; go_simp; exact hK.out _ (Below.refl _ _)); simp only [Act.put, List.setIfInBounds_toArray, List.set_cons_zero, List.set_cons_succ]
  refine wpH_take (v := ?_) 10 hR hst rfl ?_ ?_; rotate_left; (intro W hS K hK; have ld : W.cell? ⟨g_1, 4, none⟩ = some (.int .u32 (W32 seq)) := hS.2.1.cell 4; clear hS; go_simp; exact hK.out _ (Below.refl _ _)); simp only [Act.put, List.setIfInBounds_toArray, List.set_cons_zero, List.set_cons_succ]
  refine wpH_take (v := ?_) 11 hR hst rfl ?_ ?_; rotate_left; (intro W hS K hK; clear hS; go_simp; exact hK.out _ (Below.refl _ _)); simp only [Act.put, List.setIfInBounds_toArray, List.set_cons_zero, List.set_cons_succ]
  refine wpH_take (v := ?_) 12 hR hst rfl ?_ ?_; rotate_left; (intro W hS K hK; clear hS; go_simp; exact hK.out _ (Below.refl _ _)); simp only [Act.put, List.setIfInBounds_toArray, List.set_cons_zero, List.set_cons_succ]
  refine wpH_take (v := ?_) 13 hR hst rfl ?_ ?_; rotate_left; (intro W hS K hK; clear hS; go_simp; exact hK.out _ (Below.refl _ _)); simp only [Act.put, List.setIfInBounds_toArray, List.set_cons_zero, List.set_cons_succ]
  refine wpH_take (v := ?_) 14 hR hst rfl ?_ ?_; rotate_left; (intro W hS K hK; have ld : W.cell? ⟨g_1, 5, none⟩ = some (.int .u16 (W16 src)) := hS.2.1.cell 5; clear hS; go_simp; exact hK.out _ (Below.refl _ _)); simp only [Act.put, List.setIfInBounds_toArray, List.set_cons_zero, List.set_cons_succ]
  refine wpH_take (v := ?_) 15 hR hst rfl ?_ ?_; rotate_left; (intro W hS K hK; clear hS; go_simp; exact hK.out _ (Below.refl _ _)); simp only [Act.put, List.setIfInBounds_toArray, List.set_cons_zero, List.set_cons_succ]
  refine wpH_take (v := ?_) 16 hR hst rfl ?_ ?_; rotate_left; (intro W hS K hK; clear hS; go_simp; exact hK.out _ (Below.refl _ _)); simp only [Act.put, List.setIfInBounds_toArray, List.set_cons_zero, List.set_cons_succ]
  refine wpH_take (v := ?_) 17 hR hst rfl ?_ ?_; rotate_left; (intro W hS K hK; have ld : W.cell? ⟨g_1, 5, none⟩ = some (.int .u16 (W16 src)) := hS.2.1.cell 5; clear hS; go_simp; exact hK.out _ (Below.refl _ _)); simp only [Act.put, List.setIfInBounds_toArray, List.set_cons_zero, List.set_cons_succ]
  refine wpH_take (v := ?_) 18 hR hst rfl ?_ ?_; rotate_left; (intro W hS K hK; clear hS; go_simp; exact hK.out _ (Below.refl _ _)); simp only [Act.put, List.setIfInBounds_toArray, List.set_cons_zero, List.set_cons_succ]
  refine wpH_take (v := ?_) 19 hR hst rfl ?_ ?_; rotate_left; (intro W hS K hK; clear hS; go_simp; exact hK.out _ (Below.refl _ _)); simp only [Act.put, List.setIfInBounds_toArray, List.set_cons_zero, List.set_cons_succ]
  refine wpH_take (v := ?_) 1 hR hst rfl ?_ ?_; rotate_left; (intro W hS K hK; clear hS; go_simp; refine (CC.out _).mono ?_; rintro e w9 ⟨rfl, hb⟩; refine CallPost.mk ?_; exact hK.out _ (hb)); simp only [Act.put, List.setIfInBounds_toArray, List.set_cons_zero, List.set_cons_succ]
  refine wpH_take (v := ?_) 20 hR hst rfl ?_ ?_; rotate_left; (intro W hS K hK; clear hS; go_simp; exact hK.out _ (Below.refl _ _)); simp only [Act.put, List.setIfInBounds_toArray, List.set_cons_zero, List.set_cons_succ]
  refine wpH_done (fun w_16 hS => ?_)
  obtain ⟨hB, G_4, G_11⟩ := hS
  clear hst
  dsimp only [List.drop]
  go_wp2_with (first | (with_reducible refine stop_store ?_) | (with_reducible refine stop_box ?_) | (with_reducible refine stop_alloc ?_) | (with_reducible refine stop_bslice ?_))
  unfold Kept
  refine wpList_st 0 #[.int .u8 (W8 cb), .int .u8 (W8 (BitVec.setWidth 8 seq)), .int .u8 (W8 (BitVec.setWidth 8 (seq >>> 8))), .int .u8 (W8 (BitVec.setWidth 8 (seq >>> 16))), .int .u8 (W8 (BitVec.setWidth 8 src)), .int .u8 (W8 (BitVec.setWidth 8 (src >>> 8)))] #[.int .u8 (W8 cb), .int .u8 (W8 (BitVec.setWidth 8 seq)), .int .u8 (W8 (BitVec.setWidth 8 (seq >>> 8))), .int .u8 (W8 (BitVec.setWidth 8 (seq >>> 16))), .int .u8 (W8 (BitVec.setWidth 8 src)), .int .u8 (W8 (BitVec.setWidth 8 (src >>> 8)))] G_11 rfl rfl (by kernel_rfl) rfl (of_decide_eq_true rfl) rfl ?_
  intro w_17 G_19 hU_18
  replace G_4 := hU_18.blk G_4 (by omega)
  replace hB := hU_18.below hB (by omega)
  clear G_11 hU_18
  go_wp2_with (first | (with_reducible refine stop_store ?_) | (with_reducible refine stop_box ?_) | (with_reducible refine stop_alloc ?_) | (with_reducible refine stop_bslice ?_))
  refine bodyPost_ret (results_cell rfl rfl (load_blk G_19 Try.underlying73 rfl (by kernel_rfl))) rfl ?_
  exact ⟨rfl, hB⟩
set_option maxHeartbeats 4000000 in
theorem net_xor_f (x0 x1 x2 x3 x4 x5 y0 y1 y2 y3 y4 y5 : BitVec 8) (w : World) :
    Calls Try.prog 53 #[.agg #[.int .u8 (W8 x0), .int .u8 (W8 x1), .int .u8 (W8 x2), .int .u8 (W8 x3), .int .u8 (W8 x4), .int .u8 (W8 x5)], .agg #[.int .u8 (W8 y0), .int .u8 (W8 y1), .int .u8 (W8 y2), .int .u8 (W8 y3), .int .u8 (W8 y4), .int .u8 (W8 y5)]] w (fun e w' => e = .returned (.agg #[.int .u8 (W8 (x0 ^^^ y0)), .int .u8 (W8 (x1 ^^^ y1)), .int .u8 (W8 (x2 ^^^ y2)), .int .u8 (W8 (x3 ^^^ y3)), .int .u8 (W8 (x4 ^^^ y4)), .int .u8 (W8 (x5 ^^^ y5))]) ∧ Below w.heap.size w w') := by
  go_enter Try.func53, Try.ntmps53
  go_wp2_with (first | (with_reducible refine stop_store ?_) | (with_reducible refine stop_box ?_) | (with_reducible refine stop_alloc ?_) | (with_reducible refine stop_bslice ?_))
  unfold Kept
  refine go_mem (ty := 73) (cs := #[.int .u8 (W8 x0), .int .u8 (W8 x1), .int .u8 (W8 x2), .int .u8 (W8 x3), .int .u8 (W8 x4), .int .u8 (W8 x5)]) (fun g => .pointer (some ⟨g, 0, none⟩)) rfl (by kernel_rfl) ?_
  intro g_1 w_2 z_6 l_5 hb_3 G_4
  have n_7 : w.heap.size ≤ g_1 := l_5
  have hB := hb_3
  clear hb_3 l_5 z_6
  go_wp2_with (first | (with_reducible refine stop_store ?_) | (with_reducible refine stop_box ?_) | (with_reducible refine stop_alloc ?_) | (with_reducible refine stop_bslice ?_))
  unfold Kept
  refine go_mem (ty := 73) (cs := #[.int .u8 (W8 y0), .int .u8 (W8 y1), .int .u8 (W8 y2), .int .u8 (W8 y3), .int .u8 (W8 y4), .int .u8 (W8 y5)]) (fun g => .pointer (some ⟨g, 0, none⟩)) rfl (by kernel_rfl) ?_
  intro g_8 w_9 z_13 l_12 hb_10 G_11
  have n_14 : g_1 < g_8 := Nat.lt_of_lt_of_le G_4.lt l_12
  have n_15 : w.heap.size ≤ g_8 := Nat.le_trans hB.size l_12
  replace G_4 := G_4.to hb_10 G_4.lt
  replace hB := hB.trans (hb_10.mono hB.size)
  clear hb_10 l_12 z_13
  go_wp2_with (first | (with_reducible refine stop_store ?_) | (with_reducible refine stop_box ?_) | (with_reducible refine stop_alloc ?_) | (with_reducible refine stop_bslice ?_))
  unfold Kept
  refine go_mem (ty := 73) (cs := #[.int .u8 0, .int .u8 0, .int .u8 0, .int .u8 0, .int .u8 0, .int .u8 0]) (fun g => .pointer (some ⟨g, 0, none⟩)) rfl (by kernel_rfl) ?_
  intro g_16 w_17 z_21 l_20 hb_18 G_19
  have n_22 : g_8 < g_16 := Nat.lt_of_lt_of_le G_11.lt l_20
  have n_23 : w.heap.size ≤ g_16 := Nat.le_trans hB.size l_20
  replace G_4 := G_4.to hb_18 G_4.lt
  replace G_11 := G_11.to hb_18 G_11.lt
  replace hB := hB.trans (hb_18.mono hB.size)
  clear hb_18 l_20 z_21
  go_wp2_with (first | (with_reducible refine stop_store ?_) | (with_reducible refine stop_box ?_) | (with_reducible refine stop_alloc ?_) | (with_reducible refine stop_bslice ?_))
  refine wp_loop_rounds 7 ?_
  rw [rounds_succ]
  go_wp2_with (first | (with_reducible refine stop_store ?_) | (with_reducible refine stop_box ?_) | (with_reducible refine stop_alloc ?_) | (with_reducible refine stop_bslice ?_))
  try simp only [Act.put, List.setIfInBounds_toArray, List.set_cons_zero, List.set_cons_succ]
  have hst : Stable fun W => Below w.heap.size w W ∧ Blk W g_1 73 #[.int .u8 (W8 x0), .int .u8 (W8 x1), .int .u8 (W8 x2), .int .u8 (W8 x3), .int .u8 (W8 x4), .int .u8 (W8 x5)] ∧ Blk W g_8 73 #[.int .u8 (W8 y0), .int .u8 (W8 y1), .int .u8 (W8 y2), .int .u8 (W8 y3), .int .u8 (W8 y4), .int .u8 (W8 y5)] ∧ Blk W g_16 73 #[.int .u8 0, .int .u8 0, .int .u8 0, .int .u8 0, .int .u8 0, .int .u8 0] := stable_and (stable_below _ _ (Nat.le_refl _)) (stable_and (stable_blk _ _ _) (stable_and (stable_blk _ _ _) (stable_blk _ _ _)))
  refine wp_region_hh (fun W => Below w.heap.size w W ∧ Blk W g_1 73 #[.int .u8 (W8 x0), .int .u8 (W8 x1), .int .u8 (W8 x2), .int .u8 (W8 x3), .int .u8 (W8 x4), .int .u8 (W8 x5)] ∧ Blk W g_8 73 #[.int .u8 (W8 y0), .int .u8 (W8 y1), .int .u8 (W8 y2), .int .u8 (W8 y3), .int .u8 (W8 y4), .int .u8 (W8 y5)] ∧ Blk W g_16 73 #[.int .u8 0, .int .u8 0, .int .u8 0, .int .u8 0, .int .u8 0, .int .u8 0]) 8 hst ⟨hB.drew, G_4, G_11, G_19⟩ ⟨by kernel_rfl, by kernel_rfl, by kernel_rfl, by decide⟩ (fun hR => ?_)
  clear hB G_4 G_11 G_19
  refine wpH_take (v := ?_) 0 hR hst rfl ?_ ?_; rotate_left; (intro W hS K hK; clear hS; go_simp; exact hK.out _ (Below.refl _ _)); simp only [Act.put, List.setIfInBounds_toArray, List.set_cons_zero, List.set_cons_succ]
  refine wpH_take (v := ?_) 1 hR hst rfl ?_ ?_; rotate_left; (intro W hS K hK; clear hS; go_simp; exact hK.out _ (Below.refl _ _)); simp only [Act.put, List.setIfInBounds_toArray, List.set_cons_zero, List.set_cons_succ]
  refine wpH_take (v := ?_) 2 hR hst rfl ?_ ?_; rotate_left; (intro W hS K hK; have ld : W.cell? ⟨g_1, 0, none⟩ = some (.int .u8 (W8 x0)) := hS.2.1.cell 0; clear hS; go_simp; exact hK.out _ (Below.refl _ _)); simp only [Act.put, List.setIfInBounds_toArray, List.set_cons_zero, List.set_cons_succ]
  refine wpH_take (v := ?_) 3 hR hst rfl ?_ ?_; rotate_left; (intro W hS K hK; clear hS; go_simp; exact hK.out _ (Below.refl _ _)); simp only [Act.put, List.setIfInBounds_toArray, List.set_cons_zero, List.set_cons_succ]
  refine wpH_take (v := ?_) 4 hR hst rfl ?_ ?_; rotate_left; (intro W hS K hK; clear hS; go_simp; exact hK.out _ (Below.refl _ _)); simp only [Act.put, List.setIfInBounds_toArray, List.set_cons_zero, List.set_cons_succ]
  refine wpH_take (v := ?_) 5 hR hst rfl ?_ ?_; rotate_left; (intro W hS K hK; have ld : W.cell? ⟨g_8, 0, none⟩ = some (.int .u8 (W8 y0)) := hS.2.2.1.cell 0; clear hS; go_simp; exact hK.out _ (Below.refl _ _)); simp only [Act.put, List.setIfInBounds_toArray, List.set_cons_zero, List.set_cons_succ]
  refine wpH_take (v := ?_) 6 hR hst rfl ?_ ?_; rotate_left; (intro W hS K hK; clear hS; go_simp; exact hK.out _ (Below.refl _ _)); simp only [Act.put, List.setIfInBounds_toArray, List.set_cons_zero, List.set_cons_succ]
  refine wpH_take (v := ?_) 7 hR hst rfl ?_ ?_; rotate_left; (intro W hS K hK; clear hS; go_simp; exact hK.out _ (Below.refl _ _)); simp only [Act.put, List.setIfInBounds_toArray, List.set_cons_zero, List.set_cons_succ]
  refine wpH_done (fun w_24 hS => ?_)
  obtain ⟨hB, G_4, G_11, G_19⟩ := hS
  clear hst
  dsimp only [List.drop]
  go_wp2_with (first | (with_reducible refine stop_store ?_) | (with_reducible refine stop_box ?_) | (with_reducible refine stop_alloc ?_) | (with_reducible refine stop_bslice ?_))
  unfold Kept
  refine wpList_st1 0 (.int .u8 (W8 (x0 ^^^ y0))) #[.int .u8 (W8 (x0 ^^^ y0)), .int .u8 (W8 x1), .int .u8 (W8 x2), .int .u8 (W8 x3), .int .u8 (W8 x4), .int .u8 (W8 x5)] G_4 rfl rfl rfl (by kernel_rfl) rfl (of_decide_eq_true rfl) rfl ?_
  intro w_25 G_27 hU_26
  replace G_11 := hU_26.blk G_11 (by omega)
  replace G_19 := hU_26.blk G_19 (by omega)
  replace hB := hU_26.below hB (by omega)
  clear G_4 hU_26
  go_wp2_with (first | (with_reducible refine stop_store ?_) | (with_reducible refine stop_box ?_) | (with_reducible refine stop_alloc ?_) | (with_reducible refine stop_bslice ?_))
  rw [rounds_succ]
  go_wp2_with (first | (with_reducible refine stop_store ?_) | (with_reducible refine stop_box ?_) | (with_reducible refine stop_alloc ?_) | (with_reducible refine stop_bslice ?_))
  try simp only [Act.put, List.setIfInBounds_toArray, List.set_cons_zero, List.set_cons_succ]
  have hst : Stable fun W => Below w.heap.size w W ∧ Blk W g_1 73 #[.int .u8 (W8 (x0 ^^^ y0)), .int .u8 (W8 x1), .int .u8 (W8 x2), .int .u8 (W8 x3), .int .u8 (W8 x4), .int .u8 (W8 x5)] ∧ Blk W g_8 73 #[.int .u8 (W8 y0), .int .u8 (W8 y1), .int .u8 (W8 y2), .int .u8 (W8 y3), .int .u8 (W8 y4), .int .u8 (W8 y5)] ∧ Blk W g_16 73 #[.int .u8 0, .int .u8 0, .int .u8 0, .int .u8 0, .int .u8 0, .int .u8 0] := stable_and (stable_below _ _ (Nat.le_refl _)) (stable_and (stable_blk _ _ _) (stable_and (stable_blk _ _ _) (stable_blk _ _ _)))
  refine wp_region_hh (fun W => Below w.heap.size w W ∧ Blk W g_1 73 #[.int .u8 (W8 (x0 ^^^ y0)), .int .u8 (W8 x1), .int .u8 (W8 x2), .int .u8 (W8 x3), .int .u8 (W8 x4), .int .u8 (W8 x5)] ∧ Blk W g_8 73 #[.int .u8 (W8 y0), .int .u8 (W8 y1), .int .u8 (W8 y2), .int .u8 (W8 y3), .int .u8 (W8 y4), .int .u8 (W8 y5)] ∧ Blk W g_16 73 #[.int .u8 0, .int .u8 0, .int .u8 0, .int .u8 0, .int .u8 0, .int .u8 0]) 8 hst ⟨hB.drew, G_27, G_11, G_19⟩ ⟨by kernel_rfl, by kernel_rfl, by kernel_rfl, by decide⟩ (fun hR => ?_)
  clear hB G_27 G_11 G_19
  refine wpH_take (v := ?_) 0 hR hst rfl ?_ ?_; rotate_left; (intro W hS K hK; clear hS; go_simp; exact hK.out _ (Below.refl _ _)); simp only [Act.put, List.setIfInBounds_toArray, List.set_cons_zero, List.set_cons_succ]
  refine wpH_take (v := ?_) 1 hR hst rfl ?_ ?_; rotate_left; (intro W hS K hK; clear hS; go_simp; exact hK.out _ (Below.refl _ _)); simp only [Act.put, List.setIfInBounds_toArray, List.set_cons_zero, List.set_cons_succ]
  refine wpH_take (v := ?_) 2 hR hst rfl ?_ ?_; rotate_left; (intro W hS K hK; have ld : W.cell? ⟨g_1, 1, none⟩ = some (.int .u8 (W8 x1)) := hS.2.1.cell 1; clear hS; go_simp; exact hK.out _ (Below.refl _ _)); simp only [Act.put, List.setIfInBounds_toArray, List.set_cons_zero, List.set_cons_succ]
  refine wpH_take (v := ?_) 3 hR hst rfl ?_ ?_; rotate_left; (intro W hS K hK; clear hS; go_simp; exact hK.out _ (Below.refl _ _)); simp only [Act.put, List.setIfInBounds_toArray, List.set_cons_zero, List.set_cons_succ]
  refine wpH_take (v := ?_) 4 hR hst rfl ?_ ?_; rotate_left; (intro W hS K hK; clear hS; go_simp; exact hK.out _ (Below.refl _ _)); simp only [Act.put, List.setIfInBounds_toArray, List.set_cons_zero, List.set_cons_succ]
  refine wpH_take (v := ?_) 5 hR hst rfl ?_ ?_; rotate_left; (intro W hS K hK; have ld : W.cell? ⟨g_8, 1, none⟩ = some (.int .u8 (W8 y1)) := hS.2.2.1.cell 1; clear hS; go_simp; exact hK.out _ (Below.refl _ _)); simp only [Act.put, List.setIfInBounds_toArray, List.set_cons_zero, List.set_cons_succ]
  refine wpH_take (v := ?_) 6 hR hst rfl ?_ ?_; rotate_left; (intro W hS K hK; clear hS; go_simp; exact hK.out _ (Below.refl _ _)); simp only [Act.put, List.setIfInBounds_toArray, List.set_cons_zero, List.set_cons_succ]
  refine wpH_take (v := ?_) 7 hR hst rfl ?_ ?_; rotate_left; (intro W hS K hK; clear hS; go_simp; exact hK.out _ (Below.refl _ _)); simp only [Act.put, List.setIfInBounds_toArray, List.set_cons_zero, List.set_cons_succ]
  refine wpH_done (fun w_28 hS => ?_)
  obtain ⟨hB, G_27, G_11, G_19⟩ := hS
  clear hst
  dsimp only [List.drop]
  go_wp2_with (first | (with_reducible refine stop_store ?_) | (with_reducible refine stop_box ?_) | (with_reducible refine stop_alloc ?_) | (with_reducible refine stop_bslice ?_))
  unfold Kept
  refine wpList_st1 1 (.int .u8 (W8 (x1 ^^^ y1))) #[.int .u8 (W8 (x0 ^^^ y0)), .int .u8 (W8 (x1 ^^^ y1)), .int .u8 (W8 x2), .int .u8 (W8 x3), .int .u8 (W8 x4), .int .u8 (W8 x5)] G_27 rfl rfl rfl (by kernel_rfl) rfl (of_decide_eq_true rfl) rfl ?_
  intro w_29 G_31 hU_30
  replace G_11 := hU_30.blk G_11 (by omega)
  replace G_19 := hU_30.blk G_19 (by omega)
  replace hB := hU_30.below hB (by omega)
  clear G_27 hU_30
  go_wp2_with (first | (with_reducible refine stop_store ?_) | (with_reducible refine stop_box ?_) | (with_reducible refine stop_alloc ?_) | (with_reducible refine stop_bslice ?_))
  rw [rounds_succ]
  go_wp2_with (first | (with_reducible refine stop_store ?_) | (with_reducible refine stop_box ?_) | (with_reducible refine stop_alloc ?_) | (with_reducible refine stop_bslice ?_))
  try simp only [Act.put, List.setIfInBounds_toArray, List.set_cons_zero, List.set_cons_succ]
  have hst : Stable fun W => Below w.heap.size w W ∧ Blk W g_1 73 #[.int .u8 (W8 (x0 ^^^ y0)), .int .u8 (W8 (x1 ^^^ y1)), .int .u8 (W8 x2), .int .u8 (W8 x3), .int .u8 (W8 x4), .int .u8 (W8 x5)] ∧ Blk W g_8 73 #[.int .u8 (W8 y0), .int .u8 (W8 y1), .int .u8 (W8 y2), .int .u8 (W8 y3), .int .u8 (W8 y4), .int .u8 (W8 y5)] ∧ Blk W g_16 73 #[.int .u8 0, .int .u8 0, .int .u8 0, .int .u8 0, .int .u8 0, .int .u8 0] := stable_and (stable_below _ _ (Nat.le_refl _)) (stable_and (stable_blk _ _ _) (stable_and (stable_blk _ _ _) (stable_blk _ _ _)))
  refine wp_region_hh (fun W => Below w.heap.size w W ∧ Blk W g_1 73 #[.int .u8 (W8 (x0 ^^^ y0)), .int .u8 (W8 (x1 ^^^ y1)), .int .u8 (W8 x2), .int .u8 (W8 x3), .int .u8 (W8 x4), .int .u8 (W8 x5)] ∧ Blk W g_8 73 #[.int .u8 (W8 y0), .int .u8 (W8 y1), .int .u8 (W8 y2), .int .u8 (W8 y3), .int .u8 (W8 y4), .int .u8 (W8 y5)] ∧ Blk W g_16 73 #[.int .u8 0, .int .u8 0, .int .u8 0, .int .u8 0, .int .u8 0, .int .u8 0]) 8 hst ⟨hB.drew, G_31, G_11, G_19⟩ ⟨by kernel_rfl, by kernel_rfl, by kernel_rfl, by decide⟩ (fun hR => ?_)
  clear hB G_31 G_11 G_19
  refine wpH_take (v := ?_) 0 hR hst rfl ?_ ?_; rotate_left; (intro W hS K hK; clear hS; go_simp; exact hK.out _ (Below.refl _ _)); simp only [Act.put, List.setIfInBounds_toArray, List.set_cons_zero, List.set_cons_succ]
  refine wpH_take (v := ?_) 1 hR hst rfl ?_ ?_; rotate_left; (intro W hS K hK; clear hS; go_simp; exact hK.out _ (Below.refl _ _)); simp only [Act.put, List.setIfInBounds_toArray, List.set_cons_zero, List.set_cons_succ]
  refine wpH_take (v := ?_) 2 hR hst rfl ?_ ?_; rotate_left; (intro W hS K hK; have ld : W.cell? ⟨g_1, 2, none⟩ = some (.int .u8 (W8 x2)) := hS.2.1.cell 2; clear hS; go_simp; exact hK.out _ (Below.refl _ _)); simp only [Act.put, List.setIfInBounds_toArray, List.set_cons_zero, List.set_cons_succ]
  refine wpH_take (v := ?_) 3 hR hst rfl ?_ ?_; rotate_left; (intro W hS K hK; clear hS; go_simp; exact hK.out _ (Below.refl _ _)); simp only [Act.put, List.setIfInBounds_toArray, List.set_cons_zero, List.set_cons_succ]
  refine wpH_take (v := ?_) 4 hR hst rfl ?_ ?_; rotate_left; (intro W hS K hK; clear hS; go_simp; exact hK.out _ (Below.refl _ _)); simp only [Act.put, List.setIfInBounds_toArray, List.set_cons_zero, List.set_cons_succ]
  refine wpH_take (v := ?_) 5 hR hst rfl ?_ ?_; rotate_left; (intro W hS K hK; have ld : W.cell? ⟨g_8, 2, none⟩ = some (.int .u8 (W8 y2)) := hS.2.2.1.cell 2; clear hS; go_simp; exact hK.out _ (Below.refl _ _)); simp only [Act.put, List.setIfInBounds_toArray, List.set_cons_zero, List.set_cons_succ]
  refine wpH_take (v := ?_) 6 hR hst rfl ?_ ?_; rotate_left; (intro W hS K hK; clear hS; go_simp; exact hK.out _ (Below.refl _ _)); simp only [Act.put, List.setIfInBounds_toArray, List.set_cons_zero, List.set_cons_succ]
  refine wpH_take (v := ?_) 7 hR hst rfl ?_ ?_; rotate_left; (intro W hS K hK; clear hS; go_simp; exact hK.out _ (Below.refl _ _)); simp only [Act.put, List.setIfInBounds_toArray, List.set_cons_zero, List.set_cons_succ]
  refine wpH_done (fun w_32 hS => ?_)
  obtain ⟨hB, G_31, G_11, G_19⟩ := hS
  clear hst
  dsimp only [List.drop]
  go_wp2_with (first | (with_reducible refine stop_store ?_) | (with_reducible refine stop_box ?_) | (with_reducible refine stop_alloc ?_) | (with_reducible refine stop_bslice ?_))
  unfold Kept
  refine wpList_st1 2 (.int .u8 (W8 (x2 ^^^ y2))) #[.int .u8 (W8 (x0 ^^^ y0)), .int .u8 (W8 (x1 ^^^ y1)), .int .u8 (W8 (x2 ^^^ y2)), .int .u8 (W8 x3), .int .u8 (W8 x4), .int .u8 (W8 x5)] G_31 rfl rfl rfl (by kernel_rfl) rfl (of_decide_eq_true rfl) rfl ?_
  intro w_33 G_35 hU_34
  replace G_11 := hU_34.blk G_11 (by omega)
  replace G_19 := hU_34.blk G_19 (by omega)
  replace hB := hU_34.below hB (by omega)
  clear G_31 hU_34
  go_wp2_with (first | (with_reducible refine stop_store ?_) | (with_reducible refine stop_box ?_) | (with_reducible refine stop_alloc ?_) | (with_reducible refine stop_bslice ?_))
  rw [rounds_succ]
  go_wp2_with (first | (with_reducible refine stop_store ?_) | (with_reducible refine stop_box ?_) | (with_reducible refine stop_alloc ?_) | (with_reducible refine stop_bslice ?_))
  try simp only [Act.put, List.setIfInBounds_toArray, List.set_cons_zero, List.set_cons_succ]
  have hst : Stable fun W => Below w.heap.size w W ∧ Blk W g_1 73 #[.int .u8 (W8 (x0 ^^^ y0)), .int .u8 (W8 (x1 ^^^ y1)), .int .u8 (W8 (x2 ^^^ y2)), .int .u8 (W8 x3), .int .u8 (W8 x4), .int .u8 (W8 x5)] ∧ Blk W g_8 73 #[.int .u8 (W8 y0), .int .u8 (W8 y1), .int .u8 (W8 y2), .int .u8 (W8 y3), .int .u8 (W8 y4), .int .u8 (W8 y5)] ∧ Blk W g_16 73 #[.int .u8 0, .int .u8 0, .int .u8 0, .int .u8 0, .int .u8 0, .int .u8 0] := stable_and (stable_below _ _ (Nat.le_refl _)) (stable_and (stable_blk _ _ _) (stable_and (stable_blk _ _ _) (stable_blk _ _ _)))
  refine wp_region_hh (fun W => Below w.heap.size w W ∧ Blk W g_1 73 #[.int .u8 (W8 (x0 ^^^ y0)), .int .u8 (W8 (x1 ^^^ y1)), .int .u8 (W8 (x2 ^^^ y2)), .int .u8 (W8 x3), .int .u8 (W8 x4), .int .u8 (W8 x5)] ∧ Blk W g_8 73 #[.int .u8 (W8 y0), .int .u8 (W8 y1), .int .u8 (W8 y2), .int .u8 (W8 y3), .int .u8 (W8 y4), .int .u8 (W8 y5)] ∧ Blk W g_16 73 #[.int .u8 0, .int .u8 0, .int .u8 0, .int .u8 0, .int .u8 0, .int .u8 0]) 8 hst ⟨hB.drew, G_35, G_11, G_19⟩ ⟨by kernel_rfl, by kernel_rfl, by kernel_rfl, by decide⟩ (fun hR => ?_)
  clear hB G_35 G_11 G_19
  refine wpH_take (v := ?_) 0 hR hst rfl ?_ ?_; rotate_left; (intro W hS K hK; clear hS; go_simp; exact hK.out _ (Below.refl _ _)); simp only [Act.put, List.setIfInBounds_toArray, List.set_cons_zero, List.set_cons_succ]
  refine wpH_take (v := ?_) 1 hR hst rfl ?_ ?_; rotate_left; (intro W hS K hK; clear hS; go_simp; exact hK.out _ (Below.refl _ _)); simp only [Act.put, List.setIfInBounds_toArray, List.set_cons_zero, List.set_cons_succ]
  refine wpH_take (v := ?_) 2 hR hst rfl ?_ ?_; rotate_left; (intro W hS K hK; have ld : W.cell? ⟨g_1, 3, none⟩ = some (.int .u8 (W8 x3)) := hS.2.1.cell 3; clear hS; go_simp; exact hK.out _ (Below.refl _ _)); simp only [Act.put, List.setIfInBounds_toArray, List.set_cons_zero, List.set_cons_succ]
  refine wpH_take (v := ?_) 3 hR hst rfl ?_ ?_; rotate_left; (intro W hS K hK; clear hS; go_simp; exact hK.out _ (Below.refl _ _)); simp only [Act.put, List.setIfInBounds_toArray, List.set_cons_zero, List.set_cons_succ]
  refine wpH_take (v := ?_) 4 hR hst rfl ?_ ?_; rotate_left; (intro W hS K hK; clear hS; go_simp; exact hK.out _ (Below.refl _ _)); simp only [Act.put, List.setIfInBounds_toArray, List.set_cons_zero, List.set_cons_succ]
  refine wpH_take (v := ?_) 5 hR hst rfl ?_ ?_; rotate_left; (intro W hS K hK; have ld : W.cell? ⟨g_8, 3, none⟩ = some (.int .u8 (W8 y3)) := hS.2.2.1.cell 3; clear hS; go_simp; exact hK.out _ (Below.refl _ _)); simp only [Act.put, List.setIfInBounds_toArray, List.set_cons_zero, List.set_cons_succ]
  refine wpH_take (v := ?_) 6 hR hst rfl ?_ ?_; rotate_left; (intro W hS K hK; clear hS; go_simp; exact hK.out _ (Below.refl _ _)); simp only [Act.put, List.setIfInBounds_toArray, List.set_cons_zero, List.set_cons_succ]
  refine wpH_take (v := ?_) 7 hR hst rfl ?_ ?_; rotate_left; (intro W hS K hK; clear hS; go_simp; exact hK.out _ (Below.refl _ _)); simp only [Act.put, List.setIfInBounds_toArray, List.set_cons_zero, List.set_cons_succ]
  refine wpH_done (fun w_36 hS => ?_)
  obtain ⟨hB, G_35, G_11, G_19⟩ := hS
  clear hst
  dsimp only [List.drop]
  go_wp2_with (first | (with_reducible refine stop_store ?_) | (with_reducible refine stop_box ?_) | (with_reducible refine stop_alloc ?_) | (with_reducible refine stop_bslice ?_))
  unfold Kept
  refine wpList_st1 3 (.int .u8 (W8 (x3 ^^^ y3))) #[.int .u8 (W8 (x0 ^^^ y0)), .int .u8 (W8 (x1 ^^^ y1)), .int .u8 (W8 (x2 ^^^ y2)), .int .u8 (W8 (x3 ^^^ y3)), .int .u8 (W8 x4), .int .u8 (W8 x5)] G_35 rfl rfl rfl (by kernel_rfl) rfl (of_decide_eq_true rfl) rfl ?_
  intro w_37 G_39 hU_38
  replace G_11 := hU_38.blk G_11 (by omega)
  replace G_19 := hU_38.blk G_19 (by omega)
  replace hB := hU_38.below hB (by omega)
  clear G_35 hU_38
  go_wp2_with (first | (with_reducible refine stop_store ?_) | (with_reducible refine stop_box ?_) | (with_reducible refine stop_alloc ?_) | (with_reducible refine stop_bslice ?_))
  rw [rounds_succ]
  go_wp2_with (first | (with_reducible refine stop_store ?_) | (with_reducible refine stop_box ?_) | (with_reducible refine stop_alloc ?_) | (with_reducible refine stop_bslice ?_))
  try simp only [Act.put, List.setIfInBounds_toArray, List.set_cons_zero, List.set_cons_succ]
  have hst : Stable fun W => Below w.heap.size w W ∧ Blk W g_1 73 #[.int .u8 (W8 (x0 ^^^ y0)), .int .u8 (W8 (x1 ^^^ y1)), .int .u8 (W8 (x2 ^^^ y2)), .int .u8 (W8 (x3 ^^^ y3)), .int .u8 (W8 x4), .int .u8 (W8 x5)] ∧ Blk W g_8 73 #[.int .u8 (W8 y0), .int .u8 (W8 y1), .int .u8 (W8 y2), .int .u8 (W8 y3), .int .u8 (W8 y4), .int .u8 (W8 y5)] ∧ Blk W g_16 73 #[.int .u8 0, .int .u8 0, .int .u8 0, .int .u8 0, .int .u8 0, .int .u8 0] := stable_and (stable_below _ _ (Nat.le_refl _)) (stable_and (stable_blk _ _ _) (stable_and (stable_blk _ _ _) (stable_blk _ _ _)))
  refine wp_region_hh (fun W => Below w.heap.size w W ∧ Blk W g_1 73 #[.int .u8 (W8 (x0 ^^^ y0)), .int .u8 (W8 (x1 ^^^ y1)), .int .u8 (W8 (x2 ^^^ y2)), .int .u8 (W8 (x3 ^^^ y3)), .int .u8 (W8 x4), .int .u8 (W8 x5)] ∧ Blk W g_8 73 #[.int .u8 (W8 y0), .int .u8 (W8 y1), .int .u8 (W8 y2), .int .u8 (W8 y3), .int .u8 (W8 y4), .int .u8 (W8 y5)] ∧ Blk W g_16 73 #[.int .u8 0, .int .u8 0, .int .u8 0, .int .u8 0, .int .u8 0, .int .u8 0]) 8 hst ⟨hB.drew, G_39, G_11, G_19⟩ ⟨by kernel_rfl, by kernel_rfl, by kernel_rfl, by decide⟩ (fun hR => ?_)
  clear hB G_39 G_11 G_19
  refine wpH_take (v := ?_) 0 hR hst rfl ?_ ?_; rotate_left; (intro W hS K hK; clear hS; go_simp; exact hK.out _ (Below.refl _ _)); simp only [Act.put, List.setIfInBounds_toArray, List.set_cons_zero, List.set_cons_succ]
  refine wpH_take (v := ?_) 1 hR hst rfl ?_ ?_; rotate_left; (intro W hS K hK; clear hS; go_simp; exact hK.out _ (Below.refl _ _)); simp only [Act.put, List.setIfInBounds_toArray, List.set_cons_zero, List.set_cons_succ]
  refine wpH_take (v := ?_) 2 hR hst rfl ?_ ?_; rotate_left; (intro W hS K hK; have ld : W.cell? ⟨g_1, 4, none⟩ = some (.int .u8 (W8 x4)) := hS.2.1.cell 4; clear hS; go_simp; exact hK.out _ (Below.refl _ _)); simp only [Act.put, List.setIfInBounds_toArray, List.set_cons_zero, List.set_cons_succ]
  refine wpH_take (v := ?_) 3 hR hst rfl ?_ ?_; rotate_left; (intro W hS K hK; clear hS; go_simp; exact hK.out _ (Below.refl _ _)); simp only [Act.put, List.setIfInBounds_toArray, List.set_cons_zero, List.set_cons_succ]
  refine wpH_take (v := ?_) 4 hR hst rfl ?_ ?_; rotate_left; (intro W hS K hK; clear hS; go_simp; exact hK.out _ (Below.refl _ _)); simp only [Act.put, List.setIfInBounds_toArray, List.set_cons_zero, List.set_cons_succ]
  refine wpH_take (v := ?_) 5 hR hst rfl ?_ ?_; rotate_left; (intro W hS K hK; have ld : W.cell? ⟨g_8, 4, none⟩ = some (.int .u8 (W8 y4)) := hS.2.2.1.cell 4; clear hS; go_simp; exact hK.out _ (Below.refl _ _)); simp only [Act.put, List.setIfInBounds_toArray, List.set_cons_zero, List.set_cons_succ]
  refine wpH_take (v := ?_) 6 hR hst rfl ?_ ?_; rotate_left; (intro W hS K hK; clear hS; go_simp; exact hK.out _ (Below.refl _ _)); simp only [Act.put, List.setIfInBounds_toArray, List.set_cons_zero, List.set_cons_succ]
  refine wpH_take (v := ?_) 7 hR hst rfl ?_ ?_; rotate_left; (intro W hS K hK; clear hS; go_simp; exact hK.out _ (Below.refl _ _)); simp only [Act.put, List.setIfInBounds_toArray, List.set_cons_zero, List.set_cons_succ]
  refine wpH_done (fun w_40 hS => ?_)
  obtain ⟨hB, G_39, G_11, G_19⟩ := hS
  clear hst
  dsimp only [List.drop]
  go_wp2_with (first | (with_reducible refine stop_store ?_) | (with_reducible refine stop_box ?_) | (with_reducible refine stop_alloc ?_) | (with_reducible refine stop_bslice ?_))
  unfold Kept
  refine wpList_st1 4 (.int .u8 (W8 (x4 ^^^ y4))) #[.int .u8 (W8 (x0 ^^^ y0)), .int .u8 (W8 (x1 ^^^ y1)), .int .u8 (W8 (x2 ^^^ y2)), .int .u8 (W8 (x3 ^^^ y3)), .int .u8 (W8 (x4 ^^^ y4)), .int .u8 (W8 x5)] G_39 rfl rfl rfl (by kernel_rfl) rfl (of_decide_eq_true rfl) rfl ?_
  intro w_41 G_43 hU_42
  replace G_11 := hU_42.blk G_11 (by omega)
  replace G_19 := hU_42.blk G_19 (by omega)
  replace hB := hU_42.below hB (by omega)
  clear G_39 hU_42
  go_wp2_with (first | (with_reducible refine stop_store ?_) | (with_reducible refine stop_box ?_) | (with_reducible refine stop_alloc ?_) | (with_reducible refine stop_bslice ?_))
  rw [rounds_succ]
  go_wp2_with (first | (with_reducible refine stop_store ?_) | (with_reducible refine stop_box ?_) | (with_reducible refine stop_alloc ?_) | (with_reducible refine stop_bslice ?_))
  try simp only [Act.put, List.setIfInBounds_toArray, List.set_cons_zero, List.set_cons_succ]
  have hst : Stable fun W => Below w.heap.size w W ∧ Blk W g_1 73 #[.int .u8 (W8 (x0 ^^^ y0)), .int .u8 (W8 (x1 ^^^ y1)), .int .u8 (W8 (x2 ^^^ y2)), .int .u8 (W8 (x3 ^^^ y3)), .int .u8 (W8 (x4 ^^^ y4)), .int .u8 (W8 x5)] ∧ Blk W g_8 73 #[.int .u8 (W8 y0), .int .u8 (W8 y1), .int .u8 (W8 y2), .int .u8 (W8 y3), .int .u8 (W8 y4), .int .u8 (W8 y5)] ∧ Blk W g_16 73 #[.int .u8 0, .int .u8 0, .int .u8 0, .int .u8 0, .int .u8 0, .int .u8 0] := stable_and (stable_below _ _ (Nat.le_refl _)) (stable_and (stable_blk _ _ _) (stable_and (stable_blk _ _ _) (stable_blk _ _ _)))
  refine wp_region_hh (fun W => Below w.heap.size w W ∧ Blk W g_1 73 #[.int .u8 (W8 (x0 ^^^ y0)), .int .u8 (W8 (x1 ^^^ y1)), .int .u8 (W8 (x2 ^^^ y2)), .int .u8 (W8 (x3 ^^^ y3)), .int .u8 (W8 (x4 ^^^ y4)), .int .u8 (W8 x5)] ∧ Blk W g_8 73 #[.int .u8 (W8 y0), .int .u8 (W8 y1), .int .u8 (W8 y2), .int .u8 (W8 y3), .int .u8 (W8 y4), .int .u8 (W8 y5)] ∧ Blk W g_16 73 #[.int .u8 0, .int .u8 0, .int .u8 0, .int .u8 0, .int .u8 0, .int .u8 0]) 8 hst ⟨hB.drew, G_43, G_11, G_19⟩ ⟨by kernel_rfl, by kernel_rfl, by kernel_rfl, by decide⟩ (fun hR => ?_)
  clear hB G_43 G_11 G_19
  refine wpH_take (v := ?_) 0 hR hst rfl ?_ ?_; rotate_left; (intro W hS K hK; clear hS; go_simp; exact hK.out _ (Below.refl _ _)); simp only [Act.put, List.setIfInBounds_toArray, List.set_cons_zero, List.set_cons_succ]
  refine wpH_take (v := ?_) 1 hR hst rfl ?_ ?_; rotate_left; (intro W hS K hK; clear hS; go_simp; exact hK.out _ (Below.refl _ _)); simp only [Act.put, List.setIfInBounds_toArray, List.set_cons_zero, List.set_cons_succ]
  refine wpH_take (v := ?_) 2 hR hst rfl ?_ ?_; rotate_left; (intro W hS K hK; have ld : W.cell? ⟨g_1, 5, none⟩ = some (.int .u8 (W8 x5)) := hS.2.1.cell 5; clear hS; go_simp; exact hK.out _ (Below.refl _ _)); simp only [Act.put, List.setIfInBounds_toArray, List.set_cons_zero, List.set_cons_succ]
  refine wpH_take (v := ?_) 3 hR hst rfl ?_ ?_; rotate_left; (intro W hS K hK; clear hS; go_simp; exact hK.out _ (Below.refl _ _)); simp only [Act.put, List.setIfInBounds_toArray, List.set_cons_zero, List.set_cons_succ]
  refine wpH_take (v := ?_) 4 hR hst rfl ?_ ?_; rotate_left; (intro W hS K hK; clear hS; go_simp; exact hK.out _ (Below.refl _ _)); simp only [Act.put, List.setIfInBounds_toArray, List.set_cons_zero, List.set_cons_succ]
  refine wpH_take (v := ?_) 5 hR hst rfl ?_ ?_; rotate_left; (intro W hS K hK; have ld : W.cell? ⟨g_8, 5, none⟩ = some (.int .u8 (W8 y5)) := hS.2.2.1.cell 5; clear hS; go_simp; exact hK.out _ (Below.refl _ _)); simp only [Act.put, List.setIfInBounds_toArray, List.set_cons_zero, List.set_cons_succ]
  refine wpH_take (v := ?_) 6 hR hst rfl ?_ ?_; rotate_left; (intro W hS K hK; clear hS; go_simp; exact hK.out _ (Below.refl _ _)); simp only [Act.put, List.setIfInBounds_toArray, List.set_cons_zero, List.set_cons_succ]
  refine wpH_take (v := ?_) 7 hR hst rfl ?_ ?_; rotate_left; (intro W hS K hK; clear hS; go_simp; exact hK.out _ (Below.refl _ _)); simp only [Act.put, List.setIfInBounds_toArray, List.set_cons_zero, List.set_cons_succ]
  refine wpH_done (fun w_44 hS => ?_)
  obtain ⟨hB, G_43, G_11, G_19⟩ := hS
  clear hst
  dsimp only [List.drop]
  go_wp2_with (first | (with_reducible refine stop_store ?_) | (with_reducible refine stop_box ?_) | (with_reducible refine stop_alloc ?_) | (with_reducible refine stop_bslice ?_))
  unfold Kept
  refine wpList_st1 5 (.int .u8 (W8 (x5 ^^^ y5))) #[.int .u8 (W8 (x0 ^^^ y0)), .int .u8 (W8 (x1 ^^^ y1)), .int .u8 (W8 (x2 ^^^ y2)), .int .u8 (W8 (x3 ^^^ y3)), .int .u8 (W8 (x4 ^^^ y4)), .int .u8 (W8 (x5 ^^^ y5))] G_43 rfl rfl rfl (by kernel_rfl) rfl (of_decide_eq_true rfl) rfl ?_
  intro w_45 G_47 hU_46
  replace G_11 := hU_46.blk G_11 (by omega)
  replace G_19 := hU_46.blk G_19 (by omega)
  replace hB := hU_46.below hB (by omega)
  clear G_43 hU_46
  go_wp2_with (first | (with_reducible refine stop_store ?_) | (with_reducible refine stop_box ?_) | (with_reducible refine stop_alloc ?_) | (with_reducible refine stop_bslice ?_))
  rw [rounds_succ]
  go_wp2_with (first | (with_reducible refine stop_store ?_) | (with_reducible refine stop_box ?_) | (with_reducible refine stop_alloc ?_) | (with_reducible refine stop_bslice ?_) | ((with_reducible refine wpList_ld 0 [.int .u8 (W8 (x0 ^^^ y0)), .int .u8 (W8 (x1 ^^^ y1)), .int .u8 (W8 (x2 ^^^ y2)), .int .u8 (W8 (x3 ^^^ y3)), .int .u8 (W8 (x4 ^^^ y4)), .int .u8 (W8 (x5 ^^^ y5))] G_47 ?_ ?_ Try.underlying73 ?_ ?_ ?_); rfl; rfl; rfl; kernel_rfl))
  unfold Kept
  refine wpList_st 0 #[.int .u8 (W8 (x0 ^^^ y0)), .int .u8 (W8 (x1 ^^^ y1)), .int .u8 (W8 (x2 ^^^ y2)), .int .u8 (W8 (x3 ^^^ y3)), .int .u8 (W8 (x4 ^^^ y4)), .int .u8 (W8 (x5 ^^^ y5))] #[.int .u8 (W8 (x0 ^^^ y0)), .int .u8 (W8 (x1 ^^^ y1)), .int .u8 (W8 (x2 ^^^ y2)), .int .u8 (W8 (x3 ^^^ y3)), .int .u8 (W8 (x4 ^^^ y4)), .int .u8 (W8 (x5 ^^^ y5))] G_19 rfl rfl (by kernel_rfl) rfl (of_decide_eq_true rfl) rfl ?_
  intro w_49 G_51 hU_50
  replace G_47 := hU_50.blk G_47 (by omega)
  replace G_11 := hU_50.blk G_11 (by omega)
  replace hB := hU_50.below hB (by omega)
  clear G_19 hU_50
  go_wp2_with (first | (with_reducible refine stop_store ?_) | (with_reducible refine stop_box ?_) | (with_reducible refine stop_alloc ?_) | (with_reducible refine stop_bslice ?_))
  refine bodyPost_ret (results_cell rfl rfl (load_blk G_51 Try.underlying73 rfl (by kernel_rfl))) rfl ?_
  exact ⟨rfl, hB⟩
set_option maxHeartbeats 8000000 in
theorem net_mask_f (k1 : BitVec 64) (k2 : Int) (k3 k4 k5 : BitVec 64) (iv : BitVec 32) (S : Option Addr) (m d : Nat) (sd : List (BitVec 8)) (w : World) (hb0 : RdB w S sd) (hm : sd.length = m) (h7 : 7 ≤ m) (hl : m ≤ 1048576) (hd : m ≤ d) :
    Calls Try.prog 54 #[.agg #[.int .u64 (W64 k1), .int .i64 k2, .int .u64 (W64 k3), .int .u64 (W64 k4), .int .u64 (W64 k5)], .int .u32 (W32 iv), .slice S m d] w (fun e w' => e = .returned (.agg (bcells (maskL ⟨k1, k2, k3, k4, k5⟩ iv sd)).toArray) ∧ Below w.heap.size w w') := by
  obtain ⟨lv, hlv⟩ : ∃ x, leVal (sd.take 7) = x := ⟨_, rfl⟩
  have TK := Lib.hid (fun W g (h : Rd W (some ⟨g, 0, none⟩) [.int .i64 7]) (hb : RdB W S sd) => take7 (d := d) hm h7 hl hd hb h)
  obtain ⟨mx, hmx⟩ : ∃ x, derive k4 (lbytes lblHide) [iv.setWidth 64, lv] = x := ⟨_, rfl⟩
  have hmk : maskL ⟨k1, k2, k3, k4, k5⟩ iv sd = numB 6 mx := by unfold maskL maskX; dsimp only; rw [hlv, hmx]
  rw [hlv] at TK
  rw [hmk]
  have DV := Lib.hid (fun W g (h : RdU W (some ⟨g, 0, none⟩) [iv.setWidth 64, lv]) => der_n k4 ⟨#[104, 105, 100, 101]⟩ (some ⟨g, 0, none⟩) 2 2 [iv.setWidth 64, lv] mx hmx rfl W h (by decide) (by decide))
  clear hlv hmx hmk hm h7 hl hd
  go_enter Try.func54, Try.ntmps54
  go_wp2_with (first | (with_reducible refine stop_store ?_) | (with_reducible refine stop_box ?_) | (with_reducible refine stop_alloc ?_) | (with_reducible refine stop_bslice ?_))
  unfold Kept
  refine go_mem (ty := 25) (cs := #[.int .u64 (W64 k1), .int .i64 k2, .int .u64 (W64 k3), .int .u64 (W64 k4), .int .u64 (W64 k5)]) (fun g => .pointer (some ⟨g, 0, none⟩)) rfl (by kernel_rfl) ?_
  intro g_1 w_2 z_6 l_5 hb_3 G_4
  have n_7 : w.heap.size ≤ g_1 := l_5
  have hB := hb_3
  clear hb_3 l_5 z_6
  go_wp2_with (first | (with_reducible refine stop_store ?_) | (with_reducible refine stop_box ?_) | (with_reducible refine stop_alloc ?_) | (with_reducible refine stop_bslice ?_))
  unfold Kept
  refine go_mem (ty := 73) (cs := #[.int .u8 0, .int .u8 0, .int .u8 0, .int .u8 0, .int .u8 0, .int .u8 0]) (fun g => .pointer (some ⟨g, 0, none⟩)) rfl (by kernel_rfl) ?_
  intro g_8 w_9 z_13 l_12 hb_10 G_11
  have n_14 : g_1 < g_8 := Nat.lt_of_lt_of_le G_4.lt l_12
  have n_15 : w.heap.size ≤ g_8 := Nat.le_trans hB.size l_12
  replace G_4 := G_4.to hb_10 G_4.lt
  replace hB := hB.trans (hb_10.mono hB.size)
  clear hb_10 l_12 z_13
  go_wp2_with (first | (with_reducible refine stop_store ?_) | (with_reducible refine stop_box ?_) | (with_reducible refine stop_alloc ?_) | (with_reducible refine stop_bslice ?_))
  unfold Kept
  refine go_mem (ty := 3) (cs := #[.int .i64 7]) (fun g => .slice (some ⟨g, 0, none⟩) 1 1) rfl (by kernel_rfl) ?_
  intro g_16 w_17 z_21 l_20 hb_18 G_19
  have n_22 : g_8 < g_16 := Nat.lt_of_lt_of_le G_11.lt l_20
  have n_23 : w.heap.size ≤ g_16 := Nat.le_trans hB.size l_20
  replace G_4 := G_4.to hb_18 G_4.lt
  replace G_11 := G_11.to hb_18 G_11.lt
  replace hB := hB.trans (hb_18.mono hB.size)
  clear hb_18 l_20 z_21
  go_wp2_with (first | (with_reducible refine stop_store ?_) | (with_reducible refine stop_box ?_) | (with_reducible refine stop_alloc ?_) | (with_reducible refine stop_bslice ?_))
  refine (TK.out _ _ (rd_blk G_19) (Rd.to hb0 hB)).mono ?_; rintro e w_24 ⟨q, qo, c1, A2, n2, c2, rfl, RQ, hb_25⟩
  replace G_4 := G_4.to hb_25 G_4.lt
  replace G_11 := G_11.to hb_25 G_11.lt
  replace G_19 := G_19.to hb_25 G_19.lt
  replace hB := hB.trans (hb_25.mono hB.size)
  clear hb_25
  go_wp2_with (first | (with_reducible refine stop_store ?_) | (with_reducible refine stop_box ?_) | (with_reducible refine stop_alloc ?_) | (with_reducible refine stop_bslice ?_))
  have hst : Stable fun W => Below w.heap.size w W ∧ Blk W g_1 25 #[.int .u64 (W64 k1), .int .i64 k2, .int .u64 (W64 k3), .int .u64 (W64 k4), .int .u64 (W64 k5)] ∧ Blk W g_8 73 #[.int .u8 0, .int .u8 0, .int .u8 0, .int .u8 0, .int .u8 0, .int .u8 0] ∧ Blk W g_16 3 #[.int .i64 7] ∧ Rg q qo [.int .u64 (W64 lv)] W := stable_and (stable_below _ _ (Nat.le_refl _)) (stable_and (stable_blk _ _ _) (stable_and (stable_blk _ _ _) (stable_and (stable_blk _ _ _) (stable_rg _ _ _))))
  refine wp_region_v _ 10 hst ⟨hB.drew, G_4, G_11, G_19, RQ⟩ ?_
  clear hB G_4 G_11 G_19 RQ
  refine wpU_take (v := ?_) 0 hst (fun _ h => h) rfl ?_ ?_; rotate_left; (intro W hS K hK; clear hS; go_simp; exact hK.out _ (Below.refl _ _)); simp only [Act.put, List.setIfInBounds_toArray, List.set_cons_zero, List.set_cons_succ]
  refine wpU_take (v := ?_) 1 hst (fun _ h => h) rfl ?_ ?_; rotate_left; (intro W hS K hK; have ld : W.cell? ⟨g_1, 3, none⟩ = some (.int .u64 (W64 k4)) := hS.2.1.cell 3; clear hS; go_simp; exact hK.out _ (Below.refl _ _)); simp only [Act.put, List.setIfInBounds_toArray, List.set_cons_zero, List.set_cons_succ]
  refine wpU_take (v := ?_) 2 hst (fun _ h => h) rfl ?_ ?_; rotate_left; (intro W hS K hK; clear hS; go_simp; exact hK.out _ (Below.refl _ _)); simp only [Act.put, List.setIfInBounds_toArray, List.set_cons_zero, List.set_cons_succ]
  refine wpU_take (v := ?_) 3 hst (fun _ h => h) rfl ?_ ?_; rotate_left; (intro W hS K hK; clear hS; go_simp; exact hK.out _ (Below.refl _ _)); simp only [Act.put, List.setIfInBounds_toArray, List.set_cons_zero, List.set_cons_succ]
  refine wpU_take (v := ?_) 4 hst (fun _ h => h) rfl ?_ ?_; rotate_left; (intro W hS K hK; clear hS; go_simp; exact hK.out _ (Below.refl _ _)); simp only [Act.put, List.setIfInBounds_toArray, List.set_cons_zero, List.set_cons_succ]
  refine wpU_take (v := ?_) 5 hst (fun _ h => h) rfl ?_ ?_; rotate_left; (intro W hS K hK; clear hS; go_simp; exact hK.out _ (Below.refl _ _)); simp only [Act.put, List.setIfInBounds_toArray, List.set_cons_zero, List.set_cons_succ]
  refine wpU_take (v := ?_) 6 hst (fun _ h => h) rfl ?_ ?_; rotate_left; (intro W hS K hK; have ld : W.cell? ⟨q, qo, none⟩ = some (.int .u64 (W64 lv)) := hS.2.2.2.2.2 0 _ rfl; clear hS; go_simp; exact hK.out _ (Below.refl _ _)); simp only [Act.put, List.setIfInBounds_toArray, List.set_cons_zero, List.set_cons_succ]
  refine wpV_new 7 hst rfl ?_; intro W hS K hK
  have l2_7_g_1 : g_1 < W.heap.size := hS.2.1.lt
  have l2_7_g_8 : g_8 < W.heap.size := hS.2.2.1.lt
  have l2_7_g_16 : g_16 < W.heap.size := hS.2.2.2.1.lt
  have n2_7a : w.heap.size ≤ W.heap.size := hS.1.size
  clear hS
  go_simp
  refine hK.out (fun W' => Blk W' W.heap.size 22 #[.int .u64 (W64 (iv.setWidth 64)), .int .u64 (W64 lv)]) _ _ (stable_blk _ _ _) ((Below.refl _ _).alloc (Nat.le_refl _) _) (Blk.new _ _ _) (fun hst => ?_)
  clear hK K
  try simp only [Act.put, List.setIfInBounds_toArray, List.set_cons_zero, List.set_cons_succ]
  generalize W.heap.size = g2_7 at hst l2_7_g_1 l2_7_g_8 l2_7_g_16 n2_7a ⊢
  clear W
  refine wpU_take (v := ?_) 8 hst (fun _ h => h) rfl ?_ ?_; rotate_left; (intro W hS K hK; go_simp; refine (DV.out _ _ (rd_blk hS.2)).mono ?_; rintro e w9 ⟨rfl, hb⟩; refine CallPost.mk ?_; exact hK.out _ (hb)); simp only [Act.put, List.setIfInBounds_toArray, List.set_cons_zero, List.set_cons_succ]
  refine wpU_take (v := ?_) 9 hst (fun _ h => h) rfl ?_ ?_; rotate_left; (intro W hS K hK; clear hS; go_simp; exact hK.out _ (Below.refl _ _)); simp only [Act.put, List.setIfInBounds_toArray, List.set_cons_zero, List.set_cons_succ]
  refine wpU_done (fun w_26 hS => ?_)
  obtain ⟨⟨hB, G_4, G_11, G_19, RQ⟩, G2_7⟩ := hS
  clear hst
  go_wp2_with (first | (with_reducible refine stop_store ?_) | (with_reducible refine stop_box ?_) | (with_reducible refine stop_alloc ?_) | (with_reducible refine stop_bslice ?_))
  unfold Kept
  refine go_mem (ty := 73) (cs := #[.int .u8 0, .int .u8 0, .int .u8 0, .int .u8 0, .int .u8 0, .int .u8 0]) (fun g => .pointer (some ⟨g, 0, none⟩)) rfl (by kernel_rfl) ?_
  intro g_27 w_28 z_32 l_31 hb_29 G_30
  have n_33 : g2_7 < g_27 := Nat.lt_of_lt_of_le G2_7.lt l_31
  have n_34 : w.heap.size ≤ g_27 := Nat.le_trans hB.size l_31
  replace G_4 := G_4.to hb_29 G_4.lt
  replace G_11 := G_11.to hb_29 G_11.lt
  replace G_19 := G_19.to hb_29 G_19.lt
  replace G2_7 := G2_7.to hb_29 G2_7.lt
  replace RQ := Rg.to RQ hb_29
  replace hB := hB.trans (hb_29.mono hB.size)
  clear hb_29 l_31 z_32
  go_wp2_with (first | (with_reducible refine stop_store ?_) | (with_reducible refine stop_box ?_) | (with_reducible refine stop_alloc ?_) | (with_reducible refine stop_bslice ?_))
  refine wp_loop_rounds 7 ?_
  rw [rounds_succ]
  go_wp2_with (first | (with_reducible refine stop_store ?_) | (with_reducible refine stop_box ?_) | (with_reducible refine stop_alloc ?_) | (with_reducible refine stop_bslice ?_))
  unfold Kept
  refine wpList_st1 0 (.int .u8 (W8 (BitVec.setWidth 8 mx))) #[.int .u8 (W8 (BitVec.setWidth 8 mx)), .int .u8 0, .int .u8 0, .int .u8 0, .int .u8 0, .int .u8 0] G_30 rfl rfl rfl (by kernel_rfl) rfl (of_decide_eq_true rfl) rfl ?_
  intro w_35 G_37 hU_36
  replace G_4 := hU_36.blk G_4 (by omega)
  replace G_11 := hU_36.blk G_11 (by omega)
  replace G_19 := hU_36.blk G_19 (by omega)
  replace G2_7 := hU_36.blk G2_7 (by omega)
  clear RQ
  replace hB := hU_36.below hB (by omega)
  clear G_30 hU_36
  go_wp2_with (first | (with_reducible refine stop_store ?_) | (with_reducible refine stop_box ?_) | (with_reducible refine stop_alloc ?_) | (with_reducible refine stop_bslice ?_))
  rw [rounds_succ]
  go_wp2_with (first | (with_reducible refine stop_store ?_) | (with_reducible refine stop_box ?_) | (with_reducible refine stop_alloc ?_) | (with_reducible refine stop_bslice ?_))
  unfold Kept
  refine wpList_st1 1 (.int .u8 (W8 (BitVec.setWidth 8 (mx >>> 8)))) #[.int .u8 (W8 (BitVec.setWidth 8 mx)), .int .u8 (W8 (BitVec.setWidth 8 (mx >>> 8))), .int .u8 0, .int .u8 0, .int .u8 0, .int .u8 0] G_37 rfl rfl rfl (by kernel_rfl) rfl (of_decide_eq_true rfl) rfl ?_
  intro w_38 G_40 hU_39
  replace G_4 := hU_39.blk G_4 (by omega)
  replace G_11 := hU_39.blk G_11 (by omega)
  replace G_19 := hU_39.blk G_19 (by omega)
  replace G2_7 := hU_39.blk G2_7 (by omega)
  replace hB := hU_39.below hB (by omega)
  clear G_37 hU_39
  go_wp2_with (first | (with_reducible refine stop_store ?_) | (with_reducible refine stop_box ?_) | (with_reducible refine stop_alloc ?_) | (with_reducible refine stop_bslice ?_))
  rw [rounds_succ]
  go_wp2_with (first | (with_reducible refine stop_store ?_) | (with_reducible refine stop_box ?_) | (with_reducible refine stop_alloc ?_) | (with_reducible refine stop_bslice ?_))
  unfold Kept
  refine wpList_st1 2 (.int .u8 (W8 (BitVec.setWidth 8 (mx >>> 16)))) #[.int .u8 (W8 (BitVec.setWidth 8 mx)), .int .u8 (W8 (BitVec.setWidth 8 (mx >>> 8))), .int .u8 (W8 (BitVec.setWidth 8 (mx >>> 16))), .int .u8 0, .int .u8 0, .int .u8 0] G_40 rfl rfl rfl (by kernel_rfl) rfl (of_decide_eq_true rfl) rfl ?_
  intro w_41 G_43 hU_42
  replace G_4 := hU_42.blk G_4 (by omega)
  replace G_11 := hU_42.blk G_11 (by omega)
  replace G_19 := hU_42.blk G_19 (by omega)
  replace G2_7 := hU_42.blk G2_7 (by omega)
  replace hB := hU_42.below hB (by omega)
  clear G_40 hU_42
  go_wp2_with (first | (with_reducible refine stop_store ?_) | (with_reducible refine stop_box ?_) | (with_reducible refine stop_alloc ?_) | (with_reducible refine stop_bslice ?_))
  rw [rounds_succ]
  go_wp2_with (first | (with_reducible refine stop_store ?_) | (with_reducible refine stop_box ?_) | (with_reducible refine stop_alloc ?_) | (with_reducible refine stop_bslice ?_))
  unfold Kept
  refine wpList_st1 3 (.int .u8 (W8 (BitVec.setWidth 8 (mx >>> 24)))) #[.int .u8 (W8 (BitVec.setWidth 8 mx)), .int .u8 (W8 (BitVec.setWidth 8 (mx >>> 8))), .int .u8 (W8 (BitVec.setWidth 8 (mx >>> 16))), .int .u8 (W8 (BitVec.setWidth 8 (mx >>> 24))), .int .u8 0, .int .u8 0] G_43 rfl rfl rfl (by kernel_rfl) rfl (of_decide_eq_true rfl) rfl ?_
  intro w_44 G_46 hU_45
  replace G_4 := hU_45.blk G_4 (by omega)
  replace G_11 := hU_45.blk G_11 (by omega)
  replace G_19 := hU_45.blk G_19 (by omega)
  replace G2_7 := hU_45.blk G2_7 (by omega)
  replace hB := hU_45.below hB (by omega)
  clear G_43 hU_45
  go_wp2_with (first | (with_reducible refine stop_store ?_) | (with_reducible refine stop_box ?_) | (with_reducible refine stop_alloc ?_) | (with_reducible refine stop_bslice ?_))
  rw [rounds_succ]
  go_wp2_with (first | (with_reducible refine stop_store ?_) | (with_reducible refine stop_box ?_) | (with_reducible refine stop_alloc ?_) | (with_reducible refine stop_bslice ?_))
  unfold Kept
  refine wpList_st1 4 (.int .u8 (W8 (BitVec.setWidth 8 (mx >>> 32)))) #[.int .u8 (W8 (BitVec.setWidth 8 mx)), .int .u8 (W8 (BitVec.setWidth 8 (mx >>> 8))), .int .u8 (W8 (BitVec.setWidth 8 (mx >>> 16))), .int .u8 (W8 (BitVec.setWidth 8 (mx >>> 24))), .int .u8 (W8 (BitVec.setWidth 8 (mx >>> 32))), .int .u8 0] G_46 rfl rfl rfl (by kernel_rfl) rfl (of_decide_eq_true rfl) rfl ?_
  intro w_47 G_49 hU_48
  replace G_4 := hU_48.blk G_4 (by omega)
  replace G_11 := hU_48.blk G_11 (by omega)
  replace G_19 := hU_48.blk G_19 (by omega)
  replace G2_7 := hU_48.blk G2_7 (by omega)
  replace hB := hU_48.below hB (by omega)
  clear G_46 hU_48
  go_wp2_with (first | (with_reducible refine stop_store ?_) | (with_reducible refine stop_box ?_) | (with_reducible refine stop_alloc ?_) | (with_reducible refine stop_bslice ?_))
  rw [rounds_succ]
  go_wp2_with (first | (with_reducible refine stop_store ?_) | (with_reducible refine stop_box ?_) | (with_reducible refine stop_alloc ?_) | (with_reducible refine stop_bslice ?_))
  unfold Kept
  refine wpList_st1 5 (.int .u8 (W8 (BitVec.setWidth 8 (mx >>> 40)))) #[.int .u8 (W8 (BitVec.setWidth 8 mx)), .int .u8 (W8 (BitVec.setWidth 8 (mx >>> 8))), .int .u8 (W8 (BitVec.setWidth 8 (mx >>> 16))), .int .u8 (W8 (BitVec.setWidth 8 (mx >>> 24))), .int .u8 (W8 (BitVec.setWidth 8 (mx >>> 32))), .int .u8 (W8 (BitVec.setWidth 8 (mx >>> 40)))] G_49 rfl rfl rfl (by kernel_rfl) rfl (of_decide_eq_true rfl) rfl ?_
  intro w_50 G_52 hU_51
  replace G_4 := hU_51.blk G_4 (by omega)
  replace G_11 := hU_51.blk G_11 (by omega)
  replace G_19 := hU_51.blk G_19 (by omega)
  replace G2_7 := hU_51.blk G2_7 (by omega)
  replace hB := hU_51.below hB (by omega)
  clear G_49 hU_51
  go_wp2_with (first | (with_reducible refine stop_store ?_) | (with_reducible refine stop_box ?_) | (with_reducible refine stop_alloc ?_) | (with_reducible refine stop_bslice ?_))
  rw [rounds_succ]
  go_wp2_with (first | (with_reducible refine stop_store ?_) | (with_reducible refine stop_box ?_) | (with_reducible refine stop_alloc ?_) | (with_reducible refine stop_bslice ?_) | ((with_reducible refine wpList_ld 0 [.int .u8 (W8 (BitVec.setWidth 8 mx)), .int .u8 (W8 (BitVec.setWidth 8 (mx >>> 8))), .int .u8 (W8 (BitVec.setWidth 8 (mx >>> 16))), .int .u8 (W8 (BitVec.setWidth 8 (mx >>> 24))), .int .u8 (W8 (BitVec.setWidth 8 (mx >>> 32))), .int .u8 (W8 (BitVec.setWidth 8 (mx >>> 40)))] G_52 ?_ ?_ Try.underlying73 ?_ ?_ ?_); rfl; rfl; rfl; kernel_rfl))
  unfold Kept
  refine wpList_st 0 #[.int .u8 (W8 (BitVec.setWidth 8 mx)), .int .u8 (W8 (BitVec.setWidth 8 (mx >>> 8))), .int .u8 (W8 (BitVec.setWidth 8 (mx >>> 16))), .int .u8 (W8 (BitVec.setWidth 8 (mx >>> 24))), .int .u8 (W8 (BitVec.setWidth 8 (mx >>> 32))), .int .u8 (W8 (BitVec.setWidth 8 (mx >>> 40)))] #[.int .u8 (W8 (BitVec.setWidth 8 mx)), .int .u8 (W8 (BitVec.setWidth 8 (mx >>> 8))), .int .u8 (W8 (BitVec.setWidth 8 (mx >>> 16))), .int .u8 (W8 (BitVec.setWidth 8 (mx >>> 24))), .int .u8 (W8 (BitVec.setWidth 8 (mx >>> 32))), .int .u8 (W8 (BitVec.setWidth 8 (mx >>> 40)))] G_11 rfl rfl (by kernel_rfl) rfl (of_decide_eq_true rfl) rfl ?_
  intro w_54 G_56 hU_55
  replace G_4 := hU_55.blk G_4 (by omega)
  replace G_19 := hU_55.blk G_19 (by omega)
  replace G2_7 := hU_55.blk G2_7 (by omega)
  replace G_52 := hU_55.blk G_52 (by omega)
  replace hB := hU_55.below hB (by omega)
  clear G_11 hU_55
  go_wp2_with (first | (with_reducible refine stop_store ?_) | (with_reducible refine stop_box ?_) | (with_reducible refine stop_alloc ?_) | (with_reducible refine stop_bslice ?_))
  refine bodyPost_ret (results_cell rfl rfl (load_blk G_56 Try.underlying73 rfl (by kernel_rfl))) rfl ?_
  exact ⟨rfl, hB⟩
theorem xor_at {f : Nat} {A B : Option Addr} {c d n m : Nat} {a b : List (BitVec 8)} {W : World} {R : Ending → World → Prop} (h : Calls Try.prog f #[.slice A a.length c, .slice B b.length d] W R) (hn : a.length = n) (hm : b.length = m) : Calls Try.prog f #[.slice A n c, .slice B m d] W R := by
  subst hn
  subst hm
  exact h
set_option maxHeartbeats 4000000 in
theorem r48_hide_f (k1 : BitVec 64) (k2 : Int) (k3 k4 k5 : BitVec 64) (iv : BitVec 32) (S2 : Option Addr) (c2 : Nat) (op : List (BitVec 8)) (S : Option Addr) (m d : Nat) (sd : List (BitVec 8)) (w : World) (ho0 : RdB w S2 op) (ho6 : op.length = 6) (hs0 : RdB w S sd) (hm : sd.length = m) (h7 : 7 ≤ m) (hl : m ≤ 1048576) (hd : m ≤ d) :
    Calls Try.prog 56 #[.agg #[.int .u64 (W64 k1), .int .i64 k2, .int .u64 (W64 k3), .int .u64 (W64 k4), .int .u64 (W64 k5)], .int .u32 (W32 iv), .slice S2 6 c2, .slice S m d] w (RetB w (xorB op (maskL ⟨k1, k2, k3, k4, k5⟩ iv sd))) := by
  obtain ⟨lv, hlv⟩ : ∃ x, leVal (sd.take 7) = x := ⟨_, rfl⟩
  have CV := Lib.hid (fun W (h : RdB W S sd) => show Calls Try.prog 57 #[.slice S 7 d] W fun e w' => e = .returned (.int .u64 (W64 lv)) ∧ W = w' from by
    have hl7 : (sd.take 7).length = 7 := by rw [List.length_take]; omega
    have := ref2_Value S d (sd.take 7) W (RdB.take h 7) (by rw [hl7]; decide)
    rw [hl7, hlv] at this
    exact this)
  obtain ⟨mx, hmx⟩ : ∃ x, derive k4 (lbytes lblHide) [iv.setWidth 64, lv] = x := ⟨_, rfl⟩
  have hmk : maskL ⟨k1, k2, k3, k4, k5⟩ iv sd = numB 6 mx := by unfold maskL maskX; dsimp only; rw [hlv, hmx]
  rw [hmk]
  have DV := Lib.hid (fun W g (h : RdU W (some ⟨g, 0, none⟩) [iv.setWidth 64, lv]) => rder_n k4 ⟨#[104, 105, 100, 101]⟩ (some ⟨g, 0, none⟩) 2 2 [iv.setWidth 64, lv] mx hmx rfl W h (by decide) (by decide))
  have q7 : (7 : Int) ≤ (d : Int) := by omega
  clear hlv hmx hmk hm h7 hl hd
  go_enter Try.func56, Try.ntmps56
  go_wp2_with (first | (with_reducible refine stop_store ?_) | (with_reducible refine stop_box ?_) | (with_reducible refine stop_alloc ?_) | (with_reducible refine stop_bslice ?_))
  unfold Kept
  refine go_mem (ty := 25) (cs := #[.int .u64 (W64 k1), .int .i64 k2, .int .u64 (W64 k3), .int .u64 (W64 k4), .int .u64 (W64 k5)]) (fun g => .pointer (some ⟨g, 0, none⟩)) rfl (by kernel_rfl) ?_
  intro g_1 w_2 z_6 l_5 hb_3 G_4
  have n_7 : w.heap.size ≤ g_1 := l_5
  have hB := hb_3
  clear hb_3 l_5 z_6
  go_wp2_with (first | (with_reducible refine stop_store ?_) | (with_reducible refine stop_box ?_) | (with_reducible refine stop_alloc ?_) | (with_reducible refine stop_bslice ?_))
  have hst : Stable fun W => Below w.heap.size w W ∧ Blk W g_1 25 #[.int .u64 (W64 k1), .int .i64 k2, .int .u64 (W64 k3), .int .u64 (W64 k4), .int .u64 (W64 k5)] := stable_and (stable_below _ _ (Nat.le_refl _)) (stable_blk _ _ _)
  refine wp_region_v _ 10 hst ⟨hB.drew, G_4⟩ ?_
  clear hB G_4
  refine wpU_take (v := ?_) 0 hst (fun _ h => h) rfl ?_ ?_; rotate_left; (intro W hS K hK; clear hS; go_simp; exact hK.out _ (Below.refl _ _)); simp only [Act.put, List.setIfInBounds_toArray, List.set_cons_zero, List.set_cons_succ]
  refine wpU_take (v := ?_) 1 hst (fun _ h => h) rfl ?_ ?_; rotate_left; (intro W hS K hK; have ld : W.cell? ⟨g_1, 3, none⟩ = some (.int .u64 (W64 k4)) := hS.2.cell 3; clear hS; go_simp; exact hK.out _ (Below.refl _ _)); simp only [Act.put, List.setIfInBounds_toArray, List.set_cons_zero, List.set_cons_succ]
  refine wpU_take (v := ?_) 2 hst (fun _ h => h) rfl ?_ ?_; rotate_left; (intro W hS K hK; clear hS; go_simp; exact hK.out _ (Below.refl _ _)); simp only [Act.put, List.setIfInBounds_toArray, List.set_cons_zero, List.set_cons_succ]
  refine wpU_take (v := ?_) 3 hst (fun _ h => h) rfl ?_ ?_; rotate_left; (intro W hS K hK; clear hS; go_simp; exact hK.out _ (Below.refl _ _)); simp only [Act.put, List.setIfInBounds_toArray, List.set_cons_zero, List.set_cons_succ]
  refine wpU_take (v := ?_) 4 hst (fun _ h => h) rfl ?_ ?_; rotate_left; (intro W hS K hK; clear hS; go_simp; exact hK.out _ (Below.refl _ _)); simp only [Act.put, List.setIfInBounds_toArray, List.set_cons_zero, List.set_cons_succ]
  refine wpU_take (v := ?_) 5 hst (fun _ h => h) rfl ?_ ?_; rotate_left; (intro W hS K hK; clear hS; go_simp; exact hK.out _ (Below.refl _ _)); simp only [Act.put, List.setIfInBounds_toArray, List.set_cons_zero, List.set_cons_succ]
  refine wpU_take (v := ?_) 6 hst (fun _ h => h) rfl ?_ ?_; rotate_left; (intro W hS K hK; go_simp; refine (CV.out _ (Rd.to hs0 hS.1)).mono ?_; rintro e w9 ⟨rfl, rfl⟩; refine CallPost.mk ?_; exact hK.out _ (Below.refl _ _)); simp only [Act.put, List.setIfInBounds_toArray, List.set_cons_zero, List.set_cons_succ]
  refine wpV_new 7 hst rfl ?_; intro W hS K hK
  have l1_7_g_1 : g_1 < W.heap.size := hS.2.lt
  have n1_7a : w.heap.size ≤ W.heap.size := hS.1.size
  clear hS
  go_simp
  refine hK.out (fun W' => Blk W' W.heap.size 22 #[.int .u64 (W64 (iv.setWidth 64)), .int .u64 (W64 lv)]) _ _ (stable_blk _ _ _) ((Below.refl _ _).alloc (Nat.le_refl _) _) (Blk.new _ _ _) (fun hst => ?_)
  clear hK K
  try simp only [Act.put, List.setIfInBounds_toArray, List.set_cons_zero, List.set_cons_succ]
  generalize W.heap.size = g1_7 at hst l1_7_g_1 n1_7a ⊢
  clear W
  refine wpU_take (v := ?_) 8 hst (fun _ h => h) rfl ?_ ?_; rotate_left; (intro W hS K hK; go_simp; refine (DV.out _ _ (rd_blk hS.2)).mono ?_; rintro e w9 ⟨rfl, hb⟩; refine CallPost.mk ?_; exact hK.out _ (hb)); simp only [Act.put, List.setIfInBounds_toArray, List.set_cons_zero, List.set_cons_succ]
  refine wpU_take (v := ?_) 9 hst (fun _ h => h) rfl ?_ ?_; rotate_left; (intro W hS K hK; clear hS; go_simp; exact hK.out _ (Below.refl _ _)); simp only [Act.put, List.setIfInBounds_toArray, List.set_cons_zero, List.set_cons_succ]
  refine wpU_done (fun w_8 hS => ?_)
  obtain ⟨⟨hB, G_4⟩, G1_7⟩ := hS
  clear hst
  go_wp2_with (first | (with_reducible refine stop_store ?_) | (with_reducible refine stop_box ?_) | (with_reducible refine stop_alloc ?_) | (with_reducible refine stop_bslice ?_))
  refine (retB_at (ref2_Num 6 mx _ (by decide) (by decide)) (numB_length _ _) hB.size).mono ?_; rintro e w_9 ⟨A2_2, c2_2, rfl, R2_2, hb_10⟩
  replace G_4 := G_4.to hb_10 G_4.lt
  replace G1_7 := G1_7.to hb_10 G1_7.lt
  replace hB := hB.trans (hb_10.mono hB.size)
  clear hb_10
  go_wp2_with (first | (with_reducible refine stop_store ?_) | (with_reducible refine stop_box ?_) | (with_reducible refine stop_alloc ?_) | (with_reducible refine stop_bslice ?_))
  refine (retB_at (xor_at (ref2_Xor S2 A2_2 c2 c2_2 op (numB 6 mx) _ (Rd.to ho0 hB) (Rd.of_own R2_2) (by rw [ho6]; decide) (by rw [numB_length]; decide)) ho6 (numB_length _ _)) (by rw [xorB_length, ho6, numB_length] <;> rfl) hB.size).mono ?_; rintro e w_11 ⟨A2_3, c2_3, rfl, R2_3, hb_12⟩
  replace G_4 := G_4.to hb_12 G_4.lt
  replace G1_7 := G1_7.to hb_12 G1_7.lt
  replace R2_2 := own_to R2_2 hb_12
  replace hB := hB.trans (hb_12.mono hB.size)
  clear hb_12
  go_wp2_with (first | (with_reducible refine stop_store ?_) | (with_reducible refine stop_box ?_) | (with_reducible refine stop_alloc ?_) | (with_reducible refine stop_bslice ?_))
  go_returns
  exact ⟨A2_3, _, by rw [xorB_length, ho6, numB_length]; rfl, by rw [xorB_length, ho6, numB_length]; exact R2_3, hB⟩
end Go.Proofs.Ytbkaeoaepmeceaa
