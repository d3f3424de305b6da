/- The walk of RefreshForward. -/
import Derived.Test.YtmehemojopfihaaRefrF
import Derived.Test.YtmehemojopfihaaRefrH
import Derived.Test.YtmehemojopfihaaRefrP
import Derived.Test.YtmehemojopfihaaRecs
namespace Go.Proofs.Ytmehemojopfihaa
set_option maxRecDepth 100000
open Go.ChangeShapes Go.WideShapes Go.ChangeAt Go.RowKit
set_option linter.unusedVariables false
set_option linter.unusedSimpArgs false

theorem rf_RecvG (k : KS) (W : World) : Calls Try.prog 23 #[.agg (ksA k)] W fun e w' => ∃ b n, W.heap.size ≤ b ∧ 1 ≤ n ∧ n ≤ 2 ∧ e = .returned (.slice (some ⟨b, 0, none⟩) n n) ∧ Rg b 0 (nkA (sendK k)).toList w' ∧ Below W.heap.size W w' := by
  obtain ⟨l, hl⟩ := recv_head k
  refine (rf_RecvB k _ _ rfl rfl W).mono ?_
  rintro e w' ⟨b, h1, rfl, h2, h3⟩
  refine ⟨b, _, h1, (recv_len k).1, (recv_len k).2, rfl, ⟨h2.lt, fun j v hj => ?_⟩, h3⟩
  have hc := h2.cell j
  rw [Nat.zero_add, hc, hl]
  unfold nksL
  rw [List.flatMap_cons]
  have hjl : j < (nkA (sendK k)).toList.length := by
    rcases Nat.lt_or_ge j (nkA (sendK k)).toList.length with h | h
    · exact h
    · rw [List.getElem?_eq_none h] at hj; cases hj
  rw [List.getElem?_toArray, List.getElem?_append_left hjl]
  exact hj
set_option maxHeartbeats 16000000 in
theorem law_RefreshForward_s (index : BitVec 32) (first : BitVec 64) (A : Option Addr) (c : Nat) (ls : List R_op52) (w : World) (hr : Rd w A (ls.flatMap R_op52.cells)) (hok : ∀ r ∈ ls, r.ok w) (hc : ls.length ≤ c) (hl : ls.length ≤ 200) :
    Calls Try.prog 10 #[.int .u32 (W32 index), .int .u64 (W64 first), .slice A ls.length c] w fun e w' => e = .returned (.bool true) ∧ Below w.heap.size w w' := by
  obtain ⟨⟨d1, d2, d3, d4, d5⟩, hd⟩ : ∃ z, nkD first = z := ⟨_, rfl⟩
  have CD := Lib.hid (show ∀ W, Calls Try.prog 46 #[.int .u64 (W64 first)] W fun e w' => e = .returned (.agg #[.int .u64 (W64 d1), .int .i64 d2, .int .u64 (W64 d3), .int .u64 (W64 d4), .int .u64 (W64 d5)]) ∧ Below W.heap.size W w' from fun W => by
    have := mesh_Derive first W
    have hh : nkA (nkD first) = #[.int .u64 (W64 d1), .int .i64 d2, .int .u64 (W64 d3), .int .u64 (W64 d4), .int .u64 (W64 d5)] := by rw [hd]; rfl
    unfold nkA nkD at hh
    dsimp only at hh
    rw [hh] at this
    exact this)
  have HROW := Lib.hid hr
  have HOK := Lib.hid hok
  have HC := Lib.hid hc
  clear hr hok hc hd
  have i0 : decide ((200 : Int) < ((ls.length : Nat) : Int)) = false := by simp; omega
  go_enter Try.func10, Try.ntmps10
  go_wp2_with (first | (with_reducible refine stop_store ?_) | (with_reducible refine stop_box ?_) | (with_reducible refine stop_alloc ?_) | (with_reducible refine stop_bslice ?_))
  refine (CD.out _).mono ?_; rintro e w_1 ⟨rfl, hb_2⟩
  have hB := hb_2
  clear hb_2
  go_wp2_with (first | (with_reducible refine stop_store ?_) | (with_reducible refine stop_box ?_) | (with_reducible refine stop_alloc ?_) | (with_reducible refine stop_bslice ?_))
  unfold Kept
  refine go_mem (ty := 27) (cs := #[.int .i64 0, .int .u64 0, .int .i64 0, .int .u64 0, .int .u64 0, .int .u64 0, .int .u64 0, .int .i64 0, .int .u64 0, .int .u64 0, .int .u64 0]) (fun g => .pointer (some ⟨g, 0, none⟩)) rfl (by kernel_rfl) ?_
  intro g_3 w_4 z_8 l_7 hb_5 G_6
  have n_9 : w.heap.size ≤ g_3 := Nat.le_trans hB.size l_7
  replace hB := hB.trans (hb_5.mono hB.size)
  clear hb_5 l_7 z_8
  go_wp2_with (first | (with_reducible refine stop_store ?_) | (with_reducible refine stop_box ?_) | (with_reducible refine stop_alloc ?_) | (with_reducible refine stop_bslice ?_))
  unfold Kept
  refine go_mem (ty := 59) (cs := #[.int .u32 0, .bool false, .int .i64 0]) (fun g => .pointer (some ⟨g, 0, none⟩)) rfl (by kernel_rfl) ?_
  intro g_10 w_11 z_15 l_14 hb_12 G_13
  have n_16 : g_3 < g_10 := Nat.lt_of_lt_of_le G_6.lt l_14
  have n_17 : w.heap.size ≤ g_10 := Nat.le_trans hB.size l_14
  replace G_6 := G_6.to hb_12 G_6.lt
  replace hB := hB.trans (hb_12.mono hB.size)
  clear hb_12 l_14 z_15
  go_wp2_with (first | (with_reducible refine stop_store ?_) | (with_reducible refine stop_box ?_) | (with_reducible refine stop_alloc ?_) | (with_reducible refine stop_bslice ?_))
  unfold Kept
  refine wpList_st 0 #[.int .i64 0, .int .u64 (W64 d1), .int .i64 d2, .int .u64 (W64 d3), .int .u64 (W64 d4), .int .u64 (W64 d5), .int .u64 0, .int .i64 0, .int .u64 0, .int .u64 0, .int .u64 0] #[.int .i64 0, .int .u64 (W64 d1), .int .i64 d2, .int .u64 (W64 d3), .int .u64 (W64 d4), .int .u64 (W64 d5), .int .u64 0, .int .i64 0, .int .u64 0, .int .u64 0, .int .u64 0] G_6 rfl rfl (by kernel_rfl) rfl (of_decide_eq_true rfl) rfl ?_
  intro w_18 G_20 hU_19
  replace G_13 := hU_19.blk G_13 (by omega)
  replace hB := hU_19.below hB (by omega)
  clear G_6 hU_19
  go_wp2_with (first | (with_reducible refine stop_store ?_) | (with_reducible refine stop_box ?_) | (with_reducible refine stop_alloc ?_) | (with_reducible refine stop_bslice ?_))
  unfold Kept
  refine wpList_st 0 #[.int .u32 (W32 index), .bool false, .int .i64 0] #[.int .u32 (W32 index), .bool false, .int .i64 0] G_13 rfl rfl (by kernel_rfl) rfl (of_decide_eq_true rfl) rfl ?_
  intro w_21 G_23 hU_22
  replace G_20 := hU_22.blk G_20 (by omega)
  replace hB := hU_22.below hB (by omega)
  clear G_13 hU_22
  go_wp2_with (first | (with_reducible refine stop_store ?_) | (with_reducible refine stop_box ?_) | (with_reducible refine stop_alloc ?_) | (with_reducible refine stop_bslice ?_))
  try simp only [Act.put, List.setIfInBounds_toArray, List.set_cons_zero, List.set_cons_succ]
  go_loopw [10, 9] (fun i nw wr => ∃ (j : Nat) (k : KS) (v : IV) (now : Int), j ≤ ls.length ∧ i = .int .i64 j ∧ nw = .int .i64 now ∧ 0 ≤ v.since ∧ v.since ≤ now ∧ now ≤ 1099511627776 ∧ Below w.heap.size w wr ∧ Blk wr g_3 27 (ksA k) ∧ Blk wr g_10 59 (ivA v) ∧ g_3 < g_10) (fun i _ _ => ls.length - (intOf i).toNat)
  case atStart => exact ⟨0, ⟨0, ⟨d1, d2, d3, d4, d5⟩, nk0⟩, ⟨index, false, 0⟩, 0, Nat.zero_le _, rfl, rfl, Int.le_refl _, Int.le_refl _, by omega, hB, G_20, G_23, n_16⟩
  case round =>
    clear G_20 G_23 hB
    obtain ⟨j, k, v, now, hj0, rfl, rfl, s0, s1, s2, hB, G7, G8, hn⟩ := hrel
    obtain ⟨ph, ⟨a1, a2, a3, a4, a5⟩, ⟨b1, b2, b3, b4, b5⟩⟩ := k
    obtain ⟨vi, vu, vs⟩ := v
    dsimp only at s0 s1 G7 G8
    by_cases hlt : j < ls.length
    ·
      obtain ⟨y, hy⟩ : ∃ y, ls[j] = y := ⟨_, rfl⟩
      obtain ⟨bk, off, rfl, hrow⟩ := srow_open R_op52.len (by decide) HROW.out j hlt
      rw [hy] at hrow
      obtain ⟨kd, nu, ky, br, bu, bi, no⟩ := y
      have HE := Lib.hid hrow
      have i1 : decide ((j : Int) < ((ls.length : Nat) : Int)) = true := by simp; exact hlt
      have i2 : decide (j < ls.length) = true := decide_eq_true hlt
      clear hrow hy
      go_wp2_with (first | (with_reducible refine stop_store ?_) | (with_reducible refine stop_box ?_) | (with_reducible refine stop_alloc ?_) | (with_reducible refine stop_bslice ?_))
      try simp only [Act.put, List.setIfInBounds_toArray, List.set_cons_zero, List.set_cons_succ]
      go_cut [11, 12] from 142 (fun v11 v12 WX => ∃ (g8_5 : Nat) (g8_6 : Nat), v11 = .pointer (some ⟨g8_5, 0, none⟩) ∧ v12 = .pointer (some ⟨g8_6, 0, none⟩) ∧ w.heap.size ≤ g8_5 ∧ w.heap.size ≤ g8_6 ∧ g_3 < g8_5 ∧ g_10 < g8_5 ∧ g_3 < g8_6 ∧ g_10 < g8_6 ∧ g8_5 ≠ g8_6 ∧ Below w.heap.size w WX ∧ Blk WX g_3 27 #[.int .i64 ph, .int .u64 (W64 a1), .int .i64 a2, .int .u64 (W64 a3), .int .u64 (W64 a4), .int .u64 (W64 a5), .int .u64 (W64 b1), .int .i64 b2, .int .u64 (W64 b3), .int .u64 (W64 b4), .int .u64 (W64 b5)] ∧ Blk WX g_10 59 #[.int .u32 (W32 vi), .bool vu, .int .i64 vs] ∧ Blk WX g8_5 77 #[.int .i64 kd, .int .i64 nu, .int .u64 (W64 ky), .bool br, .bool bu, .int .u32 (W32 bi), .int .i64 no] ∧ Blk WX g8_6 59 #[.int .u32 (W32 vi), .bool vu, .int .i64 vs])
      case first =>
        have hst : Stable fun W => Below w.heap.size w W ∧ Blk W g_3 27 #[.int .i64 ph, .int .u64 (W64 a1), .int .i64 a2, .int .u64 (W64 a3), .int .u64 (W64 a4), .int .u64 (W64 a5), .int .u64 (W64 b1), .int .i64 b2, .int .u64 (W64 b3), .int .u64 (W64 b4), .int .u64 (W64 b5)] ∧ Blk W g_10 59 #[.int .u32 (W32 vi), .bool vu, .int .i64 vs] := stable_and (stable_below _ _ (Nat.le_refl _)) (stable_and (stable_blk _ _ _) (stable_blk _ _ _))
        refine wp_region_v _ 9 hst ⟨hB.drew, G7, G8⟩ ?_
        clear hB G7 G8
        refine wpU_take (v := ?_) 0 hst (fun _ h => h) rfl ?_ ?_; rotate_left; (intro W hS K hK; clear hS; go_simp; exact hK.out _ (Below.refl _ _)); simp only [Act.put, List.setIfInBounds_toArray, List.set_cons_zero, List.set_cons_succ]
        refine wpU_take (v := ?_) 1 hst (fun _ h => h) rfl ?_ ?_; rotate_left; (intro W hS K hK; clear hS; go_simp; exact hK.out _ (Below.refl _ _)); simp only [Act.put, List.setIfInBounds_toArray, List.set_cons_zero, List.set_cons_succ]
        refine wpU_take (v := ?_) 2 hst (fun _ h => h) rfl ?_ ?_; rotate_left; (intro W hS K hK; clear hS; go_simp; exact hK.out _ (Below.refl _ _)); simp only [Act.put, List.setIfInBounds_toArray, List.set_cons_zero, List.set_cons_succ]
        refine wpU_take (v := .agg #[.int .i64 kd, .int .i64 nu, .int .u64 (W64 ky), .bool br, .bool bu, .int .u32 (W32 bi), .int .i64 no]) 3 hst (fun _ h => h) rfl (fun W hS K hK => calm_load rfl rfl (run_loadVar_mid W bk (off + j * 7) 77 [.int .i64 kd, .int .i64 nu, .int .u64 (W64 ky), .bool br, .bool bu, .int .u32 (W32 bi), .int .i64 no] _ (range_part (HE.out _ hS.1) 0 [.int .i64 kd, .int .i64 nu, .int .u64 (W64 ky), .bool br, .bool bu, .int .u32 (W32 bi), .int .i64 no] rfl) Try.underlying77 rfl (by kernel_rfl)) (hK.out _ (Below.refl _ _))) ?_; simp only [Act.put, List.setIfInBounds_toArray, List.set_cons_zero, List.set_cons_succ]
        refine wpU_take (v := .agg #[.int .u32 (W32 vi), .bool vu, .int .i64 vs]) 4 hst (fun _ h => h) rfl (fun W hS K hK => calm_load rfl rfl (load_part hS.2.2 0 [.int .u32 (W32 vi), .bool vu, .int .i64 vs] rfl Try.underlying59 rfl (by kernel_rfl)) (hK.out _ (Below.refl _ _))) ?_; simp only [Act.put, List.setIfInBounds_toArray, List.set_cons_zero, List.set_cons_succ]
        refine wpV_two 5 6 hst rfl rfl ?_ ?_
        · intro W hS K hK
          have l8_5_g_3 : g_3 < W.heap.size := hS.2.1.lt
          have l8_5_g_10 : g_10 < W.heap.size := hS.2.2.lt
          have n8_5a : w.heap.size ≤ W.heap.size := hS.1.size
          clear hS
          go_simp
          refine hK.out (fun W' => Room W.heap.size 77 7 W') _ _ (stable_room _ _ _) ((Below.refl _ _).alloc (Nat.le_refl _) _) (⟨_, rfl, rfl, Blk.new _ _ _⟩) (fun hst => ?_)
          clear hK K
          try simp only [Act.put, List.setIfInBounds_toArray, List.set_cons_zero, List.set_cons_succ]
          generalize W.heap.size = g8_5 at hst l8_5_g_3 l8_5_g_10 n8_5a ⊢
          clear W
          refine wpV_new 6 hst rfl ?_; intro W hS K hK
          have l8_6_g_3 : g_3 < W.heap.size := hS.1.2.1.lt
          have l8_6_g_10 : g_10 < W.heap.size := hS.1.2.2.lt
          have l8_6_g8_5 : g8_5 < W.heap.size := by obtain ⟨_, _, _, hh⟩ := hS.2; exact hh.lt
          have n8_6a : w.heap.size ≤ W.heap.size := hS.1.1.size
          clear hS
          go_simp
          refine hK.out (fun W' => Room W.heap.size 59 3 W') _ _ (stable_room _ _ _) ((Below.refl _ _).alloc (Nat.le_refl _) _) (⟨_, rfl, rfl, Blk.new _ _ _⟩) (fun hst => ?_)
          clear hK K
          try simp only [Act.put, List.setIfInBounds_toArray, List.set_cons_zero, List.set_cons_succ]
          generalize W.heap.size = g8_6 at hst l8_6_g_3 l8_6_g_10 l8_6_g8_5 n8_6a ⊢
          clear W
          refine wpV_st 7 hst (fun _ h => h) #[.int .i64 kd, .int .i64 nu, .int .u64 (W64 ky), .bool br, .bool bu, .int .u32 (W32 bi), .int .i64 no] rfl rfl rfl rfl (fun W hS => hS.1.2) (fun W W' h hU hG => ?_) (by kernel_rfl) rfl (fun hst => ?_)
          · obtain ⟨⟨⟨h0_0, h0_1, h0_2⟩, ⟨ch1_0, ah1_0, bh1_0, h1_0⟩⟩, ⟨ch2_0, ah2_0, bh2_0, h2_0⟩⟩ := h
            exact ⟨⟨⟨hU.below h0_0 (by omega), hU.blk h0_1 (by omega), hU.blk h0_2 (by omega)⟩, ⟨_, rfl, rfl, hG⟩⟩, ⟨ch2_0, ah2_0, bh2_0, hU.blk h2_0 (by omega)⟩⟩
          refine wpV_st 8 hst (fun _ h => h.1) #[.int .u32 (W32 vi), .bool vu, .int .i64 vs] rfl rfl rfl rfl (fun W hS => hS.1.2) (fun W W' h hU hG => ?_) (by kernel_rfl) rfl (fun hst => ?_)
          · obtain ⟨⟨⟨⟨h0_0, h0_1, h0_2⟩, ⟨ch1_0, ah1_0, bh1_0, h1_0⟩⟩, ⟨ch2_0, ah2_0, bh2_0, h2_0⟩⟩, h3_0⟩ := h
            exact ⟨⟨⟨⟨hU.below h0_0 (by omega), hU.blk h0_1 (by omega), hU.blk h0_2 (by omega)⟩, ⟨ch1_0, ah1_0, bh1_0, hU.blk h1_0 (by omega)⟩⟩, ⟨_, rfl, rfl, hG⟩⟩, hU.blk h3_0 (by omega)⟩
          refine wpU_done (fun w_24 hS => ?_)
          obtain ⟨⟨⟨⟨⟨hB, G7, G8⟩, -⟩, -⟩, G8_5s⟩, G8_6s⟩ := hS
          clear hst
          go_wp2_with fail
          go_meet
          case rel => exact ⟨g8_5, g8_6, rfl, rfl, (by omega), (by omega), (by omega), (by omega), (by omega), (by omega), (by omega), hB, G7, G8, G8_5s, G8_6s⟩
        · intro W hS K hK
          have l8_6_g_3 : g_3 < W.heap.size := hS.2.1.lt
          have l8_6_g_10 : g_10 < W.heap.size := hS.2.2.lt
          have n8_6a : w.heap.size ≤ W.heap.size := hS.1.size
          clear hS
          go_simp
          refine hK.out (fun W' => Room W.heap.size 59 3 W') _ _ (stable_room _ _ _) ((Below.refl _ _).alloc (Nat.le_refl _) _) (⟨_, rfl, rfl, Blk.new _ _ _⟩) (fun hst => ?_)
          clear hK K
          try simp only [Act.put, List.setIfInBounds_toArray, List.set_cons_zero, List.set_cons_succ]
          generalize W.heap.size = g8_6 at hst l8_6_g_3 l8_6_g_10 n8_6a ⊢
          clear W
          refine wpV_new 5 hst rfl ?_; intro W hS K hK
          have l8_5_g_3 : g_3 < W.heap.size := hS.1.2.1.lt
          have l8_5_g_10 : g_10 < W.heap.size := hS.1.2.2.lt
          have l8_5_g8_6 : g8_6 < W.heap.size := by obtain ⟨_, _, _, hh⟩ := hS.2; exact hh.lt
          have n8_5a : w.heap.size ≤ W.heap.size := hS.1.1.size
          clear hS
          go_simp
          refine hK.out (fun W' => Room W.heap.size 77 7 W') _ _ (stable_room _ _ _) ((Below.refl _ _).alloc (Nat.le_refl _) _) (⟨_, rfl, rfl, Blk.new _ _ _⟩) (fun hst => ?_)
          clear hK K
          try simp only [Act.put, List.setIfInBounds_toArray, List.set_cons_zero, List.set_cons_succ]
          generalize W.heap.size = g8_5 at hst l8_5_g_3 l8_5_g_10 l8_5_g8_6 n8_5a ⊢
          clear W
          refine wpV_st 7 hst (fun _ h => h) #[.int .i64 kd, .int .i64 nu, .int .u64 (W64 ky), .bool br, .bool bu, .int .u32 (W32 bi), .int .i64 no] rfl rfl rfl rfl (fun W hS => hS.2) (fun W W' h hU hG => ?_) (by kernel_rfl) rfl (fun hst => ?_)
          · obtain ⟨⟨⟨h0_0, h0_1, h0_2⟩, ⟨ch1_0, ah1_0, bh1_0, h1_0⟩⟩, ⟨ch2_0, ah2_0, bh2_0, h2_0⟩⟩ := h
            exact ⟨⟨⟨hU.below h0_0 (by omega), hU.blk h0_1 (by omega), hU.blk h0_2 (by omega)⟩, ⟨ch1_0, ah1_0, bh1_0, hU.blk h1_0 (by omega)⟩⟩, ⟨_, rfl, rfl, hG⟩⟩
          refine wpV_st 8 hst (fun _ h => h.1) #[.int .u32 (W32 vi), .bool vu, .int .i64 vs] rfl rfl rfl rfl (fun W hS => hS.1.1.2) (fun W W' h hU hG => ?_) (by kernel_rfl) rfl (fun hst => ?_)
          · obtain ⟨⟨⟨⟨h0_0, h0_1, h0_2⟩, ⟨ch1_0, ah1_0, bh1_0, h1_0⟩⟩, ⟨ch2_0, ah2_0, bh2_0, h2_0⟩⟩, h3_0⟩ := h
            exact ⟨⟨⟨⟨hU.below h0_0 (by omega), hU.blk h0_1 (by omega), hU.blk h0_2 (by omega)⟩, ⟨_, rfl, rfl, hG⟩⟩, ⟨ch2_0, ah2_0, bh2_0, hU.blk h2_0 (by omega)⟩⟩, hU.blk h3_0 (by omega)⟩
          refine wpU_done (fun w_25 hS => ?_)
          obtain ⟨⟨⟨⟨⟨hB, G7, G8⟩, -⟩, -⟩, G8_5s⟩, G8_6s⟩ := hS
          clear hst
          go_wp2_with fail
          go_meet
          case rel => exact ⟨g8_5, g8_6, rfl, rfl, (by omega), (by omega), (by omega), (by omega), (by omega), (by omega), (by omega), hB, G7, G8, G8_5s, G8_6s⟩
      case rest =>
        obtain ⟨g8_5, g8_6, rfl, rfl, n8_5a, n8_6a, n8_5_g_3, n8_5_g_10, n8_6_g_3, n8_6_g_10, n8_6_g8_5, hB, G7, G8, G8_5, G8_6⟩ := hcut
        skip
        by_cases hc_27 : (no : Int) < now
        ·
          have ec_27m : (no : Int) < now := hc_27
          have ec_27 : decide ((no : Int) < now) = true := decide_eq_true hc_27
          have ec_27n : decide ((now : Int) ≤ no) = false := decide_eq_false (Int.not_le.2 hc_27)
          have kc_27 := Lib.hid hc_27
          clear hc_27
          have ld_28 : wc.cell? ⟨g8_5, 6, none⟩ = some (.int .i64 no) := G8_5.cell 6
          go_wp2_with (first | (with_reducible refine stop_store ?_) | (with_reducible refine stop_box ?_) | (with_reducible refine stop_alloc ?_) | (with_reducible refine stop_bslice ?_))
          clear ld_28
          go_roundw
          case rel => exact ⟨j + 1, ⟨ph, ⟨a1, a2, a3, a4, a5⟩, ⟨b1, b2, b3, b4, b5⟩⟩, ⟨vi, vu, vs⟩, now, by omega, by go_num, rfl, by dsimp only; omega, by dsimp only; omega, by omega, hB, G7, G8, hn⟩
          case measure => simp [intOf]; omega
        ·
          have ec_27m : (now : Int) ≤ no := Int.not_lt.1 hc_27
          have ec_27 : decide ((no : Int) < now) = false := decide_eq_false hc_27
          have ec_27n : decide ((now : Int) ≤ no) = true := decide_eq_true (Int.not_lt.1 hc_27)
          have kc_27 := Lib.hid hc_27
          clear hc_27
          by_cases hc_29 : (1099511627776 : Int) < no
          ·
            have ec_29m : (1099511627776 : Int) < no := hc_29
            have ec_29 : decide ((1099511627776 : Int) < no) = true := decide_eq_true hc_29
            have ec_29n : decide ((no : Int) ≤ 1099511627776) = false := decide_eq_false (Int.not_le.2 hc_29)
            have kc_29 := Lib.hid hc_29
            clear hc_29
            have ld_30 : wc.cell? ⟨g8_5, 6, none⟩ = some (.int .i64 no) := G8_5.cell 6
            go_wp2_with (first | (with_reducible refine stop_store ?_) | (with_reducible refine stop_box ?_) | (with_reducible refine stop_alloc ?_) | (with_reducible refine stop_bslice ?_))
            clear ld_30
            go_roundw
            case rel => exact ⟨j + 1, ⟨ph, ⟨a1, a2, a3, a4, a5⟩, ⟨b1, b2, b3, b4, b5⟩⟩, ⟨vi, vu, vs⟩, now, by omega, by go_num, rfl, by dsimp only; omega, by dsimp only; omega, by omega, hB, G7, G8, hn⟩
            case measure => simp [intOf]; omega
          ·
            have ec_29m : (no : Int) ≤ 1099511627776 := Int.not_lt.1 hc_29
            have ec_29 : decide ((1099511627776 : Int) < no) = false := decide_eq_false hc_29
            have ec_29n : decide ((no : Int) ≤ 1099511627776) = true := decide_eq_true (Int.not_lt.1 hc_29)
            have kc_29 := Lib.hid hc_29
            clear hc_29
            by_cases hc_31 : (kd : Int) = 0
            ·
              subst hc_31
              have ld_32 : wc.cell? ⟨g8_5, 6, none⟩ = some (.int .i64 no) := G8_5.cell 6
              have ld_33 : wc.cell? ⟨g8_5, 0, none⟩ = some (.int .i64 0) := G8_5.cell 0
              have ld_35 : wc.cell? ⟨g8_5, 2, none⟩ = some (.int .u64 (W64 ky)) := G8_5.cell 2
              go_wp2_with (first | (with_reducible refine stop_store ?_) | (with_reducible refine stop_box ?_) | (with_reducible refine stop_alloc ?_) | (with_reducible refine stop_bslice ?_) | ((with_reducible refine wpList_ld 0 [.int .i64 ph, .int .u64 (W64 a1), .int .i64 a2, .int .u64 (W64 a3), .int .u64 (W64 a4), .int .u64 (W64 a5), .int .u64 (W64 b1), .int .i64 b2, .int .u64 (W64 b3), .int .u64 (W64 b4), .int .u64 (W64 b5)] G7 ?_ ?_ Try.underlying27 ?_ ?_ ?_); rfl; rfl; rfl; kernel_rfl) | ((with_reducible refine wpList_ldg 0 [.int .i64 ph, .int .u64 (W64 a1), .int .i64 a2, .int .u64 (W64 a3), .int .u64 (W64 a4), .int .u64 (W64 a5), .int .u64 (W64 b1), .int .i64 b2, .int .u64 (W64 b3), .int .u64 (W64 b4), .int .u64 (W64 b5)] G7 ?_ ?_ Try.underlying27 ?_ ?_ ?_ ?_); rfl; rfl; rfl; kernel_rfl; rfl))
              obtain ⟨⟨⟨p14, ⟨x14_1, x14_2, x14_3, x14_4, x14_5⟩, ⟨y14_1, y14_2, y14_3, y14_4, y14_5⟩⟩, er14⟩, hz14⟩ : ∃ z, newKeyK ⟨ph, ⟨a1, a2, a3, a4, a5⟩, ⟨b1, b2, b3, b4, b5⟩⟩ ky = z := ⟨_, rfl⟩
              have C14 := Lib.hid (show ∀ W, Calls Try.prog 15 #[.agg #[.int .i64 ph, .int .u64 (W64 a1), .int .i64 a2, .int .u64 (W64 a3), .int .u64 (W64 a4), .int .u64 (W64 a5), .int .u64 (W64 b1), .int .i64 b2, .int .u64 (W64 b3), .int .u64 (W64 b4), .int .u64 (W64 b5)], .int .u64 (W64 ky)] W fun e w' => e = .returned (.tuple #[.agg #[.int .i64 p14, .int .u64 (W64 x14_1), .int .i64 x14_2, .int .u64 (W64 x14_3), .int .u64 (W64 x14_4), .int .u64 (W64 x14_5), .int .u64 (W64 y14_1), .int .i64 y14_2, .int .u64 (W64 y14_3), .int .u64 (W64 y14_4), .int .u64 (W64 y14_5)], .int .i64 er14]) ∧ Below W.heap.size W w' from fun W => by have := rf_NewKey ⟨ph, ⟨a1, a2, a3, a4, a5⟩, ⟨b1, b2, b3, b4, b5⟩⟩ ky W; rw [hz14] at this; exact this)
              clear hz14
              refine (C14.out _).mono ?_; rintro e w_36 ⟨rfl, hb_37⟩
              clear ld_32 ld_33 ld_35
              replace G7 := G7.to hb_37 G7.lt
              replace G8 := G8.to hb_37 G8.lt
              replace G8_5 := G8_5.to hb_37 G8_5.lt
              replace G8_6 := G8_6.to hb_37 G8_6.lt
              replace hB := hB.trans (hb_37.mono hB.size)
              clear hb_37
              go_wp2_with (first | (with_reducible refine stop_store ?_) | (with_reducible refine stop_box ?_) | (with_reducible refine stop_alloc ?_) | (with_reducible refine stop_bslice ?_))
              unfold Kept
              refine wpList_st 0 #[.int .i64 p14, .int .u64 (W64 x14_1), .int .i64 x14_2, .int .u64 (W64 x14_3), .int .u64 (W64 x14_4), .int .u64 (W64 x14_5), .int .u64 (W64 y14_1), .int .i64 y14_2, .int .u64 (W64 y14_3), .int .u64 (W64 y14_4), .int .u64 (W64 y14_5)] #[.int .i64 p14, .int .u64 (W64 x14_1), .int .i64 x14_2, .int .u64 (W64 x14_3), .int .u64 (W64 x14_4), .int .u64 (W64 x14_5), .int .u64 (W64 y14_1), .int .i64 y14_2, .int .u64 (W64 y14_3), .int .u64 (W64 y14_4), .int .u64 (W64 y14_5)] G7 rfl rfl (by kernel_rfl) rfl (of_decide_eq_true rfl) rfl ?_
              intro w_38 G_40 hU_39
              replace G8 := hU_39.blk G8 (by omega)
              replace G8_5 := hU_39.blk G8_5 (by omega)
              replace G8_6 := hU_39.blk G8_6 (by omega)
              replace hB := hU_39.below hB (by omega)
              clear G7 hU_39
              go_wp2_with (first | (with_reducible refine stop_store ?_) | (with_reducible refine stop_box ?_) | (with_reducible refine stop_alloc ?_) | (with_reducible refine stop_bslice ?_) | ((with_reducible refine wpList_ld 0 [.int .i64 p14, .int .u64 (W64 x14_1), .int .i64 x14_2, .int .u64 (W64 x14_3), .int .u64 (W64 x14_4), .int .u64 (W64 x14_5), .int .u64 (W64 y14_1), .int .i64 y14_2, .int .u64 (W64 y14_3), .int .u64 (W64 y14_4), .int .u64 (W64 y14_5)] G_40 ?_ ?_ Try.underlying27 ?_ ?_ ?_); rfl; rfl; rfl; kernel_rfl) | ((with_reducible refine wpList_ldg 0 [.int .i64 p14, .int .u64 (W64 x14_1), .int .i64 x14_2, .int .u64 (W64 x14_3), .int .u64 (W64 x14_4), .int .u64 (W64 x14_5), .int .u64 (W64 y14_1), .int .i64 y14_2, .int .u64 (W64 y14_3), .int .u64 (W64 y14_4), .int .u64 (W64 y14_5)] G_40 ?_ ?_ Try.underlying27 ?_ ?_ ?_ ?_); rfl; rfl; rfl; kernel_rfl; rfl))
              obtain ⟨⟨s_1, s_2, s_3, s_4, s_5⟩, hs⟩ : ∃ z, sendK ⟨p14, ⟨x14_1, x14_2, x14_3, x14_4, x14_5⟩, ⟨y14_1, y14_2, y14_3, y14_4, y14_5⟩⟩ = z := ⟨_, rfl⟩
              have CR := Lib.hid (show ∀ W, Calls Try.prog 23 #[.agg #[.int .i64 p14, .int .u64 (W64 x14_1), .int .i64 x14_2, .int .u64 (W64 x14_3), .int .u64 (W64 x14_4), .int .u64 (W64 x14_5), .int .u64 (W64 y14_1), .int .i64 y14_2, .int .u64 (W64 y14_3), .int .u64 (W64 y14_4), .int .u64 (W64 y14_5)]] W fun e w' => ∃ b n, W.heap.size ≤ b ∧ 1 ≤ n ∧ n ≤ 2 ∧ e = .returned (.slice (some ⟨b, 0, none⟩) n n) ∧ Rg b 0 [.int .u64 (W64 s_1), .int .i64 s_2, .int .u64 (W64 s_3), .int .u64 (W64 s_4), .int .u64 (W64 s_5)] w' ∧ Below W.heap.size W w' from fun W => by have := rf_RecvG ⟨p14, ⟨x14_1, x14_2, x14_3, x14_4, x14_5⟩, ⟨y14_1, y14_2, y14_3, y14_4, y14_5⟩⟩ W; rw [hs] at this; exact this)
              have CS := Lib.hid (show ∀ W, Calls Try.prog 20 #[.agg #[.int .i64 p14, .int .u64 (W64 x14_1), .int .i64 x14_2, .int .u64 (W64 x14_3), .int .u64 (W64 x14_4), .int .u64 (W64 x14_5), .int .u64 (W64 y14_1), .int .i64 y14_2, .int .u64 (W64 y14_3), .int .u64 (W64 y14_4), .int .u64 (W64 y14_5)]] W fun e w' => e = .returned (.agg #[.int .u64 (W64 s_1), .int .i64 s_2, .int .u64 (W64 s_3), .int .u64 (W64 s_4), .int .u64 (W64 s_5)]) ∧ Below W.heap.size W w' from fun W => by have := rf_Sending ⟨p14, ⟨x14_1, x14_2, x14_3, x14_4, x14_5⟩, ⟨y14_1, y14_2, y14_3, y14_4, y14_5⟩⟩ W; rw [hs] at this; exact this)
              clear hs
              obtain ⟨tx, htx⟩ : ∃ z, txK ⟨vi, vu, vs⟩ = z := ⟨_, rfl⟩
              have hrx := rx_tx ⟨vi, vu, vs⟩
              rw [htx] at hrx
              have CT := Lib.hid (show ∀ W, Calls Try.prog 44 #[.agg #[.int .u32 (W32 vi), .bool vu, .int .i64 vs]] W fun e w' => e = .returned (.int .u32 (W32 tx)) ∧ Below W.heap.size W w' from fun W => by have := rf_Tx ⟨vi, vu, vs⟩ W; rw [htx] at this; exact this)
              have CX := Lib.hid (show ∀ W, Calls Try.prog 42 #[.agg #[.int .u32 (W32 vi), .bool vu, .int .i64 vs], .int .i64 (W32 (tx % 2#32))] W fun e w' => e = .returned (.tuple #[.int .u32 (W32 tx), .bool true]) ∧ Below W.heap.size W w' from fun W => by have := rf_Rx ⟨vi, vu, vs⟩ (W32 (tx % 2#32)) W; rw [hrx] at this; exact this)
              clear htx hrx
              have hwr : IntKind.i64.wrap (W32 (tx % 2#32)) = W32 (tx % 2#32) := IntWalk.i64_in _ (by have := W32_bd (tx % 2#32); omega)
              refine (CR.out _).mono ?_; rintro e w_42 ⟨rb, rn, lrb, rn1, rn2, rfl, RG, hb_43⟩
              have rnp : 0 < rn := rn1
              have rnq : decide ((rn : Int) < 1) = false := by simp; omega
              have rnr : decide ((2 : Int) < (rn : Int)) = false := by simp; omega
              replace G_40 := G_40.to hb_43 G_40.lt
              replace G8 := G8.to hb_43 G8.lt
              replace G8_5 := G8_5.to hb_43 G8_5.lt
              replace G8_6 := G8_6.to hb_43 G8_6.lt
              replace hB := hB.trans (hb_43.mono hB.size)
              clear hb_43 lrb
              go_wp2_with (first | (with_reducible refine stop_store ?_) | (with_reducible refine stop_box ?_) | (with_reducible refine stop_alloc ?_) | (with_reducible refine stop_bslice ?_))
              have hst : Stable fun W => Below w.heap.size w W ∧ Blk W g_3 27 #[.int .i64 p14, .int .u64 (W64 x14_1), .int .i64 x14_2, .int .u64 (W64 x14_3), .int .u64 (W64 x14_4), .int .u64 (W64 x14_5), .int .u64 (W64 y14_1), .int .i64 y14_2, .int .u64 (W64 y14_3), .int .u64 (W64 y14_4), .int .u64 (W64 y14_5)] ∧ Blk W g_10 59 #[.int .u32 (W32 vi), .bool vu, .int .i64 vs] ∧ Blk W g8_5 77 #[.int .i64 0, .int .i64 nu, .int .u64 (W64 ky), .bool br, .bool bu, .int .u32 (W32 bi), .int .i64 no] ∧ Blk W g8_6 59 #[.int .u32 (W32 vi), .bool vu, .int .i64 vs] ∧ Rg rb 0 [.int .u64 (W64 s_1), .int .i64 s_2, .int .u64 (W64 s_3), .int .u64 (W64 s_4), .int .u64 (W64 s_5)] W := stable_and (stable_below _ _ (Nat.le_refl _)) (stable_and (stable_blk _ _ _) (stable_and (stable_blk _ _ _) (stable_and (stable_blk _ _ _) (stable_and (stable_blk _ _ _) (stable_rg _ _ _)))))
              refine wp_region_v _ 11 hst ⟨hB.drew, G_40, G8, G8_5, G8_6, RG⟩ ?_
              clear hB G_40 G8 G8_5 G8_6 RG
              refine wpU_take (v := .agg #[.int .u32 (W32 vi), .bool vu, .int .i64 vs]) 0 hst (fun _ h => h) rfl (fun W hS K hK => calm_load rfl rfl (load_part hS.2.2.1 0 [.int .u32 (W32 vi), .bool vu, .int .i64 vs] rfl Try.underlying59 rfl (by kernel_rfl)) (hK.out _ (Below.refl _ _))) ?_; simp only [Act.put, List.setIfInBounds_toArray, List.set_cons_zero, List.set_cons_succ]
              refine wpU_take (v := .agg #[.int .u32 (W32 vi), .bool vu, .int .i64 vs]) 1 hst (fun _ h => h) rfl (fun W hS K hK => calm_load rfl rfl (load_part hS.2.2.1 0 [.int .u32 (W32 vi), .bool vu, .int .i64 vs] rfl Try.underlying59 rfl (by kernel_rfl)) (hK.out _ (Below.refl _ _))) ?_; simp only [Act.put, List.setIfInBounds_toArray, List.set_cons_zero, List.set_cons_succ]
              refine wpU_take (v := ?_) 2 hst (fun _ h => h) rfl ?_ ?_; rotate_left; (intro W hS K hK; clear hS; go_simp; refine (CT.out _).mono ?_; rintro e w9 ⟨rfl, hb⟩; refine CallPost.mk ?_; exact hK.out _ (hb)); simp only [Act.put, List.setIfInBounds_toArray, List.set_cons_zero, List.set_cons_succ]
              refine wpU_take (v := ?_) 3 hst (fun _ h => h) rfl ?_ ?_; rotate_left; (intro W hS K hK; clear hS; go_simp; exact hK.out _ (Below.refl _ _)); simp only [Act.put, List.setIfInBounds_toArray, List.set_cons_zero, List.set_cons_succ]
              refine wpU_take (v := ?_) 4 hst (fun _ h => h) rfl ?_ ?_; rotate_left; (intro W hS K hK; clear hS; go_simp; exact hK.out _ (Below.refl _ _)); simp only [Act.put, List.setIfInBounds_toArray, List.set_cons_zero, List.set_cons_succ]
              refine wpU_take (v := ?_) 5 hst (fun _ h => h) rfl ?_ ?_; rotate_left; (intro W hS K hK; clear hS; go_simp; refine (CX.out _).mono ?_; rintro e w9 ⟨rfl, hb⟩; refine CallPost.mk ?_; exact hK.out _ (hb)); simp only [Act.put, List.setIfInBounds_toArray, List.set_cons_zero, List.set_cons_succ]
              refine wpU_take (v := ?_) 6 hst (fun _ h => h) rfl ?_ ?_; rotate_left; (intro W hS K hK; clear hS; go_simp; exact hK.out _ (Below.refl _ _)); simp only [Act.put, List.setIfInBounds_toArray, List.set_cons_zero, List.set_cons_succ]
              refine wpU_take (v := ?_) 7 hst (fun _ h => h) rfl ?_ ?_; rotate_left; (intro W hS K hK; clear hS; go_simp; exact hK.out _ (Below.refl _ _)); simp only [Act.put, List.setIfInBounds_toArray, List.set_cons_zero, List.set_cons_succ]
              refine wpU_take (v := ?_) 8 hst (fun _ h => h) rfl ?_ ?_; rotate_left; (intro W hS K hK; clear hS; go_simp; exact hK.out _ (Below.refl _ _)); simp only [Act.put, List.setIfInBounds_toArray, List.set_cons_zero, List.set_cons_succ]
              refine wpU_take (v := ?_) 9 hst (fun _ h => h) rfl ?_ ?_; rotate_left; (intro W hS K hK; clear hS; go_simp; exact hK.out _ (Below.refl _ _)); simp only [Act.put, List.setIfInBounds_toArray, List.set_cons_zero, List.set_cons_succ]
              refine wpU_take (v := ?_) 10 hst (fun _ h => h) rfl ?_ ?_; rotate_left; (intro W hS K hK; clear hS; go_simp; exact hK.out _ (Below.refl _ _)); simp only [Act.put, List.setIfInBounds_toArray, List.set_cons_zero, List.set_cons_succ]
              refine wpU_done (fun w_44 hS => ?_)
              obtain ⟨hB, G_40, G8, G8_5, G8_6, RG⟩ := hS
              clear hst
              go_wp2_with (first | (with_reducible refine stop_store ?_) | (with_reducible refine stop_box ?_) | (with_reducible refine stop_alloc ?_) | (with_reducible refine stop_bslice ?_))
              have hst : Stable fun W => Below w.heap.size w W ∧ Blk W g_3 27 #[.int .i64 p14, .int .u64 (W64 x14_1), .int .i64 x14_2, .int .u64 (W64 x14_3), .int .u64 (W64 x14_4), .int .u64 (W64 x14_5), .int .u64 (W64 y14_1), .int .i64 y14_2, .int .u64 (W64 y14_3), .int .u64 (W64 y14_4), .int .u64 (W64 y14_5)] ∧ Blk W g_10 59 #[.int .u32 (W32 vi), .bool vu, .int .i64 vs] ∧ Blk W g8_5 77 #[.int .i64 0, .int .i64 nu, .int .u64 (W64 ky), .bool br, .bool bu, .int .u32 (W32 bi), .int .i64 no] ∧ Blk W g8_6 59 #[.int .u32 (W32 vi), .bool vu, .int .i64 vs] ∧ Rg rb 0 [.int .u64 (W64 s_1), .int .i64 s_2, .int .u64 (W64 s_3), .int .u64 (W64 s_4), .int .u64 (W64 s_5)] W := stable_and (stable_below _ _ (Nat.le_refl _)) (stable_and (stable_blk _ _ _) (stable_and (stable_blk _ _ _) (stable_and (stable_blk _ _ _) (stable_and (stable_blk _ _ _) (stable_rg _ _ _)))))
              refine wp_region_v _ 33 hst ⟨hB.drew, G_40, G8, G8_5, G8_6, RG⟩ ?_
              clear hB G_40 G8 G8_5 G8_6 RG
              refine wpU_take (v := ?_) 0 hst (fun _ h => h) rfl ?_ ?_; rotate_left; (intro W hS K hK; clear hS; go_simp; exact hK.out _ (Below.refl _ _)); simp only [Act.put, List.setIfInBounds_toArray, List.set_cons_zero, List.set_cons_succ]
              refine wpU_take (v := ?_) 1 hst (fun _ h => h) rfl ?_ ?_; rotate_left; (intro W hS K hK; have ld : W.cell? ⟨g_10, 0, none⟩ = some (.int .u32 (W32 vi)) := hS.2.2.1.cell 0; clear hS; go_simp; exact hK.out _ (Below.refl _ _)); simp only [Act.put, List.setIfInBounds_toArray, List.set_cons_zero, List.set_cons_succ]
              refine wpU_take (v := ?_) 2 hst (fun _ h => h) rfl ?_ ?_; rotate_left; (intro W hS K hK; clear hS; go_simp; exact hK.out _ (Below.refl _ _)); simp only [Act.put, List.setIfInBounds_toArray, List.set_cons_zero, List.set_cons_succ]
              refine wpU_take (v := ?_) 3 hst (fun _ h => h) rfl ?_ ?_; rotate_left; (intro W hS K hK; have ld : W.cell? ⟨g8_6, 0, none⟩ = some (.int .u32 (W32 vi)) := hS.2.2.2.2.1.cell 0; clear hS; go_simp; exact hK.out _ (Below.refl _ _)); simp only [Act.put, List.setIfInBounds_toArray, List.set_cons_zero, List.set_cons_succ]
              refine wpU_take (v := ?_) 4 hst (fun _ h => h) rfl ?_ ?_; rotate_left; (intro W hS K hK; clear hS; go_simp; exact hK.out _ (Below.refl _ _)); simp only [Act.put, List.setIfInBounds_toArray, List.set_cons_zero, List.set_cons_succ]
              refine wpU_take (v := ?_) 5 hst (fun _ h => h) rfl ?_ ?_; rotate_left; (intro W hS K hK; clear hS; go_simp; exact hK.out _ (Below.refl _ _)); simp only [Act.put, List.setIfInBounds_toArray, List.set_cons_zero, List.set_cons_succ]
              refine wpU_take (v := ?_) 6 hst (fun _ h => h) rfl ?_ ?_; rotate_left; (intro W hS K hK; clear hS; go_simp; exact hK.out _ (Below.refl _ _)); simp only [Act.put, List.setIfInBounds_toArray, List.set_cons_zero, List.set_cons_succ]
              refine wpU_take (v := ?_) 7 hst (fun _ h => h) rfl ?_ ?_; rotate_left; (intro W hS K hK; clear hS; go_simp; exact hK.out _ (Below.refl _ _)); simp only [Act.put, List.setIfInBounds_toArray, List.set_cons_zero, List.set_cons_succ]
              refine wpU_take (v := ?_) 8 hst (fun _ h => h) rfl ?_ ?_; rotate_left; (intro W hS K hK; clear hS; go_simp; exact hK.out _ (Below.refl _ _)); simp only [Act.put, List.setIfInBounds_toArray, List.set_cons_zero, List.set_cons_succ]
              refine wpU_take (v := ?_) 9 hst (fun _ h => h) rfl ?_ ?_; rotate_left; (intro W hS K hK; clear hS; go_simp; exact hK.out _ (Below.refl _ _)); simp only [Act.put, List.setIfInBounds_toArray, List.set_cons_zero, List.set_cons_succ]
              refine wpU_take (v := ?_) 10 hst (fun _ h => h) rfl ?_ ?_; rotate_left; (intro W hS K hK; clear hS; go_simp; exact hK.out _ (Below.refl _ _)); simp only [Act.put, List.setIfInBounds_toArray, List.set_cons_zero, List.set_cons_succ]
              refine wpU_take (v := ?_) 11 hst (fun _ h => h) rfl ?_ ?_; rotate_left; (intro W hS K hK; clear hS; go_simp; exact hK.out _ (Below.refl _ _)); simp only [Act.put, List.setIfInBounds_toArray, List.set_cons_zero, List.set_cons_succ]
              refine wpU_take (v := ?_) 12 hst (fun _ h => h) rfl ?_ ?_; rotate_left; (intro W hS K hK; clear hS; go_simp; exact hK.out _ (Below.refl _ _)); simp only [Act.put, List.setIfInBounds_toArray, List.set_cons_zero, List.set_cons_succ]
              refine wpU_take (v := ?_) 13 hst (fun _ h => h) rfl ?_ ?_; rotate_left; (intro W hS K hK; clear hS; go_simp; exact hK.out _ (Below.refl _ _)); simp only [Act.put, List.setIfInBounds_toArray, List.set_cons_zero, List.set_cons_succ]
              refine wpU_take (v := ?_) 14 hst (fun _ h => h) rfl ?_ ?_; rotate_left; (intro W hS K hK; clear hS; go_simp; exact hK.out _ (Below.refl _ _)); simp only [Act.put, List.setIfInBounds_toArray, List.set_cons_zero, List.set_cons_succ]
              refine wpU_take (v := ?_) 15 hst (fun _ h => h) rfl ?_ ?_; rotate_left; (intro W hS K hK; clear hS; go_simp; exact hK.out _ (Below.refl _ _)); simp only [Act.put, List.setIfInBounds_toArray, List.set_cons_zero, List.set_cons_succ]
              refine wpU_take (v := ?_) 16 hst (fun _ h => h) rfl ?_ ?_; rotate_left; (intro W hS K hK; clear hS; go_simp; exact hK.out _ (Below.refl _ _)); simp only [Act.put, List.setIfInBounds_toArray, List.set_cons_zero, List.set_cons_succ]
              refine wpU_take (v := ?_) 17 hst (fun _ h => h) rfl ?_ ?_; rotate_left; (intro W hS K hK; clear hS; go_simp; exact hK.out _ (Below.refl _ _)); simp only [Act.put, List.setIfInBounds_toArray, List.set_cons_zero, List.set_cons_succ]
              refine wpU_take (v := .agg #[.int .u64 (W64 s_1), .int .i64 s_2, .int .u64 (W64 s_3), .int .u64 (W64 s_4), .int .u64 (W64 s_5)]) 18 hst (fun _ h => h) rfl (fun W hS K hK => calm_load rfl rfl (run_loadVar_mid W rb (0) 25 [.int .u64 (W64 s_1), .int .i64 s_2, .int .u64 (W64 s_3), .int .u64 (W64 s_4), .int .u64 (W64 s_5)] _ (range_part hS.2.2.2.2.2.2 0 [.int .u64 (W64 s_1), .int .i64 s_2, .int .u64 (W64 s_3), .int .u64 (W64 s_4), .int .u64 (W64 s_5)] rfl) Try.underlying25 rfl (by kernel_rfl)) (hK.out _ (Below.refl _ _))) ?_; simp only [Act.put, List.setIfInBounds_toArray, List.set_cons_zero, List.set_cons_succ]
              refine wpU_take (v := .agg #[.int .i64 p14, .int .u64 (W64 x14_1), .int .i64 x14_2, .int .u64 (W64 x14_3), .int .u64 (W64 x14_4), .int .u64 (W64 x14_5), .int .u64 (W64 y14_1), .int .i64 y14_2, .int .u64 (W64 y14_3), .int .u64 (W64 y14_4), .int .u64 (W64 y14_5)]) 19 hst (fun _ h => h) rfl (fun W hS K hK => calm_load rfl rfl (load_part hS.2.1 0 [.int .i64 p14, .int .u64 (W64 x14_1), .int .i64 x14_2, .int .u64 (W64 x14_3), .int .u64 (W64 x14_4), .int .u64 (W64 x14_5), .int .u64 (W64 y14_1), .int .i64 y14_2, .int .u64 (W64 y14_3), .int .u64 (W64 y14_4), .int .u64 (W64 y14_5)] rfl Try.underlying27 rfl (by kernel_rfl)) (hK.out _ (Below.refl _ _))) ?_; simp only [Act.put, List.setIfInBounds_toArray, List.set_cons_zero, List.set_cons_succ]
              refine wpU_take (v := ?_) 20 hst (fun _ h => h) rfl ?_ ?_; rotate_left; (intro W hS K hK; clear hS; go_simp; refine (CS.out _).mono ?_; rintro e w9 ⟨rfl, hb⟩; refine CallPost.mk ?_; exact hK.out _ (hb)); simp only [Act.put, List.setIfInBounds_toArray, List.set_cons_zero, List.set_cons_succ]
              refine wpU_take (v := ?_) 21 hst (fun _ h => h) rfl ?_ ?_; rotate_left; (intro W hS K hK; clear hS; go_simp; exact hK.out _ (Below.refl _ _)); simp only [Act.put, List.setIfInBounds_toArray, List.set_cons_zero, List.set_cons_succ]
              refine wpU_take (v := ?_) 22 hst (fun _ h => h) rfl ?_ ?_; rotate_left; (intro W hS K hK; clear hS; go_simp; exact hK.out _ (Below.refl _ _)); simp only [Act.put, List.setIfInBounds_toArray, List.set_cons_zero, List.set_cons_succ]
              refine wpU_take (v := ?_) 23 hst (fun _ h => h) rfl ?_ ?_; rotate_left; (intro W hS K hK; clear hS; go_simp; exact hK.out _ (Below.refl _ _)); simp only [Act.put, List.setIfInBounds_toArray, List.set_cons_zero, List.set_cons_succ]
              refine wpU_take (v := ?_) 24 hst (fun _ h => h) rfl ?_ ?_; rotate_left; (intro W hS K hK; clear hS; go_simp; exact hK.out _ (Below.refl _ _)); simp only [Act.put, List.setIfInBounds_toArray, List.set_cons_zero, List.set_cons_succ]
              refine wpU_take (v := ?_) 25 hst (fun _ h => h) rfl ?_ ?_; rotate_left; (intro W hS K hK; clear hS; go_simp; exact hK.out _ (Below.refl _ _)); simp only [Act.put, List.setIfInBounds_toArray, List.set_cons_zero, List.set_cons_succ]
              refine wpU_take (v := ?_) 26 hst (fun _ h => h) rfl ?_ ?_; rotate_left; (intro W hS K hK; clear hS; go_simp; exact hK.out _ (Below.refl _ _)); simp only [Act.put, List.setIfInBounds_toArray, List.set_cons_zero, List.set_cons_succ]
              refine wpU_take (v := ?_) 27 hst (fun _ h => h) rfl ?_ ?_; rotate_left; (intro W hS K hK; clear hS; go_simp; exact hK.out _ (Below.refl _ _)); simp only [Act.put, List.setIfInBounds_toArray, List.set_cons_zero, List.set_cons_succ]
              refine wpU_take (v := ?_) 28 hst (fun _ h => h) rfl ?_ ?_; rotate_left; (intro W hS K hK; clear hS; go_simp; exact hK.out _ (Below.refl _ _)); simp only [Act.put, List.setIfInBounds_toArray, List.set_cons_zero, List.set_cons_succ]
              refine wpU_take (v := .agg #[.int .u32 (W32 vi), .bool vu, .int .i64 vs]) 29 hst (fun _ h => h) rfl (fun W hS K hK => calm_load rfl rfl (load_part hS.2.2.1 0 [.int .u32 (W32 vi), .bool vu, .int .i64 vs] rfl Try.underlying59 rfl (by kernel_rfl)) (hK.out _ (Below.refl _ _))) ?_; simp only [Act.put, List.setIfInBounds_toArray, List.set_cons_zero, List.set_cons_succ]
              refine wpU_take (v := ?_) 30 hst (fun _ h => h) rfl ?_ ?_; rotate_left; (intro W hS K hK; clear hS; go_simp; refine (CT.out _).mono ?_; rintro e w9 ⟨rfl, hb⟩; refine CallPost.mk ?_; exact hK.out _ (hb)); simp only [Act.put, List.setIfInBounds_toArray, List.set_cons_zero, List.set_cons_succ]
              refine wpU_take (v := ?_) 31 hst (fun _ h => h) rfl ?_ ?_; rotate_left; (intro W hS K hK; clear hS; go_simp; exact hK.out _ (Below.refl _ _)); simp only [Act.put, List.setIfInBounds_toArray, List.set_cons_zero, List.set_cons_succ]
              refine wpU_take (v := ?_) 32 hst (fun _ h => h) rfl ?_ ?_; rotate_left; (intro W hS K hK; clear hS; go_simp; exact hK.out _ (Below.refl _ _)); simp only [Act.put, List.setIfInBounds_toArray, List.set_cons_zero, List.set_cons_succ]
              refine wpU_done (fun w_45 hS => ?_)
              obtain ⟨hB, G_40, G8, G8_5, G8_6, RG⟩ := hS
              clear hst
              go_wp2_with (first | (with_reducible refine stop_store ?_) | (with_reducible refine stop_box ?_) | (with_reducible refine stop_alloc ?_) | (with_reducible refine stop_bslice ?_))
              go_roundw
              case rel => exact ⟨j + 1, ⟨p14, ⟨x14_1, x14_2, x14_3, x14_4, x14_5⟩, ⟨y14_1, y14_2, y14_3, y14_4, y14_5⟩⟩, ⟨vi, vu, vs⟩, no, by omega, by go_num, rfl, by dsimp only; omega, by dsimp only; omega, by omega, hB, G_40, G8, hn⟩
              case measure => simp [intOf]; omega
            ·
              have ec_31 : ((kd : Int) == 0) = false := by simpa using hc_31
              have ec_31n : ((kd : Int) != 0) = true := by simpa using hc_31
              have kc_31 := Lib.hid hc_31
              clear hc_31
              by_cases hc_46 : (kd : Int) = 1
              ·
                subst hc_46
                have ld_47 : wc.cell? ⟨g8_5, 6, none⟩ = some (.int .i64 no) := G8_5.cell 6
                have ld_48 : wc.cell? ⟨g8_5, 0, none⟩ = some (.int .i64 1) := G8_5.cell 0
                have ld_50 : wc.cell? ⟨g8_5, 1, none⟩ = some (.int .i64 nu) := G8_5.cell 1
                go_wp2_with (first | (with_reducible refine stop_store ?_) | (with_reducible refine stop_box ?_) | (with_reducible refine stop_alloc ?_) | (with_reducible refine stop_bslice ?_) | ((with_reducible refine wpList_ld 0 [.int .i64 ph, .int .u64 (W64 a1), .int .i64 a2, .int .u64 (W64 a3), .int .u64 (W64 a4), .int .u64 (W64 a5), .int .u64 (W64 b1), .int .i64 b2, .int .u64 (W64 b3), .int .u64 (W64 b4), .int .u64 (W64 b5)] G7 ?_ ?_ Try.underlying27 ?_ ?_ ?_); rfl; rfl; rfl; kernel_rfl) | ((with_reducible refine wpList_ldg 0 [.int .i64 ph, .int .u64 (W64 a1), .int .i64 a2, .int .u64 (W64 a3), .int .u64 (W64 a4), .int .u64 (W64 a5), .int .u64 (W64 b1), .int .i64 b2, .int .u64 (W64 b3), .int .u64 (W64 b4), .int .u64 (W64 b5)] G7 ?_ ?_ Try.underlying27 ?_ ?_ ?_ ?_); rfl; rfl; rfl; kernel_rfl; rfl))
                obtain ⟨⟨⟨p16, ⟨x16_1, x16_2, x16_3, x16_4, x16_5⟩, ⟨y16_1, y16_2, y16_3, y16_4, y16_5⟩⟩, er16⟩, hz16⟩ : ∃ z, phaseK ⟨ph, ⟨a1, a2, a3, a4, a5⟩, ⟨b1, b2, b3, b4, b5⟩⟩ nu = z := ⟨_, rfl⟩
                have C16 := Lib.hid (show ∀ W, Calls Try.prog 17 #[.agg #[.int .i64 ph, .int .u64 (W64 a1), .int .i64 a2, .int .u64 (W64 a3), .int .u64 (W64 a4), .int .u64 (W64 a5), .int .u64 (W64 b1), .int .i64 b2, .int .u64 (W64 b3), .int .u64 (W64 b4), .int .u64 (W64 b5)], .int .i64 nu] W fun e w' => e = .returned (.tuple #[.agg #[.int .i64 p16, .int .u64 (W64 x16_1), .int .i64 x16_2, .int .u64 (W64 x16_3), .int .u64 (W64 x16_4), .int .u64 (W64 x16_5), .int .u64 (W64 y16_1), .int .i64 y16_2, .int .u64 (W64 y16_3), .int .u64 (W64 y16_4), .int .u64 (W64 y16_5)], .bool er16]) ∧ Below W.heap.size W w' from fun W => by have := rf_Phase ⟨ph, ⟨a1, a2, a3, a4, a5⟩, ⟨b1, b2, b3, b4, b5⟩⟩ nu W; rw [hz16] at this; exact this)
                clear hz16
                refine (C16.out _).mono ?_; rintro e w_51 ⟨rfl, hb_52⟩
                clear ld_47 ld_48 ld_50
                replace G7 := G7.to hb_52 G7.lt
                replace G8 := G8.to hb_52 G8.lt
                replace G8_5 := G8_5.to hb_52 G8_5.lt
                replace G8_6 := G8_6.to hb_52 G8_6.lt
                replace hB := hB.trans (hb_52.mono hB.size)
                clear hb_52
                go_wp2_with (first | (with_reducible refine stop_store ?_) | (with_reducible refine stop_box ?_) | (with_reducible refine stop_alloc ?_) | (with_reducible refine stop_bslice ?_))
                unfold Kept
                refine wpList_st 0 #[.int .i64 p16, .int .u64 (W64 x16_1), .int .i64 x16_2, .int .u64 (W64 x16_3), .int .u64 (W64 x16_4), .int .u64 (W64 x16_5), .int .u64 (W64 y16_1), .int .i64 y16_2, .int .u64 (W64 y16_3), .int .u64 (W64 y16_4), .int .u64 (W64 y16_5)] #[.int .i64 p16, .int .u64 (W64 x16_1), .int .i64 x16_2, .int .u64 (W64 x16_3), .int .u64 (W64 x16_4), .int .u64 (W64 x16_5), .int .u64 (W64 y16_1), .int .i64 y16_2, .int .u64 (W64 y16_3), .int .u64 (W64 y16_4), .int .u64 (W64 y16_5)] G7 rfl rfl (by kernel_rfl) rfl (of_decide_eq_true rfl) rfl ?_
                intro w_53 G_55 hU_54
                replace G8 := hU_54.blk G8 (by omega)
                replace G8_5 := hU_54.blk G8_5 (by omega)
                replace G8_6 := hU_54.blk G8_6 (by omega)
                replace hB := hU_54.below hB (by omega)
                clear G7 hU_54
                go_wp2_with (first | (with_reducible refine stop_store ?_) | (with_reducible refine stop_box ?_) | (with_reducible refine stop_alloc ?_) | (with_reducible refine stop_bslice ?_) | ((with_reducible refine wpList_ld 0 [.int .i64 p16, .int .u64 (W64 x16_1), .int .i64 x16_2, .int .u64 (W64 x16_3), .int .u64 (W64 x16_4), .int .u64 (W64 x16_5), .int .u64 (W64 y16_1), .int .i64 y16_2, .int .u64 (W64 y16_3), .int .u64 (W64 y16_4), .int .u64 (W64 y16_5)] G_55 ?_ ?_ Try.underlying27 ?_ ?_ ?_); rfl; rfl; rfl; kernel_rfl) | ((with_reducible refine wpList_ldg 0 [.int .i64 p16, .int .u64 (W64 x16_1), .int .i64 x16_2, .int .u64 (W64 x16_3), .int .u64 (W64 x16_4), .int .u64 (W64 x16_5), .int .u64 (W64 y16_1), .int .i64 y16_2, .int .u64 (W64 y16_3), .int .u64 (W64 y16_4), .int .u64 (W64 y16_5)] G_55 ?_ ?_ Try.underlying27 ?_ ?_ ?_ ?_); rfl; rfl; rfl; kernel_rfl; rfl))
                obtain ⟨⟨s_1, s_2, s_3, s_4, s_5⟩, hs⟩ : ∃ z, sendK ⟨p16, ⟨x16_1, x16_2, x16_3, x16_4, x16_5⟩, ⟨y16_1, y16_2, y16_3, y16_4, y16_5⟩⟩ = z := ⟨_, rfl⟩
                have CR := Lib.hid (show ∀ W, Calls Try.prog 23 #[.agg #[.int .i64 p16, .int .u64 (W64 x16_1), .int .i64 x16_2, .int .u64 (W64 x16_3), .int .u64 (W64 x16_4), .int .u64 (W64 x16_5), .int .u64 (W64 y16_1), .int .i64 y16_2, .int .u64 (W64 y16_3), .int .u64 (W64 y16_4), .int .u64 (W64 y16_5)]] W fun e w' => ∃ b n, W.heap.size ≤ b ∧ 1 ≤ n ∧ n ≤ 2 ∧ e = .returned (.slice (some ⟨b, 0, none⟩) n n) ∧ Rg b 0 [.int .u64 (W64 s_1), .int .i64 s_2, .int .u64 (W64 s_3), .int .u64 (W64 s_4), .int .u64 (W64 s_5)] w' ∧ Below W.heap.size W w' from fun W => by have := rf_RecvG ⟨p16, ⟨x16_1, x16_2, x16_3, x16_4, x16_5⟩, ⟨y16_1, y16_2, y16_3, y16_4, y16_5⟩⟩ W; rw [hs] at this; exact this)
                have CS := Lib.hid (show ∀ W, Calls Try.prog 20 #[.agg #[.int .i64 p16, .int .u64 (W64 x16_1), .int .i64 x16_2, .int .u64 (W64 x16_3), .int .u64 (W64 x16_4), .int .u64 (W64 x16_5), .int .u64 (W64 y16_1), .int .i64 y16_2, .int .u64 (W64 y16_3), .int .u64 (W64 y16_4), .int .u64 (W64 y16_5)]] W fun e w' => e = .returned (.agg #[.int .u64 (W64 s_1), .int .i64 s_2, .int .u64 (W64 s_3), .int .u64 (W64 s_4), .int .u64 (W64 s_5)]) ∧ Below W.heap.size W w' from fun W => by have := rf_Sending ⟨p16, ⟨x16_1, x16_2, x16_3, x16_4, x16_5⟩, ⟨y16_1, y16_2, y16_3, y16_4, y16_5⟩⟩ W; rw [hs] at this; exact this)
                clear hs
                obtain ⟨tx, htx⟩ : ∃ z, txK ⟨vi, vu, vs⟩ = z := ⟨_, rfl⟩
                have hrx := rx_tx ⟨vi, vu, vs⟩
                rw [htx] at hrx
                have CT := Lib.hid (show ∀ W, Calls Try.prog 44 #[.agg #[.int .u32 (W32 vi), .bool vu, .int .i64 vs]] W fun e w' => e = .returned (.int .u32 (W32 tx)) ∧ Below W.heap.size W w' from fun W => by have := rf_Tx ⟨vi, vu, vs⟩ W; rw [htx] at this; exact this)
                have CX := Lib.hid (show ∀ W, Calls Try.prog 42 #[.agg #[.int .u32 (W32 vi), .bool vu, .int .i64 vs], .int .i64 (W32 (tx % 2#32))] W fun e w' => e = .returned (.tuple #[.int .u32 (W32 tx), .bool true]) ∧ Below W.heap.size W w' from fun W => by have := rf_Rx ⟨vi, vu, vs⟩ (W32 (tx % 2#32)) W; rw [hrx] at this; exact this)
                clear htx hrx
                have hwr : IntKind.i64.wrap (W32 (tx % 2#32)) = W32 (tx % 2#32) := IntWalk.i64_in _ (by have := W32_bd (tx % 2#32); omega)
                refine (CR.out _).mono ?_; rintro e w_57 ⟨rb, rn, lrb, rn1, rn2, rfl, RG, hb_58⟩
                have rnp : 0 < rn := rn1
                have rnq : decide ((rn : Int) < 1) = false := by simp; omega
                have rnr : decide ((2 : Int) < (rn : Int)) = false := by simp; omega
                replace G_55 := G_55.to hb_58 G_55.lt
                replace G8 := G8.to hb_58 G8.lt
                replace G8_5 := G8_5.to hb_58 G8_5.lt
                replace G8_6 := G8_6.to hb_58 G8_6.lt
                replace hB := hB.trans (hb_58.mono hB.size)
                clear hb_58 lrb
                go_wp2_with (first | (with_reducible refine stop_store ?_) | (with_reducible refine stop_box ?_) | (with_reducible refine stop_alloc ?_) | (with_reducible refine stop_bslice ?_))
                have hst : Stable fun W => Below w.heap.size w W ∧ Blk W g_3 27 #[.int .i64 p16, .int .u64 (W64 x16_1), .int .i64 x16_2, .int .u64 (W64 x16_3), .int .u64 (W64 x16_4), .int .u64 (W64 x16_5), .int .u64 (W64 y16_1), .int .i64 y16_2, .int .u64 (W64 y16_3), .int .u64 (W64 y16_4), .int .u64 (W64 y16_5)] ∧ Blk W g_10 59 #[.int .u32 (W32 vi), .bool vu, .int .i64 vs] ∧ Blk W g8_5 77 #[.int .i64 1, .int .i64 nu, .int .u64 (W64 ky), .bool br, .bool bu, .int .u32 (W32 bi), .int .i64 no] ∧ Blk W g8_6 59 #[.int .u32 (W32 vi), .bool vu, .int .i64 vs] ∧ Rg rb 0 [.int .u64 (W64 s_1), .int .i64 s_2, .int .u64 (W64 s_3), .int .u64 (W64 s_4), .int .u64 (W64 s_5)] W := stable_and (stable_below _ _ (Nat.le_refl _)) (stable_and (stable_blk _ _ _) (stable_and (stable_blk _ _ _) (stable_and (stable_blk _ _ _) (stable_and (stable_blk _ _ _) (stable_rg _ _ _)))))
                refine wp_region_v _ 11 hst ⟨hB.drew, G_55, G8, G8_5, G8_6, RG⟩ ?_
                clear hB G_55 G8 G8_5 G8_6 RG
                refine wpU_take (v := .agg #[.int .u32 (W32 vi), .bool vu, .int .i64 vs]) 0 hst (fun _ h => h) rfl (fun W hS K hK => calm_load rfl rfl (load_part hS.2.2.1 0 [.int .u32 (W32 vi), .bool vu, .int .i64 vs] rfl Try.underlying59 rfl (by kernel_rfl)) (hK.out _ (Below.refl _ _))) ?_; simp only [Act.put, List.setIfInBounds_toArray, List.set_cons_zero, List.set_cons_succ]
                refine wpU_take (v := .agg #[.int .u32 (W32 vi), .bool vu, .int .i64 vs]) 1 hst (fun _ h => h) rfl (fun W hS K hK => calm_load rfl rfl (load_part hS.2.2.1 0 [.int .u32 (W32 vi), .bool vu, .int .i64 vs] rfl Try.underlying59 rfl (by kernel_rfl)) (hK.out _ (Below.refl _ _))) ?_; simp only [Act.put, List.setIfInBounds_toArray, List.set_cons_zero, List.set_cons_succ]
                refine wpU_take (v := ?_) 2 hst (fun _ h => h) rfl ?_ ?_; rotate_left; (intro W hS K hK; clear hS; go_simp; refine (CT.out _).mono ?_; rintro e w9 ⟨rfl, hb⟩; refine CallPost.mk ?_; exact hK.out _ (hb)); simp only [Act.put, List.setIfInBounds_toArray, List.set_cons_zero, List.set_cons_succ]
                refine wpU_take (v := ?_) 3 hst (fun _ h => h) rfl ?_ ?_; rotate_left; (intro W hS K hK; clear hS; go_simp; exact hK.out _ (Below.refl _ _)); simp only [Act.put, List.setIfInBounds_toArray, List.set_cons_zero, List.set_cons_succ]
                refine wpU_take (v := ?_) 4 hst (fun _ h => h) rfl ?_ ?_; rotate_left; (intro W hS K hK; clear hS; go_simp; exact hK.out _ (Below.refl _ _)); simp only [Act.put, List.setIfInBounds_toArray, List.set_cons_zero, List.set_cons_succ]
                refine wpU_take (v := ?_) 5 hst (fun _ h => h) rfl ?_ ?_; rotate_left; (intro W hS K hK; clear hS; go_simp; refine (CX.out _).mono ?_; rintro e w9 ⟨rfl, hb⟩; refine CallPost.mk ?_; exact hK.out _ (hb)); simp only [Act.put, List.setIfInBounds_toArray, List.set_cons_zero, List.set_cons_succ]
                refine wpU_take (v := ?_) 6 hst (fun _ h => h) rfl ?_ ?_; rotate_left; (intro W hS K hK; clear hS; go_simp; exact hK.out _ (Below.refl _ _)); simp only [Act.put, List.setIfInBounds_toArray, List.set_cons_zero, List.set_cons_succ]
                refine wpU_take (v := ?_) 7 hst (fun _ h => h) rfl ?_ ?_; rotate_left; (intro W hS K hK; clear hS; go_simp; exact hK.out _ (Below.refl _ _)); simp only [Act.put, List.setIfInBounds_toArray, List.set_cons_zero, List.set_cons_succ]
                refine wpU_take (v := ?_) 8 hst (fun _ h => h) rfl ?_ ?_; rotate_left; (intro W hS K hK; clear hS; go_simp; exact hK.out _ (Below.refl _ _)); simp only [Act.put, List.setIfInBounds_toArray, List.set_cons_zero, List.set_cons_succ]
                refine wpU_take (v := ?_) 9 hst (fun _ h => h) rfl ?_ ?_; rotate_left; (intro W hS K hK; clear hS; go_simp; exact hK.out _ (Below.refl _ _)); simp only [Act.put, List.setIfInBounds_toArray, List.set_cons_zero, List.set_cons_succ]
                refine wpU_take (v := ?_) 10 hst (fun _ h => h) rfl ?_ ?_; rotate_left; (intro W hS K hK; clear hS; go_simp; exact hK.out _ (Below.refl _ _)); simp only [Act.put, List.setIfInBounds_toArray, List.set_cons_zero, List.set_cons_succ]
                refine wpU_done (fun w_59 hS => ?_)
                obtain ⟨hB, G_55, G8, G8_5, G8_6, RG⟩ := hS
                clear hst
                go_wp2_with (first | (with_reducible refine stop_store ?_) | (with_reducible refine stop_box ?_) | (with_reducible refine stop_alloc ?_) | (with_reducible refine stop_bslice ?_))
                have hst : Stable fun W => Below w.heap.size w W ∧ Blk W g_3 27 #[.int .i64 p16, .int .u64 (W64 x16_1), .int .i64 x16_2, .int .u64 (W64 x16_3), .int .u64 (W64 x16_4), .int .u64 (W64 x16_5), .int .u64 (W64 y16_1), .int .i64 y16_2, .int .u64 (W64 y16_3), .int .u64 (W64 y16_4), .int .u64 (W64 y16_5)] ∧ Blk W g_10 59 #[.int .u32 (W32 vi), .bool vu, .int .i64 vs] ∧ Blk W g8_5 77 #[.int .i64 1, .int .i64 nu, .int .u64 (W64 ky), .bool br, .bool bu, .int .u32 (W32 bi), .int .i64 no] ∧ Blk W g8_6 59 #[.int .u32 (W32 vi), .bool vu, .int .i64 vs] ∧ Rg rb 0 [.int .u64 (W64 s_1), .int .i64 s_2, .int .u64 (W64 s_3), .int .u64 (W64 s_4), .int .u64 (W64 s_5)] W := stable_and (stable_below _ _ (Nat.le_refl _)) (stable_and (stable_blk _ _ _) (stable_and (stable_blk _ _ _) (stable_and (stable_blk _ _ _) (stable_and (stable_blk _ _ _) (stable_rg _ _ _)))))
                refine wp_region_v _ 33 hst ⟨hB.drew, G_55, G8, G8_5, G8_6, RG⟩ ?_
                clear hB G_55 G8 G8_5 G8_6 RG
                refine wpU_take (v := ?_) 0 hst (fun _ h => h) rfl ?_ ?_; rotate_left; (intro W hS K hK; clear hS; go_simp; exact hK.out _ (Below.refl _ _)); simp only [Act.put, List.setIfInBounds_toArray, List.set_cons_zero, List.set_cons_succ]
                refine wpU_take (v := ?_) 1 hst (fun _ h => h) rfl ?_ ?_; rotate_left; (intro W hS K hK; have ld : W.cell? ⟨g_10, 0, none⟩ = some (.int .u32 (W32 vi)) := hS.2.2.1.cell 0; clear hS; go_simp; exact hK.out _ (Below.refl _ _)); simp only [Act.put, List.setIfInBounds_toArray, List.set_cons_zero, List.set_cons_succ]
                refine wpU_take (v := ?_) 2 hst (fun _ h => h) rfl ?_ ?_; rotate_left; (intro W hS K hK; clear hS; go_simp; exact hK.out _ (Below.refl _ _)); simp only [Act.put, List.setIfInBounds_toArray, List.set_cons_zero, List.set_cons_succ]
                refine wpU_take (v := ?_) 3 hst (fun _ h => h) rfl ?_ ?_; rotate_left; (intro W hS K hK; have ld : W.cell? ⟨g8_6, 0, none⟩ = some (.int .u32 (W32 vi)) := hS.2.2.2.2.1.cell 0; clear hS; go_simp; exact hK.out _ (Below.refl _ _)); simp only [Act.put, List.setIfInBounds_toArray, List.set_cons_zero, List.set_cons_succ]
                refine wpU_take (v := ?_) 4 hst (fun _ h => h) rfl ?_ ?_; rotate_left; (intro W hS K hK; clear hS; go_simp; exact hK.out _ (Below.refl _ _)); simp only [Act.put, List.setIfInBounds_toArray, List.set_cons_zero, List.set_cons_succ]
                refine wpU_take (v := ?_) 5 hst (fun _ h => h) rfl ?_ ?_; rotate_left; (intro W hS K hK; clear hS; go_simp; exact hK.out _ (Below.refl _ _)); simp only [Act.put, List.setIfInBounds_toArray, List.set_cons_zero, List.set_cons_succ]
                refine wpU_take (v := ?_) 6 hst (fun _ h => h) rfl ?_ ?_; rotate_left; (intro W hS K hK; clear hS; go_simp; exact hK.out _ (Below.refl _ _)); simp only [Act.put, List.setIfInBounds_toArray, List.set_cons_zero, List.set_cons_succ]
                refine wpU_take (v := ?_) 7 hst (fun _ h => h) rfl ?_ ?_; rotate_left; (intro W hS K hK; clear hS; go_simp; exact hK.out _ (Below.refl _ _)); simp only [Act.put, List.setIfInBounds_toArray, List.set_cons_zero, List.set_cons_succ]
                refine wpU_take (v := ?_) 8 hst (fun _ h => h) rfl ?_ ?_; rotate_left; (intro W hS K hK; clear hS; go_simp; exact hK.out _ (Below.refl _ _)); simp only [Act.put, List.setIfInBounds_toArray, List.set_cons_zero, List.set_cons_succ]
                refine wpU_take (v := ?_) 9 hst (fun _ h => h) rfl ?_ ?_; rotate_left; (intro W hS K hK; clear hS; go_simp; exact hK.out _ (Below.refl _ _)); simp only [Act.put, List.setIfInBounds_toArray, List.set_cons_zero, List.set_cons_succ]
                refine wpU_take (v := ?_) 10 hst (fun _ h => h) rfl ?_ ?_; rotate_left; (intro W hS K hK; clear hS; go_simp; exact hK.out _ (Below.refl _ _)); simp only [Act.put, List.setIfInBounds_toArray, List.set_cons_zero, List.set_cons_succ]
                refine wpU_take (v := ?_) 11 hst (fun _ h => h) rfl ?_ ?_; rotate_left; (intro W hS K hK; clear hS; go_simp; exact hK.out _ (Below.refl _ _)); simp only [Act.put, List.setIfInBounds_toArray, List.set_cons_zero, List.set_cons_succ]
                refine wpU_take (v := ?_) 12 hst (fun _ h => h) rfl ?_ ?_; rotate_left; (intro W hS K hK; clear hS; go_simp; exact hK.out _ (Below.refl _ _)); simp only [Act.put, List.setIfInBounds_toArray, List.set_cons_zero, List.set_cons_succ]
                refine wpU_take (v := ?_) 13 hst (fun _ h => h) rfl ?_ ?_; rotate_left; (intro W hS K hK; clear hS; go_simp; exact hK.out _ (Below.refl _ _)); simp only [Act.put, List.setIfInBounds_toArray, List.set_cons_zero, List.set_cons_succ]
                refine wpU_take (v := ?_) 14 hst (fun _ h => h) rfl ?_ ?_; rotate_left; (intro W hS K hK; clear hS; go_simp; exact hK.out _ (Below.refl _ _)); simp only [Act.put, List.setIfInBounds_toArray, List.set_cons_zero, List.set_cons_succ]
                refine wpU_take (v := ?_) 15 hst (fun _ h => h) rfl ?_ ?_; rotate_left; (intro W hS K hK; clear hS; go_simp; exact hK.out _ (Below.refl _ _)); simp only [Act.put, List.setIfInBounds_toArray, List.set_cons_zero, List.set_cons_succ]
                refine wpU_take (v := ?_) 16 hst (fun _ h => h) rfl ?_ ?_; rotate_left; (intro W hS K hK; clear hS; go_simp; exact hK.out _ (Below.refl _ _)); simp only [Act.put, List.setIfInBounds_toArray, List.set_cons_zero, List.set_cons_succ]
                refine wpU_take (v := ?_) 17 hst (fun _ h => h) rfl ?_ ?_; rotate_left; (intro W hS K hK; clear hS; go_simp; exact hK.out _ (Below.refl _ _)); simp only [Act.put, List.setIfInBounds_toArray, List.set_cons_zero, List.set_cons_succ]
                refine wpU_take (v := .agg #[.int .u64 (W64 s_1), .int .i64 s_2, .int .u64 (W64 s_3), .int .u64 (W64 s_4), .int .u64 (W64 s_5)]) 18 hst (fun _ h => h) rfl (fun W hS K hK => calm_load rfl rfl (run_loadVar_mid W rb (0) 25 [.int .u64 (W64 s_1), .int .i64 s_2, .int .u64 (W64 s_3), .int .u64 (W64 s_4), .int .u64 (W64 s_5)] _ (range_part hS.2.2.2.2.2.2 0 [.int .u64 (W64 s_1), .int .i64 s_2, .int .u64 (W64 s_3), .int .u64 (W64 s_4), .int .u64 (W64 s_5)] rfl) Try.underlying25 rfl (by kernel_rfl)) (hK.out _ (Below.refl _ _))) ?_; simp only [Act.put, List.setIfInBounds_toArray, List.set_cons_zero, List.set_cons_succ]
                refine wpU_take (v := .agg #[.int .i64 p16, .int .u64 (W64 x16_1), .int .i64 x16_2, .int .u64 (W64 x16_3), .int .u64 (W64 x16_4), .int .u64 (W64 x16_5), .int .u64 (W64 y16_1), .int .i64 y16_2, .int .u64 (W64 y16_3), .int .u64 (W64 y16_4), .int .u64 (W64 y16_5)]) 19 hst (fun _ h => h) rfl (fun W hS K hK => calm_load rfl rfl (load_part hS.2.1 0 [.int .i64 p16, .int .u64 (W64 x16_1), .int .i64 x16_2, .int .u64 (W64 x16_3), .int .u64 (W64 x16_4), .int .u64 (W64 x16_5), .int .u64 (W64 y16_1), .int .i64 y16_2, .int .u64 (W64 y16_3), .int .u64 (W64 y16_4), .int .u64 (W64 y16_5)] rfl Try.underlying27 rfl (by kernel_rfl)) (hK.out _ (Below.refl _ _))) ?_; simp only [Act.put, List.setIfInBounds_toArray, List.set_cons_zero, List.set_cons_succ]
                refine wpU_take (v := ?_) 20 hst (fun _ h => h) rfl ?_ ?_; rotate_left; (intro W hS K hK; clear hS; go_simp; refine (CS.out _).mono ?_; rintro e w9 ⟨rfl, hb⟩; refine CallPost.mk ?_; exact hK.out _ (hb)); simp only [Act.put, List.setIfInBounds_toArray, List.set_cons_zero, List.set_cons_succ]
                refine wpU_take (v := ?_) 21 hst (fun _ h => h) rfl ?_ ?_; rotate_left; (intro W hS K hK; clear hS; go_simp; exact hK.out _ (Below.refl _ _)); simp only [Act.put, List.setIfInBounds_toArray, List.set_cons_zero, List.set_cons_succ]
                refine wpU_take (v := ?_) 22 hst (fun _ h => h) rfl ?_ ?_; rotate_left; (intro W hS K hK; clear hS; go_simp; exact hK.out _ (Below.refl _ _)); simp only [Act.put, List.setIfInBounds_toArray, List.set_cons_zero, List.set_cons_succ]
                refine wpU_take (v := ?_) 23 hst (fun _ h => h) rfl ?_ ?_; rotate_left; (intro W hS K hK; clear hS; go_simp; exact hK.out _ (Below.refl _ _)); simp only [Act.put, List.setIfInBounds_toArray, List.set_cons_zero, List.set_cons_succ]
                refine wpU_take (v := ?_) 24 hst (fun _ h => h) rfl ?_ ?_; rotate_left; (intro W hS K hK; clear hS; go_simp; exact hK.out _ (Below.refl _ _)); simp only [Act.put, List.setIfInBounds_toArray, List.set_cons_zero, List.set_cons_succ]
                refine wpU_take (v := ?_) 25 hst (fun _ h => h) rfl ?_ ?_; rotate_left; (intro W hS K hK; clear hS; go_simp; exact hK.out _ (Below.refl _ _)); simp only [Act.put, List.setIfInBounds_toArray, List.set_cons_zero, List.set_cons_succ]
                refine wpU_take (v := ?_) 26 hst (fun _ h => h) rfl ?_ ?_; rotate_left; (intro W hS K hK; clear hS; go_simp; exact hK.out _ (Below.refl _ _)); simp only [Act.put, List.setIfInBounds_toArray, List.set_cons_zero, List.set_cons_succ]
                refine wpU_take (v := ?_) 27 hst (fun _ h => h) rfl ?_ ?_; rotate_left; (intro W hS K hK; clear hS; go_simp; exact hK.out _ (Below.refl _ _)); simp only [Act.put, List.setIfInBounds_toArray, List.set_cons_zero, List.set_cons_succ]
                refine wpU_take (v := ?_) 28 hst (fun _ h => h) rfl ?_ ?_; rotate_left; (intro W hS K hK; clear hS; go_simp; exact hK.out _ (Below.refl _ _)); simp only [Act.put, List.setIfInBounds_toArray, List.set_cons_zero, List.set_cons_succ]
                refine wpU_take (v := .agg #[.int .u32 (W32 vi), .bool vu, .int .i64 vs]) 29 hst (fun _ h => h) rfl (fun W hS K hK => calm_load rfl rfl (load_part hS.2.2.1 0 [.int .u32 (W32 vi), .bool vu, .int .i64 vs] rfl Try.underlying59 rfl (by kernel_rfl)) (hK.out _ (Below.refl _ _))) ?_; simp only [Act.put, List.setIfInBounds_toArray, List.set_cons_zero, List.set_cons_succ]
                refine wpU_take (v := ?_) 30 hst (fun _ h => h) rfl ?_ ?_; rotate_left; (intro W hS K hK; clear hS; go_simp; refine (CT.out _).mono ?_; rintro e w9 ⟨rfl, hb⟩; refine CallPost.mk ?_; exact hK.out _ (hb)); simp only [Act.put, List.setIfInBounds_toArray, List.set_cons_zero, List.set_cons_succ]
                refine wpU_take (v := ?_) 31 hst (fun _ h => h) rfl ?_ ?_; rotate_left; (intro W hS K hK; clear hS; go_simp; exact hK.out _ (Below.refl _ _)); simp only [Act.put, List.setIfInBounds_toArray, List.set_cons_zero, List.set_cons_succ]
                refine wpU_take (v := ?_) 32 hst (fun _ h => h) rfl ?_ ?_; rotate_left; (intro W hS K hK; clear hS; go_simp; exact hK.out _ (Below.refl _ _)); simp only [Act.put, List.setIfInBounds_toArray, List.set_cons_zero, List.set_cons_succ]
                refine wpU_done (fun w_60 hS => ?_)
                obtain ⟨hB, G_55, G8, G8_5, G8_6, RG⟩ := hS
                clear hst
                go_wp2_with (first | (with_reducible refine stop_store ?_) | (with_reducible refine stop_box ?_) | (with_reducible refine stop_alloc ?_) | (with_reducible refine stop_bslice ?_))
                go_roundw
                case rel => exact ⟨j + 1, ⟨p16, ⟨x16_1, x16_2, x16_3, x16_4, x16_5⟩, ⟨y16_1, y16_2, y16_3, y16_4, y16_5⟩⟩, ⟨vi, vu, vs⟩, no, by omega, by go_num, rfl, by dsimp only; omega, by dsimp only; omega, by omega, hB, G_55, G8, hn⟩
                case measure => simp [intOf]; omega
              ·
                have ec_46 : ((kd : Int) == 1) = false := by simpa using hc_46
                have ec_46n : ((kd : Int) != 1) = true := by simpa using hc_46
                have kc_46 := Lib.hid hc_46
                clear hc_46
                by_cases hc_61 : (kd : Int) = 2
                ·
                  subst hc_61
                  have ld_62 : wc.cell? ⟨g8_5, 6, none⟩ = some (.int .i64 no) := G8_5.cell 6
                  have ld_63 : wc.cell? ⟨g8_5, 0, none⟩ = some (.int .i64 2) := G8_5.cell 0
                  go_wp2_with (first | (with_reducible refine stop_store ?_) | (with_reducible refine stop_box ?_) | (with_reducible refine stop_alloc ?_) | (with_reducible refine stop_bslice ?_) | ((with_reducible refine wpList_ld 0 [.int .u32 (W32 vi), .bool vu, .int .i64 vs] G8 ?_ ?_ Try.underlying59 ?_ ?_ ?_); rfl; rfl; rfl; kernel_rfl) | ((with_reducible refine wpList_ldg 0 [.int .u32 (W32 vi), .bool vu, .int .i64 vs] G8 ?_ ?_ Try.underlying59 ?_ ?_ ?_ ?_); rfl; rfl; rfl; kernel_rfl; rfl))
                  obtain ⟨⟨⟨vi18, vu18, vs18⟩, er18⟩, hz18⟩ : ∃ z, beginK ⟨vi, vu, vs⟩ no = z := ⟨_, rfl⟩
                  have C18 := Lib.hid (show ∀ W, Calls Try.prog 38 #[.agg #[.int .u32 (W32 vi), .bool vu, .int .i64 vs], .int .i64 no] W fun e w' => e = .returned (.tuple #[.agg #[.int .u32 (W32 vi18), .bool vu18, .int .i64 vs18], .int .i64 er18]) ∧ Below W.heap.size W w' from fun W => by have := rf_Begin ⟨vi, vu, vs⟩ no W ⟨by dsimp only; omega, by dsimp only; omega⟩ ⟨by omega, by omega⟩; rw [hz18] at this; exact this)
                  have ok18 := begin_ok ⟨vi, vu, vs⟩ no (by dsimp only; omega) (by dsimp only; omega)
                  rw [hz18] at ok18
                  obtain ⟨ix18, sx18, sy18⟩ := ok18
                  dsimp only at ix18 sx18 sy18
                  have il18 : W32 vi ≤ W32 vi18 := by rw [W32_le]; exact ix18
                  have iz18 : decide (W32 vi18 < W32 vi) = false := decide_eq_false (Int.not_lt.2 il18)
                  clear hz18
                  refine (C18.out _).mono ?_; rintro e w_65 ⟨rfl, hb_66⟩
                  clear ld_62 ld_63
                  replace G7 := G7.to hb_66 G7.lt
                  replace G8 := G8.to hb_66 G8.lt
                  replace G8_5 := G8_5.to hb_66 G8_5.lt
                  replace G8_6 := G8_6.to hb_66 G8_6.lt
                  replace hB := hB.trans (hb_66.mono hB.size)
                  clear hb_66
                  go_wp2_with (first | (with_reducible refine stop_store ?_) | (with_reducible refine stop_box ?_) | (with_reducible refine stop_alloc ?_) | (with_reducible refine stop_bslice ?_))
                  unfold Kept
                  refine wpList_st 0 #[.int .u32 (W32 vi18), .bool vu18, .int .i64 vs18] #[.int .u32 (W32 vi18), .bool vu18, .int .i64 vs18] G8 rfl rfl (by kernel_rfl) rfl (of_decide_eq_true rfl) rfl ?_
                  intro w_67 G_69 hU_68
                  replace G7 := hU_68.blk G7 (by omega)
                  replace G8_5 := hU_68.blk G8_5 (by omega)
                  replace G8_6 := hU_68.blk G8_6 (by omega)
                  replace hB := hU_68.below hB (by omega)
                  clear G8 hU_68
                  go_wp2_with (first | (with_reducible refine stop_store ?_) | (with_reducible refine stop_box ?_) | (with_reducible refine stop_alloc ?_) | (with_reducible refine stop_bslice ?_) | ((with_reducible refine wpList_ld 0 [.int .i64 ph, .int .u64 (W64 a1), .int .i64 a2, .int .u64 (W64 a3), .int .u64 (W64 a4), .int .u64 (W64 a5), .int .u64 (W64 b1), .int .i64 b2, .int .u64 (W64 b3), .int .u64 (W64 b4), .int .u64 (W64 b5)] G7 ?_ ?_ Try.underlying27 ?_ ?_ ?_); rfl; rfl; rfl; kernel_rfl) | ((with_reducible refine wpList_ldg 0 [.int .i64 ph, .int .u64 (W64 a1), .int .i64 a2, .int .u64 (W64 a3), .int .u64 (W64 a4), .int .u64 (W64 a5), .int .u64 (W64 b1), .int .i64 b2, .int .u64 (W64 b3), .int .u64 (W64 b4), .int .u64 (W64 b5)] G7 ?_ ?_ Try.underlying27 ?_ ?_ ?_ ?_); rfl; rfl; rfl; kernel_rfl; rfl))
                  obtain ⟨⟨s_1, s_2, s_3, s_4, s_5⟩, hs⟩ : ∃ z, sendK ⟨ph, ⟨a1, a2, a3, a4, a5⟩, ⟨b1, b2, b3, b4, b5⟩⟩ = z := ⟨_, rfl⟩
                  have CR := Lib.hid (show ∀ W, Calls Try.prog 23 #[.agg #[.int .i64 ph, .int .u64 (W64 a1), .int .i64 a2, .int .u64 (W64 a3), .int .u64 (W64 a4), .int .u64 (W64 a5), .int .u64 (W64 b1), .int .i64 b2, .int .u64 (W64 b3), .int .u64 (W64 b4), .int .u64 (W64 b5)]] W fun e w' => ∃ b n, W.heap.size ≤ b ∧ 1 ≤ n ∧ n ≤ 2 ∧ e = .returned (.slice (some ⟨b, 0, none⟩) n n) ∧ Rg b 0 [.int .u64 (W64 s_1), .int .i64 s_2, .int .u64 (W64 s_3), .int .u64 (W64 s_4), .int .u64 (W64 s_5)] w' ∧ Below W.heap.size W w' from fun W => by have := rf_RecvG ⟨ph, ⟨a1, a2, a3, a4, a5⟩, ⟨b1, b2, b3, b4, b5⟩⟩ W; rw [hs] at this; exact this)
                  have CS := Lib.hid (show ∀ W, Calls Try.prog 20 #[.agg #[.int .i64 ph, .int .u64 (W64 a1), .int .i64 a2, .int .u64 (W64 a3), .int .u64 (W64 a4), .int .u64 (W64 a5), .int .u64 (W64 b1), .int .i64 b2, .int .u64 (W64 b3), .int .u64 (W64 b4), .int .u64 (W64 b5)]] W fun e w' => e = .returned (.agg #[.int .u64 (W64 s_1), .int .i64 s_2, .int .u64 (W64 s_3), .int .u64 (W64 s_4), .int .u64 (W64 s_5)]) ∧ Below W.heap.size W w' from fun W => by have := rf_Sending ⟨ph, ⟨a1, a2, a3, a4, a5⟩, ⟨b1, b2, b3, b4, b5⟩⟩ W; rw [hs] at this; exact this)
                  clear hs
                  obtain ⟨tx, htx⟩ : ∃ z, txK ⟨vi18, vu18, vs18⟩ = z := ⟨_, rfl⟩
                  have hrx := rx_tx ⟨vi18, vu18, vs18⟩
                  rw [htx] at hrx
                  have CT := Lib.hid (show ∀ W, Calls Try.prog 44 #[.agg #[.int .u32 (W32 vi18), .bool vu18, .int .i64 vs18]] W fun e w' => e = .returned (.int .u32 (W32 tx)) ∧ Below W.heap.size W w' from fun W => by have := rf_Tx ⟨vi18, vu18, vs18⟩ W; rw [htx] at this; exact this)
                  have CX := Lib.hid (show ∀ W, Calls Try.prog 42 #[.agg #[.int .u32 (W32 vi18), .bool vu18, .int .i64 vs18], .int .i64 (W32 (tx % 2#32))] W fun e w' => e = .returned (.tuple #[.int .u32 (W32 tx), .bool true]) ∧ Below W.heap.size W w' from fun W => by have := rf_Rx ⟨vi18, vu18, vs18⟩ (W32 (tx % 2#32)) W; rw [hrx] at this; exact this)
                  clear htx hrx
                  have hwr : IntKind.i64.wrap (W32 (tx % 2#32)) = W32 (tx % 2#32) := IntWalk.i64_in _ (by have := W32_bd (tx % 2#32); omega)
                  refine (CR.out _).mono ?_; rintro e w_71 ⟨rb, rn, lrb, rn1, rn2, rfl, RG, hb_72⟩
                  have rnp : 0 < rn := rn1
                  have rnq : decide ((rn : Int) < 1) = false := by simp; omega
                  have rnr : decide ((2 : Int) < (rn : Int)) = false := by simp; omega
                  replace G7 := G7.to hb_72 G7.lt
                  replace G_69 := G_69.to hb_72 G_69.lt
                  replace G8_5 := G8_5.to hb_72 G8_5.lt
                  replace G8_6 := G8_6.to hb_72 G8_6.lt
                  replace hB := hB.trans (hb_72.mono hB.size)
                  clear hb_72 lrb
                  go_wp2_with (first | (with_reducible refine stop_store ?_) | (with_reducible refine stop_box ?_) | (with_reducible refine stop_alloc ?_) | (with_reducible refine stop_bslice ?_))
                  have hst : Stable fun W => Below w.heap.size w W ∧ Blk W g_3 27 #[.int .i64 ph, .int .u64 (W64 a1), .int .i64 a2, .int .u64 (W64 a3), .int .u64 (W64 a4), .int .u64 (W64 a5), .int .u64 (W64 b1), .int .i64 b2, .int .u64 (W64 b3), .int .u64 (W64 b4), .int .u64 (W64 b5)] ∧ Blk W g_10 59 #[.int .u32 (W32 vi18), .bool vu18, .int .i64 vs18] ∧ Blk W g8_5 77 #[.int .i64 2, .int .i64 nu, .int .u64 (W64 ky), .bool br, .bool bu, .int .u32 (W32 bi), .int .i64 no] ∧ Blk W g8_6 59 #[.int .u32 (W32 vi), .bool vu, .int .i64 vs] ∧ Rg rb 0 [.int .u64 (W64 s_1), .int .i64 s_2, .int .u64 (W64 s_3), .int .u64 (W64 s_4), .int .u64 (W64 s_5)] W := stable_and (stable_below _ _ (Nat.le_refl _)) (stable_and (stable_blk _ _ _) (stable_and (stable_blk _ _ _) (stable_and (stable_blk _ _ _) (stable_and (stable_blk _ _ _) (stable_rg _ _ _)))))
                  refine wp_region_v _ 11 hst ⟨hB.drew, G7, G_69, G8_5, G8_6, RG⟩ ?_
                  clear hB G7 G_69 G8_5 G8_6 RG
                  refine wpU_take (v := .agg #[.int .u32 (W32 vi18), .bool vu18, .int .i64 vs18]) 0 hst (fun _ h => h) rfl (fun W hS K hK => calm_load rfl rfl (load_part hS.2.2.1 0 [.int .u32 (W32 vi18), .bool vu18, .int .i64 vs18] rfl Try.underlying59 rfl (by kernel_rfl)) (hK.out _ (Below.refl _ _))) ?_; simp only [Act.put, List.setIfInBounds_toArray, List.set_cons_zero, List.set_cons_succ]
                  refine wpU_take (v := .agg #[.int .u32 (W32 vi18), .bool vu18, .int .i64 vs18]) 1 hst (fun _ h => h) rfl (fun W hS K hK => calm_load rfl rfl (load_part hS.2.2.1 0 [.int .u32 (W32 vi18), .bool vu18, .int .i64 vs18] rfl Try.underlying59 rfl (by kernel_rfl)) (hK.out _ (Below.refl _ _))) ?_; simp only [Act.put, List.setIfInBounds_toArray, List.set_cons_zero, List.set_cons_succ]
                  refine wpU_take (v := ?_) 2 hst (fun _ h => h) rfl ?_ ?_; rotate_left; (intro W hS K hK; clear hS; go_simp; refine (CT.out _).mono ?_; rintro e w9 ⟨rfl, hb⟩; refine CallPost.mk ?_; exact hK.out _ (hb)); simp only [Act.put, List.setIfInBounds_toArray, List.set_cons_zero, List.set_cons_succ]
                  refine wpU_take (v := ?_) 3 hst (fun _ h => h) rfl ?_ ?_; rotate_left; (intro W hS K hK; clear hS; go_simp; exact hK.out _ (Below.refl _ _)); simp only [Act.put, List.setIfInBounds_toArray, List.set_cons_zero, List.set_cons_succ]
                  refine wpU_take (v := ?_) 4 hst (fun _ h => h) rfl ?_ ?_; rotate_left; (intro W hS K hK; clear hS; go_simp; exact hK.out _ (Below.refl _ _)); simp only [Act.put, List.setIfInBounds_toArray, List.set_cons_zero, List.set_cons_succ]
                  refine wpU_take (v := ?_) 5 hst (fun _ h => h) rfl ?_ ?_; rotate_left; (intro W hS K hK; clear hS; go_simp; refine (CX.out _).mono ?_; rintro e w9 ⟨rfl, hb⟩; refine CallPost.mk ?_; exact hK.out _ (hb)); simp only [Act.put, List.setIfInBounds_toArray, List.set_cons_zero, List.set_cons_succ]
                  refine wpU_take (v := ?_) 6 hst (fun _ h => h) rfl ?_ ?_; rotate_left; (intro W hS K hK; clear hS; go_simp; exact hK.out _ (Below.refl _ _)); simp only [Act.put, List.setIfInBounds_toArray, List.set_cons_zero, List.set_cons_succ]
                  refine wpU_take (v := ?_) 7 hst (fun _ h => h) rfl ?_ ?_; rotate_left; (intro W hS K hK; clear hS; go_simp; exact hK.out _ (Below.refl _ _)); simp only [Act.put, List.setIfInBounds_toArray, List.set_cons_zero, List.set_cons_succ]
                  refine wpU_take (v := ?_) 8 hst (fun _ h => h) rfl ?_ ?_; rotate_left; (intro W hS K hK; clear hS; go_simp; exact hK.out _ (Below.refl _ _)); simp only [Act.put, List.setIfInBounds_toArray, List.set_cons_zero, List.set_cons_succ]
                  refine wpU_take (v := ?_) 9 hst (fun _ h => h) rfl ?_ ?_; rotate_left; (intro W hS K hK; clear hS; go_simp; exact hK.out _ (Below.refl _ _)); simp only [Act.put, List.setIfInBounds_toArray, List.set_cons_zero, List.set_cons_succ]
                  refine wpU_take (v := ?_) 10 hst (fun _ h => h) rfl ?_ ?_; rotate_left; (intro W hS K hK; clear hS; go_simp; exact hK.out _ (Below.refl _ _)); simp only [Act.put, List.setIfInBounds_toArray, List.set_cons_zero, List.set_cons_succ]
                  refine wpU_done (fun w_73 hS => ?_)
                  obtain ⟨hB, G7, G_69, G8_5, G8_6, RG⟩ := hS
                  clear hst
                  go_wp2_with (first | (with_reducible refine stop_store ?_) | (with_reducible refine stop_box ?_) | (with_reducible refine stop_alloc ?_) | (with_reducible refine stop_bslice ?_))
                  have hst : Stable fun W => Below w.heap.size w W ∧ Blk W g_3 27 #[.int .i64 ph, .int .u64 (W64 a1), .int .i64 a2, .int .u64 (W64 a3), .int .u64 (W64 a4), .int .u64 (W64 a5), .int .u64 (W64 b1), .int .i64 b2, .int .u64 (W64 b3), .int .u64 (W64 b4), .int .u64 (W64 b5)] ∧ Blk W g_10 59 #[.int .u32 (W32 vi18), .bool vu18, .int .i64 vs18] ∧ Blk W g8_5 77 #[.int .i64 2, .int .i64 nu, .int .u64 (W64 ky), .bool br, .bool bu, .int .u32 (W32 bi), .int .i64 no] ∧ Blk W g8_6 59 #[.int .u32 (W32 vi), .bool vu, .int .i64 vs] ∧ Rg rb 0 [.int .u64 (W64 s_1), .int .i64 s_2, .int .u64 (W64 s_3), .int .u64 (W64 s_4), .int .u64 (W64 s_5)] W := stable_and (stable_below _ _ (Nat.le_refl _)) (stable_and (stable_blk _ _ _) (stable_and (stable_blk _ _ _) (stable_and (stable_blk _ _ _) (stable_and (stable_blk _ _ _) (stable_rg _ _ _)))))
                  refine wp_region_v _ 33 hst ⟨hB.drew, G7, G_69, G8_5, G8_6, RG⟩ ?_
                  clear hB G7 G_69 G8_5 G8_6 RG
                  refine wpU_take (v := ?_) 0 hst (fun _ h => h) rfl ?_ ?_; rotate_left; (intro W hS K hK; clear hS; go_simp; exact hK.out _ (Below.refl _ _)); simp only [Act.put, List.setIfInBounds_toArray, List.set_cons_zero, List.set_cons_succ]
                  refine wpU_take (v := ?_) 1 hst (fun _ h => h) rfl ?_ ?_; rotate_left; (intro W hS K hK; have ld : W.cell? ⟨g_10, 0, none⟩ = some (.int .u32 (W32 vi18)) := hS.2.2.1.cell 0; clear hS; go_simp; exact hK.out _ (Below.refl _ _)); simp only [Act.put, List.setIfInBounds_toArray, List.set_cons_zero, List.set_cons_succ]
                  refine wpU_take (v := ?_) 2 hst (fun _ h => h) rfl ?_ ?_; rotate_left; (intro W hS K hK; clear hS; go_simp; exact hK.out _ (Below.refl _ _)); simp only [Act.put, List.setIfInBounds_toArray, List.set_cons_zero, List.set_cons_succ]
                  refine wpU_take (v := ?_) 3 hst (fun _ h => h) rfl ?_ ?_; rotate_left; (intro W hS K hK; have ld : W.cell? ⟨g8_6, 0, none⟩ = some (.int .u32 (W32 vi)) := hS.2.2.2.2.1.cell 0; clear hS; go_simp; exact hK.out _ (Below.refl _ _)); simp only [Act.put, List.setIfInBounds_toArray, List.set_cons_zero, List.set_cons_succ]
                  refine wpU_take (v := ?_) 4 hst (fun _ h => h) rfl ?_ ?_; rotate_left; (intro W hS K hK; clear hS; go_simp; exact hK.out _ (Below.refl _ _)); simp only [Act.put, List.setIfInBounds_toArray, List.set_cons_zero, List.set_cons_succ]
                  refine wpU_take (v := ?_) 5 hst (fun _ h => h) rfl ?_ ?_; rotate_left; (intro W hS K hK; clear hS; go_simp; exact hK.out _ (Below.refl _ _)); simp only [Act.put, List.setIfInBounds_toArray, List.set_cons_zero, List.set_cons_succ]
                  refine wpU_take (v := ?_) 6 hst (fun _ h => h) rfl ?_ ?_; rotate_left; (intro W hS K hK; clear hS; go_simp; exact hK.out _ (Below.refl _ _)); simp only [Act.put, List.setIfInBounds_toArray, List.set_cons_zero, List.set_cons_succ]
                  refine wpU_take (v := ?_) 7 hst (fun _ h => h) rfl ?_ ?_; rotate_left; (intro W hS K hK; clear hS; go_simp; exact hK.out _ (Below.refl _ _)); simp only [Act.put, List.setIfInBounds_toArray, List.set_cons_zero, List.set_cons_succ]
                  refine wpU_take (v := ?_) 8 hst (fun _ h => h) rfl ?_ ?_; rotate_left; (intro W hS K hK; clear hS; go_simp; exact hK.out _ (Below.refl _ _)); simp only [Act.put, List.setIfInBounds_toArray, List.set_cons_zero, List.set_cons_succ]
                  refine wpU_take (v := ?_) 9 hst (fun _ h => h) rfl ?_ ?_; rotate_left; (intro W hS K hK; clear hS; go_simp; exact hK.out _ (Below.refl _ _)); simp only [Act.put, List.setIfInBounds_toArray, List.set_cons_zero, List.set_cons_succ]
                  refine wpU_take (v := ?_) 10 hst (fun _ h => h) rfl ?_ ?_; rotate_left; (intro W hS K hK; clear hS; go_simp; exact hK.out _ (Below.refl _ _)); simp only [Act.put, List.setIfInBounds_toArray, List.set_cons_zero, List.set_cons_succ]
                  refine wpU_take (v := ?_) 11 hst (fun _ h => h) rfl ?_ ?_; rotate_left; (intro W hS K hK; clear hS; go_simp; exact hK.out _ (Below.refl _ _)); simp only [Act.put, List.setIfInBounds_toArray, List.set_cons_zero, List.set_cons_succ]
                  refine wpU_take (v := ?_) 12 hst (fun _ h => h) rfl ?_ ?_; rotate_left; (intro W hS K hK; clear hS; go_simp; exact hK.out _ (Below.refl _ _)); simp only [Act.put, List.setIfInBounds_toArray, List.set_cons_zero, List.set_cons_succ]
                  refine wpU_take (v := ?_) 13 hst (fun _ h => h) rfl ?_ ?_; rotate_left; (intro W hS K hK; clear hS; go_simp; exact hK.out _ (Below.refl _ _)); simp only [Act.put, List.setIfInBounds_toArray, List.set_cons_zero, List.set_cons_succ]
                  refine wpU_take (v := ?_) 14 hst (fun _ h => h) rfl ?_ ?_; rotate_left; (intro W hS K hK; clear hS; go_simp; exact hK.out _ (Below.refl _ _)); simp only [Act.put, List.setIfInBounds_toArray, List.set_cons_zero, List.set_cons_succ]
                  refine wpU_take (v := ?_) 15 hst (fun _ h => h) rfl ?_ ?_; rotate_left; (intro W hS K hK; clear hS; go_simp; exact hK.out _ (Below.refl _ _)); simp only [Act.put, List.setIfInBounds_toArray, List.set_cons_zero, List.set_cons_succ]
                  refine wpU_take (v := ?_) 16 hst (fun _ h => h) rfl ?_ ?_; rotate_left; (intro W hS K hK; clear hS; go_simp; exact hK.out _ (Below.refl _ _)); simp only [Act.put, List.setIfInBounds_toArray, List.set_cons_zero, List.set_cons_succ]
                  refine wpU_take (v := ?_) 17 hst (fun _ h => h) rfl ?_ ?_; rotate_left; (intro W hS K hK; clear hS; go_simp; exact hK.out _ (Below.refl _ _)); simp only [Act.put, List.setIfInBounds_toArray, List.set_cons_zero, List.set_cons_succ]
                  refine wpU_take (v := .agg #[.int .u64 (W64 s_1), .int .i64 s_2, .int .u64 (W64 s_3), .int .u64 (W64 s_4), .int .u64 (W64 s_5)]) 18 hst (fun _ h => h) rfl (fun W hS K hK => calm_load rfl rfl (run_loadVar_mid W rb (0) 25 [.int .u64 (W64 s_1), .int .i64 s_2, .int .u64 (W64 s_3), .int .u64 (W64 s_4), .int .u64 (W64 s_5)] _ (range_part hS.2.2.2.2.2.2 0 [.int .u64 (W64 s_1), .int .i64 s_2, .int .u64 (W64 s_3), .int .u64 (W64 s_4), .int .u64 (W64 s_5)] rfl) Try.underlying25 rfl (by kernel_rfl)) (hK.out _ (Below.refl _ _))) ?_; simp only [Act.put, List.setIfInBounds_toArray, List.set_cons_zero, List.set_cons_succ]
                  refine wpU_take (v := .agg #[.int .i64 ph, .int .u64 (W64 a1), .int .i64 a2, .int .u64 (W64 a3), .int .u64 (W64 a4), .int .u64 (W64 a5), .int .u64 (W64 b1), .int .i64 b2, .int .u64 (W64 b3), .int .u64 (W64 b4), .int .u64 (W64 b5)]) 19 hst (fun _ h => h) rfl (fun W hS K hK => calm_load rfl rfl (load_part hS.2.1 0 [.int .i64 ph, .int .u64 (W64 a1), .int .i64 a2, .int .u64 (W64 a3), .int .u64 (W64 a4), .int .u64 (W64 a5), .int .u64 (W64 b1), .int .i64 b2, .int .u64 (W64 b3), .int .u64 (W64 b4), .int .u64 (W64 b5)] rfl Try.underlying27 rfl (by kernel_rfl)) (hK.out _ (Below.refl _ _))) ?_; simp only [Act.put, List.setIfInBounds_toArray, List.set_cons_zero, List.set_cons_succ]
                  refine wpU_take (v := ?_) 20 hst (fun _ h => h) rfl ?_ ?_; rotate_left; (intro W hS K hK; clear hS; go_simp; refine (CS.out _).mono ?_; rintro e w9 ⟨rfl, hb⟩; refine CallPost.mk ?_; exact hK.out _ (hb)); simp only [Act.put, List.setIfInBounds_toArray, List.set_cons_zero, List.set_cons_succ]
                  refine wpU_take (v := ?_) 21 hst (fun _ h => h) rfl ?_ ?_; rotate_left; (intro W hS K hK; clear hS; go_simp; exact hK.out _ (Below.refl _ _)); simp only [Act.put, List.setIfInBounds_toArray, List.set_cons_zero, List.set_cons_succ]
                  refine wpU_take (v := ?_) 22 hst (fun _ h => h) rfl ?_ ?_; rotate_left; (intro W hS K hK; clear hS; go_simp; exact hK.out _ (Below.refl _ _)); simp only [Act.put, List.setIfInBounds_toArray, List.set_cons_zero, List.set_cons_succ]
                  refine wpU_take (v := ?_) 23 hst (fun _ h => h) rfl ?_ ?_; rotate_left; (intro W hS K hK; clear hS; go_simp; exact hK.out _ (Below.refl _ _)); simp only [Act.put, List.setIfInBounds_toArray, List.set_cons_zero, List.set_cons_succ]
                  refine wpU_take (v := ?_) 24 hst (fun _ h => h) rfl ?_ ?_; rotate_left; (intro W hS K hK; clear hS; go_simp; exact hK.out _ (Below.refl _ _)); simp only [Act.put, List.setIfInBounds_toArray, List.set_cons_zero, List.set_cons_succ]
                  refine wpU_take (v := ?_) 25 hst (fun _ h => h) rfl ?_ ?_; rotate_left; (intro W hS K hK; clear hS; go_simp; exact hK.out _ (Below.refl _ _)); simp only [Act.put, List.setIfInBounds_toArray, List.set_cons_zero, List.set_cons_succ]
                  refine wpU_take (v := ?_) 26 hst (fun _ h => h) rfl ?_ ?_; rotate_left; (intro W hS K hK; clear hS; go_simp; exact hK.out _ (Below.refl _ _)); simp only [Act.put, List.setIfInBounds_toArray, List.set_cons_zero, List.set_cons_succ]
                  refine wpU_take (v := ?_) 27 hst (fun _ h => h) rfl ?_ ?_; rotate_left; (intro W hS K hK; clear hS; go_simp; exact hK.out _ (Below.refl _ _)); simp only [Act.put, List.setIfInBounds_toArray, List.set_cons_zero, List.set_cons_succ]
                  refine wpU_take (v := ?_) 28 hst (fun _ h => h) rfl ?_ ?_; rotate_left; (intro W hS K hK; clear hS; go_simp; exact hK.out _ (Below.refl _ _)); simp only [Act.put, List.setIfInBounds_toArray, List.set_cons_zero, List.set_cons_succ]
                  refine wpU_take (v := .agg #[.int .u32 (W32 vi18), .bool vu18, .int .i64 vs18]) 29 hst (fun _ h => h) rfl (fun W hS K hK => calm_load rfl rfl (load_part hS.2.2.1 0 [.int .u32 (W32 vi18), .bool vu18, .int .i64 vs18] rfl Try.underlying59 rfl (by kernel_rfl)) (hK.out _ (Below.refl _ _))) ?_; simp only [Act.put, List.setIfInBounds_toArray, List.set_cons_zero, List.set_cons_succ]
                  refine wpU_take (v := ?_) 30 hst (fun _ h => h) rfl ?_ ?_; rotate_left; (intro W hS K hK; clear hS; go_simp; refine (CT.out _).mono ?_; rintro e w9 ⟨rfl, hb⟩; refine CallPost.mk ?_; exact hK.out _ (hb)); simp only [Act.put, List.setIfInBounds_toArray, List.set_cons_zero, List.set_cons_succ]
                  refine wpU_take (v := ?_) 31 hst (fun _ h => h) rfl ?_ ?_; rotate_left; (intro W hS K hK; clear hS; go_simp; exact hK.out _ (Below.refl _ _)); simp only [Act.put, List.setIfInBounds_toArray, List.set_cons_zero, List.set_cons_succ]
                  refine wpU_take (v := ?_) 32 hst (fun _ h => h) rfl ?_ ?_; rotate_left; (intro W hS K hK; clear hS; go_simp; exact hK.out _ (Below.refl _ _)); simp only [Act.put, List.setIfInBounds_toArray, List.set_cons_zero, List.set_cons_succ]
                  refine wpU_done (fun w_74 hS => ?_)
                  obtain ⟨hB, G7, G_69, G8_5, G8_6, RG⟩ := hS
                  clear hst
                  go_wp2_with (first | (with_reducible refine stop_store ?_) | (with_reducible refine stop_box ?_) | (with_reducible refine stop_alloc ?_) | (with_reducible refine stop_bslice ?_))
                  go_roundw
                  case rel => exact ⟨j + 1, ⟨ph, ⟨a1, a2, a3, a4, a5⟩, ⟨b1, b2, b3, b4, b5⟩⟩, ⟨vi18, vu18, vs18⟩, no, by omega, by go_num, rfl, by dsimp only; omega, by dsimp only; omega, by omega, hB, G7, G_69, hn⟩
                  case measure => simp [intOf]; omega
                ·
                  have ec_61 : ((kd : Int) == 2) = false := by simpa using hc_61
                  have ec_61n : ((kd : Int) != 2) = true := by simpa using hc_61
                  have kc_61 := Lib.hid hc_61
                  clear hc_61
                  by_cases hc_75 : (kd : Int) = 3
                  ·
                    subst hc_75
                    have ld_76 : wc.cell? ⟨g8_5, 6, none⟩ = some (.int .i64 no) := G8_5.cell 6
                    have ld_77 : wc.cell? ⟨g8_5, 0, none⟩ = some (.int .i64 3) := G8_5.cell 0
                    go_wp2_with (first | (with_reducible refine stop_store ?_) | (with_reducible refine stop_box ?_) | (with_reducible refine stop_alloc ?_) | (with_reducible refine stop_bslice ?_) | ((with_reducible refine wpList_ld 0 [.int .u32 (W32 vi), .bool vu, .int .i64 vs] G8 ?_ ?_ Try.underlying59 ?_ ?_ ?_); rfl; rfl; rfl; kernel_rfl) | ((with_reducible refine wpList_ldg 0 [.int .u32 (W32 vi), .bool vu, .int .i64 vs] G8 ?_ ?_ Try.underlying59 ?_ ?_ ?_ ?_); rfl; rfl; rfl; kernel_rfl; rfl))
                    obtain ⟨⟨⟨vi20, vu20, vs20⟩, er20⟩, hz20⟩ : ∃ z, endK ⟨vi, vu, vs⟩ no = z := ⟨_, rfl⟩
                    have C20 := Lib.hid (show ∀ W, Calls Try.prog 40 #[.agg #[.int .u32 (W32 vi), .bool vu, .int .i64 vs], .int .i64 no] W fun e w' => e = .returned (.tuple #[.agg #[.int .u32 (W32 vi20), .bool vu20, .int .i64 vs20], .int .i64 er20]) ∧ Below W.heap.size W w' from fun W => by have := rf_End ⟨vi, vu, vs⟩ no W ⟨by dsimp only; omega, by dsimp only; omega⟩ ⟨by omega, by omega⟩; rw [hz20] at this; exact this)
                    have ok20 := end_ok ⟨vi, vu, vs⟩ no (by dsimp only; omega) (by dsimp only; omega)
                    rw [hz20] at ok20
                    obtain ⟨ix20, sx20, sy20⟩ := ok20
                    dsimp only at ix20 sx20 sy20
                    have il20 : W32 vi ≤ W32 vi20 := by rw [W32_le]; exact ix20
                    have iz20 : decide (W32 vi20 < W32 vi) = false := decide_eq_false (Int.not_lt.2 il20)
                    clear hz20
                    refine (C20.out _).mono ?_; rintro e w_79 ⟨rfl, hb_80⟩
                    clear ld_76 ld_77
                    replace G7 := G7.to hb_80 G7.lt
                    replace G8 := G8.to hb_80 G8.lt
                    replace G8_5 := G8_5.to hb_80 G8_5.lt
                    replace G8_6 := G8_6.to hb_80 G8_6.lt
                    replace hB := hB.trans (hb_80.mono hB.size)
                    clear hb_80
                    go_wp2_with (first | (with_reducible refine stop_store ?_) | (with_reducible refine stop_box ?_) | (with_reducible refine stop_alloc ?_) | (with_reducible refine stop_bslice ?_))
                    unfold Kept
                    refine wpList_st 0 #[.int .u32 (W32 vi20), .bool vu20, .int .i64 vs20] #[.int .u32 (W32 vi20), .bool vu20, .int .i64 vs20] G8 rfl rfl (by kernel_rfl) rfl (of_decide_eq_true rfl) rfl ?_
                    intro w_81 G_83 hU_82
                    replace G7 := hU_82.blk G7 (by omega)
                    replace G8_5 := hU_82.blk G8_5 (by omega)
                    replace G8_6 := hU_82.blk G8_6 (by omega)
                    replace hB := hU_82.below hB (by omega)
                    clear G8 hU_82
                    go_wp2_with (first | (with_reducible refine stop_store ?_) | (with_reducible refine stop_box ?_) | (with_reducible refine stop_alloc ?_) | (with_reducible refine stop_bslice ?_) | ((with_reducible refine wpList_ld 0 [.int .i64 ph, .int .u64 (W64 a1), .int .i64 a2, .int .u64 (W64 a3), .int .u64 (W64 a4), .int .u64 (W64 a5), .int .u64 (W64 b1), .int .i64 b2, .int .u64 (W64 b3), .int .u64 (W64 b4), .int .u64 (W64 b5)] G7 ?_ ?_ Try.underlying27 ?_ ?_ ?_); rfl; rfl; rfl; kernel_rfl) | ((with_reducible refine wpList_ldg 0 [.int .i64 ph, .int .u64 (W64 a1), .int .i64 a2, .int .u64 (W64 a3), .int .u64 (W64 a4), .int .u64 (W64 a5), .int .u64 (W64 b1), .int .i64 b2, .int .u64 (W64 b3), .int .u64 (W64 b4), .int .u64 (W64 b5)] G7 ?_ ?_ Try.underlying27 ?_ ?_ ?_ ?_); rfl; rfl; rfl; kernel_rfl; rfl))
                    obtain ⟨⟨s_1, s_2, s_3, s_4, s_5⟩, hs⟩ : ∃ z, sendK ⟨ph, ⟨a1, a2, a3, a4, a5⟩, ⟨b1, b2, b3, b4, b5⟩⟩ = z := ⟨_, rfl⟩
                    have CR := Lib.hid (show ∀ W, Calls Try.prog 23 #[.agg #[.int .i64 ph, .int .u64 (W64 a1), .int .i64 a2, .int .u64 (W64 a3), .int .u64 (W64 a4), .int .u64 (W64 a5), .int .u64 (W64 b1), .int .i64 b2, .int .u64 (W64 b3), .int .u64 (W64 b4), .int .u64 (W64 b5)]] W fun e w' => ∃ b n, W.heap.size ≤ b ∧ 1 ≤ n ∧ n ≤ 2 ∧ e = .returned (.slice (some ⟨b, 0, none⟩) n n) ∧ Rg b 0 [.int .u64 (W64 s_1), .int .i64 s_2, .int .u64 (W64 s_3), .int .u64 (W64 s_4), .int .u64 (W64 s_5)] w' ∧ Below W.heap.size W w' from fun W => by have := rf_RecvG ⟨ph, ⟨a1, a2, a3, a4, a5⟩, ⟨b1, b2, b3, b4, b5⟩⟩ W; rw [hs] at this; exact this)
                    have CS := Lib.hid (show ∀ W, Calls Try.prog 20 #[.agg #[.int .i64 ph, .int .u64 (W64 a1), .int .i64 a2, .int .u64 (W64 a3), .int .u64 (W64 a4), .int .u64 (W64 a5), .int .u64 (W64 b1), .int .i64 b2, .int .u64 (W64 b3), .int .u64 (W64 b4), .int .u64 (W64 b5)]] W fun e w' => e = .returned (.agg #[.int .u64 (W64 s_1), .int .i64 s_2, .int .u64 (W64 s_3), .int .u64 (W64 s_4), .int .u64 (W64 s_5)]) ∧ Below W.heap.size W w' from fun W => by have := rf_Sending ⟨ph, ⟨a1, a2, a3, a4, a5⟩, ⟨b1, b2, b3, b4, b5⟩⟩ W; rw [hs] at this; exact this)
                    clear hs
                    obtain ⟨tx, htx⟩ : ∃ z, txK ⟨vi20, vu20, vs20⟩ = z := ⟨_, rfl⟩
                    have hrx := rx_tx ⟨vi20, vu20, vs20⟩
                    rw [htx] at hrx
                    have CT := Lib.hid (show ∀ W, Calls Try.prog 44 #[.agg #[.int .u32 (W32 vi20), .bool vu20, .int .i64 vs20]] W fun e w' => e = .returned (.int .u32 (W32 tx)) ∧ Below W.heap.size W w' from fun W => by have := rf_Tx ⟨vi20, vu20, vs20⟩ W; rw [htx] at this; exact this)
                    have CX := Lib.hid (show ∀ W, Calls Try.prog 42 #[.agg #[.int .u32 (W32 vi20), .bool vu20, .int .i64 vs20], .int .i64 (W32 (tx % 2#32))] W fun e w' => e = .returned (.tuple #[.int .u32 (W32 tx), .bool true]) ∧ Below W.heap.size W w' from fun W => by have := rf_Rx ⟨vi20, vu20, vs20⟩ (W32 (tx % 2#32)) W; rw [hrx] at this; exact this)
                    clear htx hrx
                    have hwr : IntKind.i64.wrap (W32 (tx % 2#32)) = W32 (tx % 2#32) := IntWalk.i64_in _ (by have := W32_bd (tx % 2#32); omega)
                    refine (CR.out _).mono ?_; rintro e w_85 ⟨rb, rn, lrb, rn1, rn2, rfl, RG, hb_86⟩
                    have rnp : 0 < rn := rn1
                    have rnq : decide ((rn : Int) < 1) = false := by simp; omega
                    have rnr : decide ((2 : Int) < (rn : Int)) = false := by simp; omega
                    replace G7 := G7.to hb_86 G7.lt
                    replace G_83 := G_83.to hb_86 G_83.lt
                    replace G8_5 := G8_5.to hb_86 G8_5.lt
                    replace G8_6 := G8_6.to hb_86 G8_6.lt
                    replace hB := hB.trans (hb_86.mono hB.size)
                    clear hb_86 lrb
                    go_wp2_with (first | (with_reducible refine stop_store ?_) | (with_reducible refine stop_box ?_) | (with_reducible refine stop_alloc ?_) | (with_reducible refine stop_bslice ?_))
                    have hst : Stable fun W => Below w.heap.size w W ∧ Blk W g_3 27 #[.int .i64 ph, .int .u64 (W64 a1), .int .i64 a2, .int .u64 (W64 a3), .int .u64 (W64 a4), .int .u64 (W64 a5), .int .u64 (W64 b1), .int .i64 b2, .int .u64 (W64 b3), .int .u64 (W64 b4), .int .u64 (W64 b5)] ∧ Blk W g_10 59 #[.int .u32 (W32 vi20), .bool vu20, .int .i64 vs20] ∧ Blk W g8_5 77 #[.int .i64 3, .int .i64 nu, .int .u64 (W64 ky), .bool br, .bool bu, .int .u32 (W32 bi), .int .i64 no] ∧ Blk W g8_6 59 #[.int .u32 (W32 vi), .bool vu, .int .i64 vs] ∧ Rg rb 0 [.int .u64 (W64 s_1), .int .i64 s_2, .int .u64 (W64 s_3), .int .u64 (W64 s_4), .int .u64 (W64 s_5)] W := stable_and (stable_below _ _ (Nat.le_refl _)) (stable_and (stable_blk _ _ _) (stable_and (stable_blk _ _ _) (stable_and (stable_blk _ _ _) (stable_and (stable_blk _ _ _) (stable_rg _ _ _)))))
                    refine wp_region_v _ 11 hst ⟨hB.drew, G7, G_83, G8_5, G8_6, RG⟩ ?_
                    clear hB G7 G_83 G8_5 G8_6 RG
                    refine wpU_take (v := .agg #[.int .u32 (W32 vi20), .bool vu20, .int .i64 vs20]) 0 hst (fun _ h => h) rfl (fun W hS K hK => calm_load rfl rfl (load_part hS.2.2.1 0 [.int .u32 (W32 vi20), .bool vu20, .int .i64 vs20] rfl Try.underlying59 rfl (by kernel_rfl)) (hK.out _ (Below.refl _ _))) ?_; simp only [Act.put, List.setIfInBounds_toArray, List.set_cons_zero, List.set_cons_succ]
                    refine wpU_take (v := .agg #[.int .u32 (W32 vi20), .bool vu20, .int .i64 vs20]) 1 hst (fun _ h => h) rfl (fun W hS K hK => calm_load rfl rfl (load_part hS.2.2.1 0 [.int .u32 (W32 vi20), .bool vu20, .int .i64 vs20] rfl Try.underlying59 rfl (by kernel_rfl)) (hK.out _ (Below.refl _ _))) ?_; simp only [Act.put, List.setIfInBounds_toArray, List.set_cons_zero, List.set_cons_succ]
                    refine wpU_take (v := ?_) 2 hst (fun _ h => h) rfl ?_ ?_; rotate_left; (intro W hS K hK; clear hS; go_simp; refine (CT.out _).mono ?_; rintro e w9 ⟨rfl, hb⟩; refine CallPost.mk ?_; exact hK.out _ (hb)); simp only [Act.put, List.setIfInBounds_toArray, List.set_cons_zero, List.set_cons_succ]
                    refine wpU_take (v := ?_) 3 hst (fun _ h => h) rfl ?_ ?_; rotate_left; (intro W hS K hK; clear hS; go_simp; exact hK.out _ (Below.refl _ _)); simp only [Act.put, List.setIfInBounds_toArray, List.set_cons_zero, List.set_cons_succ]
                    refine wpU_take (v := ?_) 4 hst (fun _ h => h) rfl ?_ ?_; rotate_left; (intro W hS K hK; clear hS; go_simp; exact hK.out _ (Below.refl _ _)); simp only [Act.put, List.setIfInBounds_toArray, List.set_cons_zero, List.set_cons_succ]
                    refine wpU_take (v := ?_) 5 hst (fun _ h => h) rfl ?_ ?_; rotate_left; (intro W hS K hK; clear hS; go_simp; refine (CX.out _).mono ?_; rintro e w9 ⟨rfl, hb⟩; refine CallPost.mk ?_; exact hK.out _ (hb)); simp only [Act.put, List.setIfInBounds_toArray, List.set_cons_zero, List.set_cons_succ]
                    refine wpU_take (v := ?_) 6 hst (fun _ h => h) rfl ?_ ?_; rotate_left; (intro W hS K hK; clear hS; go_simp; exact hK.out _ (Below.refl _ _)); simp only [Act.put, List.setIfInBounds_toArray, List.set_cons_zero, List.set_cons_succ]
                    refine wpU_take (v := ?_) 7 hst (fun _ h => h) rfl ?_ ?_; rotate_left; (intro W hS K hK; clear hS; go_simp; exact hK.out _ (Below.refl _ _)); simp only [Act.put, List.setIfInBounds_toArray, List.set_cons_zero, List.set_cons_succ]
                    refine wpU_take (v := ?_) 8 hst (fun _ h => h) rfl ?_ ?_; rotate_left; (intro W hS K hK; clear hS; go_simp; exact hK.out _ (Below.refl _ _)); simp only [Act.put, List.setIfInBounds_toArray, List.set_cons_zero, List.set_cons_succ]
                    refine wpU_take (v := ?_) 9 hst (fun _ h => h) rfl ?_ ?_; rotate_left; (intro W hS K hK; clear hS; go_simp; exact hK.out _ (Below.refl _ _)); simp only [Act.put, List.setIfInBounds_toArray, List.set_cons_zero, List.set_cons_succ]
                    refine wpU_take (v := ?_) 10 hst (fun _ h => h) rfl ?_ ?_; rotate_left; (intro W hS K hK; clear hS; go_simp; exact hK.out _ (Below.refl _ _)); simp only [Act.put, List.setIfInBounds_toArray, List.set_cons_zero, List.set_cons_succ]
                    refine wpU_done (fun w_87 hS => ?_)
                    obtain ⟨hB, G7, G_83, G8_5, G8_6, RG⟩ := hS
                    clear hst
                    go_wp2_with (first | (with_reducible refine stop_store ?_) | (with_reducible refine stop_box ?_) | (with_reducible refine stop_alloc ?_) | (with_reducible refine stop_bslice ?_))
                    have hst : Stable fun W => Below w.heap.size w W ∧ Blk W g_3 27 #[.int .i64 ph, .int .u64 (W64 a1), .int .i64 a2, .int .u64 (W64 a3), .int .u64 (W64 a4), .int .u64 (W64 a5), .int .u64 (W64 b1), .int .i64 b2, .int .u64 (W64 b3), .int .u64 (W64 b4), .int .u64 (W64 b5)] ∧ Blk W g_10 59 #[.int .u32 (W32 vi20), .bool vu20, .int .i64 vs20] ∧ Blk W g8_5 77 #[.int .i64 3, .int .i64 nu, .int .u64 (W64 ky), .bool br, .bool bu, .int .u32 (W32 bi), .int .i64 no] ∧ Blk W g8_6 59 #[.int .u32 (W32 vi), .bool vu, .int .i64 vs] ∧ Rg rb 0 [.int .u64 (W64 s_1), .int .i64 s_2, .int .u64 (W64 s_3), .int .u64 (W64 s_4), .int .u64 (W64 s_5)] W := stable_and (stable_below _ _ (Nat.le_refl _)) (stable_and (stable_blk _ _ _) (stable_and (stable_blk _ _ _) (stable_and (stable_blk _ _ _) (stable_and (stable_blk _ _ _) (stable_rg _ _ _)))))
                    refine wp_region_v _ 33 hst ⟨hB.drew, G7, G_83, G8_5, G8_6, RG⟩ ?_
                    clear hB G7 G_83 G8_5 G8_6 RG
                    refine wpU_take (v := ?_) 0 hst (fun _ h => h) rfl ?_ ?_; rotate_left; (intro W hS K hK; clear hS; go_simp; exact hK.out _ (Below.refl _ _)); simp only [Act.put, List.setIfInBounds_toArray, List.set_cons_zero, List.set_cons_succ]
                    refine wpU_take (v := ?_) 1 hst (fun _ h => h) rfl ?_ ?_; rotate_left; (intro W hS K hK; have ld : W.cell? ⟨g_10, 0, none⟩ = some (.int .u32 (W32 vi20)) := hS.2.2.1.cell 0; clear hS; go_simp; exact hK.out _ (Below.refl _ _)); simp only [Act.put, List.setIfInBounds_toArray, List.set_cons_zero, List.set_cons_succ]
                    refine wpU_take (v := ?_) 2 hst (fun _ h => h) rfl ?_ ?_; rotate_left; (intro W hS K hK; clear hS; go_simp; exact hK.out _ (Below.refl _ _)); simp only [Act.put, List.setIfInBounds_toArray, List.set_cons_zero, List.set_cons_succ]
                    refine wpU_take (v := ?_) 3 hst (fun _ h => h) rfl ?_ ?_; rotate_left; (intro W hS K hK; have ld : W.cell? ⟨g8_6, 0, none⟩ = some (.int .u32 (W32 vi)) := hS.2.2.2.2.1.cell 0; clear hS; go_simp; exact hK.out _ (Below.refl _ _)); simp only [Act.put, List.setIfInBounds_toArray, List.set_cons_zero, List.set_cons_succ]
                    refine wpU_take (v := ?_) 4 hst (fun _ h => h) rfl ?_ ?_; rotate_left; (intro W hS K hK; clear hS; go_simp; exact hK.out _ (Below.refl _ _)); simp only [Act.put, List.setIfInBounds_toArray, List.set_cons_zero, List.set_cons_succ]
                    refine wpU_take (v := ?_) 5 hst (fun _ h => h) rfl ?_ ?_; rotate_left; (intro W hS K hK; clear hS; go_simp; exact hK.out _ (Below.refl _ _)); simp only [Act.put, List.setIfInBounds_toArray, List.set_cons_zero, List.set_cons_succ]
                    refine wpU_take (v := ?_) 6 hst (fun _ h => h) rfl ?_ ?_; rotate_left; (intro W hS K hK; clear hS; go_simp; exact hK.out _ (Below.refl _ _)); simp only [Act.put, List.setIfInBounds_toArray, List.set_cons_zero, List.set_cons_succ]
                    refine wpU_take (v := ?_) 7 hst (fun _ h => h) rfl ?_ ?_; rotate_left; (intro W hS K hK; clear hS; go_simp; exact hK.out _ (Below.refl _ _)); simp only [Act.put, List.setIfInBounds_toArray, List.set_cons_zero, List.set_cons_succ]
                    refine wpU_take (v := ?_) 8 hst (fun _ h => h) rfl ?_ ?_; rotate_left; (intro W hS K hK; clear hS; go_simp; exact hK.out _ (Below.refl _ _)); simp only [Act.put, List.setIfInBounds_toArray, List.set_cons_zero, List.set_cons_succ]
                    refine wpU_take (v := ?_) 9 hst (fun _ h => h) rfl ?_ ?_; rotate_left; (intro W hS K hK; clear hS; go_simp; exact hK.out _ (Below.refl _ _)); simp only [Act.put, List.setIfInBounds_toArray, List.set_cons_zero, List.set_cons_succ]
                    refine wpU_take (v := ?_) 10 hst (fun _ h => h) rfl ?_ ?_; rotate_left; (intro W hS K hK; clear hS; go_simp; exact hK.out _ (Below.refl _ _)); simp only [Act.put, List.setIfInBounds_toArray, List.set_cons_zero, List.set_cons_succ]
                    refine wpU_take (v := ?_) 11 hst (fun _ h => h) rfl ?_ ?_; rotate_left; (intro W hS K hK; clear hS; go_simp; exact hK.out _ (Below.refl _ _)); simp only [Act.put, List.setIfInBounds_toArray, List.set_cons_zero, List.set_cons_succ]
                    refine wpU_take (v := ?_) 12 hst (fun _ h => h) rfl ?_ ?_; rotate_left; (intro W hS K hK; clear hS; go_simp; exact hK.out _ (Below.refl _ _)); simp only [Act.put, List.setIfInBounds_toArray, List.set_cons_zero, List.set_cons_succ]
                    refine wpU_take (v := ?_) 13 hst (fun _ h => h) rfl ?_ ?_; rotate_left; (intro W hS K hK; clear hS; go_simp; exact hK.out _ (Below.refl _ _)); simp only [Act.put, List.setIfInBounds_toArray, List.set_cons_zero, List.set_cons_succ]
                    refine wpU_take (v := ?_) 14 hst (fun _ h => h) rfl ?_ ?_; rotate_left; (intro W hS K hK; clear hS; go_simp; exact hK.out _ (Below.refl _ _)); simp only [Act.put, List.setIfInBounds_toArray, List.set_cons_zero, List.set_cons_succ]
                    refine wpU_take (v := ?_) 15 hst (fun _ h => h) rfl ?_ ?_; rotate_left; (intro W hS K hK; clear hS; go_simp; exact hK.out _ (Below.refl _ _)); simp only [Act.put, List.setIfInBounds_toArray, List.set_cons_zero, List.set_cons_succ]
                    refine wpU_take (v := ?_) 16 hst (fun _ h => h) rfl ?_ ?_; rotate_left; (intro W hS K hK; clear hS; go_simp; exact hK.out _ (Below.refl _ _)); simp only [Act.put, List.setIfInBounds_toArray, List.set_cons_zero, List.set_cons_succ]
                    refine wpU_take (v := ?_) 17 hst (fun _ h => h) rfl ?_ ?_; rotate_left; (intro W hS K hK; clear hS; go_simp; exact hK.out _ (Below.refl _ _)); simp only [Act.put, List.setIfInBounds_toArray, List.set_cons_zero, List.set_cons_succ]
                    refine wpU_take (v := .agg #[.int .u64 (W64 s_1), .int .i64 s_2, .int .u64 (W64 s_3), .int .u64 (W64 s_4), .int .u64 (W64 s_5)]) 18 hst (fun _ h => h) rfl (fun W hS K hK => calm_load rfl rfl (run_loadVar_mid W rb (0) 25 [.int .u64 (W64 s_1), .int .i64 s_2, .int .u64 (W64 s_3), .int .u64 (W64 s_4), .int .u64 (W64 s_5)] _ (range_part hS.2.2.2.2.2.2 0 [.int .u64 (W64 s_1), .int .i64 s_2, .int .u64 (W64 s_3), .int .u64 (W64 s_4), .int .u64 (W64 s_5)] rfl) Try.underlying25 rfl (by kernel_rfl)) (hK.out _ (Below.refl _ _))) ?_; simp only [Act.put, List.setIfInBounds_toArray, List.set_cons_zero, List.set_cons_succ]
                    refine wpU_take (v := .agg #[.int .i64 ph, .int .u64 (W64 a1), .int .i64 a2, .int .u64 (W64 a3), .int .u64 (W64 a4), .int .u64 (W64 a5), .int .u64 (W64 b1), .int .i64 b2, .int .u64 (W64 b3), .int .u64 (W64 b4), .int .u64 (W64 b5)]) 19 hst (fun _ h => h) rfl (fun W hS K hK => calm_load rfl rfl (load_part hS.2.1 0 [.int .i64 ph, .int .u64 (W64 a1), .int .i64 a2, .int .u64 (W64 a3), .int .u64 (W64 a4), .int .u64 (W64 a5), .int .u64 (W64 b1), .int .i64 b2, .int .u64 (W64 b3), .int .u64 (W64 b4), .int .u64 (W64 b5)] rfl Try.underlying27 rfl (by kernel_rfl)) (hK.out _ (Below.refl _ _))) ?_; simp only [Act.put, List.setIfInBounds_toArray, List.set_cons_zero, List.set_cons_succ]
                    refine wpU_take (v := ?_) 20 hst (fun _ h => h) rfl ?_ ?_; rotate_left; (intro W hS K hK; clear hS; go_simp; refine (CS.out _).mono ?_; rintro e w9 ⟨rfl, hb⟩; refine CallPost.mk ?_; exact hK.out _ (hb)); simp only [Act.put, List.setIfInBounds_toArray, List.set_cons_zero, List.set_cons_succ]
                    refine wpU_take (v := ?_) 21 hst (fun _ h => h) rfl ?_ ?_; rotate_left; (intro W hS K hK; clear hS; go_simp; exact hK.out _ (Below.refl _ _)); simp only [Act.put, List.setIfInBounds_toArray, List.set_cons_zero, List.set_cons_succ]
                    refine wpU_take (v := ?_) 22 hst (fun _ h => h) rfl ?_ ?_; rotate_left; (intro W hS K hK; clear hS; go_simp; exact hK.out _ (Below.refl _ _)); simp only [Act.put, List.setIfInBounds_toArray, List.set_cons_zero, List.set_cons_succ]
                    refine wpU_take (v := ?_) 23 hst (fun _ h => h) rfl ?_ ?_; rotate_left; (intro W hS K hK; clear hS; go_simp; exact hK.out _ (Below.refl _ _)); simp only [Act.put, List.setIfInBounds_toArray, List.set_cons_zero, List.set_cons_succ]
                    refine wpU_take (v := ?_) 24 hst (fun _ h => h) rfl ?_ ?_; rotate_left; (intro W hS K hK; clear hS; go_simp; exact hK.out _ (Below.refl _ _)); simp only [Act.put, List.setIfInBounds_toArray, List.set_cons_zero, List.set_cons_succ]
                    refine wpU_take (v := ?_) 25 hst (fun _ h => h) rfl ?_ ?_; rotate_left; (intro W hS K hK; clear hS; go_simp; exact hK.out _ (Below.refl _ _)); simp only [Act.put, List.setIfInBounds_toArray, List.set_cons_zero, List.set_cons_succ]
                    refine wpU_take (v := ?_) 26 hst (fun _ h => h) rfl ?_ ?_; rotate_left; (intro W hS K hK; clear hS; go_simp; exact hK.out _ (Below.refl _ _)); simp only [Act.put, List.setIfInBounds_toArray, List.set_cons_zero, List.set_cons_succ]
                    refine wpU_take (v := ?_) 27 hst (fun _ h => h) rfl ?_ ?_; rotate_left; (intro W hS K hK; clear hS; go_simp; exact hK.out _ (Below.refl _ _)); simp only [Act.put, List.setIfInBounds_toArray, List.set_cons_zero, List.set_cons_succ]
                    refine wpU_take (v := ?_) 28 hst (fun _ h => h) rfl ?_ ?_; rotate_left; (intro W hS K hK; clear hS; go_simp; exact hK.out _ (Below.refl _ _)); simp only [Act.put, List.setIfInBounds_toArray, List.set_cons_zero, List.set_cons_succ]
                    refine wpU_take (v := .agg #[.int .u32 (W32 vi20), .bool vu20, .int .i64 vs20]) 29 hst (fun _ h => h) rfl (fun W hS K hK => calm_load rfl rfl (load_part hS.2.2.1 0 [.int .u32 (W32 vi20), .bool vu20, .int .i64 vs20] rfl Try.underlying59 rfl (by kernel_rfl)) (hK.out _ (Below.refl _ _))) ?_; simp only [Act.put, List.setIfInBounds_toArray, List.set_cons_zero, List.set_cons_succ]
                    refine wpU_take (v := ?_) 30 hst (fun _ h => h) rfl ?_ ?_; rotate_left; (intro W hS K hK; clear hS; go_simp; refine (CT.out _).mono ?_; rintro e w9 ⟨rfl, hb⟩; refine CallPost.mk ?_; exact hK.out _ (hb)); simp only [Act.put, List.setIfInBounds_toArray, List.set_cons_zero, List.set_cons_succ]
                    refine wpU_take (v := ?_) 31 hst (fun _ h => h) rfl ?_ ?_; rotate_left; (intro W hS K hK; clear hS; go_simp; exact hK.out _ (Below.refl _ _)); simp only [Act.put, List.setIfInBounds_toArray, List.set_cons_zero, List.set_cons_succ]
                    refine wpU_take (v := ?_) 32 hst (fun _ h => h) rfl ?_ ?_; rotate_left; (intro W hS K hK; clear hS; go_simp; exact hK.out _ (Below.refl _ _)); simp only [Act.put, List.setIfInBounds_toArray, List.set_cons_zero, List.set_cons_succ]
                    refine wpU_done (fun w_88 hS => ?_)
                    obtain ⟨hB, G7, G_83, G8_5, G8_6, RG⟩ := hS
                    clear hst
                    go_wp2_with (first | (with_reducible refine stop_store ?_) | (with_reducible refine stop_box ?_) | (with_reducible refine stop_alloc ?_) | (with_reducible refine stop_bslice ?_))
                    go_roundw
                    case rel => exact ⟨j + 1, ⟨ph, ⟨a1, a2, a3, a4, a5⟩, ⟨b1, b2, b3, b4, b5⟩⟩, ⟨vi20, vu20, vs20⟩, no, by omega, by go_num, rfl, by dsimp only; omega, by dsimp only; omega, by omega, hB, G7, G_83, hn⟩
                    case measure => simp [intOf]; omega
                  ·
                    have ec_75 : ((kd : Int) == 3) = false := by simpa using hc_75
                    have ec_75n : ((kd : Int) != 3) = true := by simpa using hc_75
                    have kc_75 := Lib.hid hc_75
                    clear hc_75
                    have ld_89 : wc.cell? ⟨g8_5, 6, none⟩ = some (.int .i64 no) := G8_5.cell 6
                    have ld_90 : wc.cell? ⟨g8_5, 0, none⟩ = some (.int .i64 kd) := G8_5.cell 0
                    have ld_94 : wc.cell? ⟨g8_5, 1, none⟩ = some (.int .i64 nu) := G8_5.cell 1
                    go_wp2_with (first | (with_reducible refine stop_store ?_) | (with_reducible refine stop_box ?_) | (with_reducible refine stop_alloc ?_) | (with_reducible refine stop_bslice ?_) | ((with_reducible refine wpList_ld 0 [.int .i64 ph, .int .u64 (W64 a1), .int .i64 a2, .int .u64 (W64 a3), .int .u64 (W64 a4), .int .u64 (W64 a5), .int .u64 (W64 b1), .int .i64 b2, .int .u64 (W64 b3), .int .u64 (W64 b4), .int .u64 (W64 b5)] G7 ?_ ?_ Try.underlying27 ?_ ?_ ?_); rfl; rfl; rfl; kernel_rfl) | ((with_reducible refine wpList_ldg 0 [.int .i64 ph, .int .u64 (W64 a1), .int .i64 a2, .int .u64 (W64 a3), .int .u64 (W64 a4), .int .u64 (W64 a5), .int .u64 (W64 b1), .int .i64 b2, .int .u64 (W64 b3), .int .u64 (W64 b4), .int .u64 (W64 b5)] G7 ?_ ?_ Try.underlying27 ?_ ?_ ?_ ?_); rfl; rfl; rfl; kernel_rfl; rfl) | ((with_reducible refine wpList_ld 0 [.int .u32 (W32 vi), .bool vu, .int .i64 vs] G8 ?_ ?_ Try.underlying59 ?_ ?_ ?_); rfl; rfl; rfl; kernel_rfl) | ((with_reducible refine wpList_ldg 0 [.int .u32 (W32 vi), .bool vu, .int .i64 vs] G8 ?_ ?_ Try.underlying59 ?_ ?_ ?_ ?_); rfl; rfl; rfl; kernel_rfl; rfl) | ((with_reducible refine wpList_ld 3 [.bool br, .bool bu, .int .u32 (W32 bi)] G8_5 ?_ ?_ Try.underlying71 ?_ ?_ ?_); rfl; rfl; rfl; kernel_rfl))
                    obtain ⟨⟨⟨p12, ⟨x12_1, x12_2, x12_3, x12_4, x12_5⟩, ⟨y12_1, y12_2, y12_3, y12_4, y12_5⟩⟩, ⟨vi12, vu12, vs12⟩⟩, hz12⟩ : ∃ z, hearK ⟨ph, ⟨a1, a2, a3, a4, a5⟩, ⟨b1, b2, b3, b4, b5⟩⟩ ⟨vi, vu, vs⟩ ⟨br, bu, bi⟩ nu no = z := ⟨_, rfl⟩
                    have C12 := Lib.hid (show ∀ W, Calls Try.prog 48 #[.agg #[.int .i64 ph, .int .u64 (W64 a1), .int .i64 a2, .int .u64 (W64 a3), .int .u64 (W64 a4), .int .u64 (W64 a5), .int .u64 (W64 b1), .int .i64 b2, .int .u64 (W64 b3), .int .u64 (W64 b4), .int .u64 (W64 b5)], .agg #[.int .u32 (W32 vi), .bool vu, .int .i64 vs], .agg #[.bool br, .bool bu, .int .u32 (W32 bi)], .int .i64 nu, .int .i64 no] W fun e w' => e = .returned (.tuple #[.agg #[.int .i64 p12, .int .u64 (W64 x12_1), .int .i64 x12_2, .int .u64 (W64 x12_3), .int .u64 (W64 x12_4), .int .u64 (W64 x12_5), .int .u64 (W64 y12_1), .int .i64 y12_2, .int .u64 (W64 y12_3), .int .u64 (W64 y12_4), .int .u64 (W64 y12_5)], .agg #[.int .u32 (W32 vi12), .bool vu12, .int .i64 vs12]]) ∧ Below W.heap.size W w' from fun W => by have := rf_Hear ⟨ph, ⟨a1, a2, a3, a4, a5⟩, ⟨b1, b2, b3, b4, b5⟩⟩ ⟨vi, vu, vs⟩ ⟨br, bu, bi⟩ nu no W ⟨by dsimp only; omega, by dsimp only; omega⟩ ⟨by omega, by omega⟩; rw [hz12] at this; exact this)
                    have ok12 := hear_ok ⟨ph, ⟨a1, a2, a3, a4, a5⟩, ⟨b1, b2, b3, b4, b5⟩⟩ ⟨vi, vu, vs⟩ ⟨br, bu, bi⟩ nu no (by dsimp only; omega) (by dsimp only; omega)
                    rw [hz12] at ok12
                    obtain ⟨ix12, sx12, sy12⟩ := ok12
                    dsimp only at ix12 sx12 sy12
                    have il12 : W32 vi ≤ W32 vi12 := by rw [W32_le]; exact ix12
                    have iz12 : decide (W32 vi12 < W32 vi) = false := decide_eq_false (Int.not_lt.2 il12)
                    clear hz12
                    refine (C12.out _).mono ?_; rintro e w_95 ⟨rfl, hb_96⟩
                    clear ld_89 ld_90 ld_94
                    replace G7 := G7.to hb_96 G7.lt
                    replace G8 := G8.to hb_96 G8.lt
                    replace G8_5 := G8_5.to hb_96 G8_5.lt
                    replace G8_6 := G8_6.to hb_96 G8_6.lt
                    replace hB := hB.trans (hb_96.mono hB.size)
                    clear hb_96
                    go_wp2_with (first | (with_reducible refine stop_store ?_) | (with_reducible refine stop_box ?_) | (with_reducible refine stop_alloc ?_) | (with_reducible refine stop_bslice ?_))
                    unfold Kept
                    refine wpList_st 0 #[.int .i64 p12, .int .u64 (W64 x12_1), .int .i64 x12_2, .int .u64 (W64 x12_3), .int .u64 (W64 x12_4), .int .u64 (W64 x12_5), .int .u64 (W64 y12_1), .int .i64 y12_2, .int .u64 (W64 y12_3), .int .u64 (W64 y12_4), .int .u64 (W64 y12_5)] #[.int .i64 p12, .int .u64 (W64 x12_1), .int .i64 x12_2, .int .u64 (W64 x12_3), .int .u64 (W64 x12_4), .int .u64 (W64 x12_5), .int .u64 (W64 y12_1), .int .i64 y12_2, .int .u64 (W64 y12_3), .int .u64 (W64 y12_4), .int .u64 (W64 y12_5)] G7 rfl rfl (by kernel_rfl) rfl (of_decide_eq_true rfl) rfl ?_
                    intro w_97 G_99 hU_98
                    replace G8 := hU_98.blk G8 (by omega)
                    replace G8_5 := hU_98.blk G8_5 (by omega)
                    replace G8_6 := hU_98.blk G8_6 (by omega)
                    replace hB := hU_98.below hB (by omega)
                    clear G7 hU_98
                    go_wp2_with (first | (with_reducible refine stop_store ?_) | (with_reducible refine stop_box ?_) | (with_reducible refine stop_alloc ?_) | (with_reducible refine stop_bslice ?_))
                    unfold Kept
                    refine wpList_st 0 #[.int .u32 (W32 vi12), .bool vu12, .int .i64 vs12] #[.int .u32 (W32 vi12), .bool vu12, .int .i64 vs12] G8 rfl rfl (by kernel_rfl) rfl (of_decide_eq_true rfl) rfl ?_
                    intro w_100 G_102 hU_101
                    replace G_99 := hU_101.blk G_99 (by omega)
                    replace G8_5 := hU_101.blk G8_5 (by omega)
                    replace G8_6 := hU_101.blk G8_6 (by omega)
                    replace hB := hU_101.below hB (by omega)
                    clear G8 hU_101
                    go_wp2_with (first | (with_reducible refine stop_store ?_) | (with_reducible refine stop_box ?_) | (with_reducible refine stop_alloc ?_) | (with_reducible refine stop_bslice ?_) | ((with_reducible refine wpList_ld 0 [.int .i64 p12, .int .u64 (W64 x12_1), .int .i64 x12_2, .int .u64 (W64 x12_3), .int .u64 (W64 x12_4), .int .u64 (W64 x12_5), .int .u64 (W64 y12_1), .int .i64 y12_2, .int .u64 (W64 y12_3), .int .u64 (W64 y12_4), .int .u64 (W64 y12_5)] G_99 ?_ ?_ Try.underlying27 ?_ ?_ ?_); rfl; rfl; rfl; kernel_rfl) | ((with_reducible refine wpList_ldg 0 [.int .i64 p12, .int .u64 (W64 x12_1), .int .i64 x12_2, .int .u64 (W64 x12_3), .int .u64 (W64 x12_4), .int .u64 (W64 x12_5), .int .u64 (W64 y12_1), .int .i64 y12_2, .int .u64 (W64 y12_3), .int .u64 (W64 y12_4), .int .u64 (W64 y12_5)] G_99 ?_ ?_ Try.underlying27 ?_ ?_ ?_ ?_); rfl; rfl; rfl; kernel_rfl; rfl))
                    obtain ⟨⟨s_1, s_2, s_3, s_4, s_5⟩, hs⟩ : ∃ z, sendK ⟨p12, ⟨x12_1, x12_2, x12_3, x12_4, x12_5⟩, ⟨y12_1, y12_2, y12_3, y12_4, y12_5⟩⟩ = z := ⟨_, rfl⟩
                    have CR := Lib.hid (show ∀ W, Calls Try.prog 23 #[.agg #[.int .i64 p12, .int .u64 (W64 x12_1), .int .i64 x12_2, .int .u64 (W64 x12_3), .int .u64 (W64 x12_4), .int .u64 (W64 x12_5), .int .u64 (W64 y12_1), .int .i64 y12_2, .int .u64 (W64 y12_3), .int .u64 (W64 y12_4), .int .u64 (W64 y12_5)]] W fun e w' => ∃ b n, W.heap.size ≤ b ∧ 1 ≤ n ∧ n ≤ 2 ∧ e = .returned (.slice (some ⟨b, 0, none⟩) n n) ∧ Rg b 0 [.int .u64 (W64 s_1), .int .i64 s_2, .int .u64 (W64 s_3), .int .u64 (W64 s_4), .int .u64 (W64 s_5)] w' ∧ Below W.heap.size W w' from fun W => by have := rf_RecvG ⟨p12, ⟨x12_1, x12_2, x12_3, x12_4, x12_5⟩, ⟨y12_1, y12_2, y12_3, y12_4, y12_5⟩⟩ W; rw [hs] at this; exact this)
                    have CS := Lib.hid (show ∀ W, Calls Try.prog 20 #[.agg #[.int .i64 p12, .int .u64 (W64 x12_1), .int .i64 x12_2, .int .u64 (W64 x12_3), .int .u64 (W64 x12_4), .int .u64 (W64 x12_5), .int .u64 (W64 y12_1), .int .i64 y12_2, .int .u64 (W64 y12_3), .int .u64 (W64 y12_4), .int .u64 (W64 y12_5)]] W fun e w' => e = .returned (.agg #[.int .u64 (W64 s_1), .int .i64 s_2, .int .u64 (W64 s_3), .int .u64 (W64 s_4), .int .u64 (W64 s_5)]) ∧ Below W.heap.size W w' from fun W => by have := rf_Sending ⟨p12, ⟨x12_1, x12_2, x12_3, x12_4, x12_5⟩, ⟨y12_1, y12_2, y12_3, y12_4, y12_5⟩⟩ W; rw [hs] at this; exact this)
                    clear hs
                    obtain ⟨tx, htx⟩ : ∃ z, txK ⟨vi12, vu12, vs12⟩ = z := ⟨_, rfl⟩
                    have hrx := rx_tx ⟨vi12, vu12, vs12⟩
                    rw [htx] at hrx
                    have CT := Lib.hid (show ∀ W, Calls Try.prog 44 #[.agg #[.int .u32 (W32 vi12), .bool vu12, .int .i64 vs12]] W fun e w' => e = .returned (.int .u32 (W32 tx)) ∧ Below W.heap.size W w' from fun W => by have := rf_Tx ⟨vi12, vu12, vs12⟩ W; rw [htx] at this; exact this)
                    have CX := Lib.hid (show ∀ W, Calls Try.prog 42 #[.agg #[.int .u32 (W32 vi12), .bool vu12, .int .i64 vs12], .int .i64 (W32 (tx % 2#32))] W fun e w' => e = .returned (.tuple #[.int .u32 (W32 tx), .bool true]) ∧ Below W.heap.size W w' from fun W => by have := rf_Rx ⟨vi12, vu12, vs12⟩ (W32 (tx % 2#32)) W; rw [hrx] at this; exact this)
                    clear htx hrx
                    have hwr : IntKind.i64.wrap (W32 (tx % 2#32)) = W32 (tx % 2#32) := IntWalk.i64_in _ (by have := W32_bd (tx % 2#32); omega)
                    refine (CR.out _).mono ?_; rintro e w_104 ⟨rb, rn, lrb, rn1, rn2, rfl, RG, hb_105⟩
                    have rnp : 0 < rn := rn1
                    have rnq : decide ((rn : Int) < 1) = false := by simp; omega
                    have rnr : decide ((2 : Int) < (rn : Int)) = false := by simp; omega
                    replace G_99 := G_99.to hb_105 G_99.lt
                    replace G_102 := G_102.to hb_105 G_102.lt
                    replace G8_5 := G8_5.to hb_105 G8_5.lt
                    replace G8_6 := G8_6.to hb_105 G8_6.lt
                    replace hB := hB.trans (hb_105.mono hB.size)
                    clear hb_105 lrb
                    go_wp2_with (first | (with_reducible refine stop_store ?_) | (with_reducible refine stop_box ?_) | (with_reducible refine stop_alloc ?_) | (with_reducible refine stop_bslice ?_))
                    have hst : Stable fun W => Below w.heap.size w W ∧ Blk W g_3 27 #[.int .i64 p12, .int .u64 (W64 x12_1), .int .i64 x12_2, .int .u64 (W64 x12_3), .int .u64 (W64 x12_4), .int .u64 (W64 x12_5), .int .u64 (W64 y12_1), .int .i64 y12_2, .int .u64 (W64 y12_3), .int .u64 (W64 y12_4), .int .u64 (W64 y12_5)] ∧ Blk W g_10 59 #[.int .u32 (W32 vi12), .bool vu12, .int .i64 vs12] ∧ Blk W g8_5 77 #[.int .i64 kd, .int .i64 nu, .int .u64 (W64 ky), .bool br, .bool bu, .int .u32 (W32 bi), .int .i64 no] ∧ Blk W g8_6 59 #[.int .u32 (W32 vi), .bool vu, .int .i64 vs] ∧ Rg rb 0 [.int .u64 (W64 s_1), .int .i64 s_2, .int .u64 (W64 s_3), .int .u64 (W64 s_4), .int .u64 (W64 s_5)] W := stable_and (stable_below _ _ (Nat.le_refl _)) (stable_and (stable_blk _ _ _) (stable_and (stable_blk _ _ _) (stable_and (stable_blk _ _ _) (stable_and (stable_blk _ _ _) (stable_rg _ _ _)))))
                    refine wp_region_v _ 11 hst ⟨hB.drew, G_99, G_102, G8_5, G8_6, RG⟩ ?_
                    clear hB G_99 G_102 G8_5 G8_6 RG
                    refine wpU_take (v := .agg #[.int .u32 (W32 vi12), .bool vu12, .int .i64 vs12]) 0 hst (fun _ h => h) rfl (fun W hS K hK => calm_load rfl rfl (load_part hS.2.2.1 0 [.int .u32 (W32 vi12), .bool vu12, .int .i64 vs12] rfl Try.underlying59 rfl (by kernel_rfl)) (hK.out _ (Below.refl _ _))) ?_; simp only [Act.put, List.setIfInBounds_toArray, List.set_cons_zero, List.set_cons_succ]
                    refine wpU_take (v := .agg #[.int .u32 (W32 vi12), .bool vu12, .int .i64 vs12]) 1 hst (fun _ h => h) rfl (fun W hS K hK => calm_load rfl rfl (load_part hS.2.2.1 0 [.int .u32 (W32 vi12), .bool vu12, .int .i64 vs12] rfl Try.underlying59 rfl (by kernel_rfl)) (hK.out _ (Below.refl _ _))) ?_; simp only [Act.put, List.setIfInBounds_toArray, List.set_cons_zero, List.set_cons_succ]
                    refine wpU_take (v := ?_) 2 hst (fun _ h => h) rfl ?_ ?_; rotate_left; (intro W hS K hK; clear hS; go_simp; refine (CT.out _).mono ?_; rintro e w9 ⟨rfl, hb⟩; refine CallPost.mk ?_; exact hK.out _ (hb)); simp only [Act.put, List.setIfInBounds_toArray, List.set_cons_zero, List.set_cons_succ]
                    refine wpU_take (v := ?_) 3 hst (fun _ h => h) rfl ?_ ?_; rotate_left; (intro W hS K hK; clear hS; go_simp; exact hK.out _ (Below.refl _ _)); simp only [Act.put, List.setIfInBounds_toArray, List.set_cons_zero, List.set_cons_succ]
                    refine wpU_take (v := ?_) 4 hst (fun _ h => h) rfl ?_ ?_; rotate_left; (intro W hS K hK; clear hS; go_simp; exact hK.out _ (Below.refl _ _)); simp only [Act.put, List.setIfInBounds_toArray, List.set_cons_zero, List.set_cons_succ]
                    refine wpU_take (v := ?_) 5 hst (fun _ h => h) rfl ?_ ?_; rotate_left; (intro W hS K hK; clear hS; go_simp; refine (CX.out _).mono ?_; rintro e w9 ⟨rfl, hb⟩; refine CallPost.mk ?_; exact hK.out _ (hb)); simp only [Act.put, List.setIfInBounds_toArray, List.set_cons_zero, List.set_cons_succ]
                    refine wpU_take (v := ?_) 6 hst (fun _ h => h) rfl ?_ ?_; rotate_left; (intro W hS K hK; clear hS; go_simp; exact hK.out _ (Below.refl _ _)); simp only [Act.put, List.setIfInBounds_toArray, List.set_cons_zero, List.set_cons_succ]
                    refine wpU_take (v := ?_) 7 hst (fun _ h => h) rfl ?_ ?_; rotate_left; (intro W hS K hK; clear hS; go_simp; exact hK.out _ (Below.refl _ _)); simp only [Act.put, List.setIfInBounds_toArray, List.set_cons_zero, List.set_cons_succ]
                    refine wpU_take (v := ?_) 8 hst (fun _ h => h) rfl ?_ ?_; rotate_left; (intro W hS K hK; clear hS; go_simp; exact hK.out _ (Below.refl _ _)); simp only [Act.put, List.setIfInBounds_toArray, List.set_cons_zero, List.set_cons_succ]
                    refine wpU_take (v := ?_) 9 hst (fun _ h => h) rfl ?_ ?_; rotate_left; (intro W hS K hK; clear hS; go_simp; exact hK.out _ (Below.refl _ _)); simp only [Act.put, List.setIfInBounds_toArray, List.set_cons_zero, List.set_cons_succ]
                    refine wpU_take (v := ?_) 10 hst (fun _ h => h) rfl ?_ ?_; rotate_left; (intro W hS K hK; clear hS; go_simp; exact hK.out _ (Below.refl _ _)); simp only [Act.put, List.setIfInBounds_toArray, List.set_cons_zero, List.set_cons_succ]
                    refine wpU_done (fun w_106 hS => ?_)
                    obtain ⟨hB, G_99, G_102, G8_5, G8_6, RG⟩ := hS
                    clear hst
                    go_wp2_with (first | (with_reducible refine stop_store ?_) | (with_reducible refine stop_box ?_) | (with_reducible refine stop_alloc ?_) | (with_reducible refine stop_bslice ?_))
                    have hst : Stable fun W => Below w.heap.size w W ∧ Blk W g_3 27 #[.int .i64 p12, .int .u64 (W64 x12_1), .int .i64 x12_2, .int .u64 (W64 x12_3), .int .u64 (W64 x12_4), .int .u64 (W64 x12_5), .int .u64 (W64 y12_1), .int .i64 y12_2, .int .u64 (W64 y12_3), .int .u64 (W64 y12_4), .int .u64 (W64 y12_5)] ∧ Blk W g_10 59 #[.int .u32 (W32 vi12), .bool vu12, .int .i64 vs12] ∧ Blk W g8_5 77 #[.int .i64 kd, .int .i64 nu, .int .u64 (W64 ky), .bool br, .bool bu, .int .u32 (W32 bi), .int .i64 no] ∧ Blk W g8_6 59 #[.int .u32 (W32 vi), .bool vu, .int .i64 vs] ∧ Rg rb 0 [.int .u64 (W64 s_1), .int .i64 s_2, .int .u64 (W64 s_3), .int .u64 (W64 s_4), .int .u64 (W64 s_5)] W := stable_and (stable_below _ _ (Nat.le_refl _)) (stable_and (stable_blk _ _ _) (stable_and (stable_blk _ _ _) (stable_and (stable_blk _ _ _) (stable_and (stable_blk _ _ _) (stable_rg _ _ _)))))
                    refine wp_region_v _ 33 hst ⟨hB.drew, G_99, G_102, G8_5, G8_6, RG⟩ ?_
                    clear hB G_99 G_102 G8_5 G8_6 RG
                    refine wpU_take (v := ?_) 0 hst (fun _ h => h) rfl ?_ ?_; rotate_left; (intro W hS K hK; clear hS; go_simp; exact hK.out _ (Below.refl _ _)); simp only [Act.put, List.setIfInBounds_toArray, List.set_cons_zero, List.set_cons_succ]
                    refine wpU_take (v := ?_) 1 hst (fun _ h => h) rfl ?_ ?_; rotate_left; (intro W hS K hK; have ld : W.cell? ⟨g_10, 0, none⟩ = some (.int .u32 (W32 vi12)) := hS.2.2.1.cell 0; clear hS; go_simp; exact hK.out _ (Below.refl _ _)); simp only [Act.put, List.setIfInBounds_toArray, List.set_cons_zero, List.set_cons_succ]
                    refine wpU_take (v := ?_) 2 hst (fun _ h => h) rfl ?_ ?_; rotate_left; (intro W hS K hK; clear hS; go_simp; exact hK.out _ (Below.refl _ _)); simp only [Act.put, List.setIfInBounds_toArray, List.set_cons_zero, List.set_cons_succ]
                    refine wpU_take (v := ?_) 3 hst (fun _ h => h) rfl ?_ ?_; rotate_left; (intro W hS K hK; have ld : W.cell? ⟨g8_6, 0, none⟩ = some (.int .u32 (W32 vi)) := hS.2.2.2.2.1.cell 0; clear hS; go_simp; exact hK.out _ (Below.refl _ _)); simp only [Act.put, List.setIfInBounds_toArray, List.set_cons_zero, List.set_cons_succ]
                    refine wpU_take (v := ?_) 4 hst (fun _ h => h) rfl ?_ ?_; rotate_left; (intro W hS K hK; clear hS; go_simp; exact hK.out _ (Below.refl _ _)); simp only [Act.put, List.setIfInBounds_toArray, List.set_cons_zero, List.set_cons_succ]
                    refine wpU_take (v := ?_) 5 hst (fun _ h => h) rfl ?_ ?_; rotate_left; (intro W hS K hK; clear hS; go_simp; exact hK.out _ (Below.refl _ _)); simp only [Act.put, List.setIfInBounds_toArray, List.set_cons_zero, List.set_cons_succ]
                    refine wpU_take (v := ?_) 6 hst (fun _ h => h) rfl ?_ ?_; rotate_left; (intro W hS K hK; clear hS; go_simp; exact hK.out _ (Below.refl _ _)); simp only [Act.put, List.setIfInBounds_toArray, List.set_cons_zero, List.set_cons_succ]
                    refine wpU_take (v := ?_) 7 hst (fun _ h => h) rfl ?_ ?_; rotate_left; (intro W hS K hK; clear hS; go_simp; exact hK.out _ (Below.refl _ _)); simp only [Act.put, List.setIfInBounds_toArray, List.set_cons_zero, List.set_cons_succ]
                    refine wpU_take (v := ?_) 8 hst (fun _ h => h) rfl ?_ ?_; rotate_left; (intro W hS K hK; clear hS; go_simp; exact hK.out _ (Below.refl _ _)); simp only [Act.put, List.setIfInBounds_toArray, List.set_cons_zero, List.set_cons_succ]
                    refine wpU_take (v := ?_) 9 hst (fun _ h => h) rfl ?_ ?_; rotate_left; (intro W hS K hK; clear hS; go_simp; exact hK.out _ (Below.refl _ _)); simp only [Act.put, List.setIfInBounds_toArray, List.set_cons_zero, List.set_cons_succ]
                    refine wpU_take (v := ?_) 10 hst (fun _ h => h) rfl ?_ ?_; rotate_left; (intro W hS K hK; clear hS; go_simp; exact hK.out _ (Below.refl _ _)); simp only [Act.put, List.setIfInBounds_toArray, List.set_cons_zero, List.set_cons_succ]
                    refine wpU_take (v := ?_) 11 hst (fun _ h => h) rfl ?_ ?_; rotate_left; (intro W hS K hK; clear hS; go_simp; exact hK.out _ (Below.refl _ _)); simp only [Act.put, List.setIfInBounds_toArray, List.set_cons_zero, List.set_cons_succ]
                    refine wpU_take (v := ?_) 12 hst (fun _ h => h) rfl ?_ ?_; rotate_left; (intro W hS K hK; clear hS; go_simp; exact hK.out _ (Below.refl _ _)); simp only [Act.put, List.setIfInBounds_toArray, List.set_cons_zero, List.set_cons_succ]
                    refine wpU_take (v := ?_) 13 hst (fun _ h => h) rfl ?_ ?_; rotate_left; (intro W hS K hK; clear hS; go_simp; exact hK.out _ (Below.refl _ _)); simp only [Act.put, List.setIfInBounds_toArray, List.set_cons_zero, List.set_cons_succ]
                    refine wpU_take (v := ?_) 14 hst (fun _ h => h) rfl ?_ ?_; rotate_left; (intro W hS K hK; clear hS; go_simp; exact hK.out _ (Below.refl _ _)); simp only [Act.put, List.setIfInBounds_toArray, List.set_cons_zero, List.set_cons_succ]
                    refine wpU_take (v := ?_) 15 hst (fun _ h => h) rfl ?_ ?_; rotate_left; (intro W hS K hK; clear hS; go_simp; exact hK.out _ (Below.refl _ _)); simp only [Act.put, List.setIfInBounds_toArray, List.set_cons_zero, List.set_cons_succ]
                    refine wpU_take (v := ?_) 16 hst (fun _ h => h) rfl ?_ ?_; rotate_left; (intro W hS K hK; clear hS; go_simp; exact hK.out _ (Below.refl _ _)); simp only [Act.put, List.setIfInBounds_toArray, List.set_cons_zero, List.set_cons_succ]
                    refine wpU_take (v := ?_) 17 hst (fun _ h => h) rfl ?_ ?_; rotate_left; (intro W hS K hK; clear hS; go_simp; exact hK.out _ (Below.refl _ _)); simp only [Act.put, List.setIfInBounds_toArray, List.set_cons_zero, List.set_cons_succ]
                    refine wpU_take (v := .agg #[.int .u64 (W64 s_1), .int .i64 s_2, .int .u64 (W64 s_3), .int .u64 (W64 s_4), .int .u64 (W64 s_5)]) 18 hst (fun _ h => h) rfl (fun W hS K hK => calm_load rfl rfl (run_loadVar_mid W rb (0) 25 [.int .u64 (W64 s_1), .int .i64 s_2, .int .u64 (W64 s_3), .int .u64 (W64 s_4), .int .u64 (W64 s_5)] _ (range_part hS.2.2.2.2.2.2 0 [.int .u64 (W64 s_1), .int .i64 s_2, .int .u64 (W64 s_3), .int .u64 (W64 s_4), .int .u64 (W64 s_5)] rfl) Try.underlying25 rfl (by kernel_rfl)) (hK.out _ (Below.refl _ _))) ?_; simp only [Act.put, List.setIfInBounds_toArray, List.set_cons_zero, List.set_cons_succ]
                    refine wpU_take (v := .agg #[.int .i64 p12, .int .u64 (W64 x12_1), .int .i64 x12_2, .int .u64 (W64 x12_3), .int .u64 (W64 x12_4), .int .u64 (W64 x12_5), .int .u64 (W64 y12_1), .int .i64 y12_2, .int .u64 (W64 y12_3), .int .u64 (W64 y12_4), .int .u64 (W64 y12_5)]) 19 hst (fun _ h => h) rfl (fun W hS K hK => calm_load rfl rfl (load_part hS.2.1 0 [.int .i64 p12, .int .u64 (W64 x12_1), .int .i64 x12_2, .int .u64 (W64 x12_3), .int .u64 (W64 x12_4), .int .u64 (W64 x12_5), .int .u64 (W64 y12_1), .int .i64 y12_2, .int .u64 (W64 y12_3), .int .u64 (W64 y12_4), .int .u64 (W64 y12_5)] rfl Try.underlying27 rfl (by kernel_rfl)) (hK.out _ (Below.refl _ _))) ?_; simp only [Act.put, List.setIfInBounds_toArray, List.set_cons_zero, List.set_cons_succ]
                    refine wpU_take (v := ?_) 20 hst (fun _ h => h) rfl ?_ ?_; rotate_left; (intro W hS K hK; clear hS; go_simp; refine (CS.out _).mono ?_; rintro e w9 ⟨rfl, hb⟩; refine CallPost.mk ?_; exact hK.out _ (hb)); simp only [Act.put, List.setIfInBounds_toArray, List.set_cons_zero, List.set_cons_succ]
                    refine wpU_take (v := ?_) 21 hst (fun _ h => h) rfl ?_ ?_; rotate_left; (intro W hS K hK; clear hS; go_simp; exact hK.out _ (Below.refl _ _)); simp only [Act.put, List.setIfInBounds_toArray, List.set_cons_zero, List.set_cons_succ]
                    refine wpU_take (v := ?_) 22 hst (fun _ h => h) rfl ?_ ?_; rotate_left; (intro W hS K hK; clear hS; go_simp; exact hK.out _ (Below.refl _ _)); simp only [Act.put, List.setIfInBounds_toArray, List.set_cons_zero, List.set_cons_succ]
                    refine wpU_take (v := ?_) 23 hst (fun _ h => h) rfl ?_ ?_; rotate_left; (intro W hS K hK; clear hS; go_simp; exact hK.out _ (Below.refl _ _)); simp only [Act.put, List.setIfInBounds_toArray, List.set_cons_zero, List.set_cons_succ]
                    refine wpU_take (v := ?_) 24 hst (fun _ h => h) rfl ?_ ?_; rotate_left; (intro W hS K hK; clear hS; go_simp; exact hK.out _ (Below.refl _ _)); simp only [Act.put, List.setIfInBounds_toArray, List.set_cons_zero, List.set_cons_succ]
                    refine wpU_take (v := ?_) 25 hst (fun _ h => h) rfl ?_ ?_; rotate_left; (intro W hS K hK; clear hS; go_simp; exact hK.out _ (Below.refl _ _)); simp only [Act.put, List.setIfInBounds_toArray, List.set_cons_zero, List.set_cons_succ]
                    refine wpU_take (v := ?_) 26 hst (fun _ h => h) rfl ?_ ?_; rotate_left; (intro W hS K hK; clear hS; go_simp; exact hK.out _ (Below.refl _ _)); simp only [Act.put, List.setIfInBounds_toArray, List.set_cons_zero, List.set_cons_succ]
                    refine wpU_take (v := ?_) 27 hst (fun _ h => h) rfl ?_ ?_; rotate_left; (intro W hS K hK; clear hS; go_simp; exact hK.out _ (Below.refl _ _)); simp only [Act.put, List.setIfInBounds_toArray, List.set_cons_zero, List.set_cons_succ]
                    refine wpU_take (v := ?_) 28 hst (fun _ h => h) rfl ?_ ?_; rotate_left; (intro W hS K hK; clear hS; go_simp; exact hK.out _ (Below.refl _ _)); simp only [Act.put, List.setIfInBounds_toArray, List.set_cons_zero, List.set_cons_succ]
                    refine wpU_take (v := .agg #[.int .u32 (W32 vi12), .bool vu12, .int .i64 vs12]) 29 hst (fun _ h => h) rfl (fun W hS K hK => calm_load rfl rfl (load_part hS.2.2.1 0 [.int .u32 (W32 vi12), .bool vu12, .int .i64 vs12] rfl Try.underlying59 rfl (by kernel_rfl)) (hK.out _ (Below.refl _ _))) ?_; simp only [Act.put, List.setIfInBounds_toArray, List.set_cons_zero, List.set_cons_succ]
                    refine wpU_take (v := ?_) 30 hst (fun _ h => h) rfl ?_ ?_; rotate_left; (intro W hS K hK; clear hS; go_simp; refine (CT.out _).mono ?_; rintro e w9 ⟨rfl, hb⟩; refine CallPost.mk ?_; exact hK.out _ (hb)); simp only [Act.put, List.setIfInBounds_toArray, List.set_cons_zero, List.set_cons_succ]
                    refine wpU_take (v := ?_) 31 hst (fun _ h => h) rfl ?_ ?_; rotate_left; (intro W hS K hK; clear hS; go_simp; exact hK.out _ (Below.refl _ _)); simp only [Act.put, List.setIfInBounds_toArray, List.set_cons_zero, List.set_cons_succ]
                    refine wpU_take (v := ?_) 32 hst (fun _ h => h) rfl ?_ ?_; rotate_left; (intro W hS K hK; clear hS; go_simp; exact hK.out _ (Below.refl _ _)); simp only [Act.put, List.setIfInBounds_toArray, List.set_cons_zero, List.set_cons_succ]
                    refine wpU_done (fun w_107 hS => ?_)
                    obtain ⟨hB, G_99, G_102, G8_5, G8_6, RG⟩ := hS
                    clear hst
                    go_wp2_with (first | (with_reducible refine stop_store ?_) | (with_reducible refine stop_box ?_) | (with_reducible refine stop_alloc ?_) | (with_reducible refine stop_bslice ?_))
                    go_roundw
                    case rel => exact ⟨j + 1, ⟨p12, ⟨x12_1, x12_2, x12_3, x12_4, x12_5⟩, ⟨y12_1, y12_2, y12_3, y12_4, y12_5⟩⟩, ⟨vi12, vu12, vs12⟩, no, by omega, by go_num, rfl, by dsimp only; omega, by dsimp only; omega, by omega, hB, G_99, G_102, hn⟩
                    case measure => simp [intOf]; omega
    ·
      have i1 : decide ((j : Int) < ((ls.length : Nat) : Int)) = false := by simp; omega
      have i2 : decide (j < ls.length) = false := by simpa using hlt
      have i3 : ls.length ≤ j := Nat.le_of_not_lt hlt
      clear hlt
      go_wp2_with (first | (with_reducible refine stop_store ?_) | (with_reducible refine stop_box ?_) | (with_reducible refine stop_alloc ?_) | (with_reducible refine stop_bslice ?_))
      refine (lives52 _).mono ?_; rintro e w_108 ⟨rfl, hb_109⟩
      replace G7 := G7.to hb_109 G7.lt
      replace G8 := G8.to hb_109 G8.lt
      replace hB := hB.trans (hb_109.mono hB.size)
      clear hb_109
      go_wp2_with (first | (with_reducible refine stop_store ?_) | (with_reducible refine stop_box ?_) | (with_reducible refine stop_alloc ?_) | (with_reducible refine stop_bslice ?_))
      go_returns
      exact ⟨rfl, hB⟩
set_option maxHeartbeats 16000000 in
theorem law_RefreshForward_b (index : BitVec 32) (first : BitVec 64) (A : Option Addr) (c : Nat) (ls : List R_op52) (w : World) (hr : Rd w A (ls.flatMap R_op52.cells)) (hok : ∀ r ∈ ls, r.ok w) (hc : ls.length ≤ c) (hl : 200 < ls.length) :
    Calls Try.prog 10 #[.int .u32 (W32 index), .int .u64 (W64 first), .slice A ls.length c] w fun e w' => e = .returned (.bool true) ∧ Below w.heap.size w w' := by
  obtain ⟨⟨d1, d2, d3, d4, d5⟩, hd⟩ : ∃ z, nkD first = z := ⟨_, rfl⟩
  have CD := Lib.hid (show ∀ W, Calls Try.prog 46 #[.int .u64 (W64 first)] W fun e w' => e = .returned (.agg #[.int .u64 (W64 d1), .int .i64 d2, .int .u64 (W64 d3), .int .u64 (W64 d4), .int .u64 (W64 d5)]) ∧ Below W.heap.size W w' from fun W => by
    have := mesh_Derive first W
    have hh : nkA (nkD first) = #[.int .u64 (W64 d1), .int .i64 d2, .int .u64 (W64 d3), .int .u64 (W64 d4), .int .u64 (W64 d5)] := by rw [hd]; rfl
    unfold nkA nkD at hh
    dsimp only at hh
    rw [hh] at this
    exact this)
  have HROW := Lib.hid hr
  have HOK := Lib.hid hok
  have HC := Lib.hid hc
  clear hr hok hc hd
  have i0 : decide ((200 : Int) < ((ls.length : Nat) : Int)) = true := by simp; omega
  go_enter Try.func10, Try.ntmps10
  go_wp2_with (first | (with_reducible refine stop_store ?_) | (with_reducible refine stop_box ?_) | (with_reducible refine stop_alloc ?_) | (with_reducible refine stop_bslice ?_))
  refine (lives52 _).mono ?_; rintro e w_1 ⟨rfl, hb_2⟩
  have hB := hb_2
  clear hb_2
  go_wp2_with (first | (with_reducible refine stop_store ?_) | (with_reducible refine stop_box ?_) | (with_reducible refine stop_alloc ?_) | (with_reducible refine stop_bslice ?_))
  go_returns
  exact ⟨rfl, hB⟩
theorem law_RefreshForward (index : BitVec 32) (first : BitVec 64) (A : Option Addr) (c : Nat) (ls : List R_op52) (w : World) (hr : Rd w A (ls.flatMap R_op52.cells)) (hok : ∀ r ∈ ls, r.ok w) (hc : ls.length ≤ c) :
    Calls Try.prog 10 #[.int .u32 (W32 index), .int .u64 (W64 first), .slice A ls.length c] w fun e w' => e = .returned (.bool true) ∧ Below w.heap.size w w' := by
  rcases Nat.lt_or_ge 200 ls.length with h | h
  · exact law_RefreshForward_b index first A c ls w hr hok hc h
  · exact law_RefreshForward_s index first A c ls w hr hok hc h
end Go.Proofs.Ytmehemojopfihaa
