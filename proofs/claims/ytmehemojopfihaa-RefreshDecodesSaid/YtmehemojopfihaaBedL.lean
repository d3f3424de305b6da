/- The law walks of RefreshDecodes and RefreshBeacons. -/
import Derived.Test.YtmehemojopfihaaBedW
namespace Go.Proofs.Ytmehemojopfihaa
set_option maxRecDepth 100000
open Go.ChangeShapes Go.WideShapes Go.ChangeAt Go.RowKit
set_option linter.unusedVariables false
set_option linter.unusedSimpArgs false

set_option maxHeartbeats 1000000 in
theorem rdec_g1 (A : Option Addr) (c : Nat) (ks : List NK) (B : Option Addr) (d : Nat) (bs : List (BitVec 8)) (w : World) (ha : Rd w A (nksL ks)) (hb0 : RdB w B bs) (hd : bs.length ≤ d) (hl : 20 < ks.length) :
    Calls Try.prog 14 #[.slice A ks.length c, .slice B bs.length d] w fun e w' => e = .returned (.bool true) ∧ Below w.heap.size w w' := by
  have i0 : decide ((20 : Int) < ((ks.length : Nat) : Int)) = true := by simp; omega
  clear hl hd ha hb0
  go_enter Try.func14, Try.ntmps14
  go_wp2_with (first | (with_reducible refine stop_store ?_) | (with_reducible refine stop_box ?_) | (with_reducible refine stop_alloc ?_) | (with_reducible refine stop_bslice ?_))
  refine (lives52 _).mono ?_; rintro e w_1 ⟨rfl, hb_2⟩
  have hB := hb_2
  clear hb_2
  go_wp2_with (first | (with_reducible refine stop_store ?_) | (with_reducible refine stop_box ?_) | (with_reducible refine stop_alloc ?_) | (with_reducible refine stop_bslice ?_))
  go_returns
  exact ⟨rfl, hB⟩
set_option maxHeartbeats 1000000 in
theorem rdec_g2 (A : Option Addr) (c : Nat) (ks : List NK) (B : Option Addr) (d : Nat) (bs : List (BitVec 8)) (w : World) (ha : Rd w A (nksL ks)) (hb0 : RdB w B bs) (hd : bs.length ≤ d) (hl : ks.length ≤ 20 ∧ 50 < bs.length) :
    Calls Try.prog 14 #[.slice A ks.length c, .slice B bs.length d] w fun e w' => e = .returned (.bool true) ∧ Below w.heap.size w w' := by
  have i0 : decide ((20 : Int) < ((ks.length : Nat) : Int)) = false := by simp; omega
  have i1 : decide ((50 : Int) < ((bs.length : Nat) : Int)) = true := by simp; omega
  clear hl hd ha hb0
  go_enter Try.func14, Try.ntmps14
  go_wp2_with (first | (with_reducible refine stop_store ?_) | (with_reducible refine stop_box ?_) | (with_reducible refine stop_alloc ?_) | (with_reducible refine stop_bslice ?_))
  refine (lives52 _).mono ?_; rintro e w_1 ⟨rfl, hb_2⟩
  have hB := hb_2
  clear hb_2
  go_wp2_with (first | (with_reducible refine stop_store ?_) | (with_reducible refine stop_box ?_) | (with_reducible refine stop_alloc ?_) | (with_reducible refine stop_bslice ?_))
  go_returns
  exact ⟨rfl, hB⟩
set_option maxHeartbeats 4000000 in
theorem rdec_bad (A : Option Addr) (c : Nat) (ks : List NK) (B : Option Addr) (d : Nat) (bs : List (BitVec 8)) (fr fu : Bool) (xi : BitVec 32) (n e0 : Int) (w : World) (ha : Rd w A (nksL ks)) (hb0 : RdB w B bs) (hd : bs.length ≤ d) (hl0 : ks.length ≤ 20 ∧ bs.length ≤ 50) (hz : decK ks bs = (⟨fr, fu, xi⟩, n, e0)) (he : e0 ≠ 0) :
    Calls Try.prog 14 #[.slice A ks.length c, .slice B bs.length d] w fun e w' => e = .returned (.bool true) ∧ Below w.heap.size w w' := by
  have hl := hl0
  have C1 := Lib.hid (fun W (h1 : Rd W A (nksL ks)) (h2 : RdB W B bs) => show Calls Try.prog 54 #[.slice A ks.length c, .slice B bs.length d] W fun e w' => e = .returned (.tuple #[.agg #[.bool fr, .bool fu, .int .u32 (W32 xi)], .int .i64 n, .int .i64 e0]) ∧ Below W.heap.size W w' from by have := rf_Decode A c ks B d bs W h1 h2 hd (by omega); rw [hz] at this; exact this)
  have C2 := Lib.hid (fun W (h1 : Rd W A (nksL ks)) (h2 : RdB W B bs) => show Calls Try.prog 57 #[.slice A ks.length c, .slice B bs.length d] W fun e w' => e = .returned (.tuple #[.agg #[.bool fr, .bool fu, .int .u32 (W32 xi)], .int .i64 n, .int .i64 e0]) ∧ Below W.heap.size W w' from by have := r52_Decode A c ks B d bs W h1 h2 hd (by omega); rw [hz] at this; exact this)
  have i0 : decide ((20 : Int) < ((ks.length : Nat) : Int)) = false := by simp; omega
  have i1 : decide ((50 : Int) < ((bs.length : Nat) : Int)) = false := by simp; omega
  have he0 : ((e0 : Int) == 0) = false := by simpa using he
  have he1 : ((e0 : Int) != 0) = true := by simpa using he
  clear hl hl0 hd hz he
  go_enter Try.func14, Try.ntmps14
  have hB := Below.refl w.heap.size w
  go_wp2_with (first | (with_reducible refine stop_store ?_) | (with_reducible refine stop_box ?_) | (with_reducible refine stop_alloc ?_) | (with_reducible refine stop_bslice ?_))
  refine (C1.out _ (Rd.to ha hB) (Rd.to hb0 hB)).mono ?_; rintro e w_1 ⟨rfl, hb_2⟩
  replace hB := hB.trans (hb_2.mono hB.size)
  clear hb_2
  go_wp2_with (first | (with_reducible refine stop_store ?_) | (with_reducible refine stop_box ?_) | (with_reducible refine stop_alloc ?_) | (with_reducible refine stop_bslice ?_))
  unfold Kept
  refine go_mem (ty := 71) (cs := #[.bool false, .bool false, .int .u32 0]) (fun g => .pointer (some ⟨g, 0, none⟩)) rfl (by kernel_rfl) ?_
  intro g_3 w_4 z_8 l_7 hb_5 G_6
  have n_9 : w.heap.size ≤ g_3 := Nat.le_trans hB.size l_7
  replace hB := hB.trans (hb_5.mono hB.size)
  clear hb_5 l_7 z_8
  go_wp2_with (first | (with_reducible refine stop_store ?_) | (with_reducible refine stop_box ?_) | (with_reducible refine stop_alloc ?_) | (with_reducible refine stop_bslice ?_))
  unfold Kept
  refine wpList_st 0 #[.bool fr, .bool fu, .int .u32 (W32 xi)] #[.bool fr, .bool fu, .int .u32 (W32 xi)] G_6 rfl rfl (by kernel_rfl) rfl (of_decide_eq_true rfl) rfl ?_
  intro w_10 G_12 hU_11
  replace hB := hU_11.below hB (by omega)
  clear G_6 hU_11
  go_wp2_with (first | (with_reducible refine stop_store ?_) | (with_reducible refine stop_box ?_) | (with_reducible refine stop_alloc ?_) | (with_reducible refine stop_bslice ?_))
  refine (C2.out _ (Rd.to ha hB) (Rd.to hb0 hB)).mono ?_; rintro e w_13 ⟨rfl, hb_14⟩
  replace G_12 := G_12.to hb_14 G_12.lt
  replace hB := hB.trans (hb_14.mono hB.size)
  clear hb_14
  go_wp2_with (first | (with_reducible refine stop_store ?_) | (with_reducible refine stop_box ?_) | (with_reducible refine stop_alloc ?_) | (with_reducible refine stop_bslice ?_))
  unfold Kept
  refine go_mem (ty := 71) (cs := #[.bool false, .bool false, .int .u32 0]) (fun g => .pointer (some ⟨g, 0, none⟩)) rfl (by kernel_rfl) ?_
  intro g_15 w_16 z_20 l_19 hb_17 G_18
  have n_21 : g_3 < g_15 := Nat.lt_of_lt_of_le G_12.lt l_19
  have n_22 : w.heap.size ≤ g_15 := Nat.le_trans hB.size l_19
  replace G_12 := G_12.to hb_17 G_12.lt
  replace hB := hB.trans (hb_17.mono hB.size)
  clear hb_17 l_19 z_20
  go_wp2_with (first | (with_reducible refine stop_store ?_) | (with_reducible refine stop_box ?_) | (with_reducible refine stop_alloc ?_) | (with_reducible refine stop_bslice ?_))
  unfold Kept
  refine wpList_st 0 #[.bool fr, .bool fu, .int .u32 (W32 xi)] #[.bool fr, .bool fu, .int .u32 (W32 xi)] G_18 rfl rfl (by kernel_rfl) rfl (of_decide_eq_true rfl) rfl ?_
  intro w_23 G_25 hU_24
  replace G_12 := hU_24.blk G_12 (by omega)
  replace hB := hU_24.below hB (by omega)
  clear G_18 hU_24
  go_wp2_with (first | (with_reducible refine stop_store ?_) | (with_reducible refine stop_box ?_) | (with_reducible refine stop_alloc ?_) | (with_reducible refine stop_bslice ?_) | ((with_reducible refine wpList_ld 0 [.bool fr, .bool fu, .int .u32 (W32 xi)] G_12 ?_ ?_ Try.underlying71 ?_ ?_ ?_); rfl; rfl; rfl; kernel_rfl) | ((with_reducible refine wpList_ldg 0 [.bool fr, .bool fu, .int .u32 (W32 xi)] G_12 ?_ ?_ Try.underlying71 ?_ ?_ ?_ ?_); rfl; rfl; rfl; kernel_rfl; rfl) | ((with_reducible refine wpList_ld 0 [.bool fr, .bool fu, .int .u32 (W32 xi)] G_25 ?_ ?_ Try.underlying71 ?_ ?_ ?_); rfl; rfl; rfl; kernel_rfl) | ((with_reducible refine wpList_ldg 0 [.bool fr, .bool fu, .int .u32 (W32 xi)] G_25 ?_ ?_ Try.underlying71 ?_ ?_ ?_ ?_); rfl; rfl; rfl; kernel_rfl; rfl))
  have hst : Stable fun W => Below w.heap.size w W ∧ Blk W g_3 71 #[.bool fr, .bool fu, .int .u32 (W32 xi)] ∧ Blk W g_15 71 #[.bool fr, .bool fu, .int .u32 (W32 xi)] := stable_and (stable_below _ _ (Nat.le_refl _)) (stable_and (stable_blk _ _ _) (stable_blk _ _ _))
  refine wp_region_v _ 16 hst ⟨hB.drew, G_12, G_25⟩ ?_
  clear hB G_12 G_25
  refine wpU_take (v := ?_) 0 hst (fun _ h => h) rfl ?_ ?_; rotate_left; (intro W hS K hK; clear hS; go_simp; refine (lives52 _).mono ?_; rintro e w9 ⟨rfl, hb⟩; refine CallPost.mk ?_; exact hK.out _ (hb)); simp only [Act.put, List.setIfInBounds_toArray, List.set_cons_zero, List.set_cons_succ]
  refine wpU_take (v := ?_) 1 hst (fun _ h => h) rfl ?_ ?_; rotate_left; (intro W hS K hK; clear hS; go_simp; exact hK.out _ (Below.refl _ _)); simp only [Act.put, List.setIfInBounds_toArray, List.set_cons_zero, List.set_cons_succ]
  refine wpU_take (v := ?_) 2 hst (fun _ h => h) rfl ?_ ?_; rotate_left; (intro W hS K hK; clear hS; go_simp; exact hK.out _ (Below.refl _ _)); simp only [Act.put, List.setIfInBounds_toArray, List.set_cons_zero, List.set_cons_succ]
  refine wpU_take (v := ?_) 3 hst (fun _ h => h) rfl ?_ ?_; rotate_left; (intro W hS K hK; clear hS; go_simp; exact hK.out _ (Below.refl _ _)); simp only [Act.put, List.setIfInBounds_toArray, List.set_cons_zero, List.set_cons_succ]
  refine wpU_take (v := ?_) 4 hst (fun _ h => h) rfl ?_ ?_; rotate_left; (intro W hS K hK; clear hS; go_simp; exact hK.out _ (Below.refl _ _)); simp only [Act.put, List.setIfInBounds_toArray, List.set_cons_zero, List.set_cons_succ]
  refine wpU_skip 5 hst (fun _ h => h) rfl ?_; simp only [Act.put, List.setIfInBounds_toArray, List.set_cons_zero, List.set_cons_succ]
  refine wpU_skip 6 hst (fun _ h => h) rfl ?_; simp only [Act.put, List.setIfInBounds_toArray, List.set_cons_zero, List.set_cons_succ]
  refine wpU_skip 7 hst (fun _ h => h) rfl ?_; simp only [Act.put, List.setIfInBounds_toArray, List.set_cons_zero, List.set_cons_succ]
  refine wpU_skip 8 hst (fun _ h => h) rfl ?_; simp only [Act.put, List.setIfInBounds_toArray, List.set_cons_zero, List.set_cons_succ]
  refine wpU_skip 9 hst (fun _ h => h) rfl ?_; simp only [Act.put, List.setIfInBounds_toArray, List.set_cons_zero, List.set_cons_succ]
  refine wpU_skip 11 hst (fun _ h => h) rfl ?_; simp only [Act.put, List.setIfInBounds_toArray, List.set_cons_zero, List.set_cons_succ]
  refine wpU_skip 10 hst (fun _ h => h) rfl ?_; simp only [Act.put, List.setIfInBounds_toArray, List.set_cons_zero, List.set_cons_succ]
  refine wpU_skip 12 hst (fun _ h => h) rfl ?_; simp only [Act.put, List.setIfInBounds_toArray, List.set_cons_zero, List.set_cons_succ]
  refine wpU_take (v := ?_) 13 hst (fun _ h => h) rfl ?_ ?_; rotate_left; (intro W hS K hK; clear hS; go_simp; exact hK.out _ (Below.refl _ _)); simp only [Act.put, List.setIfInBounds_toArray, List.set_cons_zero, List.set_cons_succ]
  refine wpU_take (v := ?_) 14 hst (fun _ h => h) rfl ?_ ?_; rotate_left; (intro W hS K hK; clear hS; go_simp; exact hK.out _ (Below.refl _ _)); simp only [Act.put, List.setIfInBounds_toArray, List.set_cons_zero, List.set_cons_succ]
  refine wpU_take (v := ?_) 15 hst (fun _ h => h) rfl ?_ ?_; rotate_left; (intro W hS K hK; clear hS; go_simp; exact hK.out _ (Below.refl _ _)); simp only [Act.put, List.setIfInBounds_toArray, List.set_cons_zero, List.set_cons_succ]
  refine wpU_done (fun w_28 hS => ?_)
  obtain ⟨hB, G_12, G_25⟩ := hS
  clear hst
  go_wp2_with (first | (with_reducible refine stop_store ?_) | (with_reducible refine stop_box ?_) | (with_reducible refine stop_alloc ?_) | (with_reducible refine stop_bslice ?_))
  go_returns
  exact ⟨rfl, hB⟩
set_option maxHeartbeats 4000000 in
theorem rdec_ok (la lo c : Nat) (ks : List NK) (B : Option Addr) (d : Nat) (bs : List (BitVec 8)) (fr fu : Bool) (xi : BitVec 32) (j : Nat) (x_1 : BitVec 64) (x_2 : Int) (x_3 x_4 x_5 : BitVec 64) (w : World) (ha : Rd w (some ⟨la, lo, none⟩) (nksL ks)) (hb0 : RdB w B bs) (hd : bs.length ≤ d) (hl0 : ks.length ≤ 20 ∧ bs.length ≤ 50) (hj : j < ks.length) (hx : ks[j] = ⟨x_1, x_2, x_3, x_4, x_5⟩) (hit : beaB ⟨x_1, x_2, x_3, x_4, x_5⟩ ⟨fr, fu, xi⟩ = bs) (hz : decK ks bs = (⟨fr, fu, xi⟩, (j : Int), 0)) :
    Calls Try.prog 14 #[.slice (some ⟨la, lo, none⟩) ks.length c, .slice B bs.length d] w fun e w' => e = .returned (.bool true) ∧ Below w.heap.size w w' := by
  have hl := hl0
  have RX := rg_nk ha j hj
  rw [hx] at RX
  replace RX : Rg la (lo + j * 5) [.int .u64 (W64 x_1), .int .i64 x_2, .int .u64 (W64 x_3), .int .u64 (W64 x_4), .int .u64 (W64 x_5)] w := RX
  replace RX := Lib.hid (fun W (hB : Below w.heap.size w W) => (Rg.to RX hB).2)
  have C1 := Lib.hid (fun W (h1 : Rd W (some ⟨la, lo, none⟩) (nksL ks)) (h2 : RdB W B bs) => show Calls Try.prog 54 #[.slice (some ⟨la, lo, none⟩) ks.length c, .slice B bs.length d] W fun e w' => e = .returned (.tuple #[.agg #[.bool fr, .bool fu, .int .u32 (W32 xi)], .int .i64 ((j : Int)), .int .i64 0]) ∧ Below W.heap.size W w' from by have := rf_Decode ((some ⟨la, lo, none⟩)) c ks B d bs W h1 h2 hd (by omega); rw [hz] at this; exact this)
  have C2 := Lib.hid (fun W (h1 : Rd W (some ⟨la, lo, none⟩) (nksL ks)) (h2 : RdB W B bs) => show Calls Try.prog 57 #[.slice (some ⟨la, lo, none⟩) ks.length c, .slice B bs.length d] W fun e w' => e = .returned (.tuple #[.agg #[.bool fr, .bool fu, .int .u32 (W32 xi)], .int .i64 ((j : Int)), .int .i64 0]) ∧ Below W.heap.size W w' from by have := r52_Decode ((some ⟨la, lo, none⟩)) c ks B d bs W h1 h2 hd (by omega); rw [hz] at this; exact this)
  have i0 : decide ((20 : Int) < ((ks.length : Nat) : Int)) = false := by simp; omega
  have i1 : decide ((50 : Int) < ((bs.length : Nat) : Int)) = false := by simp; omega
  have i8 : decide (j < ks.length) = true := decide_eq_true hj
  have HIT := Lib.hid hit
  clear hl hl0 hd hz hit hx
  go_enter Try.func14, Try.ntmps14
  have hB := Below.refl w.heap.size w
  go_wp2_with (first | (with_reducible refine stop_store ?_) | (with_reducible refine stop_box ?_) | (with_reducible refine stop_alloc ?_) | (with_reducible refine stop_bslice ?_))
  refine (C1.out _ (Rd.to ha hB) (Rd.to hb0 hB)).mono ?_; rintro e w_1 ⟨rfl, hb_2⟩
  replace hB := hB.trans (hb_2.mono hB.size)
  clear hb_2
  go_wp2_with (first | (with_reducible refine stop_store ?_) | (with_reducible refine stop_box ?_) | (with_reducible refine stop_alloc ?_) | (with_reducible refine stop_bslice ?_))
  unfold Kept
  refine go_mem (ty := 71) (cs := #[.bool false, .bool false, .int .u32 0]) (fun g => .pointer (some ⟨g, 0, none⟩)) rfl (by kernel_rfl) ?_
  intro g_3 w_4 z_8 l_7 hb_5 G_6
  have n_9 : w.heap.size ≤ g_3 := Nat.le_trans hB.size l_7
  replace hB := hB.trans (hb_5.mono hB.size)
  clear hb_5 l_7 z_8
  go_wp2_with (first | (with_reducible refine stop_store ?_) | (with_reducible refine stop_box ?_) | (with_reducible refine stop_alloc ?_) | (with_reducible refine stop_bslice ?_))
  unfold Kept
  refine wpList_st 0 #[.bool fr, .bool fu, .int .u32 (W32 xi)] #[.bool fr, .bool fu, .int .u32 (W32 xi)] G_6 rfl rfl (by kernel_rfl) rfl (of_decide_eq_true rfl) rfl ?_
  intro w_10 G_12 hU_11
  replace hB := hU_11.below hB (by omega)
  clear G_6 hU_11
  go_wp2_with (first | (with_reducible refine stop_store ?_) | (with_reducible refine stop_box ?_) | (with_reducible refine stop_alloc ?_) | (with_reducible refine stop_bslice ?_))
  refine (C2.out _ (Rd.to ha hB) (Rd.to hb0 hB)).mono ?_; rintro e w_13 ⟨rfl, hb_14⟩
  replace G_12 := G_12.to hb_14 G_12.lt
  replace hB := hB.trans (hb_14.mono hB.size)
  clear hb_14
  go_wp2_with (first | (with_reducible refine stop_store ?_) | (with_reducible refine stop_box ?_) | (with_reducible refine stop_alloc ?_) | (with_reducible refine stop_bslice ?_))
  unfold Kept
  refine go_mem (ty := 71) (cs := #[.bool false, .bool false, .int .u32 0]) (fun g => .pointer (some ⟨g, 0, none⟩)) rfl (by kernel_rfl) ?_
  intro g_15 w_16 z_20 l_19 hb_17 G_18
  have n_21 : g_3 < g_15 := Nat.lt_of_lt_of_le G_12.lt l_19
  have n_22 : w.heap.size ≤ g_15 := Nat.le_trans hB.size l_19
  replace G_12 := G_12.to hb_17 G_12.lt
  replace hB := hB.trans (hb_17.mono hB.size)
  clear hb_17 l_19 z_20
  go_wp2_with (first | (with_reducible refine stop_store ?_) | (with_reducible refine stop_box ?_) | (with_reducible refine stop_alloc ?_) | (with_reducible refine stop_bslice ?_))
  unfold Kept
  refine wpList_st 0 #[.bool fr, .bool fu, .int .u32 (W32 xi)] #[.bool fr, .bool fu, .int .u32 (W32 xi)] G_18 rfl rfl (by kernel_rfl) rfl (of_decide_eq_true rfl) rfl ?_
  intro w_23 G_25 hU_24
  replace G_12 := hU_24.blk G_12 (by omega)
  replace hB := hU_24.below hB (by omega)
  clear G_18 hU_24
  go_wp2_with (first | (with_reducible refine stop_store ?_) | (with_reducible refine stop_box ?_) | (with_reducible refine stop_alloc ?_) | (with_reducible refine stop_bslice ?_) | ((with_reducible refine wpList_ld 0 [.bool fr, .bool fu, .int .u32 (W32 xi)] G_12 ?_ ?_ Try.underlying71 ?_ ?_ ?_); rfl; rfl; rfl; kernel_rfl) | ((with_reducible refine wpList_ldg 0 [.bool fr, .bool fu, .int .u32 (W32 xi)] G_12 ?_ ?_ Try.underlying71 ?_ ?_ ?_ ?_); rfl; rfl; rfl; kernel_rfl; rfl) | ((with_reducible refine wpList_ld 0 [.bool fr, .bool fu, .int .u32 (W32 xi)] G_25 ?_ ?_ Try.underlying71 ?_ ?_ ?_); rfl; rfl; rfl; kernel_rfl) | ((with_reducible refine wpList_ldg 0 [.bool fr, .bool fu, .int .u32 (W32 xi)] G_25 ?_ ?_ Try.underlying71 ?_ ?_ ?_ ?_); rfl; rfl; rfl; kernel_rfl; rfl))
  have hst : Stable fun W => Below w.heap.size w W ∧ Blk W g_3 71 #[.bool fr, .bool fu, .int .u32 (W32 xi)] ∧ Blk W g_15 71 #[.bool fr, .bool fu, .int .u32 (W32 xi)] := stable_and (stable_below _ _ (Nat.le_refl _)) (stable_and (stable_blk _ _ _) (stable_blk _ _ _))
  refine wp_region_v _ 16 hst ⟨hB.drew, G_12, G_25⟩ ?_
  clear hB G_12 G_25
  refine wpU_take (v := ?_) 0 hst (fun _ h => h) rfl ?_ ?_; rotate_left; (intro W hS K hK; clear hS; go_simp; refine (lives52 _).mono ?_; rintro e w9 ⟨rfl, hb⟩; refine CallPost.mk ?_; exact hK.out _ (hb)); simp only [Act.put, List.setIfInBounds_toArray, List.set_cons_zero, List.set_cons_succ]
  refine wpU_take (v := ?_) 1 hst (fun _ h => h) rfl ?_ ?_; rotate_left; (intro W hS K hK; clear hS; go_simp; exact hK.out _ (Below.refl _ _)); simp only [Act.put, List.setIfInBounds_toArray, List.set_cons_zero, List.set_cons_succ]
  refine wpU_take (v := ?_) 2 hst (fun _ h => h) rfl ?_ ?_; rotate_left; (intro W hS K hK; clear hS; go_simp; exact hK.out _ (Below.refl _ _)); simp only [Act.put, List.setIfInBounds_toArray, List.set_cons_zero, List.set_cons_succ]
  refine wpU_take (v := ?_) 3 hst (fun _ h => h) rfl ?_ ?_; rotate_left; (intro W hS K hK; clear hS; go_simp; exact hK.out _ (Below.refl _ _)); simp only [Act.put, List.setIfInBounds_toArray, List.set_cons_zero, List.set_cons_succ]
  refine wpU_take (v := ?_) 4 hst (fun _ h => h) rfl ?_ ?_; rotate_left; (intro W hS K hK; clear hS; go_simp; exact hK.out _ (Below.refl _ _)); simp only [Act.put, List.setIfInBounds_toArray, List.set_cons_zero, List.set_cons_succ]
  refine wpU_take (v := ?_) 5 hst (fun _ h => h) rfl ?_ ?_; rotate_left; (intro W hS K hK; clear hS; go_simp; exact hK.out _ (Below.refl _ _)); simp only [Act.put, List.setIfInBounds_toArray, List.set_cons_zero, List.set_cons_succ]
  refine wpU_take (v := ?_) 6 hst (fun _ h => h) rfl ?_ ?_; rotate_left; (intro W hS K hK; clear hS; go_simp; exact hK.out _ (Below.refl _ _)); simp only [Act.put, List.setIfInBounds_toArray, List.set_cons_zero, List.set_cons_succ]
  refine wpU_take (v := ?_) 7 hst (fun _ h => h) rfl ?_ ?_; rotate_left; (intro W hS K hK; clear hS; go_simp; exact hK.out _ (Below.refl _ _)); simp only [Act.put, List.setIfInBounds_toArray, List.set_cons_zero, List.set_cons_succ]
  refine wpU_take (v := .agg #[.int .u64 (W64 x_1), .int .i64 x_2, .int .u64 (W64 x_3), .int .u64 (W64 x_4), .int .u64 (W64 x_5)]) 8 hst (fun _ h => h) rfl (fun W hS K hK => calm_load rfl rfl (run_loadVar_mid W la (lo + j * 5) 25 [.int .u64 (W64 x_1), .int .i64 x_2, .int .u64 (W64 x_3), .int .u64 (W64 x_4), .int .u64 (W64 x_5)] _ (range_part (RX.out _ hS.1) 0 [.int .u64 (W64 x_1), .int .i64 x_2, .int .u64 (W64 x_3), .int .u64 (W64 x_4), .int .u64 (W64 x_5)] rfl) Try.underlying25 rfl (by kernel_rfl)) (hK.out _ (Below.refl _ _))) ?_; simp only [Act.put, List.setIfInBounds_toArray, List.set_cons_zero, List.set_cons_succ]
  refine wpU_take (v := .agg #[.bool fr, .bool fu, .int .u32 (W32 xi)]) 9 hst (fun _ h => h) rfl (fun W hS K hK => calm_load rfl rfl (load_part hS.2.1 0 [.bool fr, .bool fu, .int .u32 (W32 xi)] rfl Try.underlying71 rfl (by kernel_rfl)) (hK.out _ (Below.refl _ _))) ?_; simp only [Act.put, List.setIfInBounds_toArray, List.set_cons_zero, List.set_cons_succ]
  refine wpU_take (v := ?_) 11 hst (fun _ h => h) rfl ?_ ?_; rotate_left; (intro W hS K hK; clear hS; go_simp; exact hK.out _ (Below.refl _ _)); simp only [Act.put, List.setIfInBounds_toArray, List.set_cons_zero, List.set_cons_succ]
  refine wpV_new 10 hst rfl ?_; intro W hS K hK
  go_simp
  refine (retB_at (rf_Encode ⟨x_1, x_2, x_3, x_4, x_5⟩ ⟨fr, fu, xi⟩ _) (beaB_length _ _) hS.1.size).mono ?_; rintro e w9 ⟨A7_10, c7_10, rfl, R7_10, hb⟩
  refine hK.out (fun W => W.ownsRow w.heap.size 5 1 (.slice A7_10 13 c7_10) 13 (bcells (beaB ⟨x_1, x_2, x_3, x_4, x_5⟩ ⟨fr, fu, xi⟩))) _ _ (stable_own _ _ _ _ _ _) hb (R7_10) (fun hst => ?_)
  clear hK K hb R7_10 hS
  try simp only [Act.put, List.setIfInBounds_toArray, List.set_cons_zero, List.set_cons_succ]
  refine wpU_take (v := ?_) 12 hst (fun _ h => h) rfl ?_ ?_; rotate_left; (intro W hS K hK; go_simp; refine (same_t HIT.out (Rd.of_own hS.2) (Rd.to hb0 hS.1.1) (own_len hS.2) rfl).mono ?_; rintro e w9 ⟨rfl, rfl⟩; refine CallPost.mk ?_; exact hK.out _ (Below.refl _ _)); simp only [Act.put, List.setIfInBounds_toArray, List.set_cons_zero, List.set_cons_succ]
  refine wpU_take (v := ?_) 13 hst (fun _ h => h) rfl ?_ ?_; rotate_left; (intro W hS K hK; clear hS; go_simp; exact hK.out _ (Below.refl _ _)); simp only [Act.put, List.setIfInBounds_toArray, List.set_cons_zero, List.set_cons_succ]
  refine wpU_take (v := ?_) 14 hst (fun _ h => h) rfl ?_ ?_; rotate_left; (intro W hS K hK; clear hS; go_simp; exact hK.out _ (Below.refl _ _)); simp only [Act.put, List.setIfInBounds_toArray, List.set_cons_zero, List.set_cons_succ]
  refine wpU_take (v := ?_) 15 hst (fun _ h => h) rfl ?_ ?_; rotate_left; (intro W hS K hK; clear hS; go_simp; exact hK.out _ (Below.refl _ _)); simp only [Act.put, List.setIfInBounds_toArray, List.set_cons_zero, List.set_cons_succ]
  refine wpU_done (fun w_28 hS => ?_)
  obtain ⟨⟨hB, G_12, G_25⟩, R7_10⟩ := hS
  clear hst
  go_wp2_with (first | (with_reducible refine stop_store ?_) | (with_reducible refine stop_box ?_) | (with_reducible refine stop_alloc ?_) | (with_reducible refine stop_bslice ?_))
  go_returns
  exact ⟨rfl, hB⟩
theorem law_RefreshDecodes_k (A : Option Addr) (c : Nat) (ks : List NK) (B : Option Addr) (d : Nat) (bs : List (BitVec 8)) (w : World) (ha : Rd w A (nksL ks)) (hb0 : RdB w B bs) (hd : bs.length ≤ d) :
    Calls Try.prog 14 #[.slice A ks.length c, .slice B bs.length d] w fun e w' => e = .returned (.bool true) ∧ Below w.heap.size w w' := by
  by_cases h1 : 20 < ks.length
  · exact rdec_g1 A c ks B d bs w ha hb0 hd h1
  by_cases h2 : 50 < bs.length
  · exact rdec_g2 A c ks B d bs w ha hb0 hd ⟨by omega, h2⟩
  obtain ⟨⟨⟨fr, fu, xi⟩, n, e0⟩, hz⟩ : ∃ z, decK ks bs = z := ⟨_, rfl⟩
  by_cases he : e0 = 0
  · obtain ⟨j, hj, h3, hit, -⟩ := decK_cases ks bs (by rw [hz]; exact he)
    obtain ⟨⟨x_1, x_2, x_3, x_4, x_5⟩, hx⟩ : ∃ z, ks[j] = z := ⟨_, rfl⟩
    have hX : headBea bs = ⟨fr, fu, xi⟩ := by rw [h3] at hz; injection hz
    obtain ⟨la, lo, rfl, _, _⟩ := Rd.open_ ha (by
      rcases ks with _ | ⟨k0, ks⟩
      · simp at hj
      · unfold nksL; rw [List.flatMap_cons, List.length_append]; exact Nat.lt_of_lt_of_le (Nat.succ_pos 4) (Nat.le_add_right 5 _))
    exact rdec_ok la lo c ks B d bs fr fu xi j x_1 x_2 x_3 x_4 x_5 w ha hb0 hd ⟨by omega, by omega⟩ hj hx (by rw [← hx, ← hX]; exact hit) (by rw [h3, hX])
  · exact rdec_bad A c ks B d bs fr fu xi n e0 w ha hb0 hd ⟨by omega, by omega⟩ hz he
set_option maxHeartbeats 1000000 in
theorem rbea_g1 (A : Option Addr) (c : Nat) (ks : List NK) (ix : Int) (br bu : Bool) (bx : BitVec 32) (w : World) (ha : Rd w A (nksL ks)) (hl : ix < 0) :
    Calls Try.prog 13 #[.slice A ks.length c, .int .i64 ix, .agg #[.bool br, .bool bu, .int .u32 (W32 bx)]] w fun e w' => e = .returned (.bool true) ∧ Below w.heap.size w w' := by
  have i0 : decide (ix < 0) = true := by simp; omega
  clear hl ha
  go_enter Try.func13, Try.ntmps13
  go_wp2_with (first | (with_reducible refine stop_store ?_) | (with_reducible refine stop_box ?_) | (with_reducible refine stop_alloc ?_) | (with_reducible refine stop_bslice ?_))
  unfold Kept
  refine go_mem (ty := 71) (cs := #[.bool br, .bool bu, .int .u32 (W32 bx)]) (fun g => .pointer (some ⟨g, 0, none⟩)) rfl (by kernel_rfl) ?_
  intro g_1 w_2 z_6 l_5 hb_3 G_4
  have n_7 : w.heap.size ≤ g_1 := l_5
  have hB := hb_3
  clear hb_3 l_5 z_6
  go_wp2_with (first | (with_reducible refine stop_store ?_) | (with_reducible refine stop_box ?_) | (with_reducible refine stop_alloc ?_) | (with_reducible refine stop_bslice ?_))
  refine (lives52 _).mono ?_; rintro e w_8 ⟨rfl, hb_9⟩
  replace G_4 := G_4.to hb_9 G_4.lt
  replace hB := hB.trans (hb_9.mono hB.size)
  clear hb_9
  go_wp2_with (first | (with_reducible refine stop_store ?_) | (with_reducible refine stop_box ?_) | (with_reducible refine stop_alloc ?_) | (with_reducible refine stop_bslice ?_))
  go_returns
  exact ⟨rfl, hB⟩
set_option maxHeartbeats 1000000 in
theorem rbea_g2 (A : Option Addr) (c : Nat) (ks : List NK) (ix : Int) (br bu : Bool) (bx : BitVec 32) (w : World) (ha : Rd w A (nksL ks)) (hl : 0 ≤ ix ∧ ((ks.length : Nat) : Int) ≤ ix) :
    Calls Try.prog 13 #[.slice A ks.length c, .int .i64 ix, .agg #[.bool br, .bool bu, .int .u32 (W32 bx)]] w fun e w' => e = .returned (.bool true) ∧ Below w.heap.size w w' := by
  have i0 : decide (ix < 0) = false := by simp; omega
  have i1 : decide (((ks.length : Nat) : Int) ≤ ix) = true := by simp; omega
  have i2 : decide (ix < ((ks.length : Nat) : Int)) = false := by simp; omega
  clear hl ha
  go_enter Try.func13, Try.ntmps13
  go_wp2_with (first | (with_reducible refine stop_store ?_) | (with_reducible refine stop_box ?_) | (with_reducible refine stop_alloc ?_) | (with_reducible refine stop_bslice ?_))
  unfold Kept
  refine go_mem (ty := 71) (cs := #[.bool br, .bool bu, .int .u32 (W32 bx)]) (fun g => .pointer (some ⟨g, 0, none⟩)) rfl (by kernel_rfl) ?_
  intro g_1 w_2 z_6 l_5 hb_3 G_4
  have n_7 : w.heap.size ≤ g_1 := l_5
  have hB := hb_3
  clear hb_3 l_5 z_6
  go_wp2_with (first | (with_reducible refine stop_store ?_) | (with_reducible refine stop_box ?_) | (with_reducible refine stop_alloc ?_) | (with_reducible refine stop_bslice ?_))
  refine (lives52 _).mono ?_; rintro e w_8 ⟨rfl, hb_9⟩
  replace G_4 := G_4.to hb_9 G_4.lt
  replace hB := hB.trans (hb_9.mono hB.size)
  clear hb_9
  go_wp2_with (first | (with_reducible refine stop_store ?_) | (with_reducible refine stop_box ?_) | (with_reducible refine stop_alloc ?_) | (with_reducible refine stop_bslice ?_))
  go_returns
  exact ⟨rfl, hB⟩
set_option maxHeartbeats 1000000 in
theorem rbea_g3 (A : Option Addr) (c : Nat) (ks : List NK) (ix : Int) (br bu : Bool) (bx : BitVec 32) (w : World) (ha : Rd w A (nksL ks)) (hl : 0 ≤ ix ∧ ix < ((ks.length : Nat) : Int) ∧ 20 < ks.length) :
    Calls Try.prog 13 #[.slice A ks.length c, .int .i64 ix, .agg #[.bool br, .bool bu, .int .u32 (W32 bx)]] w fun e w' => e = .returned (.bool true) ∧ Below w.heap.size w w' := by
  have i0 : decide (ix < 0) = false := by simp; omega
  have i1 : decide (((ks.length : Nat) : Int) ≤ ix) = false := by simp; omega
  have i2 : decide (ix < ((ks.length : Nat) : Int)) = true := by simp; omega
  have i3 : decide ((20 : Int) < ((ks.length : Nat) : Int)) = true := by simp; omega
  clear hl ha
  go_enter Try.func13, Try.ntmps13
  go_wp2_with (first | (with_reducible refine stop_store ?_) | (with_reducible refine stop_box ?_) | (with_reducible refine stop_alloc ?_) | (with_reducible refine stop_bslice ?_))
  unfold Kept
  refine go_mem (ty := 71) (cs := #[.bool br, .bool bu, .int .u32 (W32 bx)]) (fun g => .pointer (some ⟨g, 0, none⟩)) rfl (by kernel_rfl) ?_
  intro g_1 w_2 z_6 l_5 hb_3 G_4
  have n_7 : w.heap.size ≤ g_1 := l_5
  have hB := hb_3
  clear hb_3 l_5 z_6
  go_wp2_with (first | (with_reducible refine stop_store ?_) | (with_reducible refine stop_box ?_) | (with_reducible refine stop_alloc ?_) | (with_reducible refine stop_bslice ?_))
  refine (lives52 _).mono ?_; rintro e w_8 ⟨rfl, hb_9⟩
  replace G_4 := G_4.to hb_9 G_4.lt
  replace hB := hB.trans (hb_9.mono hB.size)
  clear hb_9
  go_wp2_with (first | (with_reducible refine stop_store ?_) | (with_reducible refine stop_box ?_) | (with_reducible refine stop_alloc ?_) | (with_reducible refine stop_bslice ?_))
  go_returns
  exact ⟨rfl, hB⟩
set_option maxHeartbeats 8000000 in
theorem rbea_ok (la lo c : Nat) (ks : List NK) (a : Nat) (br bu : Bool) (bx : BitVec 32) (n : Nat) (y_1 : BitVec 64) (y_2 : Int) (y_3 y_4 y_5 : BitVec 64) (z_1 : BitVec 64) (z_2 : Int) (z_3 z_4 z_5 : BitVec 64) (w : World) (ha : Rd w (some ⟨la, lo, none⟩) (nksL ks)) (hl : ks.length ≤ 20) (hat : a < ks.length) (hn : n < ks.length) (hle : n ≤ a) (hy : ks[a] = ⟨y_1, y_2, y_3, y_4, y_5⟩) (hz : ks[n] = ⟨z_1, z_2, z_3, z_4, z_5⟩) (heq : beaB ⟨z_1, z_2, z_3, z_4, z_5⟩ ⟨br, bu, bx⟩ = (beaB ⟨y_1, y_2, y_3, y_4, y_5⟩ ⟨br, bu, bx⟩)) (hdk : decK ks (beaB ⟨y_1, y_2, y_3, y_4, y_5⟩ ⟨br, bu, bx⟩) = (⟨br, bu, bx⟩, (n : Int), 0)) :
    Calls Try.prog 13 #[.slice (some ⟨la, lo, none⟩) ks.length c, .int .i64 ((a : Int)), .agg #[.bool br, .bool bu, .int .u32 (W32 bx)]] w fun e w' => e = .returned (.bool true) ∧ Below w.heap.size w w' := by
  have RY := rg_nk ha a hat
  rw [hy] at RY
  replace RY : Rg la (lo + a * 5) [.int .u64 (W64 y_1), .int .i64 y_2, .int .u64 (W64 y_3), .int .u64 (W64 y_4), .int .u64 (W64 y_5)] w := RY
  replace RY := Lib.hid (fun W (hB : Below w.heap.size w W) => (Rg.to RY hB).2)
  have RZ := rg_nk ha n hn
  rw [hz] at RZ
  replace RZ : Rg la (lo + n * 5) [.int .u64 (W64 z_1), .int .i64 z_2, .int .u64 (W64 z_3), .int .u64 (W64 z_4), .int .u64 (W64 z_5)] w := RZ
  replace RZ := Lib.hid (fun W (hB : Below w.heap.size w W) => (Rg.to RZ hB).2)
  have CD := Lib.hid (fun W S cS (h1 : Rd W (some ⟨la, lo, none⟩) (nksL ks)) (h2 : RdB W S (beaB ⟨y_1, y_2, y_3, y_4, y_5⟩ ⟨br, bu, bx⟩)) (hc : 13 ≤ cS) => show Calls Try.prog 54 #[.slice (some ⟨la, lo, none⟩) ks.length c, .slice S 13 cS] W fun e w' => e = .returned (.tuple #[.agg #[.bool br, .bool bu, .int .u32 (W32 bx)], .int .i64 (n : Int), .int .i64 0]) ∧ Below W.heap.size W w' from by
    have := rf_Decode (some ⟨la, lo, none⟩) c ks S cS (beaB ⟨y_1, y_2, y_3, y_4, y_5⟩ ⟨br, bu, bx⟩) W h1 h2 (by rw [beaB_length]; exact hc) (by omega)
    rw [hdk, beaB_length] at this
    exact this)
  have i0 : decide ((a : Int) < 0) = false := by simp
  have i1 : decide (((ks.length : Nat) : Int) ≤ (a : Int)) = false := by simp; omega
  have i2 : decide ((a : Int) < ((ks.length : Nat) : Int)) = true := by simp; omega
  have i3 : decide ((20 : Int) < ((ks.length : Nat) : Int)) = false := by simp; omega
  have i4 : decide ((0 : Int) ≤ (n : Int)) = true := by simp
  have i5 : decide ((n : Int) ≤ (a : Int)) = true := by simp; omega
  have i6 : decide (n ≤ a) = true := decide_eq_true hle
  have i7 : decide (a < ks.length) = true := decide_eq_true hat
  have i8 : decide (n < ks.length) = true := decide_eq_true hn
  have i9 : decide (ks.length ≤ a) = false := by simp; omega
  have HE := Lib.hid heq
  clear hdk heq hy hz
  go_enter Try.func13, Try.ntmps13
  go_wp2_with (first | (with_reducible refine stop_store ?_) | (with_reducible refine stop_box ?_) | (with_reducible refine stop_alloc ?_) | (with_reducible refine stop_bslice ?_))
  unfold Kept
  refine go_mem (ty := 71) (cs := #[.bool br, .bool bu, .int .u32 (W32 bx)]) (fun g => .pointer (some ⟨g, 0, none⟩)) rfl (by kernel_rfl) ?_
  intro g_1 w_2 z_6 l_5 hb_3 G_4
  have n_7 : w.heap.size ≤ g_1 := l_5
  have hB := hb_3
  clear hb_3 l_5 z_6
  go_wp2_with (first | (with_reducible refine stop_store ?_) | (with_reducible refine stop_box ?_) | (with_reducible refine stop_alloc ?_) | (with_reducible refine stop_bslice ?_))
  have hst : Stable fun W => Below w.heap.size w W ∧ Blk W g_1 71 #[.bool br, .bool bu, .int .u32 (W32 bx)] := stable_and (stable_below _ _ (Nat.le_refl _)) (stable_blk _ _ _)
  refine wp_region_v _ 7 hst ⟨hB.drew, G_4⟩ ?_
  clear hB G_4
  refine wpU_take (v := ?_) 0 hst (fun _ h => h) rfl ?_ ?_; rotate_left; (intro W hS K hK; clear hS; go_simp; exact hK.out _ (Below.refl _ _)); simp only [Act.put, List.setIfInBounds_toArray, List.set_cons_zero, List.set_cons_succ]
  refine wpU_take (v := ?_) 1 hst (fun _ h => h) rfl ?_ ?_; rotate_left; (intro W hS K hK; clear hS; go_simp; exact hK.out _ (Below.refl _ _)); simp only [Act.put, List.setIfInBounds_toArray, List.set_cons_zero, List.set_cons_succ]
  refine wpU_take (v := ?_) 2 hst (fun _ h => h) rfl ?_ ?_; rotate_left; (intro W hS K hK; clear hS; go_simp; exact hK.out _ (Below.refl _ _)); simp only [Act.put, List.setIfInBounds_toArray, List.set_cons_zero, List.set_cons_succ]
  refine wpU_take (v := .agg #[.int .u64 (W64 y_1), .int .i64 y_2, .int .u64 (W64 y_3), .int .u64 (W64 y_4), .int .u64 (W64 y_5)]) 3 hst (fun _ h => h) rfl (fun W hS K hK => calm_load rfl rfl (run_loadVar_mid W la (lo + a * 5) 25 [.int .u64 (W64 y_1), .int .i64 y_2, .int .u64 (W64 y_3), .int .u64 (W64 y_4), .int .u64 (W64 y_5)] _ (range_part (RY.out _ hS.1) 0 [.int .u64 (W64 y_1), .int .i64 y_2, .int .u64 (W64 y_3), .int .u64 (W64 y_4), .int .u64 (W64 y_5)] rfl) Try.underlying25 rfl (by kernel_rfl)) (hK.out _ (Below.refl _ _))) ?_; simp only [Act.put, List.setIfInBounds_toArray, List.set_cons_zero, List.set_cons_succ]
  refine wpU_take (v := .agg #[.bool br, .bool bu, .int .u32 (W32 bx)]) 4 hst (fun _ h => h) rfl (fun W hS K hK => calm_load rfl rfl (load_part hS.2 0 [.bool br, .bool bu, .int .u32 (W32 bx)] rfl Try.underlying71 rfl (by kernel_rfl)) (hK.out _ (Below.refl _ _))) ?_; simp only [Act.put, List.setIfInBounds_toArray, List.set_cons_zero, List.set_cons_succ]
  refine wpV_new 5 hst rfl ?_; intro W hS K hK
  go_simp
  refine (retB_at (rf_Encode ⟨y_1, y_2, y_3, y_4, y_5⟩ ⟨br, bu, bx⟩ _) (beaB_length _ _) hS.1.size).mono ?_; rintro e w9 ⟨A3_5, c3_5, rfl, R3_5, hb⟩
  refine hK.out (fun W => W.ownsRow w.heap.size 5 1 (.slice A3_5 13 c3_5) 13 (bcells (beaB ⟨y_1, y_2, y_3, y_4, y_5⟩ ⟨br, bu, bx⟩))) _ _ (stable_own _ _ _ _ _ _) hb (R3_5) (fun hst => ?_)
  clear hK K hb R3_5 hS
  try simp only [Act.put, List.setIfInBounds_toArray, List.set_cons_zero, List.set_cons_succ]
  refine wpU_take (v := ?_) 6 hst (fun _ h => h) rfl ?_ ?_; rotate_left; (intro W hS K hK; clear hS; go_simp; exact hK.out _ (Below.refl _ _)); simp only [Act.put, List.setIfInBounds_toArray, List.set_cons_zero, List.set_cons_succ]
  refine wpU_done (fun w_8 hS => ?_)
  obtain ⟨⟨hB, G_4⟩, R3_5⟩ := hS
  clear hst
  go_wp2_with (first | (with_reducible refine stop_store ?_) | (with_reducible refine stop_box ?_) | (with_reducible refine stop_alloc ?_) | (with_reducible refine stop_bslice ?_))
  refine (CD.out _ _ _ (Rd.to ha hB) (Rd.of_own R3_5) (own_cap R3_5).1).mono ?_; rintro e w_9 ⟨rfl, hb_10⟩
  replace G_4 := G_4.to hb_10 G_4.lt
  replace R3_5 := own_to R3_5 hb_10
  replace hB := hB.trans (hb_10.mono hB.size)
  clear hb_10
  go_wp2_with (first | (with_reducible refine stop_store ?_) | (with_reducible refine stop_box ?_) | (with_reducible refine stop_alloc ?_) | (with_reducible refine stop_bslice ?_))
  unfold Kept
  refine go_mem (ty := 71) (cs := #[.bool false, .bool false, .int .u32 0]) (fun g => .pointer (some ⟨g, 0, none⟩)) rfl (by kernel_rfl) ?_
  intro g_11 w_12 z_16 l_15 hb_13 G_14
  have n_17 : g_1 < g_11 := Nat.lt_of_lt_of_le G_4.lt l_15
  have n_18 : w.heap.size ≤ g_11 := Nat.le_trans hB.size l_15
  replace G_4 := G_4.to hb_13 G_4.lt
  replace R3_5 := own_to R3_5 hb_13
  replace hB := hB.trans (hb_13.mono hB.size)
  clear hb_13 l_15 z_16
  go_wp2_with (first | (with_reducible refine stop_store ?_) | (with_reducible refine stop_box ?_) | (with_reducible refine stop_alloc ?_) | (with_reducible refine stop_bslice ?_))
  unfold Kept
  refine wpList_st 0 #[.bool br, .bool bu, .int .u32 (W32 bx)] #[.bool br, .bool bu, .int .u32 (W32 bx)] G_14 rfl rfl (by kernel_rfl) rfl (of_decide_eq_true rfl) rfl ?_
  intro w_19 G_21 hU_20
  replace G_4 := hU_20.blk G_4 (by omega)
  replace R3_5 := own_upd R3_5 G_14 hU_20 (by decide)
  replace hB := hU_20.below hB (by omega)
  clear G_14 hU_20
  go_wp2_with (first | (with_reducible refine stop_store ?_) | (with_reducible refine stop_box ?_) | (with_reducible refine stop_alloc ?_) | (with_reducible refine stop_bslice ?_))
  have hst : Stable fun W => Below w.heap.size w W ∧ Blk W g_1 71 #[.bool br, .bool bu, .int .u32 (W32 bx)] ∧ Blk W g_11 71 #[.bool br, .bool bu, .int .u32 (W32 bx)] ∧ W.ownsRow w.heap.size 5 1 (.slice A3_5 13 c3_5) 13 (bcells (beaB ⟨y_1, y_2, y_3, y_4, y_5⟩ ⟨br, bu, bx⟩)) := stable_and (stable_below _ _ (Nat.le_refl _)) (stable_and (stable_blk _ _ _) (stable_and (stable_blk _ _ _) (stable_own _ _ _ _ _ _)))
  refine wp_region_v _ 40 hst ⟨hB.drew, G_4, G_21, R3_5⟩ ?_
  clear hB G_4 G_21 R3_5
  refine wpU_take (v := ?_) 0 hst (fun _ h => h) rfl ?_ ?_; rotate_left; (intro W hS K hK; clear hS; go_simp; refine (lives52 _).mono ?_; rintro e w9 ⟨rfl, hb⟩; refine CallPost.mk ?_; exact hK.out _ (hb)); simp only [Act.put, List.setIfInBounds_toArray, List.set_cons_zero, List.set_cons_succ]
  refine wpU_take (v := ?_) 1 hst (fun _ h => h) rfl ?_ ?_; rotate_left; (intro W hS K hK; clear hS; go_simp; exact hK.out _ (Below.refl _ _)); simp only [Act.put, List.setIfInBounds_toArray, List.set_cons_zero, List.set_cons_succ]
  refine wpU_take (v := ?_) 2 hst (fun _ h => h) rfl ?_ ?_; rotate_left; (intro W hS K hK; clear hS; go_simp; exact hK.out _ (Below.refl _ _)); simp only [Act.put, List.setIfInBounds_toArray, List.set_cons_zero, List.set_cons_succ]
  refine wpU_take (v := ?_) 3 hst (fun _ h => h) rfl ?_ ?_; rotate_left; (intro W hS K hK; clear hS; go_simp; exact hK.out _ (Below.refl _ _)); simp only [Act.put, List.setIfInBounds_toArray, List.set_cons_zero, List.set_cons_succ]
  refine wpU_take (v := ?_) 4 hst (fun _ h => h) rfl ?_ ?_; rotate_left; (intro W hS K hK; clear hS; go_simp; exact hK.out _ (Below.refl _ _)); simp only [Act.put, List.setIfInBounds_toArray, List.set_cons_zero, List.set_cons_succ]
  refine wpU_take (v := ?_) 5 hst (fun _ h => h) rfl ?_ ?_; rotate_left; (intro W hS K hK; clear hS; go_simp; exact hK.out _ (Below.refl _ _)); simp only [Act.put, List.setIfInBounds_toArray, List.set_cons_zero, List.set_cons_succ]
  refine wpU_take (v := .agg #[.int .u64 (W64 y_1), .int .i64 y_2, .int .u64 (W64 y_3), .int .u64 (W64 y_4), .int .u64 (W64 y_5)]) 6 hst (fun _ h => h) rfl (fun W hS K hK => calm_load rfl rfl (run_loadVar_mid W la (lo + a * 5) 25 [.int .u64 (W64 y_1), .int .i64 y_2, .int .u64 (W64 y_3), .int .u64 (W64 y_4), .int .u64 (W64 y_5)] _ (range_part (RY.out _ hS.1) 0 [.int .u64 (W64 y_1), .int .i64 y_2, .int .u64 (W64 y_3), .int .u64 (W64 y_4), .int .u64 (W64 y_5)] rfl) Try.underlying25 rfl (by kernel_rfl)) (hK.out _ (Below.refl _ _))) ?_; simp only [Act.put, List.setIfInBounds_toArray, List.set_cons_zero, List.set_cons_succ]
  refine wpU_take (v := .agg #[.bool br, .bool bu, .int .u32 (W32 bx)]) 7 hst (fun _ h => h) rfl (fun W hS K hK => calm_load rfl rfl (load_part hS.2.1 0 [.bool br, .bool bu, .int .u32 (W32 bx)] rfl Try.underlying71 rfl (by kernel_rfl)) (hK.out _ (Below.refl _ _))) ?_; simp only [Act.put, List.setIfInBounds_toArray, List.set_cons_zero, List.set_cons_succ]
  refine wpV_new 8 hst rfl ?_; intro W hS K hK
  go_simp
  refine (retB_at (r52_Encode ⟨y_1, y_2, y_3, y_4, y_5⟩ ⟨br, bu, bx⟩ _) (beaB_length _ _) hS.1.size).mono ?_; rintro e w9 ⟨A5_8, c5_8, rfl, R5_8, hb⟩
  refine hK.out (fun W => W.ownsRow w.heap.size 5 1 (.slice A5_8 13 c5_8) 13 (bcells (beaB ⟨y_1, y_2, y_3, y_4, y_5⟩ ⟨br, bu, bx⟩))) _ _ (stable_own _ _ _ _ _ _) hb (R5_8) (fun hst => ?_)
  clear hK K hb R5_8 hS
  try simp only [Act.put, List.setIfInBounds_toArray, List.set_cons_zero, List.set_cons_succ]
  refine wpU_take (v := ?_) 9 hst (fun _ h => h) rfl ?_ ?_; rotate_left; (intro W hS K hK; go_simp; refine (same_t rfl (Rd.of_own hS.1.2.2.2) (Rd.of_own hS.2) (own_len hS.1.2.2.2) (own_len hS.2)).mono ?_; rintro e w9 ⟨rfl, rfl⟩; refine CallPost.mk ?_; exact hK.out _ (Below.refl _ _)); simp only [Act.put, List.setIfInBounds_toArray, List.set_cons_zero, List.set_cons_succ]
  refine wpU_take (v := ?_) 10 hst (fun _ h => h) rfl ?_ ?_; rotate_left; (intro W hS K hK; clear hS; go_simp; exact hK.out _ (Below.refl _ _)); simp only [Act.put, List.setIfInBounds_toArray, List.set_cons_zero, List.set_cons_succ]
  refine wpU_take (v := ?_) 11 hst (fun _ h => h) rfl ?_ ?_; rotate_left; (intro W hS K hK; clear hS; go_simp; exact hK.out _ (Below.refl _ _)); simp only [Act.put, List.setIfInBounds_toArray, List.set_cons_zero, List.set_cons_succ]
  refine wpU_take (v := ?_) 12 hst (fun _ h => h) rfl ?_ ?_; rotate_left; (intro W hS K hK; clear hS; go_simp; exact hK.out _ (Below.refl _ _)); simp only [Act.put, List.setIfInBounds_toArray, List.set_cons_zero, List.set_cons_succ]
  refine wpU_take (v := ?_) 13 hst (fun _ h => h) rfl ?_ ?_; rotate_left; (intro W hS K hK; clear hS; go_simp; exact hK.out _ (Below.refl _ _)); simp only [Act.put, List.setIfInBounds_toArray, List.set_cons_zero, List.set_cons_succ]
  refine wpU_take (v := ?_) 14 hst (fun _ h => h) rfl ?_ ?_; rotate_left; (intro W hS K hK; clear hS; go_simp; exact hK.out _ (Below.refl _ _)); simp only [Act.put, List.setIfInBounds_toArray, List.set_cons_zero, List.set_cons_succ]
  refine wpU_take (v := ?_) 15 hst (fun _ h => h) rfl ?_ ?_; rotate_left; (intro W hS K hK; clear hS; go_simp; exact hK.out _ (Below.refl _ _)); simp only [Act.put, List.setIfInBounds_toArray, List.set_cons_zero, List.set_cons_succ]
  refine wpU_take (v := .agg #[.bool br, .bool bu, .int .u32 (W32 bx)]) 16 hst (fun _ h => h) rfl (fun W hS K hK => calm_load rfl rfl (load_part hS.1.2.2.1 0 [.bool br, .bool bu, .int .u32 (W32 bx)] rfl Try.underlying71 rfl (by kernel_rfl)) (hK.out _ (Below.refl _ _))) ?_; simp only [Act.put, List.setIfInBounds_toArray, List.set_cons_zero, List.set_cons_succ]
  refine wpU_take (v := .agg #[.bool br, .bool bu, .int .u32 (W32 bx)]) 17 hst (fun _ h => h) rfl (fun W hS K hK => calm_load rfl rfl (load_part hS.1.2.1 0 [.bool br, .bool bu, .int .u32 (W32 bx)] rfl Try.underlying71 rfl (by kernel_rfl)) (hK.out _ (Below.refl _ _))) ?_; simp only [Act.put, List.setIfInBounds_toArray, List.set_cons_zero, List.set_cons_succ]
  refine wpU_take (v := ?_) 18 hst (fun _ h => h) rfl ?_ ?_; rotate_left; (intro W hS K hK; clear hS; go_simp; exact hK.out _ (Below.refl _ _)); simp only [Act.put, List.setIfInBounds_toArray, List.set_cons_zero, List.set_cons_succ]
  refine wpU_take (v := ?_) 19 hst (fun _ h => h) rfl ?_ ?_; rotate_left; (intro W hS K hK; clear hS; go_simp; exact hK.out _ (Below.refl _ _)); simp only [Act.put, List.setIfInBounds_toArray, List.set_cons_zero, List.set_cons_succ]
  refine wpU_take (v := ?_) 20 hst (fun _ h => h) rfl ?_ ?_; rotate_left; (intro W hS K hK; clear hS; go_simp; exact hK.out _ (Below.refl _ _)); simp only [Act.put, List.setIfInBounds_toArray, List.set_cons_zero, List.set_cons_succ]
  refine wpU_take (v := ?_) 21 hst (fun _ h => h) rfl ?_ ?_; rotate_left; (intro W hS K hK; clear hS; go_simp; exact hK.out _ (Below.refl _ _)); simp only [Act.put, List.setIfInBounds_toArray, List.set_cons_zero, List.set_cons_succ]
  refine wpU_take (v := ?_) 22 hst (fun _ h => h) rfl ?_ ?_; rotate_left; (intro W hS K hK; clear hS; go_simp; exact hK.out _ (Below.refl _ _)); simp only [Act.put, List.setIfInBounds_toArray, List.set_cons_zero, List.set_cons_succ]
  refine wpU_take (v := ?_) 23 hst (fun _ h => h) rfl ?_ ?_; rotate_left; (intro W hS K hK; clear hS; go_simp; exact hK.out _ (Below.refl _ _)); simp only [Act.put, List.setIfInBounds_toArray, List.set_cons_zero, List.set_cons_succ]
  refine wpU_take (v := ?_) 24 hst (fun _ h => h) rfl ?_ ?_; rotate_left; (intro W hS K hK; clear hS; go_simp; exact hK.out _ (Below.refl _ _)); simp only [Act.put, List.setIfInBounds_toArray, List.set_cons_zero, List.set_cons_succ]
  refine wpU_take (v := ?_) 25 hst (fun _ h => h) rfl ?_ ?_; rotate_left; (intro W hS K hK; clear hS; go_simp; exact hK.out _ (Below.refl _ _)); simp only [Act.put, List.setIfInBounds_toArray, List.set_cons_zero, List.set_cons_succ]
  refine wpU_take (v := ?_) 26 hst (fun _ h => h) rfl ?_ ?_; rotate_left; (intro W hS K hK; clear hS; go_simp; exact hK.out _ (Below.refl _ _)); simp only [Act.put, List.setIfInBounds_toArray, List.set_cons_zero, List.set_cons_succ]
  refine wpU_take (v := ?_) 27 hst (fun _ h => h) rfl ?_ ?_; rotate_left; (intro W hS K hK; clear hS; go_simp; exact hK.out _ (Below.refl _ _)); simp only [Act.put, List.setIfInBounds_toArray, List.set_cons_zero, List.set_cons_succ]
  refine wpU_take (v := ?_) 28 hst (fun _ h => h) rfl ?_ ?_; rotate_left; (intro W hS K hK; clear hS; go_simp; exact hK.out _ (Below.refl _ _)); simp only [Act.put, List.setIfInBounds_toArray, List.set_cons_zero, List.set_cons_succ]
  refine wpU_take (v := ?_) 29 hst (fun _ h => h) rfl ?_ ?_; rotate_left; (intro W hS K hK; clear hS; go_simp; exact hK.out _ (Below.refl _ _)); simp only [Act.put, List.setIfInBounds_toArray, List.set_cons_zero, List.set_cons_succ]
  refine wpU_take (v := ?_) 30 hst (fun _ h => h) rfl ?_ ?_; rotate_left; (intro W hS K hK; clear hS; go_simp; exact hK.out _ (Below.refl _ _)); simp only [Act.put, List.setIfInBounds_toArray, List.set_cons_zero, List.set_cons_succ]
  refine wpU_take (v := ?_) 31 hst (fun _ h => h) rfl ?_ ?_; rotate_left; (intro W hS K hK; clear hS; go_simp; exact hK.out _ (Below.refl _ _)); simp only [Act.put, List.setIfInBounds_toArray, List.set_cons_zero, List.set_cons_succ]
  refine wpU_take (v := ?_) 32 hst (fun _ h => h) rfl ?_ ?_; rotate_left; (intro W hS K hK; clear hS; go_simp; exact hK.out _ (Below.refl _ _)); simp only [Act.put, List.setIfInBounds_toArray, List.set_cons_zero, List.set_cons_succ]
  refine wpU_take (v := .agg #[.int .u64 (W64 z_1), .int .i64 z_2, .int .u64 (W64 z_3), .int .u64 (W64 z_4), .int .u64 (W64 z_5)]) 33 hst (fun _ h => h) rfl (fun W hS K hK => calm_load rfl rfl (run_loadVar_mid W la (lo + n * 5) 25 [.int .u64 (W64 z_1), .int .i64 z_2, .int .u64 (W64 z_3), .int .u64 (W64 z_4), .int .u64 (W64 z_5)] _ (range_part (RZ.out _ hS.1.1) 0 [.int .u64 (W64 z_1), .int .i64 z_2, .int .u64 (W64 z_3), .int .u64 (W64 z_4), .int .u64 (W64 z_5)] rfl) Try.underlying25 rfl (by kernel_rfl)) (hK.out _ (Below.refl _ _))) ?_; simp only [Act.put, List.setIfInBounds_toArray, List.set_cons_zero, List.set_cons_succ]
  refine wpU_take (v := .agg #[.bool br, .bool bu, .int .u32 (W32 bx)]) 34 hst (fun _ h => h) rfl (fun W hS K hK => calm_load rfl rfl (load_part hS.1.2.1 0 [.bool br, .bool bu, .int .u32 (W32 bx)] rfl Try.underlying71 rfl (by kernel_rfl)) (hK.out _ (Below.refl _ _))) ?_; simp only [Act.put, List.setIfInBounds_toArray, List.set_cons_zero, List.set_cons_succ]
  refine wpU_take (v := ?_) 36 hst (fun _ h => h) rfl ?_ ?_; rotate_left; (intro W hS K hK; clear hS; go_simp; exact hK.out _ (Below.refl _ _)); simp only [Act.put, List.setIfInBounds_toArray, List.set_cons_zero, List.set_cons_succ]
  refine wpV_new 35 hst rfl ?_; intro W hS K hK
  go_simp
  refine (retB_at (rf_Encode ⟨z_1, z_2, z_3, z_4, z_5⟩ ⟨br, bu, bx⟩ _) (beaB_length _ _) hS.1.1.size).mono ?_; rintro e w9 ⟨A5_35, c5_35, rfl, R5_35, hb⟩
  refine hK.out (fun W => W.ownsRow w.heap.size 5 1 (.slice A5_35 13 c5_35) 13 (bcells (beaB ⟨z_1, z_2, z_3, z_4, z_5⟩ ⟨br, bu, bx⟩))) _ _ (stable_own _ _ _ _ _ _) hb (R5_35) (fun hst => ?_)
  clear hK K hb R5_35 hS
  try simp only [Act.put, List.setIfInBounds_toArray, List.set_cons_zero, List.set_cons_succ]
  refine wpU_take (v := ?_) 37 hst (fun _ h => h) rfl ?_ ?_; rotate_left; (intro W hS K hK; go_simp; refine (same_t HE.out (Rd.of_own hS.2) (Rd.of_own hS.1.1.2.2.2) (own_len hS.2) (own_len hS.1.1.2.2.2)).mono ?_; rintro e w9 ⟨rfl, rfl⟩; refine CallPost.mk ?_; exact hK.out _ (Below.refl _ _)); simp only [Act.put, List.setIfInBounds_toArray, List.set_cons_zero, List.set_cons_succ]
  refine wpU_take (v := ?_) 38 hst (fun _ h => h) rfl ?_ ?_; rotate_left; (intro W hS K hK; clear hS; go_simp; exact hK.out _ (Below.refl _ _)); simp only [Act.put, List.setIfInBounds_toArray, List.set_cons_zero, List.set_cons_succ]
  refine wpU_take (v := ?_) 39 hst (fun _ h => h) rfl ?_ ?_; rotate_left; (intro W hS K hK; clear hS; go_simp; exact hK.out _ (Below.refl _ _)); simp only [Act.put, List.setIfInBounds_toArray, List.set_cons_zero, List.set_cons_succ]
  refine wpU_done (fun w_22 hS => ?_)
  obtain ⟨⟨⟨hB, G_4, G_21, R3_5⟩, R5_8⟩, R5_35⟩ := hS
  clear hst
  go_wp2_with (first | (with_reducible refine stop_store ?_) | (with_reducible refine stop_box ?_) | (with_reducible refine stop_alloc ?_) | (with_reducible refine stop_bslice ?_))
  go_returns
  exact ⟨rfl, hB⟩
theorem law_RefreshBeacons_k (A : Option Addr) (c : Nat) (ks : List NK) (ix : Int) (b : Bea) (w : World) (ha : Rd w A (nksL ks)) :
    Calls Try.prog 13 #[.slice A ks.length c, .int .i64 ix, .agg (beA b)] w fun e w' => e = .returned (.bool true) ∧ Below w.heap.size w w' := by
  obtain ⟨br, bu, bx⟩ := b
  by_cases h1 : ix < 0
  · exact rbea_g1 A c ks ix br bu bx w ha h1
  by_cases h2 : ((ks.length : Nat) : Int) ≤ ix
  · exact rbea_g2 A c ks ix br bu bx w ha ⟨by omega, h2⟩
  by_cases h3 : 20 < ks.length
  · exact rbea_g3 A c ks ix br bu bx w ha ⟨by omega, by omega, h3⟩
  obtain ⟨a, rfl⟩ := Int.eq_ofNat_of_zero_le (show 0 ≤ ix by omega)
  have hat : a < ks.length := by omega
  obtain ⟨n, hn, hle, hdk, heq⟩ := decK_bea ks ⟨br, bu, bx⟩ a hat
  obtain ⟨⟨y_1, y_2, y_3, y_4, y_5⟩, hy⟩ : ∃ z, ks[a] = z := ⟨_, rfl⟩
  obtain ⟨⟨z_1, z_2, z_3, z_4, z_5⟩, hz⟩ : ∃ z, ks[n] = z := ⟨_, rfl⟩
  rw [hy] at hdk
  rw [hy, hz] at heq
  obtain ⟨la, lo, rfl, _, _⟩ := Rd.open_ ha (by
    rcases ks with _ | ⟨k0, ks⟩
    · simp at hat
    · unfold nksL; rw [List.flatMap_cons, List.length_append]; exact Nat.lt_of_lt_of_le (Nat.succ_pos 4) (Nat.le_add_right 5 _))
  exact rbea_ok la lo c ks a br bu bx n y_1 y_2 y_3 y_4 y_5 z_1 z_2 z_3 z_4 z_5 w ha (by omega) hat hn hle hy hz heq hdk
def nkOf (r : R_netkey) : NK := ⟨r.key, r.nid, r.enc, r.hide, r.bea⟩
theorem nksL_of (rs : List R_netkey) : nksL (rs.map nkOf) = rs.flatMap R_netkey.cells := by unfold nksL; rw [List.flatMap_map]; rfl
theorem law_RefreshBeacons (A : Option Addr) (c : Nat) (rs : List R_netkey) (ix : Int) (wix : (Lit.int .i64 ix).wf = true) (br bu : Bool) (bx : BitVec 32) (w : World) (hr : Rd w A (rs.flatMap R_netkey.cells)) (ho : ∀ r ∈ rs, r.ok w) (hc : rs.length ≤ c) :
    Calls Try.prog 13 #[.slice A rs.length c, .int .i64 ix, .agg #[.bool br, .bool bu, .int .u32 (W32 bx)]] w fun e w' => e = .returned (.bool true) ∧ Below w.heap.size w w' := by
  have := law_RefreshBeacons_k A c (rs.map nkOf) ix ⟨br, bu, bx⟩ w (by rw [nksL_of]; exact hr)
  rwa [List.length_map] at this
theorem law_RefreshDecodes (A : Option Addr) (c : Nat) (rs : List R_netkey) (B : Option Addr) (d : Nat) (bs : List (BitVec 8)) (w : World) (hr : Rd w A (rs.flatMap R_netkey.cells)) (ho : ∀ r ∈ rs, r.ok w) (hc : rs.length ≤ c) (hb : RdB w B bs) (hd : bs.length ≤ d) :
    Calls Try.prog 14 #[.slice A rs.length c, .slice B bs.length d] w fun e w' => e = .returned (.bool true) ∧ Below w.heap.size w w' := by
  have := law_RefreshDecodes_k A c (rs.map nkOf) B d bs w (by rw [nksL_of]; exact hr) hb hd
  rwa [List.length_map] at this
end Go.Proofs.Ytmehemojopfihaa
