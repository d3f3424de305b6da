/- What hears returns. -/
import Derived.Test.YtmehemojopfihaaRefrF
import Derived.Test.YtmehemojopfihaaRefrP
import Derived.Test.YtmehemojopfihaaRegT
namespace Go.Proofs.Ytmehemojopfihaa
set_option maxRecDepth 100000
open Go.ChangeShapes Go.WideShapes Go.ChangeAt Go.RowKit
set_option linter.unusedVariables false
set_option linter.unusedSimpArgs false

theorem rg_of_nk {W : World} {b : Nat} {l : List NK} (h : Rd W (some ⟨b, 0, none⟩) (nksL l)) (j : Nat) (hj : j < l.length) : Rg b (j * 5) (nkA l[j]).toList W := by
  obtain ⟨h1, h2, h3, h4, h5⟩ := nk_cells h j hj
  have hl : 0 < (nksL l).length := by
    rcases l with _ | ⟨x, l⟩
    · simp at hj
    · unfold nksL; rw [List.flatMap_cons, List.length_append]; show 0 < 5 + _; omega
  obtain ⟨b', off, hA, hb, _⟩ := Rd.open_ h hl
  cases hA
  refine ⟨hb, fun i v hv => ?_⟩
  unfold nkA at hv
  match i, hv with
  | 0, hv => simp at hv; rw [← hv, Nat.add_zero]; exact h1
  | 1, hv => simp at hv; rw [← hv]; exact h2
  | 2, hv => simp at hv; rw [← hv]; exact h3
  | 3, hv => simp at hv; rw [← hv]; exact h4
  | 4, hv => simp at hv; rw [← hv]; exact h5
  | i + 5, hv => simp at hv
set_option maxHeartbeats 8000000 in
theorem hears_flat (ph : Int) (a1 : BitVec 64) (a2 : Int) (a3 a4 a5 b1 : BitVec 64) (b2 : Int) (b3 b4 b5 : BitVec 64) (qh : Int) (c1 : BitVec 64) (c2 : Int) (c3 c4 c5 e1 : BitVec 64) (e2 : Int) (e3 e4 e5 : BitVec 64) (vi : BitVec 32) (vu : Bool) (vs : Int) (ui : BitVec 32) (uu : Bool) (us : Int) (w : World) (hm : sendK ⟨qh, ⟨c1, c2, c3, c4, c5⟩, ⟨e1, e2, e3, e4, e5⟩⟩ ∈ recvK ⟨ph, ⟨a1, a2, a3, a4, a5⟩, ⟨b1, b2, b3, b4, b5⟩⟩) (hx : rxK ⟨vi, vu, vs⟩ (W32 (txK ⟨ui, uu, us⟩ % 2#32)) = (txK ⟨ui, uu, us⟩, true)) :
    Calls Try.prog 47 #[.agg #[.int .i64 ph, .int .u64 (W64 a1), .int .i64 a2, .int .u64 (W64 a3), .int .u64 (W64 a4), .int .u64 (W64 a5), .int .u64 (W64 b1), .int .i64 b2, .int .u64 (W64 b3), .int .u64 (W64 b4), .int .u64 (W64 b5)], .agg #[.int .i64 qh, .int .u64 (W64 c1), .int .i64 c2, .int .u64 (W64 c3), .int .u64 (W64 c4), .int .u64 (W64 c5), .int .u64 (W64 e1), .int .i64 e2, .int .u64 (W64 e3), .int .u64 (W64 e4), .int .u64 (W64 e5)], .agg #[.int .u32 (W32 vi), .bool vu, .int .i64 vs], .agg #[.int .u32 (W32 ui), .bool uu, .int .i64 us]] w fun e w' => e = .returned (.bool true) ∧ Below w.heap.size w w' := by
  obtain ⟨tx, htx⟩ : ∃ z, txK ⟨ui, uu, us⟩ = z := ⟨_, rfl⟩
  rw [htx] at hx
  have CT := Lib.hid (show ∀ W, Calls Try.prog 44 #[.agg #[.int .u32 (W32 ui), .bool uu, .int .i64 us]] W fun e w' => e = .returned (.int .u32 (W32 tx)) ∧ Below W.heap.size W w' from fun W => by have := rf_Tx ⟨ui, uu, us⟩ W; rw [htx] at this; exact this)
  have CX := Lib.hid (show ∀ W, Calls Try.prog 42 #[.agg #[.int .u32 (W32 vi), .bool vu, .int .i64 vs], .int .i64 (W32 (tx % 2#32))] W fun e w' => e = .returned (.tuple #[.int .u32 (W32 tx), .bool true]) ∧ Below W.heap.size W w' from fun W => by have := rf_Rx ⟨vi, vu, vs⟩ (W32 (tx % 2#32)) W; rw [hx] at this; exact this)
  have hwr : IntKind.i64.wrap (W32 (tx % 2#32)) = W32 (tx % 2#32) := IntWalk.i64_in _ (by have := W32_bd (tx % 2#32); omega)
  obtain ⟨ks, hks⟩ : ∃ z, recvK ⟨ph, ⟨a1, a2, a3, a4, a5⟩, ⟨b1, b2, b3, b4, b5⟩⟩ = z := ⟨_, rfl⟩
  have hn2 : ks.length ≤ 2 := by rw [← hks]; exact (recv_len _).2
  have CR := Lib.hid (show ∀ W, Calls Try.prog 23 #[.agg #[.int .i64 ph, .int .u64 (W64 a1), .int .i64 a2, .int .u64 (W64 a3), .int .u64 (W64 a4), .int .u64 (W64 a5), .int .u64 (W64 b1), .int .i64 b2, .int .u64 (W64 b3), .int .u64 (W64 b4), .int .u64 (W64 b5)]] W fun e w' => ∃ b, e = .returned (.slice (some ⟨b, 0, none⟩) ks.length ks.length) ∧ Rd w' (some ⟨b, 0, none⟩) (nksL ks) ∧ Below W.heap.size W w' from fun W => by have := rf_Recv ⟨ph, ⟨a1, a2, a3, a4, a5⟩, ⟨b1, b2, b3, b4, b5⟩⟩ _ rfl W; rw [hks] at this; exact this)
  obtain ⟨⟨s_1, s_2, s_3, s_4, s_5⟩, hs⟩ : ∃ z, sendK ⟨qh, ⟨c1, c2, c3, c4, c5⟩, ⟨e1, e2, e3, e4, e5⟩⟩ = z := ⟨_, rfl⟩
  have CS := Lib.hid (show ∀ W, Calls Try.prog 20 #[.agg #[.int .i64 qh, .int .u64 (W64 c1), .int .i64 c2, .int .u64 (W64 c3), .int .u64 (W64 c4), .int .u64 (W64 c5), .int .u64 (W64 e1), .int .i64 e2, .int .u64 (W64 e3), .int .u64 (W64 e4), .int .u64 (W64 e5)]] W fun e w' => e = .returned (.agg #[.int .u64 (W64 s_1), .int .i64 s_2, .int .u64 (W64 s_3), .int .u64 (W64 s_4), .int .u64 (W64 s_5)]) ∧ Below W.heap.size W w' from fun W => by have := rf_Sending ⟨qh, ⟨c1, c2, c3, c4, c5⟩, ⟨e1, e2, e3, e4, e5⟩⟩ W; rw [hs] at this; exact this)
  rw [hks, hs] at hm
  have HM := Lib.hid hm
  clear hks hs htx hx hm
  go_enter Try.func47, Try.ntmps47
  go_wp2_with (first | (with_reducible refine stop_store ?_) | (with_reducible refine stop_box ?_) | (with_reducible refine stop_alloc ?_) | (with_reducible refine stop_bslice ?_))
  unfold Kept
  refine go_mem (ty := 27) (cs := #[.int .i64 ph, .int .u64 (W64 a1), .int .i64 a2, .int .u64 (W64 a3), .int .u64 (W64 a4), .int .u64 (W64 a5), .int .u64 (W64 b1), .int .i64 b2, .int .u64 (W64 b3), .int .u64 (W64 b4), .int .u64 (W64 b5)]) (fun g => .pointer (some ⟨g, 0, none⟩)) rfl (by kernel_rfl) ?_
  intro g_1 w_2 z_6 l_5 hb_3 G_4
  have n_7 : w.heap.size ≤ g_1 := l_5
  have hB := hb_3
  clear hb_3 l_5 z_6
  go_wp2_with (first | (with_reducible refine stop_store ?_) | (with_reducible refine stop_box ?_) | (with_reducible refine stop_alloc ?_) | (with_reducible refine stop_bslice ?_))
  unfold Kept
  refine go_mem (ty := 27) (cs := #[.int .i64 qh, .int .u64 (W64 c1), .int .i64 c2, .int .u64 (W64 c3), .int .u64 (W64 c4), .int .u64 (W64 c5), .int .u64 (W64 e1), .int .i64 e2, .int .u64 (W64 e3), .int .u64 (W64 e4), .int .u64 (W64 e5)]) (fun g => .pointer (some ⟨g, 0, none⟩)) rfl (by kernel_rfl) ?_
  intro g_8 w_9 z_13 l_12 hb_10 G_11
  have n_14 : g_1 < g_8 := Nat.lt_of_lt_of_le G_4.lt l_12
  have n_15 : w.heap.size ≤ g_8 := Nat.le_trans hB.size l_12
  replace G_4 := G_4.to hb_10 G_4.lt
  replace hB := hB.trans (hb_10.mono hB.size)
  clear hb_10 l_12 z_13
  go_wp2_with (first | (with_reducible refine stop_store ?_) | (with_reducible refine stop_box ?_) | (with_reducible refine stop_alloc ?_) | (with_reducible refine stop_bslice ?_))
  unfold Kept
  refine go_mem (ty := 59) (cs := #[.int .u32 (W32 vi), .bool vu, .int .i64 vs]) (fun g => .pointer (some ⟨g, 0, none⟩)) rfl (by kernel_rfl) ?_
  intro g_16 w_17 z_21 l_20 hb_18 G_19
  have n_22 : g_8 < g_16 := Nat.lt_of_lt_of_le G_11.lt l_20
  have n_23 : w.heap.size ≤ g_16 := Nat.le_trans hB.size l_20
  replace G_4 := G_4.to hb_18 G_4.lt
  replace G_11 := G_11.to hb_18 G_11.lt
  replace hB := hB.trans (hb_18.mono hB.size)
  clear hb_18 l_20 z_21
  go_wp2_with (first | (with_reducible refine stop_store ?_) | (with_reducible refine stop_box ?_) | (with_reducible refine stop_alloc ?_) | (with_reducible refine stop_bslice ?_))
  unfold Kept
  refine go_mem (ty := 59) (cs := #[.int .u32 (W32 ui), .bool uu, .int .i64 us]) (fun g => .pointer (some ⟨g, 0, none⟩)) rfl (by kernel_rfl) ?_
  intro g_24 w_25 z_29 l_28 hb_26 G_27
  have n_30 : g_16 < g_24 := Nat.lt_of_lt_of_le G_19.lt l_28
  have n_31 : w.heap.size ≤ g_24 := Nat.le_trans hB.size l_28
  replace G_4 := G_4.to hb_26 G_4.lt
  replace G_11 := G_11.to hb_26 G_11.lt
  replace G_19 := G_19.to hb_26 G_19.lt
  replace hB := hB.trans (hb_26.mono hB.size)
  clear hb_26 l_28 z_29
  go_wp2_with (first | (with_reducible refine stop_store ?_) | (with_reducible refine stop_box ?_) | (with_reducible refine stop_alloc ?_) | (with_reducible refine stop_bslice ?_))
  have hst : Stable fun W => Below w.heap.size w W ∧ Blk W g_1 27 #[.int .i64 ph, .int .u64 (W64 a1), .int .i64 a2, .int .u64 (W64 a3), .int .u64 (W64 a4), .int .u64 (W64 a5), .int .u64 (W64 b1), .int .i64 b2, .int .u64 (W64 b3), .int .u64 (W64 b4), .int .u64 (W64 b5)] ∧ Blk W g_8 27 #[.int .i64 qh, .int .u64 (W64 c1), .int .i64 c2, .int .u64 (W64 c3), .int .u64 (W64 c4), .int .u64 (W64 c5), .int .u64 (W64 e1), .int .i64 e2, .int .u64 (W64 e3), .int .u64 (W64 e4), .int .u64 (W64 e5)] ∧ Blk W g_16 59 #[.int .u32 (W32 vi), .bool vu, .int .i64 vs] ∧ Blk W g_24 59 #[.int .u32 (W32 ui), .bool uu, .int .i64 us] := stable_and (stable_below _ _ (Nat.le_refl _)) (stable_and (stable_blk _ _ _) (stable_and (stable_blk _ _ _) (stable_and (stable_blk _ _ _) (stable_blk _ _ _))))
  refine wp_region_v _ 11 hst ⟨hB.drew, G_4, G_11, G_19, G_27⟩ ?_
  clear hB G_4 G_11 G_19 G_27
  refine wpU_take (v := .agg #[.int .u32 (W32 vi), .bool vu, .int .i64 vs]) 0 hst (fun _ h => h) rfl (fun W hS K hK => calm_load rfl rfl (load_part hS.2.2.2.1 0 [.int .u32 (W32 vi), .bool vu, .int .i64 vs] rfl Try.underlying59 rfl (by kernel_rfl)) (hK.out _ (Below.refl _ _))) ?_; simp only [Act.put, List.setIfInBounds_toArray, List.set_cons_zero, List.set_cons_succ]
  refine wpU_take (v := .agg #[.int .u32 (W32 ui), .bool uu, .int .i64 us]) 1 hst (fun _ h => h) rfl (fun W hS K hK => calm_load rfl rfl (load_part hS.2.2.2.2 0 [.int .u32 (W32 ui), .bool uu, .int .i64 us] rfl Try.underlying59 rfl (by kernel_rfl)) (hK.out _ (Below.refl _ _))) ?_; simp only [Act.put, List.setIfInBounds_toArray, List.set_cons_zero, List.set_cons_succ]
  refine wpU_take (v := ?_) 2 hst (fun _ h => h) rfl ?_ ?_; rotate_left; (intro W hS K hK; clear hS; go_simp; refine (CT.out _).mono ?_; rintro e w9 ⟨rfl, hb⟩; refine CallPost.mk ?_; exact hK.out _ (hb)); simp only [Act.put, List.setIfInBounds_toArray, List.set_cons_zero, List.set_cons_succ]
  refine wpU_take (v := ?_) 3 hst (fun _ h => h) rfl ?_ ?_; rotate_left; (intro W hS K hK; clear hS; go_simp; exact hK.out _ (Below.refl _ _)); simp only [Act.put, List.setIfInBounds_toArray, List.set_cons_zero, List.set_cons_succ]
  refine wpU_take (v := ?_) 4 hst (fun _ h => h) rfl ?_ ?_; rotate_left; (intro W hS K hK; clear hS; go_simp; exact hK.out _ (Below.refl _ _)); simp only [Act.put, List.setIfInBounds_toArray, List.set_cons_zero, List.set_cons_succ]
  refine wpU_take (v := ?_) 5 hst (fun _ h => h) rfl ?_ ?_; rotate_left; (intro W hS K hK; clear hS; go_simp; refine (CX.out _).mono ?_; rintro e w9 ⟨rfl, hb⟩; refine CallPost.mk ?_; exact hK.out _ (hb)); simp only [Act.put, List.setIfInBounds_toArray, List.set_cons_zero, List.set_cons_succ]
  refine wpU_take (v := ?_) 6 hst (fun _ h => h) rfl ?_ ?_; rotate_left; (intro W hS K hK; clear hS; go_simp; exact hK.out _ (Below.refl _ _)); simp only [Act.put, List.setIfInBounds_toArray, List.set_cons_zero, List.set_cons_succ]
  refine wpU_take (v := ?_) 7 hst (fun _ h => h) rfl ?_ ?_; rotate_left; (intro W hS K hK; clear hS; go_simp; exact hK.out _ (Below.refl _ _)); simp only [Act.put, List.setIfInBounds_toArray, List.set_cons_zero, List.set_cons_succ]
  refine wpU_take (v := ?_) 8 hst (fun _ h => h) rfl ?_ ?_; rotate_left; (intro W hS K hK; clear hS; go_simp; exact hK.out _ (Below.refl _ _)); simp only [Act.put, List.setIfInBounds_toArray, List.set_cons_zero, List.set_cons_succ]
  refine wpU_take (v := ?_) 9 hst (fun _ h => h) rfl ?_ ?_; rotate_left; (intro W hS K hK; clear hS; go_simp; exact hK.out _ (Below.refl _ _)); simp only [Act.put, List.setIfInBounds_toArray, List.set_cons_zero, List.set_cons_succ]
  refine wpU_take (v := ?_) 10 hst (fun _ h => h) rfl ?_ ?_; rotate_left; (intro W hS K hK; clear hS; go_simp; exact hK.out _ (Below.refl _ _)); simp only [Act.put, List.setIfInBounds_toArray, List.set_cons_zero, List.set_cons_succ]
  refine wpU_done (fun w_32 hS => ?_)
  obtain ⟨hB, G_4, G_11, G_19, G_27⟩ := hS
  clear hst
  go_wp2_with (first | (with_reducible refine stop_store ?_) | (with_reducible refine stop_box ?_) | (with_reducible refine stop_alloc ?_) | (with_reducible refine stop_bslice ?_) | ((with_reducible refine wpList_ld 0 [.int .i64 ph, .int .u64 (W64 a1), .int .i64 a2, .int .u64 (W64 a3), .int .u64 (W64 a4), .int .u64 (W64 a5), .int .u64 (W64 b1), .int .i64 b2, .int .u64 (W64 b3), .int .u64 (W64 b4), .int .u64 (W64 b5)] G_4 ?_ ?_ Try.underlying27 ?_ ?_ ?_); rfl; rfl; rfl; kernel_rfl))
  refine (CR.out _).mono ?_; rintro e w_34 ⟨rb, rfl, RK, hb_35⟩
  replace G_4 := G_4.to hb_35 G_4.lt
  replace G_11 := G_11.to hb_35 G_11.lt
  replace G_19 := G_19.to hb_35 G_19.lt
  replace G_27 := G_27.to hb_35 G_27.lt
  replace hB := hB.trans (hb_35.mono hB.size)
  clear hb_35
  go_wp2_with (first | (with_reducible refine stop_store ?_) | (with_reducible refine stop_box ?_) | (with_reducible refine stop_alloc ?_) | (with_reducible refine stop_bslice ?_))
  try simp only [Act.put, List.setIfInBounds_toArray, List.set_cons_zero, List.set_cons_succ]
  go_loopw [12] (fun i wr => ∃ (j : Nat), j ≤ ks.length ∧ i = .int .i64 j ∧ Below w.heap.size w wr ∧ Blk wr g_1 27 #[.int .i64 ph, .int .u64 (W64 a1), .int .i64 a2, .int .u64 (W64 a3), .int .u64 (W64 a4), .int .u64 (W64 a5), .int .u64 (W64 b1), .int .i64 b2, .int .u64 (W64 b3), .int .u64 (W64 b4), .int .u64 (W64 b5)] ∧ Blk wr g_8 27 #[.int .i64 qh, .int .u64 (W64 c1), .int .i64 c2, .int .u64 (W64 c3), .int .u64 (W64 c4), .int .u64 (W64 c5), .int .u64 (W64 e1), .int .i64 e2, .int .u64 (W64 e3), .int .u64 (W64 e4), .int .u64 (W64 e5)] ∧ Blk wr g_16 59 #[.int .u32 (W32 vi), .bool vu, .int .i64 vs] ∧ Blk wr g_24 59 #[.int .u32 (W32 ui), .bool uu, .int .i64 us] ∧ Rd wr (some ⟨rb, 0, none⟩) (nksL ks) ∧ ∀ (q : Nat), q < j → ∀ (h : q < ks.length), ks[q] ≠ ⟨s_1, s_2, s_3, s_4, s_5⟩) (fun i _ => ks.length - (intOf i).toNat)
  case atStart => exact ⟨0, Nat.zero_le _, rfl, hB, G_4, G_11, G_19, G_27, RK, fun q hq => absurd hq (Nat.not_lt_zero q)⟩
  case round =>
    clear G_4 G_11 G_19 G_27 RK hB
    obtain ⟨j, hj0, rfl, hB, H0, H1, H2, H3, RK, hno⟩ := hrel
    by_cases hlt : j < ks.length
    ·
      have RX := rg_of_nk RK j hlt
      obtain ⟨⟨x_1, x_2, x_3, x_4, x_5⟩, hx⟩ : ∃ z, ks[j] = z := ⟨_, rfl⟩
      rw [hx] at RX
      replace RX : Rg rb (j * 5) [.int .u64 (W64 x_1), .int .i64 x_2, .int .u64 (W64 x_3), .int .u64 (W64 x_4), .int .u64 (W64 x_5)] wr := RX
      have HXJ := Lib.hid hx
      have HNO := Lib.hid hno
      have i1 : decide ((j : Int) < ((ks.length : Nat) : Int)) = true := by simp; exact hlt
      have i2 : decide (j < ks.length) = true := decide_eq_true hlt
      clear hx hno
      by_cases hc_36 : (⟨x_1, x_2, x_3, x_4, x_5⟩ : NK) = ⟨s_1, s_2, s_3, s_4, s_5⟩
      ·
        have ec_36 : ((W64 x_1 == W64 s_1 && (x_2 == s_2 && (W64 x_3 == W64 s_3 && (W64 x_4 == W64 s_4 && (W64 x_5 == W64 s_5)))))) = true := by injection hc_36 with i1 i2 i3 i4 i5; subst i1 i2 i3 i4 i5; simp
        have kc_36 := Lib.hid hc_36
        clear hc_36
        go_wp2_with (first | (with_reducible refine stop_store ?_) | (with_reducible refine stop_box ?_) | (with_reducible refine stop_alloc ?_) | (with_reducible refine stop_bslice ?_))
        have hst : Stable fun W => Below w.heap.size w W ∧ Blk W g_1 27 #[.int .i64 ph, .int .u64 (W64 a1), .int .i64 a2, .int .u64 (W64 a3), .int .u64 (W64 a4), .int .u64 (W64 a5), .int .u64 (W64 b1), .int .i64 b2, .int .u64 (W64 b3), .int .u64 (W64 b4), .int .u64 (W64 b5)] ∧ Blk W g_8 27 #[.int .i64 qh, .int .u64 (W64 c1), .int .i64 c2, .int .u64 (W64 c3), .int .u64 (W64 c4), .int .u64 (W64 c5), .int .u64 (W64 e1), .int .i64 e2, .int .u64 (W64 e3), .int .u64 (W64 e4), .int .u64 (W64 e5)] ∧ Blk W g_16 59 #[.int .u32 (W32 vi), .bool vu, .int .i64 vs] ∧ Blk W g_24 59 #[.int .u32 (W32 ui), .bool uu, .int .i64 us] ∧ Rd W (some ⟨rb, 0, none⟩) (nksL ks) ∧ Rg rb (j * 5) [.int .u64 (W64 x_1), .int .i64 x_2, .int .u64 (W64 x_3), .int .u64 (W64 x_4), .int .u64 (W64 x_5)] W := stable_and (stable_below _ _ (Nat.le_refl _)) (stable_and (stable_blk _ _ _) (stable_and (stable_blk _ _ _) (stable_and (stable_blk _ _ _) (stable_and (stable_blk _ _ _) (stable_and (stable_rd _ _) (stable_rg _ _ _))))))
        refine wp_region_v _ 7 hst ⟨hB.drew, H0, H1, H2, H3, RK, RX⟩ ?_
        clear hB H0 H1 H2 H3 RK RX
        refine wpU_take (v := ?_) 0 hst (fun _ h => h) rfl ?_ ?_; rotate_left; (intro W hS K hK; clear hS; go_simp; exact hK.out _ (Below.refl _ _)); simp only [Act.put, List.setIfInBounds_toArray, List.set_cons_zero, List.set_cons_succ]
        refine wpU_take (v := ?_) 1 hst (fun _ h => h) rfl ?_ ?_; rotate_left; (intro W hS K hK; clear hS; go_simp; exact hK.out _ (Below.refl _ _)); simp only [Act.put, List.setIfInBounds_toArray, List.set_cons_zero, List.set_cons_succ]
        refine wpU_take (v := ?_) 2 hst (fun _ h => h) rfl ?_ ?_; rotate_left; (intro W hS K hK; clear hS; go_simp; exact hK.out _ (Below.refl _ _)); simp only [Act.put, List.setIfInBounds_toArray, List.set_cons_zero, List.set_cons_succ]
        refine wpU_take (v := .agg #[.int .u64 (W64 x_1), .int .i64 x_2, .int .u64 (W64 x_3), .int .u64 (W64 x_4), .int .u64 (W64 x_5)]) 3 hst (fun _ h => h) rfl (fun W hS K hK => calm_load rfl rfl (run_loadVar_mid W rb (j * 5) 25 [.int .u64 (W64 x_1), .int .i64 x_2, .int .u64 (W64 x_3), .int .u64 (W64 x_4), .int .u64 (W64 x_5)] _ (range_part hS.2.2.2.2.2.2.2 0 [.int .u64 (W64 x_1), .int .i64 x_2, .int .u64 (W64 x_3), .int .u64 (W64 x_4), .int .u64 (W64 x_5)] rfl) Try.underlying25 rfl (by kernel_rfl)) (hK.out _ (Below.refl _ _))) ?_; simp only [Act.put, List.setIfInBounds_toArray, List.set_cons_zero, List.set_cons_succ]
        refine wpU_take (v := .agg #[.int .i64 qh, .int .u64 (W64 c1), .int .i64 c2, .int .u64 (W64 c3), .int .u64 (W64 c4), .int .u64 (W64 c5), .int .u64 (W64 e1), .int .i64 e2, .int .u64 (W64 e3), .int .u64 (W64 e4), .int .u64 (W64 e5)]) 4 hst (fun _ h => h) rfl (fun W hS K hK => calm_load rfl rfl (load_part hS.2.2.1 0 [.int .i64 qh, .int .u64 (W64 c1), .int .i64 c2, .int .u64 (W64 c3), .int .u64 (W64 c4), .int .u64 (W64 c5), .int .u64 (W64 e1), .int .i64 e2, .int .u64 (W64 e3), .int .u64 (W64 e4), .int .u64 (W64 e5)] rfl Try.underlying27 rfl (by kernel_rfl)) (hK.out _ (Below.refl _ _))) ?_; simp only [Act.put, List.setIfInBounds_toArray, List.set_cons_zero, List.set_cons_succ]
        refine wpU_take (v := ?_) 5 hst (fun _ h => h) rfl ?_ ?_; rotate_left; (intro W hS K hK; clear hS; go_simp; refine (CS.out _).mono ?_; rintro e w9 ⟨rfl, hb⟩; refine CallPost.mk ?_; exact hK.out _ (hb)); simp only [Act.put, List.setIfInBounds_toArray, List.set_cons_zero, List.set_cons_succ]
        refine wpU_take (v := ?_) 6 hst (fun _ h => h) rfl ?_ ?_; rotate_left; (intro W hS K hK; clear hS; go_simp; exact hK.out _ (Below.refl _ _)); simp only [Act.put, List.setIfInBounds_toArray, List.set_cons_zero, List.set_cons_succ]
        refine wpU_done (fun w_37 hS => ?_)
        obtain ⟨hB, H0, H1, H2, H3, RK, RX⟩ := hS
        clear hst
        go_wp2_with (first | (with_reducible refine stop_store ?_) | (with_reducible refine stop_box ?_) | (with_reducible refine stop_alloc ?_) | (with_reducible refine stop_bslice ?_) | ((with_reducible refine wpList_ld 0 [.int .u32 (W32 ui), .bool uu, .int .i64 us] H3 ?_ ?_ Try.underlying59 ?_ ?_ ?_); rfl; rfl; rfl; kernel_rfl) | ((with_reducible refine wpList_ldg 0 [.int .u32 (W32 ui), .bool uu, .int .i64 us] H3 ?_ ?_ Try.underlying59 ?_ ?_ ?_ ?_); rfl; rfl; rfl; kernel_rfl; rfl))
        refine (CT.out _).mono ?_; rintro e w_39 ⟨rfl, hb_40⟩
        replace H0 := H0.to hb_40 H0.lt
        replace H1 := H1.to hb_40 H1.lt
        replace H2 := H2.to hb_40 H2.lt
        replace H3 := H3.to hb_40 H3.lt
        replace RK := Rd.to RK hb_40
        replace RX := Rg.to RX hb_40
        replace hB := hB.trans (hb_40.mono hB.size)
        clear hb_40
        go_wp2_with (first | (with_reducible refine stop_store ?_) | (with_reducible refine stop_box ?_) | (with_reducible refine stop_alloc ?_) | (with_reducible refine stop_bslice ?_))
        go_returns
        exact ⟨rfl, hB⟩
      ·
        have ec_36 : ((W64 x_1 == W64 s_1 && (x_2 == s_2 && (W64 x_3 == W64 s_3 && (W64 x_4 == W64 s_4 && (W64 x_5 == W64 s_5)))))) = false := by rw [Bool.eq_false_iff]; intro hh; apply hc_36; simp only [Bool.and_eq_true, beq_iff_eq, W64_eq] at hh; obtain ⟨i1, i2, i3, i4, i5⟩ := hh; rw [i1, i2, i3, i4, i5]
        have kc_36 := Lib.hid hc_36
        clear hc_36
        go_wp2_with (first | (with_reducible refine stop_store ?_) | (with_reducible refine stop_box ?_) | (with_reducible refine stop_alloc ?_) | (with_reducible refine stop_bslice ?_))
        have hst : Stable fun W => Below w.heap.size w W ∧ Blk W g_1 27 #[.int .i64 ph, .int .u64 (W64 a1), .int .i64 a2, .int .u64 (W64 a3), .int .u64 (W64 a4), .int .u64 (W64 a5), .int .u64 (W64 b1), .int .i64 b2, .int .u64 (W64 b3), .int .u64 (W64 b4), .int .u64 (W64 b5)] ∧ Blk W g_8 27 #[.int .i64 qh, .int .u64 (W64 c1), .int .i64 c2, .int .u64 (W64 c3), .int .u64 (W64 c4), .int .u64 (W64 c5), .int .u64 (W64 e1), .int .i64 e2, .int .u64 (W64 e3), .int .u64 (W64 e4), .int .u64 (W64 e5)] ∧ Blk W g_16 59 #[.int .u32 (W32 vi), .bool vu, .int .i64 vs] ∧ Blk W g_24 59 #[.int .u32 (W32 ui), .bool uu, .int .i64 us] ∧ Rd W (some ⟨rb, 0, none⟩) (nksL ks) ∧ Rg rb (j * 5) [.int .u64 (W64 x_1), .int .i64 x_2, .int .u64 (W64 x_3), .int .u64 (W64 x_4), .int .u64 (W64 x_5)] W := stable_and (stable_below _ _ (Nat.le_refl _)) (stable_and (stable_blk _ _ _) (stable_and (stable_blk _ _ _) (stable_and (stable_blk _ _ _) (stable_and (stable_blk _ _ _) (stable_and (stable_rd _ _) (stable_rg _ _ _))))))
        refine wp_region_v _ 7 hst ⟨hB.drew, H0, H1, H2, H3, RK, RX⟩ ?_
        clear hB H0 H1 H2 H3 RK RX
        refine wpU_take (v := ?_) 0 hst (fun _ h => h) rfl ?_ ?_; rotate_left; (intro W hS K hK; clear hS; go_simp; exact hK.out _ (Below.refl _ _)); simp only [Act.put, List.setIfInBounds_toArray, List.set_cons_zero, List.set_cons_succ]
        refine wpU_take (v := ?_) 1 hst (fun _ h => h) rfl ?_ ?_; rotate_left; (intro W hS K hK; clear hS; go_simp; exact hK.out _ (Below.refl _ _)); simp only [Act.put, List.setIfInBounds_toArray, List.set_cons_zero, List.set_cons_succ]
        refine wpU_take (v := ?_) 2 hst (fun _ h => h) rfl ?_ ?_; rotate_left; (intro W hS K hK; clear hS; go_simp; exact hK.out _ (Below.refl _ _)); simp only [Act.put, List.setIfInBounds_toArray, List.set_cons_zero, List.set_cons_succ]
        refine wpU_take (v := .agg #[.int .u64 (W64 x_1), .int .i64 x_2, .int .u64 (W64 x_3), .int .u64 (W64 x_4), .int .u64 (W64 x_5)]) 3 hst (fun _ h => h) rfl (fun W hS K hK => calm_load rfl rfl (run_loadVar_mid W rb (j * 5) 25 [.int .u64 (W64 x_1), .int .i64 x_2, .int .u64 (W64 x_3), .int .u64 (W64 x_4), .int .u64 (W64 x_5)] _ (range_part hS.2.2.2.2.2.2.2 0 [.int .u64 (W64 x_1), .int .i64 x_2, .int .u64 (W64 x_3), .int .u64 (W64 x_4), .int .u64 (W64 x_5)] rfl) Try.underlying25 rfl (by kernel_rfl)) (hK.out _ (Below.refl _ _))) ?_; simp only [Act.put, List.setIfInBounds_toArray, List.set_cons_zero, List.set_cons_succ]
        refine wpU_take (v := .agg #[.int .i64 qh, .int .u64 (W64 c1), .int .i64 c2, .int .u64 (W64 c3), .int .u64 (W64 c4), .int .u64 (W64 c5), .int .u64 (W64 e1), .int .i64 e2, .int .u64 (W64 e3), .int .u64 (W64 e4), .int .u64 (W64 e5)]) 4 hst (fun _ h => h) rfl (fun W hS K hK => calm_load rfl rfl (load_part hS.2.2.1 0 [.int .i64 qh, .int .u64 (W64 c1), .int .i64 c2, .int .u64 (W64 c3), .int .u64 (W64 c4), .int .u64 (W64 c5), .int .u64 (W64 e1), .int .i64 e2, .int .u64 (W64 e3), .int .u64 (W64 e4), .int .u64 (W64 e5)] rfl Try.underlying27 rfl (by kernel_rfl)) (hK.out _ (Below.refl _ _))) ?_; simp only [Act.put, List.setIfInBounds_toArray, List.set_cons_zero, List.set_cons_succ]
        refine wpU_take (v := ?_) 5 hst (fun _ h => h) rfl ?_ ?_; rotate_left; (intro W hS K hK; clear hS; go_simp; refine (CS.out _).mono ?_; rintro e w9 ⟨rfl, hb⟩; refine CallPost.mk ?_; exact hK.out _ (hb)); simp only [Act.put, List.setIfInBounds_toArray, List.set_cons_zero, List.set_cons_succ]
        refine wpU_take (v := ?_) 6 hst (fun _ h => h) rfl ?_ ?_; rotate_left; (intro W hS K hK; clear hS; go_simp; exact hK.out _ (Below.refl _ _)); simp only [Act.put, List.setIfInBounds_toArray, List.set_cons_zero, List.set_cons_succ]
        refine wpU_done (fun w_41 hS => ?_)
        obtain ⟨hB, H0, H1, H2, H3, RK, RX⟩ := hS
        clear hst
        go_wp2_with (first | (with_reducible refine stop_store ?_) | (with_reducible refine stop_box ?_) | (with_reducible refine stop_alloc ?_) | (with_reducible refine stop_bslice ?_))
        go_roundw
        case rel => exact ⟨j + 1, by omega, by go_num, hB, H0, H1, H2, H3, RK, fun q hq hql hqe => (Nat.lt_or_ge q j).elim (fun h => HNO.out q h hql hqe) (fun h => kc_36.out (by have hqj : q = j := (by omega); subst hqj; rw [← HXJ.out]; exact hqe))⟩
        case measure => simp [intOf]; omega
    ·
      exfalso
      obtain ⟨q, hq, hqe⟩ := List.getElem_of_mem HM.out
      exact hno q (by omega) hq hqe
theorem hears_c (k l : KS) (v u : IV) (w : World) (hm : sendK l ∈ recvK k) (hx : rxK v (W32 (txK u % 2#32)) = (txK u, true)) :
    Calls Try.prog 47 #[.agg (ksA k), .agg (ksA l), .agg (ivA v), .agg (ivA u)] w fun e w' => e = .returned (.bool true) ∧ Below w.heap.size w w' := by
  obtain ⟨ph, ⟨a1, a2, a3, a4, a5⟩, ⟨b1, b2, b3, b4, b5⟩⟩ := k
  obtain ⟨qh, ⟨c1, c2, c3, c4, c5⟩, ⟨e1, e2, e3, e4, e5⟩⟩ := l
  obtain ⟨vi, vu, vs⟩ := v
  obtain ⟨ui, uu, us⟩ := u
  exact hears_flat ph a1 a2 a3 a4 a5 b1 b2 b3 b4 b5 qh c1 c2 c3 c4 c5 e1 e2 e3 e4 e5 vi vu vs ui uu us w hm hx
end Go.Proofs.Ytmehemojopfihaa
