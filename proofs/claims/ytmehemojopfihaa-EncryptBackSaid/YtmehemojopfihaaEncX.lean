/- The examples of layer 29 hold. -/
import Derived.Test.YtmehemojopfihaaEncG
import Derived.Test.YtmehemojopfihaaRegT
import Derived.Deep.Cut
namespace Go.Proofs.Ytmehemojopfihaa
set_option maxRecDepth 100000
open Go.ChangeShapes Go.WideShapes Go.ChangeAt Go.RowKit
set_option linter.unusedVariables false
set_option linter.unusedSimpArgs false
set_option maxHeartbeats 4000000 in
theorem ex29  (w : World) :
    Calls Try.prog 31 #[] w fun e w' => e = .returned (.bool true) ∧ Below w.heap.size w w' := by
  obtain ⟨d, hd⟩ : ∃ d, derive 7#64 (lbytes lblSession) [1#64, 2#64] = d := ⟨_, rfl⟩
  have hn : newS 0 7#64 1#64 2#64 = ⟨0, d, 3#64, false, false, 0#64, 0#64⟩ := by unfold newS; rw [hd]; rfl
  have CN := Lib.hid (show ∀ W, Calls Try.prog 25 #[.int .i64 0, .int .u64 7, .int .u64 1, .int .u64 2] W fun e w' => e = .returned (.agg #[.int .i64 0, .int .u64 (W64 d), .int .u64 3, .bool false, .bool false, .int .u64 0, .int .u64 0]) ∧ Below W.heap.size W w' from fun W => by have := enc_New 0 7#64 1#64 2#64 W; rw [hn] at this; exact this)
  have CT := Lib.hid (show ∀ W, Calls Try.prog 27 #[.agg #[.int .i64 0, .int .u64 (W64 d), .int .u64 3, .bool false, .bool false, .int .u64 0, .int .u64 0], .bool true, .bool false] W fun e w' => e = .returned (.agg #[.int .i64 0, .int .u64 (W64 d), .int .u64 3, .bool true, .bool false, .int .u64 0, .int .u64 0]) ∧ Below W.heap.size W w' from fun W => enc_Turn ⟨0, d, 3#64, false, false, 0#64, 0#64⟩ true false W)
  have CX := Lib.hid (show ∀ W, Calls Try.prog 29 #[.agg #[.int .i64 0, .int .u64 (W64 d), .int .u64 3, .bool true, .bool false, .int .u64 0, .int .u64 0], .bool true, .bool true] W fun e w' => e = .returned (.agg #[.int .i64 0, .int .u64 (W64 d), .int .u64 3, .bool true, .bool false, .int .u64 1, .int .u64 0]) ∧ Below W.heap.size W w' from fun W => enc_Next ⟨0, d, 3#64, true, false, 0#64, 0#64⟩ true true W)
  have CP := Lib.hid (show ∀ W, Calls Try.prog 61 #[.int .i64 9] W fun e w' => ∃ A, e = .returned (.agg #[.int .i64 0, .int .i64 0, .int .i64 0, .int .i64 2, .slice A 9 9]) ∧ RdB w' A (pakP 9).pay ∧ Below W.heap.size W w' from fun W => packet_c 9 W (by decide))
  have CP1 := Lib.hid (show ∀ W, Calls Try.prog 61 #[.int .i64 1] W fun e w' => ∃ A, e = .returned (.agg #[.int .i64 0, .int .i64 0, .int .i64 0, .int .i64 2, .slice A 1 1]) ∧ RdB w' A (pakP 1).pay ∧ Below W.heap.size W w' from fun W => packet_c 1 W (by decide))
  have CPb := Lib.hid (show ∀ W, Calls Try.prog 61 #[.int .i64 252] W fun e w' => ∃ A, e = .returned (.agg #[.int .i64 0, .int .i64 0, .int .i64 0, .int .i64 2, .slice A 252 252]) ∧ RdB w' A (pakP 252).pay ∧ Below W.heap.size W w' from fun W => packet_c 252 W (by decide))
  have e1 : sealS ⟨0, d, 3#64, false, false, 0#64, 0#64⟩ (pakP 9) = (pakP 9, 0) := by rfl
  have e3 : sealS ⟨0, d, 3#64, true, false, 0#64, 0#64⟩ (pakP 252) = (nilP, 4) := by rfl
  obtain ⟨bs, hbs⟩ : ∃ bs, sealB d (nonceS 3#64 (sentD 0) 0#64) [BitVec.ofInt 8 2] (pakP 1).pay = bs := ⟨_, rfl⟩
  have e2 : sealS ⟨0, d, 3#64, true, false, 0#64, 0#64⟩ (pakP 1) = (⟨0, 0, 0, 2, bs⟩, 0) := by rw [← hbs]; rfl
  have hbl : bs.length = 5 := by rw [← hbs, sealB_length]; rfl
  have CS1 := Lib.hid (fun (W : World) A (h : RdB W A (pakP 9).pay) => show Calls Try.prog 32 #[.agg #[.int .i64 0, .int .u64 (W64 d), .int .u64 3, .bool false, .bool false, .int .u64 0, .int .u64 0], .agg #[.int .i64 0, .int .i64 0, .int .i64 0, .int .i64 2, .slice A 9 9]] W fun e w' => ∃ A' c', e = .returned (.tuple #[.agg #[.int .i64 0, .int .i64 0, .int .i64 0, .int .i64 2, .slice A' 9 c'], .int .i64 0]) ∧ RdB w' A' (pakP 9).pay ∧ 9 ≤ c' ∧ Below W.heap.size W w' from by
    have := enc_Seal ⟨0, d, 3#64, false, false, 0#64, 0#64⟩ (pakP 9) A 9 W h (by decide) (by decide)
    rw [e1] at this; exact this)
  have CS2 := Lib.hid (fun (W : World) A (h : RdB W A (pakP 1).pay) => show Calls Try.prog 32 #[.agg #[.int .i64 0, .int .u64 (W64 d), .int .u64 3, .bool true, .bool false, .int .u64 0, .int .u64 0], .agg #[.int .i64 0, .int .i64 0, .int .i64 0, .int .i64 2, .slice A 1 1]] W fun e w' => ∃ A' c', e = .returned (.tuple #[.agg #[.int .i64 0, .int .i64 0, .int .i64 0, .int .i64 2, .slice A' 5 c'], .int .i64 0]) ∧ RdB w' A' bs ∧ 5 ≤ c' ∧ Below W.heap.size W w' from by
    have := enc_Seal ⟨0, d, 3#64, true, false, 0#64, 0#64⟩ (pakP 1) A 1 W h (by decide) (by decide)
    rw [e2] at this
    unfold RetP pduA at this
    dsimp only at this
    rw [hbl] at this; exact this)
  have CS3 := Lib.hid (fun (W : World) A (h : RdB W A (pakP 252).pay) => show Calls Try.prog 32 #[.agg #[.int .i64 0, .int .u64 (W64 d), .int .u64 3, .bool true, .bool false, .int .u64 0, .int .u64 0], .agg #[.int .i64 0, .int .i64 0, .int .i64 0, .int .i64 2, .slice A 252 252]] W fun e w' => ∃ A' c', e = .returned (.tuple #[.agg #[.int .i64 0, .int .i64 0, .int .i64 0, .int .i64 0, .slice A' 0 c'], .int .i64 4]) ∧ RdB w' A' [] ∧ 0 ≤ c' ∧ Below W.heap.size W w' from by
    have := enc_Seal ⟨0, d, 3#64, true, false, 0#64, 0#64⟩ (pakP 252) A 252 W h (by decide) (by decide)
    rw [e3] at this; exact this)
  have CM := Lib.hid (fun (W : World) A A2 c (h : RdB W A (pakP 9).pay) (h2 : RdB W A2 (pakP 9).pay) => show Calls Try.prog 34 #[.agg #[.int .i64 0, .int .i64 0, .int .i64 0, .int .i64 2, .slice A 9 c], .agg #[.int .i64 0, .int .i64 0, .int .i64 0, .int .i64 2, .slice A2 9 9]] W fun e w' => e = .returned (.bool true) ∧ Below W.heap.size W w' from by
    have := r23_SamePDU (pakP 9) (pakP 9) A A2 c 9 W h h2
    rw [(samePS_iff _ _).2 rfl] at this; exact this)
  clear hd hn e1 e2 e3 hbs hbl
  go_enter Try.func31, Try.ntmps31
  go_wp2_with (first | (with_reducible refine stop_store ?_) | (with_reducible refine stop_box ?_) | (with_reducible refine stop_alloc ?_) | (with_reducible refine stop_bslice ?_))
  refine (CN.out _).mono ?_; rintro e w1 ⟨rfl, hb2⟩
  have hB := hb2
  clear hb2
  go_wp2_with (first | (with_reducible refine stop_store ?_) | (with_reducible refine stop_box ?_) | (with_reducible refine stop_alloc ?_) | (with_reducible refine stop_bslice ?_))
  unfold Kept
  refine go_mem (ty := 40) (cs := #[.int .i64 0, .int .u64 0, .int .u64 0, .bool false, .bool false, .int .u64 0, .int .u64 0]) (fun g => .pointer (some ⟨g, 0, none⟩)) rfl (by kernel_rfl) ?_
  intro g3 w4 z8 l7 hb5 G6
  have n9 : w.heap.size ≤ g3 := Nat.le_trans hB.size l7
  replace hB := hB.trans (hb5.mono hB.size)
  clear hb5 l7 z8
  go_wp2_with (first | (with_reducible refine stop_store ?_) | (with_reducible refine stop_box ?_) | (with_reducible refine stop_alloc ?_) | (with_reducible refine stop_bslice ?_))
  unfold Kept
  refine wpList_st 0 #[.int .i64 0, .int .u64 (W64 d), .int .u64 3, .bool false, .bool false, .int .u64 0, .int .u64 0] #[.int .i64 0, .int .u64 (W64 d), .int .u64 3, .bool false, .bool false, .int .u64 0, .int .u64 0] G6 rfl rfl (by kernel_rfl) rfl (of_decide_eq_true rfl) rfl ?_
  intro w10 G12 hU11
  replace hB := hU11.below hB (by omega)
  clear G6 hU11
  go_wp2_with (first | (with_reducible refine stop_store ?_) | (with_reducible refine stop_box ?_) | (with_reducible refine stop_alloc ?_) | (with_reducible refine stop_bslice ?_) | ((with_reducible refine wpList_ld 0 [.int .i64 0, .int .u64 (W64 d), .int .u64 3, .bool false, .bool false, .int .u64 0, .int .u64 0] G12 ?_ ?_ Try.underlying40 ?_ ?_ ?_); rfl; rfl; rfl; kernel_rfl))
  refine (CT.out _).mono ?_; rintro e w14 ⟨rfl, hb15⟩
  replace G12 := G12.to hb15 G12.lt
  replace hB := hB.trans (hb15.mono hB.size)
  clear hb15
  go_wp2_with (first | (with_reducible refine stop_store ?_) | (with_reducible refine stop_box ?_) | (with_reducible refine stop_alloc ?_) | (with_reducible refine stop_bslice ?_))
  unfold Kept
  refine go_mem (ty := 40) (cs := #[.int .i64 0, .int .u64 0, .int .u64 0, .bool false, .bool false, .int .u64 0, .int .u64 0]) (fun g => .pointer (some ⟨g, 0, none⟩)) rfl (by kernel_rfl) ?_
  intro g16 w17 z21 l20 hb18 G19
  have n22 : g3 < g16 := Nat.lt_of_lt_of_le G12.lt l20
  have n23 : w.heap.size ≤ g16 := Nat.le_trans hB.size l20
  replace G12 := G12.to hb18 G12.lt
  replace hB := hB.trans (hb18.mono hB.size)
  clear hb18 l20 z21
  go_wp2_with (first | (with_reducible refine stop_store ?_) | (with_reducible refine stop_box ?_) | (with_reducible refine stop_alloc ?_) | (with_reducible refine stop_bslice ?_))
  unfold Kept
  refine wpList_st 0 #[.int .i64 0, .int .u64 (W64 d), .int .u64 3, .bool true, .bool false, .int .u64 0, .int .u64 0] #[.int .i64 0, .int .u64 (W64 d), .int .u64 3, .bool true, .bool false, .int .u64 0, .int .u64 0] G19 rfl rfl (by kernel_rfl) rfl (of_decide_eq_true rfl) rfl ?_
  intro w24 G26 hU25
  replace G12 := hU25.blk G12 (by omega)
  replace hB := hU25.below hB (by omega)
  clear G19 hU25
  go_wp2_with (first | (with_reducible refine stop_store ?_) | (with_reducible refine stop_box ?_) | (with_reducible refine stop_alloc ?_) | (with_reducible refine stop_bslice ?_))
  try simp only [Act.put, List.setIfInBounds_toArray, List.set_cons_zero, List.set_cons_succ]
  go_cut [3, 4] from 65 (fun v3 v4 WX => ∃ (A3_1 : Option Addr) (A3_2 : Option Addr) (c3_2 : Nat) (g3_6 : Nat), v3 = .pointer (some ⟨g3_6, 0, none⟩) ∧ v4 = .int .i64 0 ∧ w.heap.size ≤ g3_6 ∧ g3 < g3_6 ∧ g16 < g3_6 ∧ Below w.heap.size w WX ∧ Blk WX g3 40 #[.int .i64 0, .int .u64 (W64 d), .int .u64 3, .bool false, .bool false, .int .u64 0, .int .u64 0] ∧ Blk WX g16 40 #[.int .i64 0, .int .u64 (W64 d), .int .u64 3, .bool true, .bool false, .int .u64 0, .int .u64 0] ∧ Blk WX g3_6 49 #[.int .i64 0, .int .i64 0, .int .i64 0, .int .i64 2, .slice A3_2 9 c3_2] ∧ RdB WX A3_1 (pakP 9).pay ∧ RdB WX A3_2 (pakP 9).pay)
  case first =>
    have hst : Stable fun W => Below w.heap.size w W ∧ Blk W g3 40 #[.int .i64 0, .int .u64 (W64 d), .int .u64 3, .bool false, .bool false, .int .u64 0, .int .u64 0] ∧ Blk W g16 40 #[.int .i64 0, .int .u64 (W64 d), .int .u64 3, .bool true, .bool false, .int .u64 0, .int .u64 0] := stable_and (stable_below _ _ (Nat.le_refl _)) (stable_and (stable_blk _ _ _) (stable_blk _ _ _))
    refine wp_region_v _ 9 hst ⟨hB.drew, G12, G26⟩ ?_
    clear hB G12 G26
    refine wpU_take (v := .agg #[.int .i64 0, .int .u64 (W64 d), .int .u64 3, .bool false, .bool false, .int .u64 0, .int .u64 0]) 0 hst (fun _ h => h) rfl (fun W hS K hK => calm_load rfl rfl (load_part hS.2.1 0 [.int .i64 0, .int .u64 (W64 d), .int .u64 3, .bool false, .bool false, .int .u64 0, .int .u64 0] rfl Try.underlying40 rfl (by kernel_rfl)) (hK.out _ (Below.refl _ _))) ?_; simp only [Act.put, List.setIfInBounds_toArray, List.set_cons_zero, List.set_cons_succ]
    refine wpV_two 1 6 hst rfl rfl ?_ ?_
    · intro W hS K hK
      clear hS
      go_simp
      refine (CP.out _).mono ?_; rintro e w9 ⟨A3_1, rfl, R3_1, hb⟩
      refine hK.out (fun W => RdB W A3_1 (pakP 9).pay) _ _ (stable_rdB _ _) hb (R3_1) (fun hst => ?_)
      clear hK K hb R3_1
      try simp only [Act.put, List.setIfInBounds_toArray, List.set_cons_zero, List.set_cons_succ]
      refine wpV_two 2 6 hst rfl rfl ?_ ?_
      · intro W hS K hK
        go_simp
        refine (CS1.out _ _ hS.2).mono ?_; rintro e w9 ⟨A3_2, c3_2, rfl, R3_2, q3_2, hb⟩
        refine hK.out (fun W => RdB W A3_2 (pakP 9).pay) _ _ (stable_rdB _ _) hb (R3_2) (fun hst => ?_)
        clear hK K hb R3_2 hS
        try simp only [Act.put, List.setIfInBounds_toArray, List.set_cons_zero, List.set_cons_succ]
        refine wpU_take (v := ?_) 3 hst (fun _ h => h) rfl ?_ ?_; rotate_left; (intro W hS K hK; clear hS; go_simp; exact hK.out _ (Below.refl _ _)); simp only [Act.put, List.setIfInBounds_toArray, List.set_cons_zero, List.set_cons_succ]
        refine wpU_take (v := ?_) 4 hst (fun _ h => h) rfl ?_ ?_; rotate_left; (intro W hS K hK; clear hS; go_simp; exact hK.out _ (Below.refl _ _)); simp only [Act.put, List.setIfInBounds_toArray, List.set_cons_zero, List.set_cons_succ]
        refine wpU_take (v := ?_) 5 hst (fun _ h => h) rfl ?_ ?_; rotate_left; (intro W hS K hK; clear hS; go_simp; exact hK.out _ (Below.refl _ _)); simp only [Act.put, List.setIfInBounds_toArray, List.set_cons_zero, List.set_cons_succ]
        refine wpV_new 6 hst rfl ?_; intro W hS K hK
        have l3_6_g3 : g3 < W.heap.size := hS.1.1.2.1.lt
        have l3_6_g16 : g16 < W.heap.size := hS.1.1.2.2.lt
        have n3_6a : w.heap.size ≤ W.heap.size := hS.1.1.1.size
        clear hS
        go_simp
        refine hK.out (fun W' => Room W.heap.size 49 5 W') _ _ (stable_room _ _ _) ((Below.refl _ _).alloc (Nat.le_refl _) _) (⟨_, rfl, rfl, Blk.new _ _ _⟩) (fun hst => ?_)
        clear hK K
        try simp only [Act.put, List.setIfInBounds_toArray, List.set_cons_zero, List.set_cons_succ]
        generalize W.heap.size = g3_6 at hst l3_6_g3 l3_6_g16 n3_6a ⊢
        clear W
        refine wpV_st 7 hst (fun _ h => h) #[.int .i64 0, .int .i64 0, .int .i64 0, .int .i64 2, .slice A3_2 9 c3_2] rfl rfl rfl rfl (fun W hS => hS.2) (fun W W' h hU hG => ?_) (by kernel_rfl) rfl (fun hst => ?_)
        · obtain ⟨⟨⟨⟨h0_0, h0_1, h0_2⟩, h1_0⟩, h2_0⟩, ⟨ch3_0, ah3_0, bh3_0, h3_0⟩⟩ := h
          exact ⟨⟨⟨⟨hU.below h0_0 (by omega), hU.blk h0_1 (by omega), hU.blk h0_2 (by omega)⟩, RdB.upd h1_0 h3_0 hU bh3_0⟩, RdB.upd h2_0 h3_0 hU bh3_0⟩, ⟨_, rfl, rfl, hG⟩⟩
        refine wpU_take (v := ?_) 8 hst (fun _ h => h.1) rfl ?_ ?_; rotate_left; (intro W hS K hK; clear hS; go_simp; exact hK.out _ (Below.refl _ _)); simp only [Act.put, List.setIfInBounds_toArray, List.set_cons_zero, List.set_cons_succ]
        refine wpU_done (fun w27 hS => ?_)
        obtain ⟨⟨⟨⟨⟨hB, G12, G26⟩, R3_1⟩, R3_2⟩, -⟩, G3_6s⟩ := hS
        clear hst
        go_wp2_with fail
        go_meet
        case rel => exact ⟨A3_1, A3_2, c3_2, g3_6, rfl, rfl, (by omega), (by omega), (by omega), hB, G12, G26, G3_6s, R3_1, R3_2⟩
      · intro W hS K hK
        have l3_6_g3 : g3 < W.heap.size := hS.1.2.1.lt
        have l3_6_g16 : g16 < W.heap.size := hS.1.2.2.lt
        have n3_6a : w.heap.size ≤ W.heap.size := hS.1.1.size
        clear hS
        go_simp
        refine hK.out (fun W' => Room W.heap.size 49 5 W') _ _ (stable_room _ _ _) ((Below.refl _ _).alloc (Nat.le_refl _) _) (⟨_, rfl, rfl, Blk.new _ _ _⟩) (fun hst => ?_)
        clear hK K
        try simp only [Act.put, List.setIfInBounds_toArray, List.set_cons_zero, List.set_cons_succ]
        generalize W.heap.size = g3_6 at hst l3_6_g3 l3_6_g16 n3_6a ⊢
        clear W
        refine wpV_new 2 hst rfl ?_; intro W hS K hK
        go_simp
        refine (CS1.out _ _ hS.1.2).mono ?_; rintro e w9 ⟨A3_2, c3_2, rfl, R3_2, q3_2, hb⟩
        refine hK.out (fun W => RdB W A3_2 (pakP 9).pay) _ _ (stable_rdB _ _) hb (R3_2) (fun hst => ?_)
        clear hK K hb R3_2 hS
        try simp only [Act.put, List.setIfInBounds_toArray, List.set_cons_zero, List.set_cons_succ]
        refine wpU_take (v := ?_) 3 hst (fun _ h => h) rfl ?_ ?_; rotate_left; (intro W hS K hK; clear hS; go_simp; exact hK.out _ (Below.refl _ _)); simp only [Act.put, List.setIfInBounds_toArray, List.set_cons_zero, List.set_cons_succ]
        refine wpU_take (v := ?_) 4 hst (fun _ h => h) rfl ?_ ?_; rotate_left; (intro W hS K hK; clear hS; go_simp; exact hK.out _ (Below.refl _ _)); simp only [Act.put, List.setIfInBounds_toArray, List.set_cons_zero, List.set_cons_succ]
        refine wpU_take (v := ?_) 5 hst (fun _ h => h) rfl ?_ ?_; rotate_left; (intro W hS K hK; clear hS; go_simp; exact hK.out _ (Below.refl _ _)); simp only [Act.put, List.setIfInBounds_toArray, List.set_cons_zero, List.set_cons_succ]
        refine wpV_st 7 hst (fun _ h => h) #[.int .i64 0, .int .i64 0, .int .i64 0, .int .i64 2, .slice A3_2 9 c3_2] rfl rfl rfl rfl (fun W hS => hS.1.2) (fun W W' h hU hG => ?_) (by kernel_rfl) rfl (fun hst => ?_)
        · obtain ⟨⟨⟨⟨h0_0, h0_1, h0_2⟩, h1_0⟩, ⟨ch2_0, ah2_0, bh2_0, h2_0⟩⟩, h3_0⟩ := h
          exact ⟨⟨⟨⟨hU.below h0_0 (by omega), hU.blk h0_1 (by omega), hU.blk h0_2 (by omega)⟩, RdB.upd h1_0 h2_0 hU bh2_0⟩, ⟨_, rfl, rfl, hG⟩⟩, RdB.upd h3_0 h2_0 hU bh2_0⟩
        refine wpU_take (v := ?_) 8 hst (fun _ h => h.1) rfl ?_ ?_; rotate_left; (intro W hS K hK; clear hS; go_simp; exact hK.out _ (Below.refl _ _)); simp only [Act.put, List.setIfInBounds_toArray, List.set_cons_zero, List.set_cons_succ]
        refine wpU_done (fun w28 hS => ?_)
        obtain ⟨⟨⟨⟨⟨hB, G12, G26⟩, R3_1⟩, -⟩, R3_2⟩, G3_6s⟩ := hS
        clear hst
        go_wp2_with fail
        go_meet
        case rel => exact ⟨A3_1, A3_2, c3_2, g3_6, rfl, rfl, (by omega), (by omega), (by omega), hB, G12, G26, G3_6s, R3_1, R3_2⟩
    · intro W hS K hK
      have l3_6_g3 : g3 < W.heap.size := hS.2.1.lt
      have l3_6_g16 : g16 < W.heap.size := hS.2.2.lt
      have n3_6a : w.heap.size ≤ W.heap.size := hS.1.size
      clear hS
      go_simp
      refine hK.out (fun W' => Room W.heap.size 49 5 W') _ _ (stable_room _ _ _) ((Below.refl _ _).alloc (Nat.le_refl _) _) (⟨_, rfl, rfl, Blk.new _ _ _⟩) (fun hst => ?_)
      clear hK K
      try simp only [Act.put, List.setIfInBounds_toArray, List.set_cons_zero, List.set_cons_succ]
      generalize W.heap.size = g3_6 at hst l3_6_g3 l3_6_g16 n3_6a ⊢
      clear W
      refine wpV_new 1 hst rfl ?_; intro W hS K hK
      clear hS
      go_simp
      refine (CP.out _).mono ?_; rintro e w9 ⟨A3_1, rfl, R3_1, hb⟩
      refine hK.out (fun W => RdB W A3_1 (pakP 9).pay) _ _ (stable_rdB _ _) hb (R3_1) (fun hst => ?_)
      clear hK K hb R3_1
      try simp only [Act.put, List.setIfInBounds_toArray, List.set_cons_zero, List.set_cons_succ]
      refine wpV_new 2 hst rfl ?_; intro W hS K hK
      go_simp
      refine (CS1.out _ _ hS.2).mono ?_; rintro e w9 ⟨A3_2, c3_2, rfl, R3_2, q3_2, hb⟩
      refine hK.out (fun W => RdB W A3_2 (pakP 9).pay) _ _ (stable_rdB _ _) hb (R3_2) (fun hst => ?_)
      clear hK K hb R3_2 hS
      try simp only [Act.put, List.setIfInBounds_toArray, List.set_cons_zero, List.set_cons_succ]
      refine wpU_take (v := ?_) 3 hst (fun _ h => h) rfl ?_ ?_; rotate_left; (intro W hS K hK; clear hS; go_simp; exact hK.out _ (Below.refl _ _)); simp only [Act.put, List.setIfInBounds_toArray, List.set_cons_zero, List.set_cons_succ]
      refine wpU_take (v := ?_) 4 hst (fun _ h => h) rfl ?_ ?_; rotate_left; (intro W hS K hK; clear hS; go_simp; exact hK.out _ (Below.refl _ _)); simp only [Act.put, List.setIfInBounds_toArray, List.set_cons_zero, List.set_cons_succ]
      refine wpU_take (v := ?_) 5 hst (fun _ h => h) rfl ?_ ?_; rotate_left; (intro W hS K hK; clear hS; go_simp; exact hK.out _ (Below.refl _ _)); simp only [Act.put, List.setIfInBounds_toArray, List.set_cons_zero, List.set_cons_succ]
      refine wpV_st 7 hst (fun _ h => h) #[.int .i64 0, .int .i64 0, .int .i64 0, .int .i64 2, .slice A3_2 9 c3_2] rfl rfl rfl rfl (fun W hS => hS.1.1.2) (fun W W' h hU hG => ?_) (by kernel_rfl) rfl (fun hst => ?_)
      · obtain ⟨⟨⟨⟨h0_0, h0_1, h0_2⟩, ⟨ch1_0, ah1_0, bh1_0, h1_0⟩⟩, h2_0⟩, h3_0⟩ := h
        exact ⟨⟨⟨⟨hU.below h0_0 (by omega), hU.blk h0_1 (by omega), hU.blk h0_2 (by omega)⟩, ⟨_, rfl, rfl, hG⟩⟩, RdB.upd h2_0 h1_0 hU bh1_0⟩, RdB.upd h3_0 h1_0 hU bh1_0⟩
      refine wpU_take (v := ?_) 8 hst (fun _ h => h.1) rfl ?_ ?_; rotate_left; (intro W hS K hK; clear hS; go_simp; exact hK.out _ (Below.refl _ _)); simp only [Act.put, List.setIfInBounds_toArray, List.set_cons_zero, List.set_cons_succ]
      refine wpU_done (fun w29 hS => ?_)
      obtain ⟨⟨⟨⟨⟨hB, G12, G26⟩, -⟩, R3_1⟩, R3_2⟩, G3_6s⟩ := hS
      clear hst
      go_wp2_with fail
      go_meet
      case rel => exact ⟨A3_1, A3_2, c3_2, g3_6, rfl, rfl, (by omega), (by omega), (by omega), hB, G12, G26, G3_6s, R3_1, R3_2⟩
  case rest =>
    obtain ⟨A3_1, A3_2, c3_2, g3_6, rfl, rfl, n3_6a, n3_6_g3, n3_6_g16, hB, G12, G26, G3_6, R3_1, R3_2⟩ := hcut
    skip
    go_wp2_with (first | (with_reducible refine stop_store ?_) | (with_reducible refine stop_box ?_) | (with_reducible refine stop_alloc ?_) | (with_reducible refine stop_bslice ?_))
    try simp only [Act.put, List.setIfInBounds_toArray, List.set_cons_zero, List.set_cons_succ]
    go_cut [5, 6] from 65 (fun v5 v6 WX => ∃ (A4_1 : Option Addr) (A4_2 : Option Addr) (c4_2 : Nat) (g4_6 : Nat), v5 = .pointer (some ⟨g4_6, 0, none⟩) ∧ v6 = .int .i64 0 ∧ w.heap.size ≤ g4_6 ∧ g3 < g4_6 ∧ g16 < g4_6 ∧ g3_6 < g4_6 ∧ Below w.heap.size w WX ∧ Blk WX g3 40 #[.int .i64 0, .int .u64 (W64 d), .int .u64 3, .bool false, .bool false, .int .u64 0, .int .u64 0] ∧ Blk WX g16 40 #[.int .i64 0, .int .u64 (W64 d), .int .u64 3, .bool true, .bool false, .int .u64 0, .int .u64 0] ∧ Blk WX g3_6 49 #[.int .i64 0, .int .i64 0, .int .i64 0, .int .i64 2, .slice A3_2 9 c3_2] ∧ Blk WX g4_6 49 #[.int .i64 0, .int .i64 0, .int .i64 0, .int .i64 2, .slice A4_2 5 c4_2] ∧ RdB WX A3_1 (pakP 9).pay ∧ RdB WX A3_2 (pakP 9).pay ∧ RdB WX A4_1 (pakP 1).pay ∧ RdB WX A4_2 bs)
    case first =>
      have hst : Stable fun W => Below w.heap.size w W ∧ Blk W g3 40 #[.int .i64 0, .int .u64 (W64 d), .int .u64 3, .bool false, .bool false, .int .u64 0, .int .u64 0] ∧ Blk W g16 40 #[.int .i64 0, .int .u64 (W64 d), .int .u64 3, .bool true, .bool false, .int .u64 0, .int .u64 0] ∧ Blk W g3_6 49 #[.int .i64 0, .int .i64 0, .int .i64 0, .int .i64 2, .slice A3_2 9 c3_2] ∧ RdB W A3_1 (pakP 9).pay ∧ RdB W A3_2 (pakP 9).pay := stable_and (stable_below _ _ (Nat.le_refl _)) (stable_and (stable_blk _ _ _) (stable_and (stable_blk _ _ _) (stable_and (stable_blk _ _ _) (stable_and (stable_rdB _ _) (stable_rdB _ _)))))
      refine wp_region_v _ 9 hst ⟨hB.drew, G12, G26, G3_6, R3_1, R3_2⟩ ?_
      clear hB G12 G26 G3_6 R3_1 R3_2
      refine wpU_take (v := .agg #[.int .i64 0, .int .u64 (W64 d), .int .u64 3, .bool true, .bool false, .int .u64 0, .int .u64 0]) 0 hst (fun _ h => h) rfl (fun W hS K hK => calm_load rfl rfl (load_part hS.2.2.1 0 [.int .i64 0, .int .u64 (W64 d), .int .u64 3, .bool true, .bool false, .int .u64 0, .int .u64 0] rfl Try.underlying40 rfl (by kernel_rfl)) (hK.out _ (Below.refl _ _))) ?_; simp only [Act.put, List.setIfInBounds_toArray, List.set_cons_zero, List.set_cons_succ]
      refine wpV_two 1 6 hst rfl rfl ?_ ?_
      · intro W hS K hK
        clear hS
        go_simp
        refine (CP1.out _).mono ?_; rintro e w9 ⟨A4_1, rfl, R4_1, hb⟩
        refine hK.out (fun W => RdB W A4_1 (pakP 1).pay) _ _ (stable_rdB _ _) hb (R4_1) (fun hst => ?_)
        clear hK K hb R4_1
        try simp only [Act.put, List.setIfInBounds_toArray, List.set_cons_zero, List.set_cons_succ]
        refine wpV_two 2 6 hst rfl rfl ?_ ?_
        · intro W hS K hK
          go_simp
          refine (CS2.out _ _ hS.2).mono ?_; rintro e w9 ⟨A4_2, c4_2, rfl, R4_2, q4_2, hb⟩
          refine hK.out (fun W => RdB W A4_2 bs) _ _ (stable_rdB _ _) hb (R4_2) (fun hst => ?_)
          clear hK K hb R4_2 hS
          try simp only [Act.put, List.setIfInBounds_toArray, List.set_cons_zero, List.set_cons_succ]
          refine wpU_take (v := ?_) 3 hst (fun _ h => h) rfl ?_ ?_; rotate_left; (intro W hS K hK; clear hS; go_simp; exact hK.out _ (Below.refl _ _)); simp only [Act.put, List.setIfInBounds_toArray, List.set_cons_zero, List.set_cons_succ]
          refine wpU_take (v := ?_) 4 hst (fun _ h => h) rfl ?_ ?_; rotate_left; (intro W hS K hK; clear hS; go_simp; exact hK.out _ (Below.refl _ _)); simp only [Act.put, List.setIfInBounds_toArray, List.set_cons_zero, List.set_cons_succ]
          refine wpU_take (v := ?_) 5 hst (fun _ h => h) rfl ?_ ?_; rotate_left; (intro W hS K hK; clear hS; go_simp; exact hK.out _ (Below.refl _ _)); simp only [Act.put, List.setIfInBounds_toArray, List.set_cons_zero, List.set_cons_succ]
          refine wpV_new 6 hst rfl ?_; intro W hS K hK
          have l4_6_g3 : g3 < W.heap.size := hS.1.1.2.1.lt
          have l4_6_g16 : g16 < W.heap.size := hS.1.1.2.2.1.lt
          have l4_6_g3_6 : g3_6 < W.heap.size := hS.1.1.2.2.2.1.lt
          have n4_6a : w.heap.size ≤ W.heap.size := hS.1.1.1.size
          clear hS
          go_simp
          refine hK.out (fun W' => Room W.heap.size 49 5 W') _ _ (stable_room _ _ _) ((Below.refl _ _).alloc (Nat.le_refl _) _) (⟨_, rfl, rfl, Blk.new _ _ _⟩) (fun hst => ?_)
          clear hK K
          try simp only [Act.put, List.setIfInBounds_toArray, List.set_cons_zero, List.set_cons_succ]
          generalize W.heap.size = g4_6 at hst l4_6_g3 l4_6_g16 l4_6_g3_6 n4_6a ⊢
          clear W
          refine wpV_st 7 hst (fun _ h => h) #[.int .i64 0, .int .i64 0, .int .i64 0, .int .i64 2, .slice A4_2 5 c4_2] rfl rfl rfl rfl (fun W hS => hS.2) (fun W W' h hU hG => ?_) (by kernel_rfl) rfl (fun hst => ?_)
          · obtain ⟨⟨⟨⟨h0_0, h0_1, h0_2, h0_3, h0_4, h0_5⟩, h1_0⟩, h2_0⟩, ⟨ch3_0, ah3_0, bh3_0, h3_0⟩⟩ := h
            exact ⟨⟨⟨⟨hU.below h0_0 (by omega), hU.blk h0_1 (by omega), hU.blk h0_2 (by omega), hU.blk h0_3 (by omega), RdB.upd h0_4 h3_0 hU bh3_0, RdB.upd h0_5 h3_0 hU bh3_0⟩, RdB.upd h1_0 h3_0 hU bh3_0⟩, RdB.upd h2_0 h3_0 hU bh3_0⟩, ⟨_, rfl, rfl, hG⟩⟩
          refine wpU_take (v := ?_) 8 hst (fun _ h => h.1) rfl ?_ ?_; rotate_left; (intro W hS K hK; clear hS; go_simp; exact hK.out _ (Below.refl _ _)); simp only [Act.put, List.setIfInBounds_toArray, List.set_cons_zero, List.set_cons_succ]
          refine wpU_done (fun w31 hS => ?_)
          obtain ⟨⟨⟨⟨⟨hB, G12, G26, G3_6, R3_1, R3_2⟩, R4_1⟩, R4_2⟩, -⟩, G4_6s⟩ := hS
          clear hst
          go_wp2_with fail
          go_meet
          case rel => exact ⟨A4_1, A4_2, c4_2, g4_6, rfl, rfl, (by omega), (by omega), (by omega), (by omega), hB, G12, G26, G3_6, G4_6s, R3_1, R3_2, R4_1, R4_2⟩
        · intro W hS K hK
          have l4_6_g3 : g3 < W.heap.size := hS.1.2.1.lt
          have l4_6_g16 : g16 < W.heap.size := hS.1.2.2.1.lt
          have l4_6_g3_6 : g3_6 < W.heap.size := hS.1.2.2.2.1.lt
          have n4_6a : w.heap.size ≤ W.heap.size := hS.1.1.size
          clear hS
          go_simp
          refine hK.out (fun W' => Room W.heap.size 49 5 W') _ _ (stable_room _ _ _) ((Below.refl _ _).alloc (Nat.le_refl _) _) (⟨_, rfl, rfl, Blk.new _ _ _⟩) (fun hst => ?_)
          clear hK K
          try simp only [Act.put, List.setIfInBounds_toArray, List.set_cons_zero, List.set_cons_succ]
          generalize W.heap.size = g4_6 at hst l4_6_g3 l4_6_g16 l4_6_g3_6 n4_6a ⊢
          clear W
          refine wpV_new 2 hst rfl ?_; intro W hS K hK
          go_simp
          refine (CS2.out _ _ hS.1.2).mono ?_; rintro e w9 ⟨A4_2, c4_2, rfl, R4_2, q4_2, hb⟩
          refine hK.out (fun W => RdB W A4_2 bs) _ _ (stable_rdB _ _) hb (R4_2) (fun hst => ?_)
          clear hK K hb R4_2 hS
          try simp only [Act.put, List.setIfInBounds_toArray, List.set_cons_zero, List.set_cons_succ]
          refine wpU_take (v := ?_) 3 hst (fun _ h => h) rfl ?_ ?_; rotate_left; (intro W hS K hK; clear hS; go_simp; exact hK.out _ (Below.refl _ _)); simp only [Act.put, List.setIfInBounds_toArray, List.set_cons_zero, List.set_cons_succ]
          refine wpU_take (v := ?_) 4 hst (fun _ h => h) rfl ?_ ?_; rotate_left; (intro W hS K hK; clear hS; go_simp; exact hK.out _ (Below.refl _ _)); simp only [Act.put, List.setIfInBounds_toArray, List.set_cons_zero, List.set_cons_succ]
          refine wpU_take (v := ?_) 5 hst (fun _ h => h) rfl ?_ ?_; rotate_left; (intro W hS K hK; clear hS; go_simp; exact hK.out _ (Below.refl _ _)); simp only [Act.put, List.setIfInBounds_toArray, List.set_cons_zero, List.set_cons_succ]
          refine wpV_st 7 hst (fun _ h => h) #[.int .i64 0, .int .i64 0, .int .i64 0, .int .i64 2, .slice A4_2 5 c4_2] rfl rfl rfl rfl (fun W hS => hS.1.2) (fun W W' h hU hG => ?_) (by kernel_rfl) rfl (fun hst => ?_)
          · obtain ⟨⟨⟨⟨h0_0, h0_1, h0_2, h0_3, h0_4, h0_5⟩, h1_0⟩, ⟨ch2_0, ah2_0, bh2_0, h2_0⟩⟩, h3_0⟩ := h
            exact ⟨⟨⟨⟨hU.below h0_0 (by omega), hU.blk h0_1 (by omega), hU.blk h0_2 (by omega), hU.blk h0_3 (by omega), RdB.upd h0_4 h2_0 hU bh2_0, RdB.upd h0_5 h2_0 hU bh2_0⟩, RdB.upd h1_0 h2_0 hU bh2_0⟩, ⟨_, rfl, rfl, hG⟩⟩, RdB.upd h3_0 h2_0 hU bh2_0⟩
          refine wpU_take (v := ?_) 8 hst (fun _ h => h.1) rfl ?_ ?_; rotate_left; (intro W hS K hK; clear hS; go_simp; exact hK.out _ (Below.refl _ _)); simp only [Act.put, List.setIfInBounds_toArray, List.set_cons_zero, List.set_cons_succ]
          refine wpU_done (fun w32 hS => ?_)
          obtain ⟨⟨⟨⟨⟨hB, G12, G26, G3_6, R3_1, R3_2⟩, R4_1⟩, -⟩, R4_2⟩, G4_6s⟩ := hS
          clear hst
          go_wp2_with fail
          go_meet
          case rel => exact ⟨A4_1, A4_2, c4_2, g4_6, rfl, rfl, (by omega), (by omega), (by omega), (by omega), hB, G12, G26, G3_6, G4_6s, R3_1, R3_2, R4_1, R4_2⟩
      · intro W hS K hK
        have l4_6_g3 : g3 < W.heap.size := hS.2.1.lt
        have l4_6_g16 : g16 < W.heap.size := hS.2.2.1.lt
        have l4_6_g3_6 : g3_6 < W.heap.size := hS.2.2.2.1.lt
        have n4_6a : w.heap.size ≤ W.heap.size := hS.1.size
        clear hS
        go_simp
        refine hK.out (fun W' => Room W.heap.size 49 5 W') _ _ (stable_room _ _ _) ((Below.refl _ _).alloc (Nat.le_refl _) _) (⟨_, rfl, rfl, Blk.new _ _ _⟩) (fun hst => ?_)
        clear hK K
        try simp only [Act.put, List.setIfInBounds_toArray, List.set_cons_zero, List.set_cons_succ]
        generalize W.heap.size = g4_6 at hst l4_6_g3 l4_6_g16 l4_6_g3_6 n4_6a ⊢
        clear W
        refine wpV_new 1 hst rfl ?_; intro W hS K hK
        clear hS
        go_simp
        refine (CP1.out _).mono ?_; rintro e w9 ⟨A4_1, rfl, R4_1, hb⟩
        refine hK.out (fun W => RdB W A4_1 (pakP 1).pay) _ _ (stable_rdB _ _) hb (R4_1) (fun hst => ?_)
        clear hK K hb R4_1
        try simp only [Act.put, List.setIfInBounds_toArray, List.set_cons_zero, List.set_cons_succ]
        refine wpV_new 2 hst rfl ?_; intro W hS K hK
        go_simp
        refine (CS2.out _ _ hS.2).mono ?_; rintro e w9 ⟨A4_2, c4_2, rfl, R4_2, q4_2, hb⟩
        refine hK.out (fun W => RdB W A4_2 bs) _ _ (stable_rdB _ _) hb (R4_2) (fun hst => ?_)
        clear hK K hb R4_2 hS
        try simp only [Act.put, List.setIfInBounds_toArray, List.set_cons_zero, List.set_cons_succ]
        refine wpU_take (v := ?_) 3 hst (fun _ h => h) rfl ?_ ?_; rotate_left; (intro W hS K hK; clear hS; go_simp; exact hK.out _ (Below.refl _ _)); simp only [Act.put, List.setIfInBounds_toArray, List.set_cons_zero, List.set_cons_succ]
        refine wpU_take (v := ?_) 4 hst (fun _ h => h) rfl ?_ ?_; rotate_left; (intro W hS K hK; clear hS; go_simp; exact hK.out _ (Below.refl _ _)); simp only [Act.put, List.setIfInBounds_toArray, List.set_cons_zero, List.set_cons_succ]
        refine wpU_take (v := ?_) 5 hst (fun _ h => h) rfl ?_ ?_; rotate_left; (intro W hS K hK; clear hS; go_simp; exact hK.out _ (Below.refl _ _)); simp only [Act.put, List.setIfInBounds_toArray, List.set_cons_zero, List.set_cons_succ]
        refine wpV_st 7 hst (fun _ h => h) #[.int .i64 0, .int .i64 0, .int .i64 0, .int .i64 2, .slice A4_2 5 c4_2] rfl rfl rfl rfl (fun W hS => hS.1.1.2) (fun W W' h hU hG => ?_) (by kernel_rfl) rfl (fun hst => ?_)
        · obtain ⟨⟨⟨⟨h0_0, h0_1, h0_2, h0_3, h0_4, h0_5⟩, ⟨ch1_0, ah1_0, bh1_0, h1_0⟩⟩, h2_0⟩, h3_0⟩ := h
          exact ⟨⟨⟨⟨hU.below h0_0 (by omega), hU.blk h0_1 (by omega), hU.blk h0_2 (by omega), hU.blk h0_3 (by omega), RdB.upd h0_4 h1_0 hU bh1_0, RdB.upd h0_5 h1_0 hU bh1_0⟩, ⟨_, rfl, rfl, hG⟩⟩, RdB.upd h2_0 h1_0 hU bh1_0⟩, RdB.upd h3_0 h1_0 hU bh1_0⟩
        refine wpU_take (v := ?_) 8 hst (fun _ h => h.1) rfl ?_ ?_; rotate_left; (intro W hS K hK; clear hS; go_simp; exact hK.out _ (Below.refl _ _)); simp only [Act.put, List.setIfInBounds_toArray, List.set_cons_zero, List.set_cons_succ]
        refine wpU_done (fun w33 hS => ?_)
        obtain ⟨⟨⟨⟨⟨hB, G12, G26, G3_6, R3_1, R3_2⟩, -⟩, R4_1⟩, R4_2⟩, G4_6s⟩ := hS
        clear hst
        go_wp2_with fail
        go_meet
        case rel => exact ⟨A4_1, A4_2, c4_2, g4_6, rfl, rfl, (by omega), (by omega), (by omega), (by omega), hB, G12, G26, G3_6, G4_6s, R3_1, R3_2, R4_1, R4_2⟩
    case rest =>
      obtain ⟨A4_1, A4_2, c4_2, g4_6, rfl, rfl, n4_6a, n4_6_g3, n4_6_g16, n4_6_g3_6, hB, G12, G26, G3_6, G4_6, R3_1, R3_2, R4_1, R4_2⟩ := hcut
      skip
      go_wp2_with (first | (with_reducible refine stop_store ?_) | (with_reducible refine stop_box ?_) | (with_reducible refine stop_alloc ?_) | (with_reducible refine stop_bslice ?_))
      try simp only [Act.put, List.setIfInBounds_toArray, List.set_cons_zero, List.set_cons_succ]
      go_cut [8] from 65 (fun v8 WX => ∃ (A5_1 : Option Addr) (A5_2 : Option Addr) (c5_2 : Nat) (g5_6 : Nat), v8 = .int .i64 4 ∧ w.heap.size ≤ g5_6 ∧ g3 < g5_6 ∧ g16 < g5_6 ∧ g3_6 < g5_6 ∧ g4_6 < g5_6 ∧ Below w.heap.size w WX ∧ Blk WX g3 40 #[.int .i64 0, .int .u64 (W64 d), .int .u64 3, .bool false, .bool false, .int .u64 0, .int .u64 0] ∧ Blk WX g16 40 #[.int .i64 0, .int .u64 (W64 d), .int .u64 3, .bool true, .bool false, .int .u64 0, .int .u64 0] ∧ Blk WX g3_6 49 #[.int .i64 0, .int .i64 0, .int .i64 0, .int .i64 2, .slice A3_2 9 c3_2] ∧ Blk WX g4_6 49 #[.int .i64 0, .int .i64 0, .int .i64 0, .int .i64 2, .slice A4_2 5 c4_2] ∧ Blk WX g5_6 49 #[.int .i64 0, .int .i64 0, .int .i64 0, .int .i64 0, .slice A5_2 0 c5_2] ∧ RdB WX A3_1 (pakP 9).pay ∧ RdB WX A3_2 (pakP 9).pay ∧ RdB WX A4_1 (pakP 1).pay ∧ RdB WX A4_2 bs ∧ RdB WX A5_1 (pakP 252).pay ∧ RdB WX A5_2 [])
      case first =>
        have hst : Stable fun W => Below w.heap.size w W ∧ Blk W g3 40 #[.int .i64 0, .int .u64 (W64 d), .int .u64 3, .bool false, .bool false, .int .u64 0, .int .u64 0] ∧ Blk W g16 40 #[.int .i64 0, .int .u64 (W64 d), .int .u64 3, .bool true, .bool false, .int .u64 0, .int .u64 0] ∧ Blk W g3_6 49 #[.int .i64 0, .int .i64 0, .int .i64 0, .int .i64 2, .slice A3_2 9 c3_2] ∧ Blk W g4_6 49 #[.int .i64 0, .int .i64 0, .int .i64 0, .int .i64 2, .slice A4_2 5 c4_2] ∧ RdB W A3_1 (pakP 9).pay ∧ RdB W A3_2 (pakP 9).pay ∧ RdB W A4_1 (pakP 1).pay ∧ RdB W A4_2 bs := stable_and (stable_below _ _ (Nat.le_refl _)) (stable_and (stable_blk _ _ _) (stable_and (stable_blk _ _ _) (stable_and (stable_blk _ _ _) (stable_and (stable_blk _ _ _) (stable_and (stable_rdB _ _) (stable_and (stable_rdB _ _) (stable_and (stable_rdB _ _) (stable_rdB _ _))))))))
        refine wp_region_v _ 9 hst ⟨hB.drew, G12, G26, G3_6, G4_6, R3_1, R3_2, R4_1, R4_2⟩ ?_
        clear hB G12 G26 G3_6 G4_6 R3_1 R3_2 R4_1 R4_2
        refine wpU_take (v := .agg #[.int .i64 0, .int .u64 (W64 d), .int .u64 3, .bool true, .bool false, .int .u64 0, .int .u64 0]) 0 hst (fun _ h => h) rfl (fun W hS K hK => calm_load rfl rfl (load_part hS.2.2.1 0 [.int .i64 0, .int .u64 (W64 d), .int .u64 3, .bool true, .bool false, .int .u64 0, .int .u64 0] rfl Try.underlying40 rfl (by kernel_rfl)) (hK.out _ (Below.refl _ _))) ?_; simp only [Act.put, List.setIfInBounds_toArray, List.set_cons_zero, List.set_cons_succ]
        refine wpV_two 1 6 hst rfl rfl ?_ ?_
        · intro W hS K hK
          clear hS
          go_simp
          refine (CPb.out _).mono ?_; rintro e w9 ⟨A5_1, rfl, R5_1, hb⟩
          refine hK.out (fun W => RdB W A5_1 (pakP 252).pay) _ _ (stable_rdB _ _) hb (R5_1) (fun hst => ?_)
          clear hK K hb R5_1
          try simp only [Act.put, List.setIfInBounds_toArray, List.set_cons_zero, List.set_cons_succ]
          refine wpV_two 2 6 hst rfl rfl ?_ ?_
          · intro W hS K hK
            go_simp
            refine (CS3.out _ _ hS.2).mono ?_; rintro e w9 ⟨A5_2, c5_2, rfl, R5_2, q5_2, hb⟩
            refine hK.out (fun W => RdB W A5_2 []) _ _ (stable_rdB _ _) hb (R5_2) (fun hst => ?_)
            clear hK K hb R5_2 hS
            try simp only [Act.put, List.setIfInBounds_toArray, List.set_cons_zero, List.set_cons_succ]
            refine wpU_take (v := ?_) 3 hst (fun _ h => h) rfl ?_ ?_; rotate_left; (intro W hS K hK; clear hS; go_simp; exact hK.out _ (Below.refl _ _)); simp only [Act.put, List.setIfInBounds_toArray, List.set_cons_zero, List.set_cons_succ]
            refine wpU_take (v := ?_) 4 hst (fun _ h => h) rfl ?_ ?_; rotate_left; (intro W hS K hK; clear hS; go_simp; exact hK.out _ (Below.refl _ _)); simp only [Act.put, List.setIfInBounds_toArray, List.set_cons_zero, List.set_cons_succ]
            refine wpU_take (v := ?_) 5 hst (fun _ h => h) rfl ?_ ?_; rotate_left; (intro W hS K hK; clear hS; go_simp; exact hK.out _ (Below.refl _ _)); simp only [Act.put, List.setIfInBounds_toArray, List.set_cons_zero, List.set_cons_succ]
            refine wpV_new 6 hst rfl ?_; intro W hS K hK
            have l5_6_g3 : g3 < W.heap.size := hS.1.1.2.1.lt
            have l5_6_g16 : g16 < W.heap.size := hS.1.1.2.2.1.lt
            have l5_6_g3_6 : g3_6 < W.heap.size := hS.1.1.2.2.2.1.lt
            have l5_6_g4_6 : g4_6 < W.heap.size := hS.1.1.2.2.2.2.1.lt
            have n5_6a : w.heap.size ≤ W.heap.size := hS.1.1.1.size
            clear hS
            go_simp
            refine hK.out (fun W' => Room W.heap.size 49 5 W') _ _ (stable_room _ _ _) ((Below.refl _ _).alloc (Nat.le_refl _) _) (⟨_, rfl, rfl, Blk.new _ _ _⟩) (fun hst => ?_)
            clear hK K
            try simp only [Act.put, List.setIfInBounds_toArray, List.set_cons_zero, List.set_cons_succ]
            generalize W.heap.size = g5_6 at hst l5_6_g3 l5_6_g16 l5_6_g3_6 l5_6_g4_6 n5_6a ⊢
            clear W
            refine wpV_st 7 hst (fun _ h => h) #[.int .i64 0, .int .i64 0, .int .i64 0, .int .i64 0, .slice A5_2 0 c5_2] rfl rfl rfl rfl (fun W hS => hS.2) (fun W W' h hU hG => ?_) (by kernel_rfl) rfl (fun hst => ?_)
            · obtain ⟨⟨⟨⟨h0_0, h0_1, h0_2, h0_3, h0_4, h0_5, h0_6, h0_7, h0_8⟩, h1_0⟩, h2_0⟩, ⟨ch3_0, ah3_0, bh3_0, h3_0⟩⟩ := h
              exact ⟨⟨⟨⟨hU.below h0_0 (by omega), hU.blk h0_1 (by omega), hU.blk h0_2 (by omega), hU.blk h0_3 (by omega), hU.blk h0_4 (by omega), RdB.upd h0_5 h3_0 hU bh3_0, RdB.upd h0_6 h3_0 hU bh3_0, RdB.upd h0_7 h3_0 hU bh3_0, RdB.upd h0_8 h3_0 hU bh3_0⟩, RdB.upd h1_0 h3_0 hU bh3_0⟩, RdB.upd h2_0 h3_0 hU bh3_0⟩, ⟨_, rfl, rfl, hG⟩⟩
            refine wpU_take (v := ?_) 8 hst (fun _ h => h.1) rfl ?_ ?_; rotate_left; (intro W hS K hK; clear hS; go_simp; exact hK.out _ (Below.refl _ _)); simp only [Act.put, List.setIfInBounds_toArray, List.set_cons_zero, List.set_cons_succ]
            refine wpU_done (fun w35 hS => ?_)
            obtain ⟨⟨⟨⟨⟨hB, G12, G26, G3_6, G4_6, R3_1, R3_2, R4_1, R4_2⟩, R5_1⟩, R5_2⟩, -⟩, G5_6s⟩ := hS
            clear hst
            go_wp2_with fail
            go_meet
            case rel => exact ⟨A5_1, A5_2, c5_2, g5_6, rfl, (by omega), (by omega), (by omega), (by omega), (by omega), hB, G12, G26, G3_6, G4_6, G5_6s, R3_1, R3_2, R4_1, R4_2, R5_1, R5_2⟩
          · intro W hS K hK
            have l5_6_g3 : g3 < W.heap.size := hS.1.2.1.lt
            have l5_6_g16 : g16 < W.heap.size := hS.1.2.2.1.lt
            have l5_6_g3_6 : g3_6 < W.heap.size := hS.1.2.2.2.1.lt
            have l5_6_g4_6 : g4_6 < W.heap.size := hS.1.2.2.2.2.1.lt
            have n5_6a : w.heap.size ≤ W.heap.size := hS.1.1.size
            clear hS
            go_simp
            refine hK.out (fun W' => Room W.heap.size 49 5 W') _ _ (stable_room _ _ _) ((Below.refl _ _).alloc (Nat.le_refl _) _) (⟨_, rfl, rfl, Blk.new _ _ _⟩) (fun hst => ?_)
            clear hK K
            try simp only [Act.put, List.setIfInBounds_toArray, List.set_cons_zero, List.set_cons_succ]
            generalize W.heap.size = g5_6 at hst l5_6_g3 l5_6_g16 l5_6_g3_6 l5_6_g4_6 n5_6a ⊢
            clear W
            refine wpV_new 2 hst rfl ?_; intro W hS K hK
            go_simp
            refine (CS3.out _ _ hS.1.2).mono ?_; rintro e w9 ⟨A5_2, c5_2, rfl, R5_2, q5_2, hb⟩
            refine hK.out (fun W => RdB W A5_2 []) _ _ (stable_rdB _ _) hb (R5_2) (fun hst => ?_)
            clear hK K hb R5_2 hS
            try simp only [Act.put, List.setIfInBounds_toArray, List.set_cons_zero, List.set_cons_succ]
            refine wpU_take (v := ?_) 3 hst (fun _ h => h) rfl ?_ ?_; rotate_left; (intro W hS K hK; clear hS; go_simp; exact hK.out _ (Below.refl _ _)); simp only [Act.put, List.setIfInBounds_toArray, List.set_cons_zero, List.set_cons_succ]
            refine wpU_take (v := ?_) 4 hst (fun _ h => h) rfl ?_ ?_; rotate_left; (intro W hS K hK; clear hS; go_simp; exact hK.out _ (Below.refl _ _)); simp only [Act.put, List.setIfInBounds_toArray, List.set_cons_zero, List.set_cons_succ]
            refine wpU_take (v := ?_) 5 hst (fun _ h => h) rfl ?_ ?_; rotate_left; (intro W hS K hK; clear hS; go_simp; exact hK.out _ (Below.refl _ _)); simp only [Act.put, List.setIfInBounds_toArray, List.set_cons_zero, List.set_cons_succ]
            refine wpV_st 7 hst (fun _ h => h) #[.int .i64 0, .int .i64 0, .int .i64 0, .int .i64 0, .slice A5_2 0 c5_2] rfl rfl rfl rfl (fun W hS => hS.1.2) (fun W W' h hU hG => ?_) (by kernel_rfl) rfl (fun hst => ?_)
            · obtain ⟨⟨⟨⟨h0_0, h0_1, h0_2, h0_3, h0_4, h0_5, h0_6, h0_7, h0_8⟩, h1_0⟩, ⟨ch2_0, ah2_0, bh2_0, h2_0⟩⟩, h3_0⟩ := h
              exact ⟨⟨⟨⟨hU.below h0_0 (by omega), hU.blk h0_1 (by omega), hU.blk h0_2 (by omega), hU.blk h0_3 (by omega), hU.blk h0_4 (by omega), RdB.upd h0_5 h2_0 hU bh2_0, RdB.upd h0_6 h2_0 hU bh2_0, RdB.upd h0_7 h2_0 hU bh2_0, RdB.upd h0_8 h2_0 hU bh2_0⟩, RdB.upd h1_0 h2_0 hU bh2_0⟩, ⟨_, rfl, rfl, hG⟩⟩, RdB.upd h3_0 h2_0 hU bh2_0⟩
            refine wpU_take (v := ?_) 8 hst (fun _ h => h.1) rfl ?_ ?_; rotate_left; (intro W hS K hK; clear hS; go_simp; exact hK.out _ (Below.refl _ _)); simp only [Act.put, List.setIfInBounds_toArray, List.set_cons_zero, List.set_cons_succ]
            refine wpU_done (fun w36 hS => ?_)
            obtain ⟨⟨⟨⟨⟨hB, G12, G26, G3_6, G4_6, R3_1, R3_2, R4_1, R4_2⟩, R5_1⟩, -⟩, R5_2⟩, G5_6s⟩ := hS
            clear hst
            go_wp2_with fail
            go_meet
            case rel => exact ⟨A5_1, A5_2, c5_2, g5_6, rfl, (by omega), (by omega), (by omega), (by omega), (by omega), hB, G12, G26, G3_6, G4_6, G5_6s, R3_1, R3_2, R4_1, R4_2, R5_1, R5_2⟩
        · intro W hS K hK
          have l5_6_g3 : g3 < W.heap.size := hS.2.1.lt
          have l5_6_g16 : g16 < W.heap.size := hS.2.2.1.lt
          have l5_6_g3_6 : g3_6 < W.heap.size := hS.2.2.2.1.lt
          have l5_6_g4_6 : g4_6 < W.heap.size := hS.2.2.2.2.1.lt
          have n5_6a : w.heap.size ≤ W.heap.size := hS.1.size
          clear hS
          go_simp
          refine hK.out (fun W' => Room W.heap.size 49 5 W') _ _ (stable_room _ _ _) ((Below.refl _ _).alloc (Nat.le_refl _) _) (⟨_, rfl, rfl, Blk.new _ _ _⟩) (fun hst => ?_)
          clear hK K
          try simp only [Act.put, List.setIfInBounds_toArray, List.set_cons_zero, List.set_cons_succ]
          generalize W.heap.size = g5_6 at hst l5_6_g3 l5_6_g16 l5_6_g3_6 l5_6_g4_6 n5_6a ⊢
          clear W
          refine wpV_new 1 hst rfl ?_; intro W hS K hK
          clear hS
          go_simp
          refine (CPb.out _).mono ?_; rintro e w9 ⟨A5_1, rfl, R5_1, hb⟩
          refine hK.out (fun W => RdB W A5_1 (pakP 252).pay) _ _ (stable_rdB _ _) hb (R5_1) (fun hst => ?_)
          clear hK K hb R5_1
          try simp only [Act.put, List.setIfInBounds_toArray, List.set_cons_zero, List.set_cons_succ]
          refine wpV_new 2 hst rfl ?_; intro W hS K hK
          go_simp
          refine (CS3.out _ _ hS.2).mono ?_; rintro e w9 ⟨A5_2, c5_2, rfl, R5_2, q5_2, hb⟩
          refine hK.out (fun W => RdB W A5_2 []) _ _ (stable_rdB _ _) hb (R5_2) (fun hst => ?_)
          clear hK K hb R5_2 hS
          try simp only [Act.put, List.setIfInBounds_toArray, List.set_cons_zero, List.set_cons_succ]
          refine wpU_take (v := ?_) 3 hst (fun _ h => h) rfl ?_ ?_; rotate_left; (intro W hS K hK; clear hS; go_simp; exact hK.out _ (Below.refl _ _)); simp only [Act.put, List.setIfInBounds_toArray, List.set_cons_zero, List.set_cons_succ]
          refine wpU_take (v := ?_) 4 hst (fun _ h => h) rfl ?_ ?_; rotate_left; (intro W hS K hK; clear hS; go_simp; exact hK.out _ (Below.refl _ _)); simp only [Act.put, List.setIfInBounds_toArray, List.set_cons_zero, List.set_cons_succ]
          refine wpU_take (v := ?_) 5 hst (fun _ h => h) rfl ?_ ?_; rotate_left; (intro W hS K hK; clear hS; go_simp; exact hK.out _ (Below.refl _ _)); simp only [Act.put, List.setIfInBounds_toArray, List.set_cons_zero, List.set_cons_succ]
          refine wpV_st 7 hst (fun _ h => h) #[.int .i64 0, .int .i64 0, .int .i64 0, .int .i64 0, .slice A5_2 0 c5_2] rfl rfl rfl rfl (fun W hS => hS.1.1.2) (fun W W' h hU hG => ?_) (by kernel_rfl) rfl (fun hst => ?_)
          · obtain ⟨⟨⟨⟨h0_0, h0_1, h0_2, h0_3, h0_4, h0_5, h0_6, h0_7, h0_8⟩, ⟨ch1_0, ah1_0, bh1_0, h1_0⟩⟩, h2_0⟩, h3_0⟩ := h
            exact ⟨⟨⟨⟨hU.below h0_0 (by omega), hU.blk h0_1 (by omega), hU.blk h0_2 (by omega), hU.blk h0_3 (by omega), hU.blk h0_4 (by omega), RdB.upd h0_5 h1_0 hU bh1_0, RdB.upd h0_6 h1_0 hU bh1_0, RdB.upd h0_7 h1_0 hU bh1_0, RdB.upd h0_8 h1_0 hU bh1_0⟩, ⟨_, rfl, rfl, hG⟩⟩, RdB.upd h2_0 h1_0 hU bh1_0⟩, RdB.upd h3_0 h1_0 hU bh1_0⟩
          refine wpU_take (v := ?_) 8 hst (fun _ h => h.1) rfl ?_ ?_; rotate_left; (intro W hS K hK; clear hS; go_simp; exact hK.out _ (Below.refl _ _)); simp only [Act.put, List.setIfInBounds_toArray, List.set_cons_zero, List.set_cons_succ]
          refine wpU_done (fun w37 hS => ?_)
          obtain ⟨⟨⟨⟨⟨hB, G12, G26, G3_6, G4_6, R3_1, R3_2, R4_1, R4_2⟩, -⟩, R5_1⟩, R5_2⟩, G5_6s⟩ := hS
          clear hst
          go_wp2_with fail
          go_meet
          case rel => exact ⟨A5_1, A5_2, c5_2, g5_6, rfl, (by omega), (by omega), (by omega), (by omega), (by omega), hB, G12, G26, G3_6, G4_6, G5_6s, R3_1, R3_2, R4_1, R4_2, R5_1, R5_2⟩
      case rest =>
        obtain ⟨A5_1, A5_2, c5_2, g5_6, rfl, n5_6a, n5_6_g3, n5_6_g16, n5_6_g3_6, n5_6_g4_6, hB, G12, G26, G3_6, G4_6, G5_6, R3_1, R3_2, R4_1, R4_2, R5_1, R5_2⟩ := hcut
        skip
        go_wp2_with (first | (with_reducible refine stop_store ?_) | (with_reducible refine stop_box ?_) | (with_reducible refine stop_alloc ?_) | (with_reducible refine stop_bslice ?_) | ((with_reducible refine wpList_ld 0 [.int .i64 0, .int .u64 (W64 d), .int .u64 3, .bool true, .bool false, .int .u64 0, .int .u64 0] G26 ?_ ?_ Try.underlying40 ?_ ?_ ?_); rfl; rfl; rfl; kernel_rfl))
        refine (CX.out _).mono ?_; rintro e w40 ⟨rfl, hb41⟩
        replace G12 := G12.to hb41 G12.lt
        replace G26 := G26.to hb41 G26.lt
        replace G3_6 := G3_6.to hb41 G3_6.lt
        replace G4_6 := G4_6.to hb41 G4_6.lt
        replace G5_6 := G5_6.to hb41 G5_6.lt
        replace R3_1 := Rd.to R3_1 hb41
        replace R3_2 := Rd.to R3_2 hb41
        replace R4_1 := Rd.to R4_1 hb41
        replace R4_2 := Rd.to R4_2 hb41
        replace R5_1 := Rd.to R5_1 hb41
        replace R5_2 := Rd.to R5_2 hb41
        replace hB := hB.trans (hb41.mono hB.size)
        clear hb41
        go_wp2_with (first | (with_reducible refine stop_store ?_) | (with_reducible refine stop_box ?_) | (with_reducible refine stop_alloc ?_) | (with_reducible refine stop_bslice ?_))
        unfold Kept
        refine go_mem (ty := 40) (cs := #[.int .i64 0, .int .u64 0, .int .u64 0, .bool false, .bool false, .int .u64 0, .int .u64 0]) (fun g => .pointer (some ⟨g, 0, none⟩)) rfl (by kernel_rfl) ?_
        intro g42 w43 z47 l46 hb44 G45
        have n48 : g5_6 < g42 := Nat.lt_of_lt_of_le G5_6.lt l46
        have n49 : w.heap.size ≤ g42 := Nat.le_trans hB.size l46
        replace G12 := G12.to hb44 G12.lt
        replace G26 := G26.to hb44 G26.lt
        replace G3_6 := G3_6.to hb44 G3_6.lt
        replace G4_6 := G4_6.to hb44 G4_6.lt
        replace G5_6 := G5_6.to hb44 G5_6.lt
        replace R3_1 := Rd.to R3_1 hb44
        replace R3_2 := Rd.to R3_2 hb44
        replace R4_1 := Rd.to R4_1 hb44
        replace R4_2 := Rd.to R4_2 hb44
        replace R5_1 := Rd.to R5_1 hb44
        replace R5_2 := Rd.to R5_2 hb44
        replace hB := hB.trans (hb44.mono hB.size)
        clear hb44 l46 z47
        go_wp2_with (first | (with_reducible refine stop_store ?_) | (with_reducible refine stop_box ?_) | (with_reducible refine stop_alloc ?_) | (with_reducible refine stop_bslice ?_))
        unfold Kept
        refine wpList_st 0 #[.int .i64 0, .int .u64 (W64 d), .int .u64 3, .bool true, .bool false, .int .u64 1, .int .u64 0] #[.int .i64 0, .int .u64 (W64 d), .int .u64 3, .bool true, .bool false, .int .u64 1, .int .u64 0] G45 rfl rfl (by kernel_rfl) rfl (of_decide_eq_true rfl) rfl ?_
        intro w50 G52 hU51
        replace G12 := hU51.blk G12 (by omega)
        replace G26 := hU51.blk G26 (by omega)
        replace G3_6 := hU51.blk G3_6 (by omega)
        replace G4_6 := hU51.blk G4_6 (by omega)
        replace G5_6 := hU51.blk G5_6 (by omega)
        replace R3_1 := RdB.upd R3_1 G45 hU51 (by rfl)
        replace R3_2 := RdB.upd R3_2 G45 hU51 (by rfl)
        replace R4_1 := RdB.upd R4_1 G45 hU51 (by rfl)
        replace R4_2 := RdB.upd R4_2 G45 hU51 (by rfl)
        replace R5_1 := RdB.upd R5_1 G45 hU51 (by rfl)
        replace R5_2 := RdB.upd R5_2 G45 hU51 (by rfl)
        replace hB := hU51.below hB (by omega)
        clear G45 hU51
        go_wp2_with (first | (with_reducible refine stop_store ?_) | (with_reducible refine stop_box ?_) | (with_reducible refine stop_alloc ?_) | (with_reducible refine stop_bslice ?_))
        have hst : Stable fun W => Below w.heap.size w W ∧ Blk W g3 40 #[.int .i64 0, .int .u64 (W64 d), .int .u64 3, .bool false, .bool false, .int .u64 0, .int .u64 0] ∧ Blk W g16 40 #[.int .i64 0, .int .u64 (W64 d), .int .u64 3, .bool true, .bool false, .int .u64 0, .int .u64 0] ∧ Blk W g3_6 49 #[.int .i64 0, .int .i64 0, .int .i64 0, .int .i64 2, .slice A3_2 9 c3_2] ∧ Blk W g4_6 49 #[.int .i64 0, .int .i64 0, .int .i64 0, .int .i64 2, .slice A4_2 5 c4_2] ∧ Blk W g5_6 49 #[.int .i64 0, .int .i64 0, .int .i64 0, .int .i64 0, .slice A5_2 0 c5_2] ∧ Blk W g42 40 #[.int .i64 0, .int .u64 (W64 d), .int .u64 3, .bool true, .bool false, .int .u64 1, .int .u64 0] ∧ RdB W A3_1 (pakP 9).pay ∧ RdB W A3_2 (pakP 9).pay ∧ RdB W A4_1 (pakP 1).pay ∧ RdB W A4_2 bs ∧ RdB W A5_1 (pakP 252).pay ∧ RdB W A5_2 [] := stable_and (stable_below _ _ (Nat.le_refl _)) (stable_and (stable_blk _ _ _) (stable_and (stable_blk _ _ _) (stable_and (stable_blk _ _ _) (stable_and (stable_blk _ _ _) (stable_and (stable_blk _ _ _) (stable_and (stable_blk _ _ _) (stable_and (stable_rdB _ _) (stable_and (stable_rdB _ _) (stable_and (stable_rdB _ _) (stable_and (stable_rdB _ _) (stable_and (stable_rdB _ _) (stable_rdB _ _))))))))))))
        refine wp_region_v _ 33 hst ⟨hB.drew, G12, G26, G3_6, G4_6, G5_6, G52, R3_1, R3_2, R4_1, R4_2, R5_1, R5_2⟩ ?_
        clear hB G12 G26 G3_6 G4_6 G5_6 G52 R3_1 R3_2 R4_1 R4_2 R5_1 R5_2
        refine wpU_take (v := ?_) 0 hst (fun _ h => h) rfl ?_ ?_; rotate_left; (intro W hS K hK; clear hS; go_simp; exact hK.out _ (Below.refl _ _)); simp only [Act.put, List.setIfInBounds_toArray, List.set_cons_zero, List.set_cons_succ]
        refine wpU_take (v := ?_) 1 hst (fun _ h => h) rfl ?_ ?_; rotate_left; (intro W hS K hK; clear hS; go_simp; exact hK.out _ (Below.refl _ _)); simp only [Act.put, List.setIfInBounds_toArray, List.set_cons_zero, List.set_cons_succ]
        refine wpU_take (v := ?_) 2 hst (fun _ h => h) rfl ?_ ?_; rotate_left; (intro W hS K hK; clear hS; go_simp; exact hK.out _ (Below.refl _ _)); simp only [Act.put, List.setIfInBounds_toArray, List.set_cons_zero, List.set_cons_succ]
        refine wpU_take (v := .agg #[.int .i64 0, .int .i64 0, .int .i64 0, .int .i64 2, .slice A3_2 9 c3_2]) 3 hst (fun _ h => h) rfl (fun W hS K hK => calm_load rfl rfl (load_part hS.2.2.2.1 0 [.int .i64 0, .int .i64 0, .int .i64 0, .int .i64 2, .slice A3_2 9 c3_2] rfl Try.underlying49 rfl (by kernel_rfl)) (hK.out _ (Below.refl _ _))) ?_; simp only [Act.put, List.setIfInBounds_toArray, List.set_cons_zero, List.set_cons_succ]
        refine wpV_new 4 hst rfl ?_; intro W hS K hK
        clear hS
        go_simp
        refine (CP.out _).mono ?_; rintro e w9 ⟨A7_4, rfl, R7_4, hb⟩
        refine hK.out (fun W => RdB W A7_4 (pakP 9).pay) _ _ (stable_rdB _ _) hb (R7_4) (fun hst => ?_)
        clear hK K hb R7_4
        try simp only [Act.put, List.setIfInBounds_toArray, List.set_cons_zero, List.set_cons_succ]
        refine wpU_take (v := ?_) 5 hst (fun _ h => h) rfl ?_ ?_; rotate_left; (intro W hS K hK; go_simp; refine (CM.out _ _ _ _ hS.1.2.2.2.2.2.2.2.2.1 hS.2).mono ?_; rintro e w9 ⟨rfl, hb⟩; refine CallPost.mk ?_; exact hK.out _ (hb)); simp only [Act.put, List.setIfInBounds_toArray, List.set_cons_zero, List.set_cons_succ]
        refine wpU_take (v := ?_) 6 hst (fun _ h => h) rfl ?_ ?_; rotate_left; (intro W hS K hK; clear hS; go_simp; exact hK.out _ (Below.refl _ _)); simp only [Act.put, List.setIfInBounds_toArray, List.set_cons_zero, List.set_cons_succ]
        refine wpU_take (v := ?_) 7 hst (fun _ h => h) rfl ?_ ?_; rotate_left; (intro W hS K hK; clear hS; go_simp; exact hK.out _ (Below.refl _ _)); simp only [Act.put, List.setIfInBounds_toArray, List.set_cons_zero, List.set_cons_succ]
        refine wpU_take (v := ?_) 8 hst (fun _ h => h) rfl ?_ ?_; rotate_left; (intro W hS K hK; clear hS; go_simp; exact hK.out _ (Below.refl _ _)); simp only [Act.put, List.setIfInBounds_toArray, List.set_cons_zero, List.set_cons_succ]
        refine wpU_take (v := ?_) 9 hst (fun _ h => h) rfl ?_ ?_; rotate_left; (intro W hS K hK; clear hS; go_simp; exact hK.out _ (Below.refl _ _)); simp only [Act.put, List.setIfInBounds_toArray, List.set_cons_zero, List.set_cons_succ]
        refine wpU_take (v := ?_) 10 hst (fun _ h => h) rfl ?_ ?_; rotate_left; (intro W hS K hK; clear hS; go_simp; exact hK.out _ (Below.refl _ _)); simp only [Act.put, List.setIfInBounds_toArray, List.set_cons_zero, List.set_cons_succ]
        refine wpU_take (v := ?_) 11 hst (fun _ h => h) rfl ?_ ?_; rotate_left; (intro W hS K hK; clear hS; go_simp; exact hK.out _ (Below.refl _ _)); simp only [Act.put, List.setIfInBounds_toArray, List.set_cons_zero, List.set_cons_succ]
        refine wpU_take (v := ?_) 12 hst (fun _ h => h) rfl ?_ ?_; rotate_left; (intro W hS K hK; clear hS; go_simp; exact hK.out _ (Below.refl _ _)); simp only [Act.put, List.setIfInBounds_toArray, List.set_cons_zero, List.set_cons_succ]
        refine wpU_take (v := ?_) 13 hst (fun _ h => h) rfl ?_ ?_; rotate_left; (intro W hS K hK; clear hS; go_simp; exact hK.out _ (Below.refl _ _)); simp only [Act.put, List.setIfInBounds_toArray, List.set_cons_zero, List.set_cons_succ]
        refine wpU_take (v := ?_) 14 hst (fun _ h => h) rfl ?_ ?_; rotate_left; (intro W hS K hK; have ld : W.cell? ⟨g4_6, 4, none⟩ = some (.slice A4_2 5 c4_2) := hS.1.2.2.2.2.1.cell 4; clear hS; go_simp; exact hK.out _ (Below.refl _ _)); simp only [Act.put, List.setIfInBounds_toArray, List.set_cons_zero, List.set_cons_succ]
        refine wpU_take (v := ?_) 15 hst (fun _ h => h) rfl ?_ ?_; rotate_left; (intro W hS K hK; clear hS; go_simp; exact hK.out _ (Below.refl _ _)); simp only [Act.put, List.setIfInBounds_toArray, List.set_cons_zero, List.set_cons_succ]
        refine wpU_take (v := ?_) 16 hst (fun _ h => h) rfl ?_ ?_; rotate_left; (intro W hS K hK; clear hS; go_simp; exact hK.out _ (Below.refl _ _)); simp only [Act.put, List.setIfInBounds_toArray, List.set_cons_zero, List.set_cons_succ]
        refine wpU_take (v := ?_) 17 hst (fun _ h => h) rfl ?_ ?_; rotate_left; (intro W hS K hK; clear hS; go_simp; exact hK.out _ (Below.refl _ _)); simp only [Act.put, List.setIfInBounds_toArray, List.set_cons_zero, List.set_cons_succ]
        refine wpU_take (v := ?_) 18 hst (fun _ h => h) rfl ?_ ?_; rotate_left; (intro W hS K hK; clear hS; go_simp; exact hK.out _ (Below.refl _ _)); simp only [Act.put, List.setIfInBounds_toArray, List.set_cons_zero, List.set_cons_succ]
        refine wpU_take (v := ?_) 19 hst (fun _ h => h) rfl ?_ ?_; rotate_left; (intro W hS K hK; clear hS; go_simp; exact hK.out _ (Below.refl _ _)); simp only [Act.put, List.setIfInBounds_toArray, List.set_cons_zero, List.set_cons_succ]
        refine wpU_take (v := ?_) 20 hst (fun _ h => h) rfl ?_ ?_; rotate_left; (intro W hS K hK; clear hS; go_simp; exact hK.out _ (Below.refl _ _)); simp only [Act.put, List.setIfInBounds_toArray, List.set_cons_zero, List.set_cons_succ]
        refine wpU_take (v := ?_) 21 hst (fun _ h => h) rfl ?_ ?_; rotate_left; (intro W hS K hK; clear hS; go_simp; exact hK.out _ (Below.refl _ _)); simp only [Act.put, List.setIfInBounds_toArray, List.set_cons_zero, List.set_cons_succ]
        refine wpU_take (v := ?_) 22 hst (fun _ h => h) rfl ?_ ?_; rotate_left; (intro W hS K hK; clear hS; go_simp; exact hK.out _ (Below.refl _ _)); simp only [Act.put, List.setIfInBounds_toArray, List.set_cons_zero, List.set_cons_succ]
        refine wpU_take (v := ?_) 23 hst (fun _ h => h) rfl ?_ ?_; rotate_left; (intro W hS K hK; clear hS; go_simp; exact hK.out _ (Below.refl _ _)); simp only [Act.put, List.setIfInBounds_toArray, List.set_cons_zero, List.set_cons_succ]
        refine wpU_take (v := ?_) 24 hst (fun _ h => h) rfl ?_ ?_; rotate_left; (intro W hS K hK; have ld : W.cell? ⟨g42, 5, none⟩ = some (.int .u64 1) := hS.1.2.2.2.2.2.2.1.cell 5; clear hS; go_simp; exact hK.out _ (Below.refl _ _)); simp only [Act.put, List.setIfInBounds_toArray, List.set_cons_zero, List.set_cons_succ]
        refine wpU_take (v := ?_) 25 hst (fun _ h => h) rfl ?_ ?_; rotate_left; (intro W hS K hK; clear hS; go_simp; exact hK.out _ (Below.refl _ _)); simp only [Act.put, List.setIfInBounds_toArray, List.set_cons_zero, List.set_cons_succ]
        refine wpU_take (v := ?_) 26 hst (fun _ h => h) rfl ?_ ?_; rotate_left; (intro W hS K hK; clear hS; go_simp; exact hK.out _ (Below.refl _ _)); simp only [Act.put, List.setIfInBounds_toArray, List.set_cons_zero, List.set_cons_succ]
        refine wpU_take (v := ?_) 27 hst (fun _ h => h) rfl ?_ ?_; rotate_left; (intro W hS K hK; clear hS; go_simp; exact hK.out _ (Below.refl _ _)); simp only [Act.put, List.setIfInBounds_toArray, List.set_cons_zero, List.set_cons_succ]
        refine wpU_take (v := ?_) 28 hst (fun _ h => h) rfl ?_ ?_; rotate_left; (intro W hS K hK; clear hS; go_simp; exact hK.out _ (Below.refl _ _)); simp only [Act.put, List.setIfInBounds_toArray, List.set_cons_zero, List.set_cons_succ]
        refine wpU_take (v := ?_) 29 hst (fun _ h => h) rfl ?_ ?_; rotate_left; (intro W hS K hK; have ld : W.cell? ⟨g42, 6, none⟩ = some (.int .u64 0) := hS.1.2.2.2.2.2.2.1.cell 6; clear hS; go_simp; exact hK.out _ (Below.refl _ _)); simp only [Act.put, List.setIfInBounds_toArray, List.set_cons_zero, List.set_cons_succ]
        refine wpU_take (v := ?_) 30 hst (fun _ h => h) rfl ?_ ?_; rotate_left; (intro W hS K hK; clear hS; go_simp; exact hK.out _ (Below.refl _ _)); simp only [Act.put, List.setIfInBounds_toArray, List.set_cons_zero, List.set_cons_succ]
        refine wpU_take (v := ?_) 31 hst (fun _ h => h) rfl ?_ ?_; rotate_left; (intro W hS K hK; clear hS; go_simp; exact hK.out _ (Below.refl _ _)); simp only [Act.put, List.setIfInBounds_toArray, List.set_cons_zero, List.set_cons_succ]
        refine wpU_take (v := ?_) 32 hst (fun _ h => h) rfl ?_ ?_; rotate_left; (intro W hS K hK; clear hS; go_simp; exact hK.out _ (Below.refl _ _)); simp only [Act.put, List.setIfInBounds_toArray, List.set_cons_zero, List.set_cons_succ]
        refine wpU_done (fun w53 hS => ?_)
        obtain ⟨⟨hB, G12, G26, G3_6, G4_6, G5_6, G52, R3_1, R3_2, R4_1, R4_2, R5_1, R5_2⟩, R7_4⟩ := hS
        clear hst
        go_wp2_with (first | (with_reducible refine stop_store ?_) | (with_reducible refine stop_box ?_) | (with_reducible refine stop_alloc ?_) | (with_reducible refine stop_bslice ?_))
        go_returns
        exact ⟨rfl, hB⟩
end Go.Proofs.Ytmehemojopfihaa
