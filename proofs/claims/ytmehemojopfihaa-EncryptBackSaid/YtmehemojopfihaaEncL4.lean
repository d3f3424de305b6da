/- The walk of EncryptRepeats. -/
import Derived.Test.YtmehemojopfihaaEncX
namespace Go.Proofs.Ytmehemojopfihaa
set_option maxRecDepth 100000
open Go.ChangeShapes Go.WideShapes Go.ChangeAt Go.RowKit
set_option linter.unusedVariables false
set_option linter.unusedSimpArgs false

def sealPay (s : Ses) (ll : Int) (pay : List (BitVec 8)) : List (BitVec 8) := if !s.txOn || (decide (ll = 1) && decide (pay.length = 0)) then pay else sealB s.key (nonceS s.salt (sentD s.role) s.tx) [BitVec.ofInt 8 ll] pay
theorem checkS_bits {a b c ll : Int} {pay : List (BitVec 8)} (h : checkS ⟨a, b, c, ll, pay⟩ = 0) : (bitS a && bitS b && bitS c) = true ∧ checkL ll pay.length = 0 := by
  unfold checkS at h
  dsimp only at h
  split at h
  · exact ⟨by assumption, h⟩
  · omega
theorem sealS_ok (s : Ses) (p : Pdu) (h : checkS p = 0) (hl : p.pay.length ≤ 251) : sealS s p = ({ p with pay := sealPay s p.ll p.pay }, 0) := by
  unfold sealS sealPay blankS
  rw [h, if_neg (by simp)]
  by_cases hb : (!s.txOn || (decide (p.ll = 1) && decide (p.pay.length = 0))) = true
  · rw [if_pos hb, if_pos hb]
  · rw [if_neg hb, if_neg hb, if_neg (by omega)]
theorem rep_seal (s : Ses) (b1 b2 b3 sn ne md ll : Int) (pay : List (BitVec 8)) (A : Option Addr) (c : Nat) (W : World) (hr : RdB W A pay) (hc : pay.length ≤ c) (hk : checkS ⟨sn, ne, md, ll, pay⟩ = 0) (hl : ¬ (251 : Int) < ((pay.length : Nat) : Int)) (hb : (bitS b1 && bitS b2 && bitS b3) = true) (sp : List (BitVec 8)) (m : Nat) (hs : sealPay s ll pay = sp) (hm : sp.length = m) :
    Calls Try.prog 32 #[.agg (seA s), .agg #[.int .i64 b1, .int .i64 b2, .int .i64 b3, .int .i64 ll, .slice A pay.length c]] W fun e w' => ∃ A' c', e = .returned (.tuple #[.agg #[.int .i64 b1, .int .i64 b2, .int .i64 b3, .int .i64 ll, .slice A' m c'], .int .i64 0]) ∧ RdB w' A' sp ∧ m ≤ c' ∧ Below W.heap.size W w' := by
  have h1 : checkS ⟨b1, b2, b3, ll, pay⟩ = 0 := by unfold checkS; dsimp only; rw [if_pos hb]; exact (checkS_bits hk).2
  have := enc_Seal s ⟨b1, b2, b3, ll, pay⟩ A c W hr (by dsimp only; omega) hc
  rw [sealS_ok s _ h1 (by dsimp only; omega)] at this
  unfold RetP pduA at this
  dsimp only at this
  rw [hs, hm] at this
  exact this
set_option maxHeartbeats 8000000 in
theorem law_EncryptRepeats (role : Int) (wrole : (Lit.int .i64 role).wf = true) (key salt : BitVec 64) (txon rxon : Bool) (tx rx : BitVec 64) (sn : Int) (wsn : (Lit.int .i64 sn).wf = true) (ne : Int) (wne : (Lit.int .i64 ne).wf = true) (md : Int) (wmd : (Lit.int .i64 md).wf = true) (ll : Int) (wll : (Lit.int .i64 ll).wf = true) (A : Option Addr) (c : Nat) (pay : List (BitVec 8)) (x y z : Bool) (w : World) (hr : RdB w A pay) (hc : pay.length ≤ c) :
    Calls Try.prog 6 #[.agg #[.int .i64 role, .int .u64 (W64 key), .int .u64 (W64 salt), .bool txon, .bool rxon, .int .u64 (W64 tx), .int .u64 (W64 rx)], .agg #[.int .i64 sn, .int .i64 ne, .int .i64 md, .int .i64 ll, .slice A pay.length c], .bool x, .bool y, .bool z] w fun e w' => e = .returned (.bool true) ∧ Below w.heap.size w w' := by
  obtain ⟨ck, hk⟩ : ∃ k, checkS ⟨sn, ne, md, ll, pay⟩ = k := ⟨_, rfl⟩
  have CK := Lib.hid (fun W => show Calls Try.prog 35 #[.agg #[.int .i64 sn, .int .i64 ne, .int .i64 md, .int .i64 ll, .slice A pay.length c]] W fun e w' => e = .returned (.int .i64 ck) ∧ Below W.heap.size W w' from by have := r23_Check ⟨sn, ne, md, ll, pay⟩ A c W; rw [hk] at this; exact this)
  obtain ⟨sp, hsp⟩ : ∃ sp, sealPay ⟨role, key, salt, txon, rxon, tx, rx⟩ ll pay = sp := ⟨_, rfl⟩
  obtain ⟨m, hm⟩ : ∃ m, sp.length = m := ⟨_, rfl⟩
  have CM := Lib.hid (fun (W : World) A1 A2 c1 c2 (h : RdB W A1 sp) (h2 : RdB W A2 sp) => show Calls Try.prog 36 #[.agg #[.int .i64 ll, .slice A1 m c1], .agg #[.int .i64 ll, .slice A2 m c2]] W fun e w' => e = .returned (.bool true) ∧ Below W.heap.size W w' from by
    have := r23_SamePacket ⟨0, 0, 0, ll, sp⟩ ⟨0, 0, 0, ll, sp⟩ A1 A2 c1 c2 W h h2
    unfold pakA at this
    dsimp only at this
    rw [hm] at this
    simpa using this)
  have HK := Lib.hid hk
  have HSP := Lib.hid hsp
  have HM := Lib.hid hm
  have HC := Lib.hid hc
  clear hc hk hsp hm
  go_enter Try.func6, Try.ntmps6
  go_wp2_with (first | (with_reducible refine stop_store ?_) | (with_reducible refine stop_box ?_) | (with_reducible refine stop_alloc ?_) | (with_reducible refine stop_bslice ?_))
  unfold Kept
  refine go_mem (ty := 40) (cs := #[.int .i64 role, .int .u64 (W64 key), .int .u64 (W64 salt), .bool txon, .bool rxon, .int .u64 (W64 tx), .int .u64 (W64 rx)]) (fun g => .pointer (some ⟨g, 0, none⟩)) rfl (by kernel_rfl) ?_
  intro g_1 w_2 z_6 l_5 hb_3 G_4
  have n_7 : w.heap.size ≤ g_1 := l_5
  replace hr := Rd.to hr hb_3
  have hB := hb_3
  clear hb_3 l_5 z_6
  go_wp2_with (first | (with_reducible refine stop_store ?_) | (with_reducible refine stop_box ?_) | (with_reducible refine stop_alloc ?_) | (with_reducible refine stop_bslice ?_))
  unfold Kept
  refine go_mem (ty := 49) (cs := #[.int .i64 sn, .int .i64 ne, .int .i64 md, .int .i64 ll, .slice A pay.length c]) (fun g => .pointer (some ⟨g, 0, none⟩)) rfl (by kernel_rfl) ?_
  intro g_8 w_9 z_13 l_12 hb_10 G_11
  have n_14 : g_1 < g_8 := Nat.lt_of_lt_of_le G_4.lt l_12
  have n_15 : w.heap.size ≤ g_8 := Nat.le_trans hB.size l_12
  replace G_4 := G_4.to hb_10 G_4.lt
  replace hr := Rd.to hr hb_10
  replace hB := hB.trans (hb_10.mono hB.size)
  clear hb_10 l_12 z_13
  go_wp2_with (first | (with_reducible refine stop_store ?_) | (with_reducible refine stop_box ?_) | (with_reducible refine stop_alloc ?_) | (with_reducible refine stop_bslice ?_) | ((with_reducible refine wpList_ld 0 [.int .i64 sn, .int .i64 ne, .int .i64 md, .int .i64 ll, .slice A pay.length c] G_11 ?_ ?_ Try.underlying49 ?_ ?_ ?_); rfl; rfl; rfl; kernel_rfl))
  refine (CK.out _).mono ?_; rintro e w_17 ⟨rfl, hb_18⟩
  replace G_4 := G_4.to hb_18 G_4.lt
  replace G_11 := G_11.to hb_18 G_11.lt
  replace hr := Rd.to hr hb_18
  replace hB := hB.trans (hb_18.mono hB.size)
  clear hb_18
  by_cases hc_19 : (ck : Int) = 0
  ·
    subst hc_19
    by_cases hc_20 : (251 : Int) < ((pay.length : Nat) : Int)
    ·
      have ec_20 : decide ((251 : Int) < ((pay.length : Nat) : Int)) = true := by simpa using hc_20
      have ec_20n : decide ((((pay.length : Nat) : Int) : Int) ≤ 251) = false := by simpa using hc_20
      have kc_20 := Lib.hid hc_20
      clear hc_20
      have ld_21 : w_17.cell? ⟨g_8, 4, none⟩ = some (.slice A pay.length c) := G_11.cell 4
      go_wp2_with (first | (with_reducible refine stop_store ?_) | (with_reducible refine stop_box ?_) | (with_reducible refine stop_alloc ?_) | (with_reducible refine stop_bslice ?_))
      refine (ex29 _).mono ?_; rintro e w_22 ⟨rfl, hb_23⟩
      clear ld_21
      replace G_4 := G_4.to hb_23 G_4.lt
      replace G_11 := G_11.to hb_23 G_11.lt
      replace hr := Rd.to hr hb_23
      replace hB := hB.trans (hb_23.mono hB.size)
      clear hb_23
      go_wp2_with (first | (with_reducible refine stop_store ?_) | (with_reducible refine stop_box ?_) | (with_reducible refine stop_alloc ?_) | (with_reducible refine stop_bslice ?_))
      go_returns
      exact ⟨rfl, hB⟩
    ·
      have ec_20 : decide ((251 : Int) < ((pay.length : Nat) : Int)) = false := by simpa using hc_20
      have ec_20n : decide ((((pay.length : Nat) : Int) : Int) ≤ 251) = true := by simpa using hc_20
      have kc_20 := Lib.hid hc_20
      clear hc_20
      have ld_24 : w_17.cell? ⟨g_8, 4, none⟩ = some (.slice A pay.length c) := G_11.cell 4
      go_wp2_with (first | (with_reducible refine stop_store ?_) | (with_reducible refine stop_box ?_) | (with_reducible refine stop_alloc ?_) | (with_reducible refine stop_bslice ?_) | ((with_reducible refine wpList_ld 0 [.int .i64 sn, .int .i64 ne, .int .i64 md, .int .i64 ll, .slice A pay.length c] G_11 ?_ ?_ Try.underlying49 ?_ ?_ ?_); rfl; rfl; rfl; kernel_rfl))
      unfold Kept
      refine go_mem (ty := 49) (cs := #[.int .i64 0, .int .i64 0, .int .i64 0, .int .i64 0, .slice none 0 0]) (fun g => .pointer (some ⟨g, 0, none⟩)) rfl (by kernel_rfl) ?_
      intro g_26 w_27 z_31 l_30 hb_28 G_29
      clear ld_24
      have n_32 : g_8 < g_26 := Nat.lt_of_lt_of_le G_11.lt l_30
      have n_33 : w.heap.size ≤ g_26 := Nat.le_trans hB.size l_30
      replace G_4 := G_4.to hb_28 G_4.lt
      replace G_11 := G_11.to hb_28 G_11.lt
      replace hr := Rd.to hr hb_28
      replace hB := hB.trans (hb_28.mono hB.size)
      clear hb_28 l_30 z_31
      go_wp2_with (first | (with_reducible refine stop_store ?_) | (with_reducible refine stop_box ?_) | (with_reducible refine stop_alloc ?_) | (with_reducible refine stop_bslice ?_))
      unfold Kept
      refine wpList_st 0 #[.int .i64 sn, .int .i64 ne, .int .i64 md, .int .i64 ll, .slice A pay.length c] #[.int .i64 sn, .int .i64 ne, .int .i64 md, .int .i64 ll, .slice A pay.length c] G_29 rfl rfl (by kernel_rfl) rfl (of_decide_eq_true rfl) rfl ?_
      intro w_34 G_36 hU_35
      replace G_4 := hU_35.blk G_4 (by omega)
      replace G_11 := hU_35.blk G_11 (by omega)
      replace hr := RdB.upd hr G_29 hU_35 (by rfl)
      replace hB := hU_35.below hB (by omega)
      clear G_29 hU_35
      go_wp2_with (first | (with_reducible refine stop_store ?_) | (with_reducible refine stop_box ?_) | (with_reducible refine stop_alloc ?_) | (with_reducible refine stop_bslice ?_))
      unfold Kept
      refine wpList_st1 0 (.int .i64 0) #[.int .i64 0, .int .i64 ne, .int .i64 md, .int .i64 ll, .slice A pay.length c] G_36 rfl rfl rfl (by kernel_rfl) rfl (of_decide_eq_true rfl) rfl ?_
      intro w_37 G_39 hU_38
      replace G_4 := hU_38.blk G_4 (by omega)
      replace G_11 := hU_38.blk G_11 (by omega)
      replace hr := RdB.upd hr G_36 hU_38 (by rfl)
      replace hB := hU_38.below hB (by omega)
      clear G_36 hU_38
      go_wp2_with (first | (with_reducible refine stop_store ?_) | (with_reducible refine stop_box ?_) | (with_reducible refine stop_alloc ?_) | (with_reducible refine stop_bslice ?_))
      unfold Kept
      refine wpList_st1 1 (.int .i64 0) #[.int .i64 0, .int .i64 0, .int .i64 md, .int .i64 ll, .slice A pay.length c] G_39 rfl rfl rfl (by kernel_rfl) rfl (of_decide_eq_true rfl) rfl ?_
      intro w_40 G_42 hU_41
      replace G_4 := hU_41.blk G_4 (by omega)
      replace G_11 := hU_41.blk G_11 (by omega)
      replace hr := RdB.upd hr G_39 hU_41 (by rfl)
      replace hB := hU_41.below hB (by omega)
      clear G_39 hU_41
      go_wp2_with (first | (with_reducible refine stop_store ?_) | (with_reducible refine stop_box ?_) | (with_reducible refine stop_alloc ?_) | (with_reducible refine stop_bslice ?_))
      unfold Kept
      refine wpList_st1 2 (.int .i64 0) #[.int .i64 0, .int .i64 0, .int .i64 0, .int .i64 ll, .slice A pay.length c] G_42 rfl rfl rfl (by kernel_rfl) rfl (of_decide_eq_true rfl) rfl ?_
      intro w_43 G_45 hU_44
      replace G_4 := hU_44.blk G_4 (by omega)
      replace G_11 := hU_44.blk G_11 (by omega)
      replace hr := RdB.upd hr G_42 hU_44 (by rfl)
      replace hB := hU_44.below hB (by omega)
      clear G_42 hU_44
      cases x
      case false =>
        skip
        cases y
        case false =>
          skip
          cases z
          case false =>
            skip
            go_wp2_with (first | (with_reducible refine stop_store ?_) | (with_reducible refine stop_box ?_) | (with_reducible refine stop_alloc ?_) | (with_reducible refine stop_bslice ?_) | ((with_reducible refine wpList_ld 0 [.int .i64 role, .int .u64 (W64 key), .int .u64 (W64 salt), .bool txon, .bool rxon, .int .u64 (W64 tx), .int .u64 (W64 rx)] G_4 ?_ ?_ Try.underlying40 ?_ ?_ ?_); rfl; rfl; rfl; kernel_rfl) | ((with_reducible refine wpList_ld 0 [.int .i64 sn, .int .i64 ne, .int .i64 md, .int .i64 ll, .slice A pay.length c] G_11 ?_ ?_ Try.underlying49 ?_ ?_ ?_); rfl; rfl; rfl; kernel_rfl))
            refine (rep_seal ⟨role, key, salt, txon, rxon, tx, rx⟩ sn ne md sn ne md ll pay A c _ hr HC.out HK.out (by have hh := kc_20.out; omega) (checkS_bits HK.out).1 sp m HSP.out HM.out).mono ?_; rintro e w_51 ⟨A11_2, c11_2, rfl, R11_2, q11_2, hb_52⟩
            replace G_4 := G_4.to hb_52 G_4.lt
            replace G_11 := G_11.to hb_52 G_11.lt
            replace G_45 := G_45.to hb_52 G_45.lt
            replace hr := Rd.to hr hb_52
            replace hB := hB.trans (hb_52.mono hB.size)
            clear hb_52
            go_wp2_with (first | (with_reducible refine stop_store ?_) | (with_reducible refine stop_box ?_) | (with_reducible refine stop_alloc ?_) | (with_reducible refine stop_bslice ?_))
            unfold Kept
            refine go_mem (ty := 49) (cs := #[.int .i64 0, .int .i64 0, .int .i64 0, .int .i64 0, .slice none 0 0]) (fun g => .pointer (some ⟨g, 0, none⟩)) rfl (by kernel_rfl) ?_
            intro g_53 w_54 z_58 l_57 hb_55 G_56
            have n_59 : g_26 < g_53 := Nat.lt_of_lt_of_le G_45.lt l_57
            have n_60 : w.heap.size ≤ g_53 := Nat.le_trans hB.size l_57
            replace G_4 := G_4.to hb_55 G_4.lt
            replace G_11 := G_11.to hb_55 G_11.lt
            replace G_45 := G_45.to hb_55 G_45.lt
            replace hr := Rd.to hr hb_55
            replace R11_2 := Rd.to R11_2 hb_55
            replace hB := hB.trans (hb_55.mono hB.size)
            clear hb_55 l_57 z_58
            go_wp2_with (first | (with_reducible refine stop_store ?_) | (with_reducible refine stop_box ?_) | (with_reducible refine stop_alloc ?_) | (with_reducible refine stop_bslice ?_))
            unfold Kept
            refine wpList_st 0 #[.int .i64 sn, .int .i64 ne, .int .i64 md, .int .i64 ll, .slice A11_2 m c11_2] #[.int .i64 sn, .int .i64 ne, .int .i64 md, .int .i64 ll, .slice A11_2 m c11_2] G_56 rfl rfl (by kernel_rfl) rfl (of_decide_eq_true rfl) rfl ?_
            intro w_61 G_63 hU_62
            replace G_4 := hU_62.blk G_4 (by omega)
            replace G_11 := hU_62.blk G_11 (by omega)
            replace G_45 := hU_62.blk G_45 (by omega)
            replace hr := RdB.upd hr G_56 hU_62 (by rfl)
            replace R11_2 := RdB.upd R11_2 G_56 hU_62 (by rfl)
            replace hB := hU_62.below hB (by omega)
            clear G_56 hU_62
            go_wp2_with (first | (with_reducible refine stop_store ?_) | (with_reducible refine stop_box ?_) | (with_reducible refine stop_alloc ?_) | (with_reducible refine stop_bslice ?_) | ((with_reducible refine wpList_ld 0 [.int .i64 role, .int .u64 (W64 key), .int .u64 (W64 salt), .bool txon, .bool rxon, .int .u64 (W64 tx), .int .u64 (W64 rx)] G_4 ?_ ?_ Try.underlying40 ?_ ?_ ?_); rfl; rfl; rfl; kernel_rfl) | ((with_reducible refine wpList_ld 0 [.int .i64 0, .int .i64 0, .int .i64 0, .int .i64 ll, .slice A pay.length c] G_45 ?_ ?_ Try.underlying49 ?_ ?_ ?_); rfl; rfl; rfl; kernel_rfl))
            refine (rep_seal ⟨role, key, salt, txon, rxon, tx, rx⟩ 0 0 0 sn ne md ll pay A c _ hr HC.out HK.out (by have hh := kc_20.out; omega) rfl sp m HSP.out HM.out).mono ?_; rintro e w_66 ⟨A12_2, c12_2, rfl, R12_2, q12_2, hb_67⟩
            replace G_4 := G_4.to hb_67 G_4.lt
            replace G_11 := G_11.to hb_67 G_11.lt
            replace G_45 := G_45.to hb_67 G_45.lt
            replace G_63 := G_63.to hb_67 G_63.lt
            replace hr := Rd.to hr hb_67
            replace R11_2 := Rd.to R11_2 hb_67
            replace hB := hB.trans (hb_67.mono hB.size)
            clear hb_67
            go_wp2_with (first | (with_reducible refine stop_store ?_) | (with_reducible refine stop_box ?_) | (with_reducible refine stop_alloc ?_) | (with_reducible refine stop_bslice ?_))
            unfold Kept
            refine go_mem (ty := 49) (cs := #[.int .i64 0, .int .i64 0, .int .i64 0, .int .i64 0, .slice none 0 0]) (fun g => .pointer (some ⟨g, 0, none⟩)) rfl (by kernel_rfl) ?_
            intro g_68 w_69 z_73 l_72 hb_70 G_71
            have n_74 : g_53 < g_68 := Nat.lt_of_lt_of_le G_63.lt l_72
            have n_75 : w.heap.size ≤ g_68 := Nat.le_trans hB.size l_72
            replace G_4 := G_4.to hb_70 G_4.lt
            replace G_11 := G_11.to hb_70 G_11.lt
            replace G_45 := G_45.to hb_70 G_45.lt
            replace G_63 := G_63.to hb_70 G_63.lt
            replace hr := Rd.to hr hb_70
            replace R11_2 := Rd.to R11_2 hb_70
            replace R12_2 := Rd.to R12_2 hb_70
            replace hB := hB.trans (hb_70.mono hB.size)
            clear hb_70 l_72 z_73
            go_wp2_with (first | (with_reducible refine stop_store ?_) | (with_reducible refine stop_box ?_) | (with_reducible refine stop_alloc ?_) | (with_reducible refine stop_bslice ?_))
            unfold Kept
            refine wpList_st 0 #[.int .i64 0, .int .i64 0, .int .i64 0, .int .i64 ll, .slice A12_2 m c12_2] #[.int .i64 0, .int .i64 0, .int .i64 0, .int .i64 ll, .slice A12_2 m c12_2] G_71 rfl rfl (by kernel_rfl) rfl (of_decide_eq_true rfl) rfl ?_
            intro w_76 G_78 hU_77
            replace G_4 := hU_77.blk G_4 (by omega)
            replace G_11 := hU_77.blk G_11 (by omega)
            replace G_45 := hU_77.blk G_45 (by omega)
            replace G_63 := hU_77.blk G_63 (by omega)
            replace hr := RdB.upd hr G_71 hU_77 (by rfl)
            replace R11_2 := RdB.upd R11_2 G_71 hU_77 (by rfl)
            replace R12_2 := RdB.upd R12_2 G_71 hU_77 (by rfl)
            replace hB := hU_77.below hB (by omega)
            clear G_71 hU_77
            go_wp2_with (first | (with_reducible refine stop_store ?_) | (with_reducible refine stop_box ?_) | (with_reducible refine stop_alloc ?_) | (with_reducible refine stop_bslice ?_) | ((with_reducible refine wpList_ld 3 [.int .i64 ll, .slice A11_2 m c11_2] G_63 ?_ ?_ Try.underlying47 ?_ ?_ ?_); rfl; rfl; rfl; kernel_rfl) | ((with_reducible refine wpList_ldg 3 [.int .i64 ll, .slice A11_2 m c11_2] G_63 ?_ ?_ Try.underlying47 ?_ ?_ ?_ ?_); rfl; rfl; rfl; kernel_rfl; rfl) | ((with_reducible refine wpList_ld 3 [.int .i64 ll, .slice A12_2 m c12_2] G_78 ?_ ?_ Try.underlying47 ?_ ?_ ?_); rfl; rfl; rfl; kernel_rfl) | ((with_reducible refine wpList_ldg 3 [.int .i64 ll, .slice A12_2 m c12_2] G_78 ?_ ?_ Try.underlying47 ?_ ?_ ?_ ?_); rfl; rfl; rfl; kernel_rfl; rfl))
            refine (CM.out _ _ _ _ _ R11_2 R12_2).mono ?_; rintro e w_81 ⟨rfl, hb_82⟩
            replace G_4 := G_4.to hb_82 G_4.lt
            replace G_11 := G_11.to hb_82 G_11.lt
            replace G_45 := G_45.to hb_82 G_45.lt
            replace G_63 := G_63.to hb_82 G_63.lt
            replace G_78 := G_78.to hb_82 G_78.lt
            replace hr := Rd.to hr hb_82
            replace R11_2 := Rd.to R11_2 hb_82
            replace R12_2 := Rd.to R12_2 hb_82
            replace hB := hB.trans (hb_82.mono hB.size)
            clear hb_82
            have ld_83 : w_81.cell? ⟨g_53, 0, none⟩ = some (.int .i64 sn) := G_63.cell 0
            have ld_84 : w_81.cell? ⟨g_8, 0, none⟩ = some (.int .i64 sn) := G_11.cell 0
            have ld_85 : w_81.cell? ⟨g_53, 1, none⟩ = some (.int .i64 ne) := G_63.cell 1
            have ld_86 : w_81.cell? ⟨g_8, 1, none⟩ = some (.int .i64 ne) := G_11.cell 1
            have ld_87 : w_81.cell? ⟨g_53, 2, none⟩ = some (.int .i64 md) := G_63.cell 2
            have ld_88 : w_81.cell? ⟨g_8, 2, none⟩ = some (.int .i64 md) := G_11.cell 2
            have ld_89 : w_81.cell? ⟨g_68, 0, none⟩ = some (.int .i64 0) := G_78.cell 0
            have ld_90 : w_81.cell? ⟨g_26, 0, none⟩ = some (.int .i64 0) := G_45.cell 0
            have ld_91 : w_81.cell? ⟨g_68, 1, none⟩ = some (.int .i64 0) := G_78.cell 1
            have ld_92 : w_81.cell? ⟨g_26, 1, none⟩ = some (.int .i64 0) := G_45.cell 1
            have ld_93 : w_81.cell? ⟨g_68, 2, none⟩ = some (.int .i64 0) := G_78.cell 2
            have ld_94 : w_81.cell? ⟨g_26, 2, none⟩ = some (.int .i64 0) := G_45.cell 2
            go_wp2_with (first | (with_reducible refine stop_store ?_) | (with_reducible refine stop_box ?_) | (with_reducible refine stop_alloc ?_) | (with_reducible refine stop_bslice ?_))
            refine (ex29 _).mono ?_; rintro e w_95 ⟨rfl, hb_96⟩
            clear ld_83 ld_84 ld_85 ld_86 ld_87 ld_88 ld_89 ld_90 ld_91 ld_92 ld_93 ld_94
            replace G_4 := G_4.to hb_96 G_4.lt
            replace G_11 := G_11.to hb_96 G_11.lt
            replace G_45 := G_45.to hb_96 G_45.lt
            replace G_63 := G_63.to hb_96 G_63.lt
            replace G_78 := G_78.to hb_96 G_78.lt
            replace hr := Rd.to hr hb_96
            replace R11_2 := Rd.to R11_2 hb_96
            replace R12_2 := Rd.to R12_2 hb_96
            replace hB := hB.trans (hb_96.mono hB.size)
            clear hb_96
            go_wp2_with (first | (with_reducible refine stop_store ?_) | (with_reducible refine stop_box ?_) | (with_reducible refine stop_alloc ?_) | (with_reducible refine stop_bslice ?_))
            go_returns
            exact ⟨rfl, hB⟩
          case true =>
            skip
            go_wp2_with (first | (with_reducible refine stop_store ?_) | (with_reducible refine stop_box ?_) | (with_reducible refine stop_alloc ?_) | (with_reducible refine stop_bslice ?_))
            unfold Kept
            refine wpList_st1 2 (.int .i64 1) #[.int .i64 0, .int .i64 0, .int .i64 1, .int .i64 ll, .slice A pay.length c] G_45 rfl rfl rfl (by kernel_rfl) rfl (of_decide_eq_true rfl) rfl ?_
            intro w_97 G_99 hU_98
            replace G_4 := hU_98.blk G_4 (by omega)
            replace G_11 := hU_98.blk G_11 (by omega)
            replace hr := RdB.upd hr G_45 hU_98 (by rfl)
            replace hB := hU_98.below hB (by omega)
            clear G_45 hU_98
            go_wp2_with (first | (with_reducible refine stop_store ?_) | (with_reducible refine stop_box ?_) | (with_reducible refine stop_alloc ?_) | (with_reducible refine stop_bslice ?_) | ((with_reducible refine wpList_ld 0 [.int .i64 role, .int .u64 (W64 key), .int .u64 (W64 salt), .bool txon, .bool rxon, .int .u64 (W64 tx), .int .u64 (W64 rx)] G_4 ?_ ?_ Try.underlying40 ?_ ?_ ?_); rfl; rfl; rfl; kernel_rfl) | ((with_reducible refine wpList_ld 0 [.int .i64 sn, .int .i64 ne, .int .i64 md, .int .i64 ll, .slice A pay.length c] G_11 ?_ ?_ Try.underlying49 ?_ ?_ ?_); rfl; rfl; rfl; kernel_rfl))
            refine (rep_seal ⟨role, key, salt, txon, rxon, tx, rx⟩ sn ne md sn ne md ll pay A c _ hr HC.out HK.out (by have hh := kc_20.out; omega) (checkS_bits HK.out).1 sp m HSP.out HM.out).mono ?_; rintro e w_102 ⟨A11_2, c11_2, rfl, R11_2, q11_2, hb_103⟩
            replace G_4 := G_4.to hb_103 G_4.lt
            replace G_11 := G_11.to hb_103 G_11.lt
            replace G_99 := G_99.to hb_103 G_99.lt
            replace hr := Rd.to hr hb_103
            replace hB := hB.trans (hb_103.mono hB.size)
            clear hb_103
            go_wp2_with (first | (with_reducible refine stop_store ?_) | (with_reducible refine stop_box ?_) | (with_reducible refine stop_alloc ?_) | (with_reducible refine stop_bslice ?_))
            unfold Kept
            refine go_mem (ty := 49) (cs := #[.int .i64 0, .int .i64 0, .int .i64 0, .int .i64 0, .slice none 0 0]) (fun g => .pointer (some ⟨g, 0, none⟩)) rfl (by kernel_rfl) ?_
            intro g_104 w_105 z_109 l_108 hb_106 G_107
            have n_110 : g_26 < g_104 := Nat.lt_of_lt_of_le G_99.lt l_108
            have n_111 : w.heap.size ≤ g_104 := Nat.le_trans hB.size l_108
            replace G_4 := G_4.to hb_106 G_4.lt
            replace G_11 := G_11.to hb_106 G_11.lt
            replace G_99 := G_99.to hb_106 G_99.lt
            replace hr := Rd.to hr hb_106
            replace R11_2 := Rd.to R11_2 hb_106
            replace hB := hB.trans (hb_106.mono hB.size)
            clear hb_106 l_108 z_109
            go_wp2_with (first | (with_reducible refine stop_store ?_) | (with_reducible refine stop_box ?_) | (with_reducible refine stop_alloc ?_) | (with_reducible refine stop_bslice ?_))
            unfold Kept
            refine wpList_st 0 #[.int .i64 sn, .int .i64 ne, .int .i64 md, .int .i64 ll, .slice A11_2 m c11_2] #[.int .i64 sn, .int .i64 ne, .int .i64 md, .int .i64 ll, .slice A11_2 m c11_2] G_107 rfl rfl (by kernel_rfl) rfl (of_decide_eq_true rfl) rfl ?_
            intro w_112 G_114 hU_113
            replace G_4 := hU_113.blk G_4 (by omega)
            replace G_11 := hU_113.blk G_11 (by omega)
            replace G_99 := hU_113.blk G_99 (by omega)
            replace hr := RdB.upd hr G_107 hU_113 (by rfl)
            replace R11_2 := RdB.upd R11_2 G_107 hU_113 (by rfl)
            replace hB := hU_113.below hB (by omega)
            clear G_107 hU_113
            go_wp2_with (first | (with_reducible refine stop_store ?_) | (with_reducible refine stop_box ?_) | (with_reducible refine stop_alloc ?_) | (with_reducible refine stop_bslice ?_) | ((with_reducible refine wpList_ld 0 [.int .i64 role, .int .u64 (W64 key), .int .u64 (W64 salt), .bool txon, .bool rxon, .int .u64 (W64 tx), .int .u64 (W64 rx)] G_4 ?_ ?_ Try.underlying40 ?_ ?_ ?_); rfl; rfl; rfl; kernel_rfl) | ((with_reducible refine wpList_ld 0 [.int .i64 0, .int .i64 0, .int .i64 1, .int .i64 ll, .slice A pay.length c] G_99 ?_ ?_ Try.underlying49 ?_ ?_ ?_); rfl; rfl; rfl; kernel_rfl))
            refine (rep_seal ⟨role, key, salt, txon, rxon, tx, rx⟩ 0 0 1 sn ne md ll pay A c _ hr HC.out HK.out (by have hh := kc_20.out; omega) rfl sp m HSP.out HM.out).mono ?_; rintro e w_117 ⟨A12_2, c12_2, rfl, R12_2, q12_2, hb_118⟩
            replace G_4 := G_4.to hb_118 G_4.lt
            replace G_11 := G_11.to hb_118 G_11.lt
            replace G_99 := G_99.to hb_118 G_99.lt
            replace G_114 := G_114.to hb_118 G_114.lt
            replace hr := Rd.to hr hb_118
            replace R11_2 := Rd.to R11_2 hb_118
            replace hB := hB.trans (hb_118.mono hB.size)
            clear hb_118
            go_wp2_with (first | (with_reducible refine stop_store ?_) | (with_reducible refine stop_box ?_) | (with_reducible refine stop_alloc ?_) | (with_reducible refine stop_bslice ?_))
            unfold Kept
            refine go_mem (ty := 49) (cs := #[.int .i64 0, .int .i64 0, .int .i64 0, .int .i64 0, .slice none 0 0]) (fun g => .pointer (some ⟨g, 0, none⟩)) rfl (by kernel_rfl) ?_
            intro g_119 w_120 z_124 l_123 hb_121 G_122
            have n_125 : g_104 < g_119 := Nat.lt_of_lt_of_le G_114.lt l_123
            have n_126 : w.heap.size ≤ g_119 := Nat.le_trans hB.size l_123
            replace G_4 := G_4.to hb_121 G_4.lt
            replace G_11 := G_11.to hb_121 G_11.lt
            replace G_99 := G_99.to hb_121 G_99.lt
            replace G_114 := G_114.to hb_121 G_114.lt
            replace hr := Rd.to hr hb_121
            replace R11_2 := Rd.to R11_2 hb_121
            replace R12_2 := Rd.to R12_2 hb_121
            replace hB := hB.trans (hb_121.mono hB.size)
            clear hb_121 l_123 z_124
            go_wp2_with (first | (with_reducible refine stop_store ?_) | (with_reducible refine stop_box ?_) | (with_reducible refine stop_alloc ?_) | (with_reducible refine stop_bslice ?_))
            unfold Kept
            refine wpList_st 0 #[.int .i64 0, .int .i64 0, .int .i64 1, .int .i64 ll, .slice A12_2 m c12_2] #[.int .i64 0, .int .i64 0, .int .i64 1, .int .i64 ll, .slice A12_2 m c12_2] G_122 rfl rfl (by kernel_rfl) rfl (of_decide_eq_true rfl) rfl ?_
            intro w_127 G_129 hU_128
            replace G_4 := hU_128.blk G_4 (by omega)
            replace G_11 := hU_128.blk G_11 (by omega)
            replace G_99 := hU_128.blk G_99 (by omega)
            replace G_114 := hU_128.blk G_114 (by omega)
            replace hr := RdB.upd hr G_122 hU_128 (by rfl)
            replace R11_2 := RdB.upd R11_2 G_122 hU_128 (by rfl)
            replace R12_2 := RdB.upd R12_2 G_122 hU_128 (by rfl)
            replace hB := hU_128.below hB (by omega)
            clear G_122 hU_128
            go_wp2_with (first | (with_reducible refine stop_store ?_) | (with_reducible refine stop_box ?_) | (with_reducible refine stop_alloc ?_) | (with_reducible refine stop_bslice ?_) | ((with_reducible refine wpList_ld 3 [.int .i64 ll, .slice A11_2 m c11_2] G_114 ?_ ?_ Try.underlying47 ?_ ?_ ?_); rfl; rfl; rfl; kernel_rfl) | ((with_reducible refine wpList_ldg 3 [.int .i64 ll, .slice A11_2 m c11_2] G_114 ?_ ?_ Try.underlying47 ?_ ?_ ?_ ?_); rfl; rfl; rfl; kernel_rfl; rfl) | ((with_reducible refine wpList_ld 3 [.int .i64 ll, .slice A12_2 m c12_2] G_129 ?_ ?_ Try.underlying47 ?_ ?_ ?_); rfl; rfl; rfl; kernel_rfl) | ((with_reducible refine wpList_ldg 3 [.int .i64 ll, .slice A12_2 m c12_2] G_129 ?_ ?_ Try.underlying47 ?_ ?_ ?_ ?_); rfl; rfl; rfl; kernel_rfl; rfl))
            refine (CM.out _ _ _ _ _ R11_2 R12_2).mono ?_; rintro e w_132 ⟨rfl, hb_133⟩
            replace G_4 := G_4.to hb_133 G_4.lt
            replace G_11 := G_11.to hb_133 G_11.lt
            replace G_99 := G_99.to hb_133 G_99.lt
            replace G_114 := G_114.to hb_133 G_114.lt
            replace G_129 := G_129.to hb_133 G_129.lt
            replace hr := Rd.to hr hb_133
            replace R11_2 := Rd.to R11_2 hb_133
            replace R12_2 := Rd.to R12_2 hb_133
            replace hB := hB.trans (hb_133.mono hB.size)
            clear hb_133
            have ld_134 : w_132.cell? ⟨g_104, 0, none⟩ = some (.int .i64 sn) := G_114.cell 0
            have ld_135 : w_132.cell? ⟨g_8, 0, none⟩ = some (.int .i64 sn) := G_11.cell 0
            have ld_136 : w_132.cell? ⟨g_104, 1, none⟩ = some (.int .i64 ne) := G_114.cell 1
            have ld_137 : w_132.cell? ⟨g_8, 1, none⟩ = some (.int .i64 ne) := G_11.cell 1
            have ld_138 : w_132.cell? ⟨g_104, 2, none⟩ = some (.int .i64 md) := G_114.cell 2
            have ld_139 : w_132.cell? ⟨g_8, 2, none⟩ = some (.int .i64 md) := G_11.cell 2
            have ld_140 : w_132.cell? ⟨g_119, 0, none⟩ = some (.int .i64 0) := G_129.cell 0
            have ld_141 : w_132.cell? ⟨g_26, 0, none⟩ = some (.int .i64 0) := G_99.cell 0
            have ld_142 : w_132.cell? ⟨g_119, 1, none⟩ = some (.int .i64 0) := G_129.cell 1
            have ld_143 : w_132.cell? ⟨g_26, 1, none⟩ = some (.int .i64 0) := G_99.cell 1
            have ld_144 : w_132.cell? ⟨g_119, 2, none⟩ = some (.int .i64 1) := G_129.cell 2
            have ld_145 : w_132.cell? ⟨g_26, 2, none⟩ = some (.int .i64 1) := G_99.cell 2
            go_wp2_with (first | (with_reducible refine stop_store ?_) | (with_reducible refine stop_box ?_) | (with_reducible refine stop_alloc ?_) | (with_reducible refine stop_bslice ?_))
            refine (ex29 _).mono ?_; rintro e w_146 ⟨rfl, hb_147⟩
            clear ld_134 ld_135 ld_136 ld_137 ld_138 ld_139 ld_140 ld_141 ld_142 ld_143 ld_144 ld_145
            replace G_4 := G_4.to hb_147 G_4.lt
            replace G_11 := G_11.to hb_147 G_11.lt
            replace G_99 := G_99.to hb_147 G_99.lt
            replace G_114 := G_114.to hb_147 G_114.lt
            replace G_129 := G_129.to hb_147 G_129.lt
            replace hr := Rd.to hr hb_147
            replace R11_2 := Rd.to R11_2 hb_147
            replace R12_2 := Rd.to R12_2 hb_147
            replace hB := hB.trans (hb_147.mono hB.size)
            clear hb_147
            go_wp2_with (first | (with_reducible refine stop_store ?_) | (with_reducible refine stop_box ?_) | (with_reducible refine stop_alloc ?_) | (with_reducible refine stop_bslice ?_))
            go_returns
            exact ⟨rfl, hB⟩
        case true =>
          skip
          go_wp2_with (first | (with_reducible refine stop_store ?_) | (with_reducible refine stop_box ?_) | (with_reducible refine stop_alloc ?_) | (with_reducible refine stop_bslice ?_))
          unfold Kept
          refine wpList_st1 1 (.int .i64 1) #[.int .i64 0, .int .i64 1, .int .i64 0, .int .i64 ll, .slice A pay.length c] G_45 rfl rfl rfl (by kernel_rfl) rfl (of_decide_eq_true rfl) rfl ?_
          intro w_148 G_150 hU_149
          replace G_4 := hU_149.blk G_4 (by omega)
          replace G_11 := hU_149.blk G_11 (by omega)
          replace hr := RdB.upd hr G_45 hU_149 (by rfl)
          replace hB := hU_149.below hB (by omega)
          clear G_45 hU_149
          cases z
          case false =>
            skip
            go_wp2_with (first | (with_reducible refine stop_store ?_) | (with_reducible refine stop_box ?_) | (with_reducible refine stop_alloc ?_) | (with_reducible refine stop_bslice ?_) | ((with_reducible refine wpList_ld 0 [.int .i64 role, .int .u64 (W64 key), .int .u64 (W64 salt), .bool txon, .bool rxon, .int .u64 (W64 tx), .int .u64 (W64 rx)] G_4 ?_ ?_ Try.underlying40 ?_ ?_ ?_); rfl; rfl; rfl; kernel_rfl) | ((with_reducible refine wpList_ld 0 [.int .i64 sn, .int .i64 ne, .int .i64 md, .int .i64 ll, .slice A pay.length c] G_11 ?_ ?_ Try.underlying49 ?_ ?_ ?_); rfl; rfl; rfl; kernel_rfl))
            refine (rep_seal ⟨role, key, salt, txon, rxon, tx, rx⟩ sn ne md sn ne md ll pay A c _ hr HC.out HK.out (by have hh := kc_20.out; omega) (checkS_bits HK.out).1 sp m HSP.out HM.out).mono ?_; rintro e w_154 ⟨A11_2, c11_2, rfl, R11_2, q11_2, hb_155⟩
            replace G_4 := G_4.to hb_155 G_4.lt
            replace G_11 := G_11.to hb_155 G_11.lt
            replace G_150 := G_150.to hb_155 G_150.lt
            replace hr := Rd.to hr hb_155
            replace hB := hB.trans (hb_155.mono hB.size)
            clear hb_155
            go_wp2_with (first | (with_reducible refine stop_store ?_) | (with_reducible refine stop_box ?_) | (with_reducible refine stop_alloc ?_) | (with_reducible refine stop_bslice ?_))
            unfold Kept
            refine go_mem (ty := 49) (cs := #[.int .i64 0, .int .i64 0, .int .i64 0, .int .i64 0, .slice none 0 0]) (fun g => .pointer (some ⟨g, 0, none⟩)) rfl (by kernel_rfl) ?_
            intro g_156 w_157 z_161 l_160 hb_158 G_159
            have n_162 : g_26 < g_156 := Nat.lt_of_lt_of_le G_150.lt l_160
            have n_163 : w.heap.size ≤ g_156 := Nat.le_trans hB.size l_160
            replace G_4 := G_4.to hb_158 G_4.lt
            replace G_11 := G_11.to hb_158 G_11.lt
            replace G_150 := G_150.to hb_158 G_150.lt
            replace hr := Rd.to hr hb_158
            replace R11_2 := Rd.to R11_2 hb_158
            replace hB := hB.trans (hb_158.mono hB.size)
            clear hb_158 l_160 z_161
            go_wp2_with (first | (with_reducible refine stop_store ?_) | (with_reducible refine stop_box ?_) | (with_reducible refine stop_alloc ?_) | (with_reducible refine stop_bslice ?_))
            unfold Kept
            refine wpList_st 0 #[.int .i64 sn, .int .i64 ne, .int .i64 md, .int .i64 ll, .slice A11_2 m c11_2] #[.int .i64 sn, .int .i64 ne, .int .i64 md, .int .i64 ll, .slice A11_2 m c11_2] G_159 rfl rfl (by kernel_rfl) rfl (of_decide_eq_true rfl) rfl ?_
            intro w_164 G_166 hU_165
            replace G_4 := hU_165.blk G_4 (by omega)
            replace G_11 := hU_165.blk G_11 (by omega)
            replace G_150 := hU_165.blk G_150 (by omega)
            replace hr := RdB.upd hr G_159 hU_165 (by rfl)
            replace R11_2 := RdB.upd R11_2 G_159 hU_165 (by rfl)
            replace hB := hU_165.below hB (by omega)
            clear G_159 hU_165
            go_wp2_with (first | (with_reducible refine stop_store ?_) | (with_reducible refine stop_box ?_) | (with_reducible refine stop_alloc ?_) | (with_reducible refine stop_bslice ?_) | ((with_reducible refine wpList_ld 0 [.int .i64 role, .int .u64 (W64 key), .int .u64 (W64 salt), .bool txon, .bool rxon, .int .u64 (W64 tx), .int .u64 (W64 rx)] G_4 ?_ ?_ Try.underlying40 ?_ ?_ ?_); rfl; rfl; rfl; kernel_rfl) | ((with_reducible refine wpList_ld 0 [.int .i64 0, .int .i64 1, .int .i64 0, .int .i64 ll, .slice A pay.length c] G_150 ?_ ?_ Try.underlying49 ?_ ?_ ?_); rfl; rfl; rfl; kernel_rfl))
            refine (rep_seal ⟨role, key, salt, txon, rxon, tx, rx⟩ 0 1 0 sn ne md ll pay A c _ hr HC.out HK.out (by have hh := kc_20.out; omega) rfl sp m HSP.out HM.out).mono ?_; rintro e w_169 ⟨A12_2, c12_2, rfl, R12_2, q12_2, hb_170⟩
            replace G_4 := G_4.to hb_170 G_4.lt
            replace G_11 := G_11.to hb_170 G_11.lt
            replace G_150 := G_150.to hb_170 G_150.lt
            replace G_166 := G_166.to hb_170 G_166.lt
            replace hr := Rd.to hr hb_170
            replace R11_2 := Rd.to R11_2 hb_170
            replace hB := hB.trans (hb_170.mono hB.size)
            clear hb_170
            go_wp2_with (first | (with_reducible refine stop_store ?_) | (with_reducible refine stop_box ?_) | (with_reducible refine stop_alloc ?_) | (with_reducible refine stop_bslice ?_))
            unfold Kept
            refine go_mem (ty := 49) (cs := #[.int .i64 0, .int .i64 0, .int .i64 0, .int .i64 0, .slice none 0 0]) (fun g => .pointer (some ⟨g, 0, none⟩)) rfl (by kernel_rfl) ?_
            intro g_171 w_172 z_176 l_175 hb_173 G_174
            have n_177 : g_156 < g_171 := Nat.lt_of_lt_of_le G_166.lt l_175
            have n_178 : w.heap.size ≤ g_171 := Nat.le_trans hB.size l_175
            replace G_4 := G_4.to hb_173 G_4.lt
            replace G_11 := G_11.to hb_173 G_11.lt
            replace G_150 := G_150.to hb_173 G_150.lt
            replace G_166 := G_166.to hb_173 G_166.lt
            replace hr := Rd.to hr hb_173
            replace R11_2 := Rd.to R11_2 hb_173
            replace R12_2 := Rd.to R12_2 hb_173
            replace hB := hB.trans (hb_173.mono hB.size)
            clear hb_173 l_175 z_176
            go_wp2_with (first | (with_reducible refine stop_store ?_) | (with_reducible refine stop_box ?_) | (with_reducible refine stop_alloc ?_) | (with_reducible refine stop_bslice ?_))
            unfold Kept
            refine wpList_st 0 #[.int .i64 0, .int .i64 1, .int .i64 0, .int .i64 ll, .slice A12_2 m c12_2] #[.int .i64 0, .int .i64 1, .int .i64 0, .int .i64 ll, .slice A12_2 m c12_2] G_174 rfl rfl (by kernel_rfl) rfl (of_decide_eq_true rfl) rfl ?_
            intro w_179 G_181 hU_180
            replace G_4 := hU_180.blk G_4 (by omega)
            replace G_11 := hU_180.blk G_11 (by omega)
            replace G_150 := hU_180.blk G_150 (by omega)
            replace G_166 := hU_180.blk G_166 (by omega)
            replace hr := RdB.upd hr G_174 hU_180 (by rfl)
            replace R11_2 := RdB.upd R11_2 G_174 hU_180 (by rfl)
            replace R12_2 := RdB.upd R12_2 G_174 hU_180 (by rfl)
            replace hB := hU_180.below hB (by omega)
            clear G_174 hU_180
            go_wp2_with (first | (with_reducible refine stop_store ?_) | (with_reducible refine stop_box ?_) | (with_reducible refine stop_alloc ?_) | (with_reducible refine stop_bslice ?_) | ((with_reducible refine wpList_ld 3 [.int .i64 ll, .slice A11_2 m c11_2] G_166 ?_ ?_ Try.underlying47 ?_ ?_ ?_); rfl; rfl; rfl; kernel_rfl) | ((with_reducible refine wpList_ldg 3 [.int .i64 ll, .slice A11_2 m c11_2] G_166 ?_ ?_ Try.underlying47 ?_ ?_ ?_ ?_); rfl; rfl; rfl; kernel_rfl; rfl) | ((with_reducible refine wpList_ld 3 [.int .i64 ll, .slice A12_2 m c12_2] G_181 ?_ ?_ Try.underlying47 ?_ ?_ ?_); rfl; rfl; rfl; kernel_rfl) | ((with_reducible refine wpList_ldg 3 [.int .i64 ll, .slice A12_2 m c12_2] G_181 ?_ ?_ Try.underlying47 ?_ ?_ ?_ ?_); rfl; rfl; rfl; kernel_rfl; rfl))
            refine (CM.out _ _ _ _ _ R11_2 R12_2).mono ?_; rintro e w_184 ⟨rfl, hb_185⟩
            replace G_4 := G_4.to hb_185 G_4.lt
            replace G_11 := G_11.to hb_185 G_11.lt
            replace G_150 := G_150.to hb_185 G_150.lt
            replace G_166 := G_166.to hb_185 G_166.lt
            replace G_181 := G_181.to hb_185 G_181.lt
            replace hr := Rd.to hr hb_185
            replace R11_2 := Rd.to R11_2 hb_185
            replace R12_2 := Rd.to R12_2 hb_185
            replace hB := hB.trans (hb_185.mono hB.size)
            clear hb_185
            have ld_186 : w_184.cell? ⟨g_156, 0, none⟩ = some (.int .i64 sn) := G_166.cell 0
            have ld_187 : w_184.cell? ⟨g_8, 0, none⟩ = some (.int .i64 sn) := G_11.cell 0
            have ld_188 : w_184.cell? ⟨g_156, 1, none⟩ = some (.int .i64 ne) := G_166.cell 1
            have ld_189 : w_184.cell? ⟨g_8, 1, none⟩ = some (.int .i64 ne) := G_11.cell 1
            have ld_190 : w_184.cell? ⟨g_156, 2, none⟩ = some (.int .i64 md) := G_166.cell 2
            have ld_191 : w_184.cell? ⟨g_8, 2, none⟩ = some (.int .i64 md) := G_11.cell 2
            have ld_192 : w_184.cell? ⟨g_171, 0, none⟩ = some (.int .i64 0) := G_181.cell 0
            have ld_193 : w_184.cell? ⟨g_26, 0, none⟩ = some (.int .i64 0) := G_150.cell 0
            have ld_194 : w_184.cell? ⟨g_171, 1, none⟩ = some (.int .i64 1) := G_181.cell 1
            have ld_195 : w_184.cell? ⟨g_26, 1, none⟩ = some (.int .i64 1) := G_150.cell 1
            have ld_196 : w_184.cell? ⟨g_171, 2, none⟩ = some (.int .i64 0) := G_181.cell 2
            have ld_197 : w_184.cell? ⟨g_26, 2, none⟩ = some (.int .i64 0) := G_150.cell 2
            go_wp2_with (first | (with_reducible refine stop_store ?_) | (with_reducible refine stop_box ?_) | (with_reducible refine stop_alloc ?_) | (with_reducible refine stop_bslice ?_))
            refine (ex29 _).mono ?_; rintro e w_198 ⟨rfl, hb_199⟩
            clear ld_186 ld_187 ld_188 ld_189 ld_190 ld_191 ld_192 ld_193 ld_194 ld_195 ld_196 ld_197
            replace G_4 := G_4.to hb_199 G_4.lt
            replace G_11 := G_11.to hb_199 G_11.lt
            replace G_150 := G_150.to hb_199 G_150.lt
            replace G_166 := G_166.to hb_199 G_166.lt
            replace G_181 := G_181.to hb_199 G_181.lt
            replace hr := Rd.to hr hb_199
            replace R11_2 := Rd.to R11_2 hb_199
            replace R12_2 := Rd.to R12_2 hb_199
            replace hB := hB.trans (hb_199.mono hB.size)
            clear hb_199
            go_wp2_with (first | (with_reducible refine stop_store ?_) | (with_reducible refine stop_box ?_) | (with_reducible refine stop_alloc ?_) | (with_reducible refine stop_bslice ?_))
            go_returns
            exact ⟨rfl, hB⟩
          case true =>
            skip
            go_wp2_with (first | (with_reducible refine stop_store ?_) | (with_reducible refine stop_box ?_) | (with_reducible refine stop_alloc ?_) | (with_reducible refine stop_bslice ?_))
            unfold Kept
            refine wpList_st1 2 (.int .i64 1) #[.int .i64 0, .int .i64 1, .int .i64 1, .int .i64 ll, .slice A pay.length c] G_150 rfl rfl rfl (by kernel_rfl) rfl (of_decide_eq_true rfl) rfl ?_
            intro w_200 G_202 hU_201
            replace G_4 := hU_201.blk G_4 (by omega)
            replace G_11 := hU_201.blk G_11 (by omega)
            replace hr := RdB.upd hr G_150 hU_201 (by rfl)
            replace hB := hU_201.below hB (by omega)
            clear G_150 hU_201
            go_wp2_with (first | (with_reducible refine stop_store ?_) | (with_reducible refine stop_box ?_) | (with_reducible refine stop_alloc ?_) | (with_reducible refine stop_bslice ?_) | ((with_reducible refine wpList_ld 0 [.int .i64 role, .int .u64 (W64 key), .int .u64 (W64 salt), .bool txon, .bool rxon, .int .u64 (W64 tx), .int .u64 (W64 rx)] G_4 ?_ ?_ Try.underlying40 ?_ ?_ ?_); rfl; rfl; rfl; kernel_rfl) | ((with_reducible refine wpList_ld 0 [.int .i64 sn, .int .i64 ne, .int .i64 md, .int .i64 ll, .slice A pay.length c] G_11 ?_ ?_ Try.underlying49 ?_ ?_ ?_); rfl; rfl; rfl; kernel_rfl))
            refine (rep_seal ⟨role, key, salt, txon, rxon, tx, rx⟩ sn ne md sn ne md ll pay A c _ hr HC.out HK.out (by have hh := kc_20.out; omega) (checkS_bits HK.out).1 sp m HSP.out HM.out).mono ?_; rintro e w_205 ⟨A11_2, c11_2, rfl, R11_2, q11_2, hb_206⟩
            replace G_4 := G_4.to hb_206 G_4.lt
            replace G_11 := G_11.to hb_206 G_11.lt
            replace G_202 := G_202.to hb_206 G_202.lt
            replace hr := Rd.to hr hb_206
            replace hB := hB.trans (hb_206.mono hB.size)
            clear hb_206
            go_wp2_with (first | (with_reducible refine stop_store ?_) | (with_reducible refine stop_box ?_) | (with_reducible refine stop_alloc ?_) | (with_reducible refine stop_bslice ?_))
            unfold Kept
            refine go_mem (ty := 49) (cs := #[.int .i64 0, .int .i64 0, .int .i64 0, .int .i64 0, .slice none 0 0]) (fun g => .pointer (some ⟨g, 0, none⟩)) rfl (by kernel_rfl) ?_
            intro g_207 w_208 z_212 l_211 hb_209 G_210
            have n_213 : g_26 < g_207 := Nat.lt_of_lt_of_le G_202.lt l_211
            have n_214 : w.heap.size ≤ g_207 := Nat.le_trans hB.size l_211
            replace G_4 := G_4.to hb_209 G_4.lt
            replace G_11 := G_11.to hb_209 G_11.lt
            replace G_202 := G_202.to hb_209 G_202.lt
            replace hr := Rd.to hr hb_209
            replace R11_2 := Rd.to R11_2 hb_209
            replace hB := hB.trans (hb_209.mono hB.size)
            clear hb_209 l_211 z_212
            go_wp2_with (first | (with_reducible refine stop_store ?_) | (with_reducible refine stop_box ?_) | (with_reducible refine stop_alloc ?_) | (with_reducible refine stop_bslice ?_))
            unfold Kept
            refine wpList_st 0 #[.int .i64 sn, .int .i64 ne, .int .i64 md, .int .i64 ll, .slice A11_2 m c11_2] #[.int .i64 sn, .int .i64 ne, .int .i64 md, .int .i64 ll, .slice A11_2 m c11_2] G_210 rfl rfl (by kernel_rfl) rfl (of_decide_eq_true rfl) rfl ?_
            intro w_215 G_217 hU_216
            replace G_4 := hU_216.blk G_4 (by omega)
            replace G_11 := hU_216.blk G_11 (by omega)
            replace G_202 := hU_216.blk G_202 (by omega)
            replace hr := RdB.upd hr G_210 hU_216 (by rfl)
            replace R11_2 := RdB.upd R11_2 G_210 hU_216 (by rfl)
            replace hB := hU_216.below hB (by omega)
            clear G_210 hU_216
            go_wp2_with (first | (with_reducible refine stop_store ?_) | (with_reducible refine stop_box ?_) | (with_reducible refine stop_alloc ?_) | (with_reducible refine stop_bslice ?_) | ((with_reducible refine wpList_ld 0 [.int .i64 role, .int .u64 (W64 key), .int .u64 (W64 salt), .bool txon, .bool rxon, .int .u64 (W64 tx), .int .u64 (W64 rx)] G_4 ?_ ?_ Try.underlying40 ?_ ?_ ?_); rfl; rfl; rfl; kernel_rfl) | ((with_reducible refine wpList_ld 0 [.int .i64 0, .int .i64 1, .int .i64 1, .int .i64 ll, .slice A pay.length c] G_202 ?_ ?_ Try.underlying49 ?_ ?_ ?_); rfl; rfl; rfl; kernel_rfl))
            refine (rep_seal ⟨role, key, salt, txon, rxon, tx, rx⟩ 0 1 1 sn ne md ll pay A c _ hr HC.out HK.out (by have hh := kc_20.out; omega) rfl sp m HSP.out HM.out).mono ?_; rintro e w_220 ⟨A12_2, c12_2, rfl, R12_2, q12_2, hb_221⟩
            replace G_4 := G_4.to hb_221 G_4.lt
            replace G_11 := G_11.to hb_221 G_11.lt
            replace G_202 := G_202.to hb_221 G_202.lt
            replace G_217 := G_217.to hb_221 G_217.lt
            replace hr := Rd.to hr hb_221
            replace R11_2 := Rd.to R11_2 hb_221
            replace hB := hB.trans (hb_221.mono hB.size)
            clear hb_221
            go_wp2_with (first | (with_reducible refine stop_store ?_) | (with_reducible refine stop_box ?_) | (with_reducible refine stop_alloc ?_) | (with_reducible refine stop_bslice ?_))
            unfold Kept
            refine go_mem (ty := 49) (cs := #[.int .i64 0, .int .i64 0, .int .i64 0, .int .i64 0, .slice none 0 0]) (fun g => .pointer (some ⟨g, 0, none⟩)) rfl (by kernel_rfl) ?_
            intro g_222 w_223 z_227 l_226 hb_224 G_225
            have n_228 : g_207 < g_222 := Nat.lt_of_lt_of_le G_217.lt l_226
            have n_229 : w.heap.size ≤ g_222 := Nat.le_trans hB.size l_226
            replace G_4 := G_4.to hb_224 G_4.lt
            replace G_11 := G_11.to hb_224 G_11.lt
            replace G_202 := G_202.to hb_224 G_202.lt
            replace G_217 := G_217.to hb_224 G_217.lt
            replace hr := Rd.to hr hb_224
            replace R11_2 := Rd.to R11_2 hb_224
            replace R12_2 := Rd.to R12_2 hb_224
            replace hB := hB.trans (hb_224.mono hB.size)
            clear hb_224 l_226 z_227
            go_wp2_with (first | (with_reducible refine stop_store ?_) | (with_reducible refine stop_box ?_) | (with_reducible refine stop_alloc ?_) | (with_reducible refine stop_bslice ?_))
            unfold Kept
            refine wpList_st 0 #[.int .i64 0, .int .i64 1, .int .i64 1, .int .i64 ll, .slice A12_2 m c12_2] #[.int .i64 0, .int .i64 1, .int .i64 1, .int .i64 ll, .slice A12_2 m c12_2] G_225 rfl rfl (by kernel_rfl) rfl (of_decide_eq_true rfl) rfl ?_
            intro w_230 G_232 hU_231
            replace G_4 := hU_231.blk G_4 (by omega)
            replace G_11 := hU_231.blk G_11 (by omega)
            replace G_202 := hU_231.blk G_202 (by omega)
            replace G_217 := hU_231.blk G_217 (by omega)
            replace hr := RdB.upd hr G_225 hU_231 (by rfl)
            replace R11_2 := RdB.upd R11_2 G_225 hU_231 (by rfl)
            replace R12_2 := RdB.upd R12_2 G_225 hU_231 (by rfl)
            replace hB := hU_231.below hB (by omega)
            clear G_225 hU_231
            go_wp2_with (first | (with_reducible refine stop_store ?_) | (with_reducible refine stop_box ?_) | (with_reducible refine stop_alloc ?_) | (with_reducible refine stop_bslice ?_) | ((with_reducible refine wpList_ld 3 [.int .i64 ll, .slice A11_2 m c11_2] G_217 ?_ ?_ Try.underlying47 ?_ ?_ ?_); rfl; rfl; rfl; kernel_rfl) | ((with_reducible refine wpList_ldg 3 [.int .i64 ll, .slice A11_2 m c11_2] G_217 ?_ ?_ Try.underlying47 ?_ ?_ ?_ ?_); rfl; rfl; rfl; kernel_rfl; rfl) | ((with_reducible refine wpList_ld 3 [.int .i64 ll, .slice A12_2 m c12_2] G_232 ?_ ?_ Try.underlying47 ?_ ?_ ?_); rfl; rfl; rfl; kernel_rfl) | ((with_reducible refine wpList_ldg 3 [.int .i64 ll, .slice A12_2 m c12_2] G_232 ?_ ?_ Try.underlying47 ?_ ?_ ?_ ?_); rfl; rfl; rfl; kernel_rfl; rfl))
            refine (CM.out _ _ _ _ _ R11_2 R12_2).mono ?_; rintro e w_235 ⟨rfl, hb_236⟩
            replace G_4 := G_4.to hb_236 G_4.lt
            replace G_11 := G_11.to hb_236 G_11.lt
            replace G_202 := G_202.to hb_236 G_202.lt
            replace G_217 := G_217.to hb_236 G_217.lt
            replace G_232 := G_232.to hb_236 G_232.lt
            replace hr := Rd.to hr hb_236
            replace R11_2 := Rd.to R11_2 hb_236
            replace R12_2 := Rd.to R12_2 hb_236
            replace hB := hB.trans (hb_236.mono hB.size)
            clear hb_236
            have ld_237 : w_235.cell? ⟨g_207, 0, none⟩ = some (.int .i64 sn) := G_217.cell 0
            have ld_238 : w_235.cell? ⟨g_8, 0, none⟩ = some (.int .i64 sn) := G_11.cell 0
            have ld_239 : w_235.cell? ⟨g_207, 1, none⟩ = some (.int .i64 ne) := G_217.cell 1
            have ld_240 : w_235.cell? ⟨g_8, 1, none⟩ = some (.int .i64 ne) := G_11.cell 1
            have ld_241 : w_235.cell? ⟨g_207, 2, none⟩ = some (.int .i64 md) := G_217.cell 2
            have ld_242 : w_235.cell? ⟨g_8, 2, none⟩ = some (.int .i64 md) := G_11.cell 2
            have ld_243 : w_235.cell? ⟨g_222, 0, none⟩ = some (.int .i64 0) := G_232.cell 0
            have ld_244 : w_235.cell? ⟨g_26, 0, none⟩ = some (.int .i64 0) := G_202.cell 0
            have ld_245 : w_235.cell? ⟨g_222, 1, none⟩ = some (.int .i64 1) := G_232.cell 1
            have ld_246 : w_235.cell? ⟨g_26, 1, none⟩ = some (.int .i64 1) := G_202.cell 1
            have ld_247 : w_235.cell? ⟨g_222, 2, none⟩ = some (.int .i64 1) := G_232.cell 2
            have ld_248 : w_235.cell? ⟨g_26, 2, none⟩ = some (.int .i64 1) := G_202.cell 2
            go_wp2_with (first | (with_reducible refine stop_store ?_) | (with_reducible refine stop_box ?_) | (with_reducible refine stop_alloc ?_) | (with_reducible refine stop_bslice ?_))
            refine (ex29 _).mono ?_; rintro e w_249 ⟨rfl, hb_250⟩
            clear ld_237 ld_238 ld_239 ld_240 ld_241 ld_242 ld_243 ld_244 ld_245 ld_246 ld_247 ld_248
            replace G_4 := G_4.to hb_250 G_4.lt
            replace G_11 := G_11.to hb_250 G_11.lt
            replace G_202 := G_202.to hb_250 G_202.lt
            replace G_217 := G_217.to hb_250 G_217.lt
            replace G_232 := G_232.to hb_250 G_232.lt
            replace hr := Rd.to hr hb_250
            replace R11_2 := Rd.to R11_2 hb_250
            replace R12_2 := Rd.to R12_2 hb_250
            replace hB := hB.trans (hb_250.mono hB.size)
            clear hb_250
            go_wp2_with (first | (with_reducible refine stop_store ?_) | (with_reducible refine stop_box ?_) | (with_reducible refine stop_alloc ?_) | (with_reducible refine stop_bslice ?_))
            go_returns
            exact ⟨rfl, hB⟩
      case true =>
        skip
        go_wp2_with (first | (with_reducible refine stop_store ?_) | (with_reducible refine stop_box ?_) | (with_reducible refine stop_alloc ?_) | (with_reducible refine stop_bslice ?_))
        unfold Kept
        refine wpList_st1 0 (.int .i64 1) #[.int .i64 1, .int .i64 0, .int .i64 0, .int .i64 ll, .slice A pay.length c] G_45 rfl rfl rfl (by kernel_rfl) rfl (of_decide_eq_true rfl) rfl ?_
        intro w_251 G_253 hU_252
        replace G_4 := hU_252.blk G_4 (by omega)
        replace G_11 := hU_252.blk G_11 (by omega)
        replace hr := RdB.upd hr G_45 hU_252 (by rfl)
        replace hB := hU_252.below hB (by omega)
        clear G_45 hU_252
        cases y
        case false =>
          skip
          cases z
          case false =>
            skip
            go_wp2_with (first | (with_reducible refine stop_store ?_) | (with_reducible refine stop_box ?_) | (with_reducible refine stop_alloc ?_) | (with_reducible refine stop_bslice ?_) | ((with_reducible refine wpList_ld 0 [.int .i64 role, .int .u64 (W64 key), .int .u64 (W64 salt), .bool txon, .bool rxon, .int .u64 (W64 tx), .int .u64 (W64 rx)] G_4 ?_ ?_ Try.underlying40 ?_ ?_ ?_); rfl; rfl; rfl; kernel_rfl) | ((with_reducible refine wpList_ld 0 [.int .i64 sn, .int .i64 ne, .int .i64 md, .int .i64 ll, .slice A pay.length c] G_11 ?_ ?_ Try.underlying49 ?_ ?_ ?_); rfl; rfl; rfl; kernel_rfl))
            refine (rep_seal ⟨role, key, salt, txon, rxon, tx, rx⟩ sn ne md sn ne md ll pay A c _ hr HC.out HK.out (by have hh := kc_20.out; omega) (checkS_bits HK.out).1 sp m HSP.out HM.out).mono ?_; rintro e w_258 ⟨A11_2, c11_2, rfl, R11_2, q11_2, hb_259⟩
            replace G_4 := G_4.to hb_259 G_4.lt
            replace G_11 := G_11.to hb_259 G_11.lt
            replace G_253 := G_253.to hb_259 G_253.lt
            replace hr := Rd.to hr hb_259
            replace hB := hB.trans (hb_259.mono hB.size)
            clear hb_259
            go_wp2_with (first | (with_reducible refine stop_store ?_) | (with_reducible refine stop_box ?_) | (with_reducible refine stop_alloc ?_) | (with_reducible refine stop_bslice ?_))
            unfold Kept
            refine go_mem (ty := 49) (cs := #[.int .i64 0, .int .i64 0, .int .i64 0, .int .i64 0, .slice none 0 0]) (fun g => .pointer (some ⟨g, 0, none⟩)) rfl (by kernel_rfl) ?_
            intro g_260 w_261 z_265 l_264 hb_262 G_263
            have n_266 : g_26 < g_260 := Nat.lt_of_lt_of_le G_253.lt l_264
            have n_267 : w.heap.size ≤ g_260 := Nat.le_trans hB.size l_264
            replace G_4 := G_4.to hb_262 G_4.lt
            replace G_11 := G_11.to hb_262 G_11.lt
            replace G_253 := G_253.to hb_262 G_253.lt
            replace hr := Rd.to hr hb_262
            replace R11_2 := Rd.to R11_2 hb_262
            replace hB := hB.trans (hb_262.mono hB.size)
            clear hb_262 l_264 z_265
            go_wp2_with (first | (with_reducible refine stop_store ?_) | (with_reducible refine stop_box ?_) | (with_reducible refine stop_alloc ?_) | (with_reducible refine stop_bslice ?_))
            unfold Kept
            refine wpList_st 0 #[.int .i64 sn, .int .i64 ne, .int .i64 md, .int .i64 ll, .slice A11_2 m c11_2] #[.int .i64 sn, .int .i64 ne, .int .i64 md, .int .i64 ll, .slice A11_2 m c11_2] G_263 rfl rfl (by kernel_rfl) rfl (of_decide_eq_true rfl) rfl ?_
            intro w_268 G_270 hU_269
            replace G_4 := hU_269.blk G_4 (by omega)
            replace G_11 := hU_269.blk G_11 (by omega)
            replace G_253 := hU_269.blk G_253 (by omega)
            replace hr := RdB.upd hr G_263 hU_269 (by rfl)
            replace R11_2 := RdB.upd R11_2 G_263 hU_269 (by rfl)
            replace hB := hU_269.below hB (by omega)
            clear G_263 hU_269
            go_wp2_with (first | (with_reducible refine stop_store ?_) | (with_reducible refine stop_box ?_) | (with_reducible refine stop_alloc ?_) | (with_reducible refine stop_bslice ?_) | ((with_reducible refine wpList_ld 0 [.int .i64 role, .int .u64 (W64 key), .int .u64 (W64 salt), .bool txon, .bool rxon, .int .u64 (W64 tx), .int .u64 (W64 rx)] G_4 ?_ ?_ Try.underlying40 ?_ ?_ ?_); rfl; rfl; rfl; kernel_rfl) | ((with_reducible refine wpList_ld 0 [.int .i64 1, .int .i64 0, .int .i64 0, .int .i64 ll, .slice A pay.length c] G_253 ?_ ?_ Try.underlying49 ?_ ?_ ?_); rfl; rfl; rfl; kernel_rfl))
            refine (rep_seal ⟨role, key, salt, txon, rxon, tx, rx⟩ 1 0 0 sn ne md ll pay A c _ hr HC.out HK.out (by have hh := kc_20.out; omega) rfl sp m HSP.out HM.out).mono ?_; rintro e w_273 ⟨A12_2, c12_2, rfl, R12_2, q12_2, hb_274⟩
            replace G_4 := G_4.to hb_274 G_4.lt
            replace G_11 := G_11.to hb_274 G_11.lt
            replace G_253 := G_253.to hb_274 G_253.lt
            replace G_270 := G_270.to hb_274 G_270.lt
            replace hr := Rd.to hr hb_274
            replace R11_2 := Rd.to R11_2 hb_274
            replace hB := hB.trans (hb_274.mono hB.size)
            clear hb_274
            go_wp2_with (first | (with_reducible refine stop_store ?_) | (with_reducible refine stop_box ?_) | (with_reducible refine stop_alloc ?_) | (with_reducible refine stop_bslice ?_))
            unfold Kept
            refine go_mem (ty := 49) (cs := #[.int .i64 0, .int .i64 0, .int .i64 0, .int .i64 0, .slice none 0 0]) (fun g => .pointer (some ⟨g, 0, none⟩)) rfl (by kernel_rfl) ?_
            intro g_275 w_276 z_280 l_279 hb_277 G_278
            have n_281 : g_260 < g_275 := Nat.lt_of_lt_of_le G_270.lt l_279
            have n_282 : w.heap.size ≤ g_275 := Nat.le_trans hB.size l_279
            replace G_4 := G_4.to hb_277 G_4.lt
            replace G_11 := G_11.to hb_277 G_11.lt
            replace G_253 := G_253.to hb_277 G_253.lt
            replace G_270 := G_270.to hb_277 G_270.lt
            replace hr := Rd.to hr hb_277
            replace R11_2 := Rd.to R11_2 hb_277
            replace R12_2 := Rd.to R12_2 hb_277
            replace hB := hB.trans (hb_277.mono hB.size)
            clear hb_277 l_279 z_280
            go_wp2_with (first | (with_reducible refine stop_store ?_) | (with_reducible refine stop_box ?_) | (with_reducible refine stop_alloc ?_) | (with_reducible refine stop_bslice ?_))
            unfold Kept
            refine wpList_st 0 #[.int .i64 1, .int .i64 0, .int .i64 0, .int .i64 ll, .slice A12_2 m c12_2] #[.int .i64 1, .int .i64 0, .int .i64 0, .int .i64 ll, .slice A12_2 m c12_2] G_278 rfl rfl (by kernel_rfl) rfl (of_decide_eq_true rfl) rfl ?_
            intro w_283 G_285 hU_284
            replace G_4 := hU_284.blk G_4 (by omega)
            replace G_11 := hU_284.blk G_11 (by omega)
            replace G_253 := hU_284.blk G_253 (by omega)
            replace G_270 := hU_284.blk G_270 (by omega)
            replace hr := RdB.upd hr G_278 hU_284 (by rfl)
            replace R11_2 := RdB.upd R11_2 G_278 hU_284 (by rfl)
            replace R12_2 := RdB.upd R12_2 G_278 hU_284 (by rfl)
            replace hB := hU_284.below hB (by omega)
            clear G_278 hU_284
            go_wp2_with (first | (with_reducible refine stop_store ?_) | (with_reducible refine stop_box ?_) | (with_reducible refine stop_alloc ?_) | (with_reducible refine stop_bslice ?_) | ((with_reducible refine wpList_ld 3 [.int .i64 ll, .slice A11_2 m c11_2] G_270 ?_ ?_ Try.underlying47 ?_ ?_ ?_); rfl; rfl; rfl; kernel_rfl) | ((with_reducible refine wpList_ldg 3 [.int .i64 ll, .slice A11_2 m c11_2] G_270 ?_ ?_ Try.underlying47 ?_ ?_ ?_ ?_); rfl; rfl; rfl; kernel_rfl; rfl) | ((with_reducible refine wpList_ld 3 [.int .i64 ll, .slice A12_2 m c12_2] G_285 ?_ ?_ Try.underlying47 ?_ ?_ ?_); rfl; rfl; rfl; kernel_rfl) | ((with_reducible refine wpList_ldg 3 [.int .i64 ll, .slice A12_2 m c12_2] G_285 ?_ ?_ Try.underlying47 ?_ ?_ ?_ ?_); rfl; rfl; rfl; kernel_rfl; rfl))
            refine (CM.out _ _ _ _ _ R11_2 R12_2).mono ?_; rintro e w_288 ⟨rfl, hb_289⟩
            replace G_4 := G_4.to hb_289 G_4.lt
            replace G_11 := G_11.to hb_289 G_11.lt
            replace G_253 := G_253.to hb_289 G_253.lt
            replace G_270 := G_270.to hb_289 G_270.lt
            replace G_285 := G_285.to hb_289 G_285.lt
            replace hr := Rd.to hr hb_289
            replace R11_2 := Rd.to R11_2 hb_289
            replace R12_2 := Rd.to R12_2 hb_289
            replace hB := hB.trans (hb_289.mono hB.size)
            clear hb_289
            have ld_290 : w_288.cell? ⟨g_260, 0, none⟩ = some (.int .i64 sn) := G_270.cell 0
            have ld_291 : w_288.cell? ⟨g_8, 0, none⟩ = some (.int .i64 sn) := G_11.cell 0
            have ld_292 : w_288.cell? ⟨g_260, 1, none⟩ = some (.int .i64 ne) := G_270.cell 1
            have ld_293 : w_288.cell? ⟨g_8, 1, none⟩ = some (.int .i64 ne) := G_11.cell 1
            have ld_294 : w_288.cell? ⟨g_260, 2, none⟩ = some (.int .i64 md) := G_270.cell 2
            have ld_295 : w_288.cell? ⟨g_8, 2, none⟩ = some (.int .i64 md) := G_11.cell 2
            have ld_296 : w_288.cell? ⟨g_275, 0, none⟩ = some (.int .i64 1) := G_285.cell 0
            have ld_297 : w_288.cell? ⟨g_26, 0, none⟩ = some (.int .i64 1) := G_253.cell 0
            have ld_298 : w_288.cell? ⟨g_275, 1, none⟩ = some (.int .i64 0) := G_285.cell 1
            have ld_299 : w_288.cell? ⟨g_26, 1, none⟩ = some (.int .i64 0) := G_253.cell 1
            have ld_300 : w_288.cell? ⟨g_275, 2, none⟩ = some (.int .i64 0) := G_285.cell 2
            have ld_301 : w_288.cell? ⟨g_26, 2, none⟩ = some (.int .i64 0) := G_253.cell 2
            go_wp2_with (first | (with_reducible refine stop_store ?_) | (with_reducible refine stop_box ?_) | (with_reducible refine stop_alloc ?_) | (with_reducible refine stop_bslice ?_))
            refine (ex29 _).mono ?_; rintro e w_302 ⟨rfl, hb_303⟩
            clear ld_290 ld_291 ld_292 ld_293 ld_294 ld_295 ld_296 ld_297 ld_298 ld_299 ld_300 ld_301
            replace G_4 := G_4.to hb_303 G_4.lt
            replace G_11 := G_11.to hb_303 G_11.lt
            replace G_253 := G_253.to hb_303 G_253.lt
            replace G_270 := G_270.to hb_303 G_270.lt
            replace G_285 := G_285.to hb_303 G_285.lt
            replace hr := Rd.to hr hb_303
            replace R11_2 := Rd.to R11_2 hb_303
            replace R12_2 := Rd.to R12_2 hb_303
            replace hB := hB.trans (hb_303.mono hB.size)
            clear hb_303
            go_wp2_with (first | (with_reducible refine stop_store ?_) | (with_reducible refine stop_box ?_) | (with_reducible refine stop_alloc ?_) | (with_reducible refine stop_bslice ?_))
            go_returns
            exact ⟨rfl, hB⟩
          case true =>
            skip
            go_wp2_with (first | (with_reducible refine stop_store ?_) | (with_reducible refine stop_box ?_) | (with_reducible refine stop_alloc ?_) | (with_reducible refine stop_bslice ?_))
            unfold Kept
            refine wpList_st1 2 (.int .i64 1) #[.int .i64 1, .int .i64 0, .int .i64 1, .int .i64 ll, .slice A pay.length c] G_253 rfl rfl rfl (by kernel_rfl) rfl (of_decide_eq_true rfl) rfl ?_
            intro w_304 G_306 hU_305
            replace G_4 := hU_305.blk G_4 (by omega)
            replace G_11 := hU_305.blk G_11 (by omega)
            replace hr := RdB.upd hr G_253 hU_305 (by rfl)
            replace hB := hU_305.below hB (by omega)
            clear G_253 hU_305
            go_wp2_with (first | (with_reducible refine stop_store ?_) | (with_reducible refine stop_box ?_) | (with_reducible refine stop_alloc ?_) | (with_reducible refine stop_bslice ?_) | ((with_reducible refine wpList_ld 0 [.int .i64 role, .int .u64 (W64 key), .int .u64 (W64 salt), .bool txon, .bool rxon, .int .u64 (W64 tx), .int .u64 (W64 rx)] G_4 ?_ ?_ Try.underlying40 ?_ ?_ ?_); rfl; rfl; rfl; kernel_rfl) | ((with_reducible refine wpList_ld 0 [.int .i64 sn, .int .i64 ne, .int .i64 md, .int .i64 ll, .slice A pay.length c] G_11 ?_ ?_ Try.underlying49 ?_ ?_ ?_); rfl; rfl; rfl; kernel_rfl))
            refine (rep_seal ⟨role, key, salt, txon, rxon, tx, rx⟩ sn ne md sn ne md ll pay A c _ hr HC.out HK.out (by have hh := kc_20.out; omega) (checkS_bits HK.out).1 sp m HSP.out HM.out).mono ?_; rintro e w_309 ⟨A11_2, c11_2, rfl, R11_2, q11_2, hb_310⟩
            replace G_4 := G_4.to hb_310 G_4.lt
            replace G_11 := G_11.to hb_310 G_11.lt
            replace G_306 := G_306.to hb_310 G_306.lt
            replace hr := Rd.to hr hb_310
            replace hB := hB.trans (hb_310.mono hB.size)
            clear hb_310
            go_wp2_with (first | (with_reducible refine stop_store ?_) | (with_reducible refine stop_box ?_) | (with_reducible refine stop_alloc ?_) | (with_reducible refine stop_bslice ?_))
            unfold Kept
            refine go_mem (ty := 49) (cs := #[.int .i64 0, .int .i64 0, .int .i64 0, .int .i64 0, .slice none 0 0]) (fun g => .pointer (some ⟨g, 0, none⟩)) rfl (by kernel_rfl) ?_
            intro g_311 w_312 z_316 l_315 hb_313 G_314
            have n_317 : g_26 < g_311 := Nat.lt_of_lt_of_le G_306.lt l_315
            have n_318 : w.heap.size ≤ g_311 := Nat.le_trans hB.size l_315
            replace G_4 := G_4.to hb_313 G_4.lt
            replace G_11 := G_11.to hb_313 G_11.lt
            replace G_306 := G_306.to hb_313 G_306.lt
            replace hr := Rd.to hr hb_313
            replace R11_2 := Rd.to R11_2 hb_313
            replace hB := hB.trans (hb_313.mono hB.size)
            clear hb_313 l_315 z_316
            go_wp2_with (first | (with_reducible refine stop_store ?_) | (with_reducible refine stop_box ?_) | (with_reducible refine stop_alloc ?_) | (with_reducible refine stop_bslice ?_))
            unfold Kept
            refine wpList_st 0 #[.int .i64 sn, .int .i64 ne, .int .i64 md, .int .i64 ll, .slice A11_2 m c11_2] #[.int .i64 sn, .int .i64 ne, .int .i64 md, .int .i64 ll, .slice A11_2 m c11_2] G_314 rfl rfl (by kernel_rfl) rfl (of_decide_eq_true rfl) rfl ?_
            intro w_319 G_321 hU_320
            replace G_4 := hU_320.blk G_4 (by omega)
            replace G_11 := hU_320.blk G_11 (by omega)
            replace G_306 := hU_320.blk G_306 (by omega)
            replace hr := RdB.upd hr G_314 hU_320 (by rfl)
            replace R11_2 := RdB.upd R11_2 G_314 hU_320 (by rfl)
            replace hB := hU_320.below hB (by omega)
            clear G_314 hU_320
            go_wp2_with (first | (with_reducible refine stop_store ?_) | (with_reducible refine stop_box ?_) | (with_reducible refine stop_alloc ?_) | (with_reducible refine stop_bslice ?_) | ((with_reducible refine wpList_ld 0 [.int .i64 role, .int .u64 (W64 key), .int .u64 (W64 salt), .bool txon, .bool rxon, .int .u64 (W64 tx), .int .u64 (W64 rx)] G_4 ?_ ?_ Try.underlying40 ?_ ?_ ?_); rfl; rfl; rfl; kernel_rfl) | ((with_reducible refine wpList_ld 0 [.int .i64 1, .int .i64 0, .int .i64 1, .int .i64 ll, .slice A pay.length c] G_306 ?_ ?_ Try.underlying49 ?_ ?_ ?_); rfl; rfl; rfl; kernel_rfl))
            refine (rep_seal ⟨role, key, salt, txon, rxon, tx, rx⟩ 1 0 1 sn ne md ll pay A c _ hr HC.out HK.out (by have hh := kc_20.out; omega) rfl sp m HSP.out HM.out).mono ?_; rintro e w_324 ⟨A12_2, c12_2, rfl, R12_2, q12_2, hb_325⟩
            replace G_4 := G_4.to hb_325 G_4.lt
            replace G_11 := G_11.to hb_325 G_11.lt
            replace G_306 := G_306.to hb_325 G_306.lt
            replace G_321 := G_321.to hb_325 G_321.lt
            replace hr := Rd.to hr hb_325
            replace R11_2 := Rd.to R11_2 hb_325
            replace hB := hB.trans (hb_325.mono hB.size)
            clear hb_325
            go_wp2_with (first | (with_reducible refine stop_store ?_) | (with_reducible refine stop_box ?_) | (with_reducible refine stop_alloc ?_) | (with_reducible refine stop_bslice ?_))
            unfold Kept
            refine go_mem (ty := 49) (cs := #[.int .i64 0, .int .i64 0, .int .i64 0, .int .i64 0, .slice none 0 0]) (fun g => .pointer (some ⟨g, 0, none⟩)) rfl (by kernel_rfl) ?_
            intro g_326 w_327 z_331 l_330 hb_328 G_329
            have n_332 : g_311 < g_326 := Nat.lt_of_lt_of_le G_321.lt l_330
            have n_333 : w.heap.size ≤ g_326 := Nat.le_trans hB.size l_330
            replace G_4 := G_4.to hb_328 G_4.lt
            replace G_11 := G_11.to hb_328 G_11.lt
            replace G_306 := G_306.to hb_328 G_306.lt
            replace G_321 := G_321.to hb_328 G_321.lt
            replace hr := Rd.to hr hb_328
            replace R11_2 := Rd.to R11_2 hb_328
            replace R12_2 := Rd.to R12_2 hb_328
            replace hB := hB.trans (hb_328.mono hB.size)
            clear hb_328 l_330 z_331
            go_wp2_with (first | (with_reducible refine stop_store ?_) | (with_reducible refine stop_box ?_) | (with_reducible refine stop_alloc ?_) | (with_reducible refine stop_bslice ?_))
            unfold Kept
            refine wpList_st 0 #[.int .i64 1, .int .i64 0, .int .i64 1, .int .i64 ll, .slice A12_2 m c12_2] #[.int .i64 1, .int .i64 0, .int .i64 1, .int .i64 ll, .slice A12_2 m c12_2] G_329 rfl rfl (by kernel_rfl) rfl (of_decide_eq_true rfl) rfl ?_
            intro w_334 G_336 hU_335
            replace G_4 := hU_335.blk G_4 (by omega)
            replace G_11 := hU_335.blk G_11 (by omega)
            replace G_306 := hU_335.blk G_306 (by omega)
            replace G_321 := hU_335.blk G_321 (by omega)
            replace hr := RdB.upd hr G_329 hU_335 (by rfl)
            replace R11_2 := RdB.upd R11_2 G_329 hU_335 (by rfl)
            replace R12_2 := RdB.upd R12_2 G_329 hU_335 (by rfl)
            replace hB := hU_335.below hB (by omega)
            clear G_329 hU_335
            go_wp2_with (first | (with_reducible refine stop_store ?_) | (with_reducible refine stop_box ?_) | (with_reducible refine stop_alloc ?_) | (with_reducible refine stop_bslice ?_) | ((with_reducible refine wpList_ld 3 [.int .i64 ll, .slice A11_2 m c11_2] G_321 ?_ ?_ Try.underlying47 ?_ ?_ ?_); rfl; rfl; rfl; kernel_rfl) | ((with_reducible refine wpList_ldg 3 [.int .i64 ll, .slice A11_2 m c11_2] G_321 ?_ ?_ Try.underlying47 ?_ ?_ ?_ ?_); rfl; rfl; rfl; kernel_rfl; rfl) | ((with_reducible refine wpList_ld 3 [.int .i64 ll, .slice A12_2 m c12_2] G_336 ?_ ?_ Try.underlying47 ?_ ?_ ?_); rfl; rfl; rfl; kernel_rfl) | ((with_reducible refine wpList_ldg 3 [.int .i64 ll, .slice A12_2 m c12_2] G_336 ?_ ?_ Try.underlying47 ?_ ?_ ?_ ?_); rfl; rfl; rfl; kernel_rfl; rfl))
            refine (CM.out _ _ _ _ _ R11_2 R12_2).mono ?_; rintro e w_339 ⟨rfl, hb_340⟩
            replace G_4 := G_4.to hb_340 G_4.lt
            replace G_11 := G_11.to hb_340 G_11.lt
            replace G_306 := G_306.to hb_340 G_306.lt
            replace G_321 := G_321.to hb_340 G_321.lt
            replace G_336 := G_336.to hb_340 G_336.lt
            replace hr := Rd.to hr hb_340
            replace R11_2 := Rd.to R11_2 hb_340
            replace R12_2 := Rd.to R12_2 hb_340
            replace hB := hB.trans (hb_340.mono hB.size)
            clear hb_340
            have ld_341 : w_339.cell? ⟨g_311, 0, none⟩ = some (.int .i64 sn) := G_321.cell 0
            have ld_342 : w_339.cell? ⟨g_8, 0, none⟩ = some (.int .i64 sn) := G_11.cell 0
            have ld_343 : w_339.cell? ⟨g_311, 1, none⟩ = some (.int .i64 ne) := G_321.cell 1
            have ld_344 : w_339.cell? ⟨g_8, 1, none⟩ = some (.int .i64 ne) := G_11.cell 1
            have ld_345 : w_339.cell? ⟨g_311, 2, none⟩ = some (.int .i64 md) := G_321.cell 2
            have ld_346 : w_339.cell? ⟨g_8, 2, none⟩ = some (.int .i64 md) := G_11.cell 2
            have ld_347 : w_339.cell? ⟨g_326, 0, none⟩ = some (.int .i64 1) := G_336.cell 0
            have ld_348 : w_339.cell? ⟨g_26, 0, none⟩ = some (.int .i64 1) := G_306.cell 0
            have ld_349 : w_339.cell? ⟨g_326, 1, none⟩ = some (.int .i64 0) := G_336.cell 1
            have ld_350 : w_339.cell? ⟨g_26, 1, none⟩ = some (.int .i64 0) := G_306.cell 1
            have ld_351 : w_339.cell? ⟨g_326, 2, none⟩ = some (.int .i64 1) := G_336.cell 2
            have ld_352 : w_339.cell? ⟨g_26, 2, none⟩ = some (.int .i64 1) := G_306.cell 2
            go_wp2_with (first | (with_reducible refine stop_store ?_) | (with_reducible refine stop_box ?_) | (with_reducible refine stop_alloc ?_) | (with_reducible refine stop_bslice ?_))
            refine (ex29 _).mono ?_; rintro e w_353 ⟨rfl, hb_354⟩
            clear ld_341 ld_342 ld_343 ld_344 ld_345 ld_346 ld_347 ld_348 ld_349 ld_350 ld_351 ld_352
            replace G_4 := G_4.to hb_354 G_4.lt
            replace G_11 := G_11.to hb_354 G_11.lt
            replace G_306 := G_306.to hb_354 G_306.lt
            replace G_321 := G_321.to hb_354 G_321.lt
            replace G_336 := G_336.to hb_354 G_336.lt
            replace hr := Rd.to hr hb_354
            replace R11_2 := Rd.to R11_2 hb_354
            replace R12_2 := Rd.to R12_2 hb_354
            replace hB := hB.trans (hb_354.mono hB.size)
            clear hb_354
            go_wp2_with (first | (with_reducible refine stop_store ?_) | (with_reducible refine stop_box ?_) | (with_reducible refine stop_alloc ?_) | (with_reducible refine stop_bslice ?_))
            go_returns
            exact ⟨rfl, hB⟩
        case true =>
          skip
          go_wp2_with (first | (with_reducible refine stop_store ?_) | (with_reducible refine stop_box ?_) | (with_reducible refine stop_alloc ?_) | (with_reducible refine stop_bslice ?_))
          unfold Kept
          refine wpList_st1 1 (.int .i64 1) #[.int .i64 1, .int .i64 1, .int .i64 0, .int .i64 ll, .slice A pay.length c] G_253 rfl rfl rfl (by kernel_rfl) rfl (of_decide_eq_true rfl) rfl ?_
          intro w_355 G_357 hU_356
          replace G_4 := hU_356.blk G_4 (by omega)
          replace G_11 := hU_356.blk G_11 (by omega)
          replace hr := RdB.upd hr G_253 hU_356 (by rfl)
          replace hB := hU_356.below hB (by omega)
          clear G_253 hU_356
          cases z
          case false =>
            skip
            go_wp2_with (first | (with_reducible refine stop_store ?_) | (with_reducible refine stop_box ?_) | (with_reducible refine stop_alloc ?_) | (with_reducible refine stop_bslice ?_) | ((with_reducible refine wpList_ld 0 [.int .i64 role, .int .u64 (W64 key), .int .u64 (W64 salt), .bool txon, .bool rxon, .int .u64 (W64 tx), .int .u64 (W64 rx)] G_4 ?_ ?_ Try.underlying40 ?_ ?_ ?_); rfl; rfl; rfl; kernel_rfl) | ((with_reducible refine wpList_ld 0 [.int .i64 sn, .int .i64 ne, .int .i64 md, .int .i64 ll, .slice A pay.length c] G_11 ?_ ?_ Try.underlying49 ?_ ?_ ?_); rfl; rfl; rfl; kernel_rfl))
            refine (rep_seal ⟨role, key, salt, txon, rxon, tx, rx⟩ sn ne md sn ne md ll pay A c _ hr HC.out HK.out (by have hh := kc_20.out; omega) (checkS_bits HK.out).1 sp m HSP.out HM.out).mono ?_; rintro e w_361 ⟨A11_2, c11_2, rfl, R11_2, q11_2, hb_362⟩
            replace G_4 := G_4.to hb_362 G_4.lt
            replace G_11 := G_11.to hb_362 G_11.lt
            replace G_357 := G_357.to hb_362 G_357.lt
            replace hr := Rd.to hr hb_362
            replace hB := hB.trans (hb_362.mono hB.size)
            clear hb_362
            go_wp2_with (first | (with_reducible refine stop_store ?_) | (with_reducible refine stop_box ?_) | (with_reducible refine stop_alloc ?_) | (with_reducible refine stop_bslice ?_))
            unfold Kept
            refine go_mem (ty := 49) (cs := #[.int .i64 0, .int .i64 0, .int .i64 0, .int .i64 0, .slice none 0 0]) (fun g => .pointer (some ⟨g, 0, none⟩)) rfl (by kernel_rfl) ?_
            intro g_363 w_364 z_368 l_367 hb_365 G_366
            have n_369 : g_26 < g_363 := Nat.lt_of_lt_of_le G_357.lt l_367
            have n_370 : w.heap.size ≤ g_363 := Nat.le_trans hB.size l_367
            replace G_4 := G_4.to hb_365 G_4.lt
            replace G_11 := G_11.to hb_365 G_11.lt
            replace G_357 := G_357.to hb_365 G_357.lt
            replace hr := Rd.to hr hb_365
            replace R11_2 := Rd.to R11_2 hb_365
            replace hB := hB.trans (hb_365.mono hB.size)
            clear hb_365 l_367 z_368
            go_wp2_with (first | (with_reducible refine stop_store ?_) | (with_reducible refine stop_box ?_) | (with_reducible refine stop_alloc ?_) | (with_reducible refine stop_bslice ?_))
            unfold Kept
            refine wpList_st 0 #[.int .i64 sn, .int .i64 ne, .int .i64 md, .int .i64 ll, .slice A11_2 m c11_2] #[.int .i64 sn, .int .i64 ne, .int .i64 md, .int .i64 ll, .slice A11_2 m c11_2] G_366 rfl rfl (by kernel_rfl) rfl (of_decide_eq_true rfl) rfl ?_
            intro w_371 G_373 hU_372
            replace G_4 := hU_372.blk G_4 (by omega)
            replace G_11 := hU_372.blk G_11 (by omega)
            replace G_357 := hU_372.blk G_357 (by omega)
            replace hr := RdB.upd hr G_366 hU_372 (by rfl)
            replace R11_2 := RdB.upd R11_2 G_366 hU_372 (by rfl)
            replace hB := hU_372.below hB (by omega)
            clear G_366 hU_372
            go_wp2_with (first | (with_reducible refine stop_store ?_) | (with_reducible refine stop_box ?_) | (with_reducible refine stop_alloc ?_) | (with_reducible refine stop_bslice ?_) | ((with_reducible refine wpList_ld 0 [.int .i64 role, .int .u64 (W64 key), .int .u64 (W64 salt), .bool txon, .bool rxon, .int .u64 (W64 tx), .int .u64 (W64 rx)] G_4 ?_ ?_ Try.underlying40 ?_ ?_ ?_); rfl; rfl; rfl; kernel_rfl) | ((with_reducible refine wpList_ld 0 [.int .i64 1, .int .i64 1, .int .i64 0, .int .i64 ll, .slice A pay.length c] G_357 ?_ ?_ Try.underlying49 ?_ ?_ ?_); rfl; rfl; rfl; kernel_rfl))
            refine (rep_seal ⟨role, key, salt, txon, rxon, tx, rx⟩ 1 1 0 sn ne md ll pay A c _ hr HC.out HK.out (by have hh := kc_20.out; omega) rfl sp m HSP.out HM.out).mono ?_; rintro e w_376 ⟨A12_2, c12_2, rfl, R12_2, q12_2, hb_377⟩
            replace G_4 := G_4.to hb_377 G_4.lt
            replace G_11 := G_11.to hb_377 G_11.lt
            replace G_357 := G_357.to hb_377 G_357.lt
            replace G_373 := G_373.to hb_377 G_373.lt
            replace hr := Rd.to hr hb_377
            replace R11_2 := Rd.to R11_2 hb_377
            replace hB := hB.trans (hb_377.mono hB.size)
            clear hb_377
            go_wp2_with (first | (with_reducible refine stop_store ?_) | (with_reducible refine stop_box ?_) | (with_reducible refine stop_alloc ?_) | (with_reducible refine stop_bslice ?_))
            unfold Kept
            refine go_mem (ty := 49) (cs := #[.int .i64 0, .int .i64 0, .int .i64 0, .int .i64 0, .slice none 0 0]) (fun g => .pointer (some ⟨g, 0, none⟩)) rfl (by kernel_rfl) ?_
            intro g_378 w_379 z_383 l_382 hb_380 G_381
            have n_384 : g_363 < g_378 := Nat.lt_of_lt_of_le G_373.lt l_382
            have n_385 : w.heap.size ≤ g_378 := Nat.le_trans hB.size l_382
            replace G_4 := G_4.to hb_380 G_4.lt
            replace G_11 := G_11.to hb_380 G_11.lt
            replace G_357 := G_357.to hb_380 G_357.lt
            replace G_373 := G_373.to hb_380 G_373.lt
            replace hr := Rd.to hr hb_380
            replace R11_2 := Rd.to R11_2 hb_380
            replace R12_2 := Rd.to R12_2 hb_380
            replace hB := hB.trans (hb_380.mono hB.size)
            clear hb_380 l_382 z_383
            go_wp2_with (first | (with_reducible refine stop_store ?_) | (with_reducible refine stop_box ?_) | (with_reducible refine stop_alloc ?_) | (with_reducible refine stop_bslice ?_))
            unfold Kept
            refine wpList_st 0 #[.int .i64 1, .int .i64 1, .int .i64 0, .int .i64 ll, .slice A12_2 m c12_2] #[.int .i64 1, .int .i64 1, .int .i64 0, .int .i64 ll, .slice A12_2 m c12_2] G_381 rfl rfl (by kernel_rfl) rfl (of_decide_eq_true rfl) rfl ?_
            intro w_386 G_388 hU_387
            replace G_4 := hU_387.blk G_4 (by omega)
            replace G_11 := hU_387.blk G_11 (by omega)
            replace G_357 := hU_387.blk G_357 (by omega)
            replace G_373 := hU_387.blk G_373 (by omega)
            replace hr := RdB.upd hr G_381 hU_387 (by rfl)
            replace R11_2 := RdB.upd R11_2 G_381 hU_387 (by rfl)
            replace R12_2 := RdB.upd R12_2 G_381 hU_387 (by rfl)
            replace hB := hU_387.below hB (by omega)
            clear G_381 hU_387
            go_wp2_with (first | (with_reducible refine stop_store ?_) | (with_reducible refine stop_box ?_) | (with_reducible refine stop_alloc ?_) | (with_reducible refine stop_bslice ?_) | ((with_reducible refine wpList_ld 3 [.int .i64 ll, .slice A11_2 m c11_2] G_373 ?_ ?_ Try.underlying47 ?_ ?_ ?_); rfl; rfl; rfl; kernel_rfl) | ((with_reducible refine wpList_ldg 3 [.int .i64 ll, .slice A11_2 m c11_2] G_373 ?_ ?_ Try.underlying47 ?_ ?_ ?_ ?_); rfl; rfl; rfl; kernel_rfl; rfl) | ((with_reducible refine wpList_ld 3 [.int .i64 ll, .slice A12_2 m c12_2] G_388 ?_ ?_ Try.underlying47 ?_ ?_ ?_); rfl; rfl; rfl; kernel_rfl) | ((with_reducible refine wpList_ldg 3 [.int .i64 ll, .slice A12_2 m c12_2] G_388 ?_ ?_ Try.underlying47 ?_ ?_ ?_ ?_); rfl; rfl; rfl; kernel_rfl; rfl))
            refine (CM.out _ _ _ _ _ R11_2 R12_2).mono ?_; rintro e w_391 ⟨rfl, hb_392⟩
            replace G_4 := G_4.to hb_392 G_4.lt
            replace G_11 := G_11.to hb_392 G_11.lt
            replace G_357 := G_357.to hb_392 G_357.lt
            replace G_373 := G_373.to hb_392 G_373.lt
            replace G_388 := G_388.to hb_392 G_388.lt
            replace hr := Rd.to hr hb_392
            replace R11_2 := Rd.to R11_2 hb_392
            replace R12_2 := Rd.to R12_2 hb_392
            replace hB := hB.trans (hb_392.mono hB.size)
            clear hb_392
            have ld_393 : w_391.cell? ⟨g_363, 0, none⟩ = some (.int .i64 sn) := G_373.cell 0
            have ld_394 : w_391.cell? ⟨g_8, 0, none⟩ = some (.int .i64 sn) := G_11.cell 0
            have ld_395 : w_391.cell? ⟨g_363, 1, none⟩ = some (.int .i64 ne) := G_373.cell 1
            have ld_396 : w_391.cell? ⟨g_8, 1, none⟩ = some (.int .i64 ne) := G_11.cell 1
            have ld_397 : w_391.cell? ⟨g_363, 2, none⟩ = some (.int .i64 md) := G_373.cell 2
            have ld_398 : w_391.cell? ⟨g_8, 2, none⟩ = some (.int .i64 md) := G_11.cell 2
            have ld_399 : w_391.cell? ⟨g_378, 0, none⟩ = some (.int .i64 1) := G_388.cell 0
            have ld_400 : w_391.cell? ⟨g_26, 0, none⟩ = some (.int .i64 1) := G_357.cell 0
            have ld_401 : w_391.cell? ⟨g_378, 1, none⟩ = some (.int .i64 1) := G_388.cell 1
            have ld_402 : w_391.cell? ⟨g_26, 1, none⟩ = some (.int .i64 1) := G_357.cell 1
            have ld_403 : w_391.cell? ⟨g_378, 2, none⟩ = some (.int .i64 0) := G_388.cell 2
            have ld_404 : w_391.cell? ⟨g_26, 2, none⟩ = some (.int .i64 0) := G_357.cell 2
            go_wp2_with (first | (with_reducible refine stop_store ?_) | (with_reducible refine stop_box ?_) | (with_reducible refine stop_alloc ?_) | (with_reducible refine stop_bslice ?_))
            refine (ex29 _).mono ?_; rintro e w_405 ⟨rfl, hb_406⟩
            clear ld_393 ld_394 ld_395 ld_396 ld_397 ld_398 ld_399 ld_400 ld_401 ld_402 ld_403 ld_404
            replace G_4 := G_4.to hb_406 G_4.lt
            replace G_11 := G_11.to hb_406 G_11.lt
            replace G_357 := G_357.to hb_406 G_357.lt
            replace G_373 := G_373.to hb_406 G_373.lt
            replace G_388 := G_388.to hb_406 G_388.lt
            replace hr := Rd.to hr hb_406
            replace R11_2 := Rd.to R11_2 hb_406
            replace R12_2 := Rd.to R12_2 hb_406
            replace hB := hB.trans (hb_406.mono hB.size)
            clear hb_406
            go_wp2_with (first | (with_reducible refine stop_store ?_) | (with_reducible refine stop_box ?_) | (with_reducible refine stop_alloc ?_) | (with_reducible refine stop_bslice ?_))
            go_returns
            exact ⟨rfl, hB⟩
          case true =>
            skip
            go_wp2_with (first | (with_reducible refine stop_store ?_) | (with_reducible refine stop_box ?_) | (with_reducible refine stop_alloc ?_) | (with_reducible refine stop_bslice ?_))
            unfold Kept
            refine wpList_st1 2 (.int .i64 1) #[.int .i64 1, .int .i64 1, .int .i64 1, .int .i64 ll, .slice A pay.length c] G_357 rfl rfl rfl (by kernel_rfl) rfl (of_decide_eq_true rfl) rfl ?_
            intro w_407 G_409 hU_408
            replace G_4 := hU_408.blk G_4 (by omega)
            replace G_11 := hU_408.blk G_11 (by omega)
            replace hr := RdB.upd hr G_357 hU_408 (by rfl)
            replace hB := hU_408.below hB (by omega)
            clear G_357 hU_408
            go_wp2_with (first | (with_reducible refine stop_store ?_) | (with_reducible refine stop_box ?_) | (with_reducible refine stop_alloc ?_) | (with_reducible refine stop_bslice ?_) | ((with_reducible refine wpList_ld 0 [.int .i64 role, .int .u64 (W64 key), .int .u64 (W64 salt), .bool txon, .bool rxon, .int .u64 (W64 tx), .int .u64 (W64 rx)] G_4 ?_ ?_ Try.underlying40 ?_ ?_ ?_); rfl; rfl; rfl; kernel_rfl) | ((with_reducible refine wpList_ld 0 [.int .i64 sn, .int .i64 ne, .int .i64 md, .int .i64 ll, .slice A pay.length c] G_11 ?_ ?_ Try.underlying49 ?_ ?_ ?_); rfl; rfl; rfl; kernel_rfl))
            refine (rep_seal ⟨role, key, salt, txon, rxon, tx, rx⟩ sn ne md sn ne md ll pay A c _ hr HC.out HK.out (by have hh := kc_20.out; omega) (checkS_bits HK.out).1 sp m HSP.out HM.out).mono ?_; rintro e w_412 ⟨A11_2, c11_2, rfl, R11_2, q11_2, hb_413⟩
            replace G_4 := G_4.to hb_413 G_4.lt
            replace G_11 := G_11.to hb_413 G_11.lt
            replace G_409 := G_409.to hb_413 G_409.lt
            replace hr := Rd.to hr hb_413
            replace hB := hB.trans (hb_413.mono hB.size)
            clear hb_413
            go_wp2_with (first | (with_reducible refine stop_store ?_) | (with_reducible refine stop_box ?_) | (with_reducible refine stop_alloc ?_) | (with_reducible refine stop_bslice ?_))
            unfold Kept
            refine go_mem (ty := 49) (cs := #[.int .i64 0, .int .i64 0, .int .i64 0, .int .i64 0, .slice none 0 0]) (fun g => .pointer (some ⟨g, 0, none⟩)) rfl (by kernel_rfl) ?_
            intro g_414 w_415 z_419 l_418 hb_416 G_417
            have n_420 : g_26 < g_414 := Nat.lt_of_lt_of_le G_409.lt l_418
            have n_421 : w.heap.size ≤ g_414 := Nat.le_trans hB.size l_418
            replace G_4 := G_4.to hb_416 G_4.lt
            replace G_11 := G_11.to hb_416 G_11.lt
            replace G_409 := G_409.to hb_416 G_409.lt
            replace hr := Rd.to hr hb_416
            replace R11_2 := Rd.to R11_2 hb_416
            replace hB := hB.trans (hb_416.mono hB.size)
            clear hb_416 l_418 z_419
            go_wp2_with (first | (with_reducible refine stop_store ?_) | (with_reducible refine stop_box ?_) | (with_reducible refine stop_alloc ?_) | (with_reducible refine stop_bslice ?_))
            unfold Kept
            refine wpList_st 0 #[.int .i64 sn, .int .i64 ne, .int .i64 md, .int .i64 ll, .slice A11_2 m c11_2] #[.int .i64 sn, .int .i64 ne, .int .i64 md, .int .i64 ll, .slice A11_2 m c11_2] G_417 rfl rfl (by kernel_rfl) rfl (of_decide_eq_true rfl) rfl ?_
            intro w_422 G_424 hU_423
            replace G_4 := hU_423.blk G_4 (by omega)
            replace G_11 := hU_423.blk G_11 (by omega)
            replace G_409 := hU_423.blk G_409 (by omega)
            replace hr := RdB.upd hr G_417 hU_423 (by rfl)
            replace R11_2 := RdB.upd R11_2 G_417 hU_423 (by rfl)
            replace hB := hU_423.below hB (by omega)
            clear G_417 hU_423
            go_wp2_with (first | (with_reducible refine stop_store ?_) | (with_reducible refine stop_box ?_) | (with_reducible refine stop_alloc ?_) | (with_reducible refine stop_bslice ?_) | ((with_reducible refine wpList_ld 0 [.int .i64 role, .int .u64 (W64 key), .int .u64 (W64 salt), .bool txon, .bool rxon, .int .u64 (W64 tx), .int .u64 (W64 rx)] G_4 ?_ ?_ Try.underlying40 ?_ ?_ ?_); rfl; rfl; rfl; kernel_rfl) | ((with_reducible refine wpList_ld 0 [.int .i64 1, .int .i64 1, .int .i64 1, .int .i64 ll, .slice A pay.length c] G_409 ?_ ?_ Try.underlying49 ?_ ?_ ?_); rfl; rfl; rfl; kernel_rfl))
            refine (rep_seal ⟨role, key, salt, txon, rxon, tx, rx⟩ 1 1 1 sn ne md ll pay A c _ hr HC.out HK.out (by have hh := kc_20.out; omega) rfl sp m HSP.out HM.out).mono ?_; rintro e w_427 ⟨A12_2, c12_2, rfl, R12_2, q12_2, hb_428⟩
            replace G_4 := G_4.to hb_428 G_4.lt
            replace G_11 := G_11.to hb_428 G_11.lt
            replace G_409 := G_409.to hb_428 G_409.lt
            replace G_424 := G_424.to hb_428 G_424.lt
            replace hr := Rd.to hr hb_428
            replace R11_2 := Rd.to R11_2 hb_428
            replace hB := hB.trans (hb_428.mono hB.size)
            clear hb_428
            go_wp2_with (first | (with_reducible refine stop_store ?_) | (with_reducible refine stop_box ?_) | (with_reducible refine stop_alloc ?_) | (with_reducible refine stop_bslice ?_))
            unfold Kept
            refine go_mem (ty := 49) (cs := #[.int .i64 0, .int .i64 0, .int .i64 0, .int .i64 0, .slice none 0 0]) (fun g => .pointer (some ⟨g, 0, none⟩)) rfl (by kernel_rfl) ?_
            intro g_429 w_430 z_434 l_433 hb_431 G_432
            have n_435 : g_414 < g_429 := Nat.lt_of_lt_of_le G_424.lt l_433
            have n_436 : w.heap.size ≤ g_429 := Nat.le_trans hB.size l_433
            replace G_4 := G_4.to hb_431 G_4.lt
            replace G_11 := G_11.to hb_431 G_11.lt
            replace G_409 := G_409.to hb_431 G_409.lt
            replace G_424 := G_424.to hb_431 G_424.lt
            replace hr := Rd.to hr hb_431
            replace R11_2 := Rd.to R11_2 hb_431
            replace R12_2 := Rd.to R12_2 hb_431
            replace hB := hB.trans (hb_431.mono hB.size)
            clear hb_431 l_433 z_434
            go_wp2_with (first | (with_reducible refine stop_store ?_) | (with_reducible refine stop_box ?_) | (with_reducible refine stop_alloc ?_) | (with_reducible refine stop_bslice ?_))
            unfold Kept
            refine wpList_st 0 #[.int .i64 1, .int .i64 1, .int .i64 1, .int .i64 ll, .slice A12_2 m c12_2] #[.int .i64 1, .int .i64 1, .int .i64 1, .int .i64 ll, .slice A12_2 m c12_2] G_432 rfl rfl (by kernel_rfl) rfl (of_decide_eq_true rfl) rfl ?_
            intro w_437 G_439 hU_438
            replace G_4 := hU_438.blk G_4 (by omega)
            replace G_11 := hU_438.blk G_11 (by omega)
            replace G_409 := hU_438.blk G_409 (by omega)
            replace G_424 := hU_438.blk G_424 (by omega)
            replace hr := RdB.upd hr G_432 hU_438 (by rfl)
            replace R11_2 := RdB.upd R11_2 G_432 hU_438 (by rfl)
            replace R12_2 := RdB.upd R12_2 G_432 hU_438 (by rfl)
            replace hB := hU_438.below hB (by omega)
            clear G_432 hU_438
            go_wp2_with (first | (with_reducible refine stop_store ?_) | (with_reducible refine stop_box ?_) | (with_reducible refine stop_alloc ?_) | (with_reducible refine stop_bslice ?_) | ((with_reducible refine wpList_ld 3 [.int .i64 ll, .slice A11_2 m c11_2] G_424 ?_ ?_ Try.underlying47 ?_ ?_ ?_); rfl; rfl; rfl; kernel_rfl) | ((with_reducible refine wpList_ldg 3 [.int .i64 ll, .slice A11_2 m c11_2] G_424 ?_ ?_ Try.underlying47 ?_ ?_ ?_ ?_); rfl; rfl; rfl; kernel_rfl; rfl) | ((with_reducible refine wpList_ld 3 [.int .i64 ll, .slice A12_2 m c12_2] G_439 ?_ ?_ Try.underlying47 ?_ ?_ ?_); rfl; rfl; rfl; kernel_rfl) | ((with_reducible refine wpList_ldg 3 [.int .i64 ll, .slice A12_2 m c12_2] G_439 ?_ ?_ Try.underlying47 ?_ ?_ ?_ ?_); rfl; rfl; rfl; kernel_rfl; rfl))
            refine (CM.out _ _ _ _ _ R11_2 R12_2).mono ?_; rintro e w_442 ⟨rfl, hb_443⟩
            replace G_4 := G_4.to hb_443 G_4.lt
            replace G_11 := G_11.to hb_443 G_11.lt
            replace G_409 := G_409.to hb_443 G_409.lt
            replace G_424 := G_424.to hb_443 G_424.lt
            replace G_439 := G_439.to hb_443 G_439.lt
            replace hr := Rd.to hr hb_443
            replace R11_2 := Rd.to R11_2 hb_443
            replace R12_2 := Rd.to R12_2 hb_443
            replace hB := hB.trans (hb_443.mono hB.size)
            clear hb_443
            have ld_444 : w_442.cell? ⟨g_414, 0, none⟩ = some (.int .i64 sn) := G_424.cell 0
            have ld_445 : w_442.cell? ⟨g_8, 0, none⟩ = some (.int .i64 sn) := G_11.cell 0
            have ld_446 : w_442.cell? ⟨g_414, 1, none⟩ = some (.int .i64 ne) := G_424.cell 1
            have ld_447 : w_442.cell? ⟨g_8, 1, none⟩ = some (.int .i64 ne) := G_11.cell 1
            have ld_448 : w_442.cell? ⟨g_414, 2, none⟩ = some (.int .i64 md) := G_424.cell 2
            have ld_449 : w_442.cell? ⟨g_8, 2, none⟩ = some (.int .i64 md) := G_11.cell 2
            have ld_450 : w_442.cell? ⟨g_429, 0, none⟩ = some (.int .i64 1) := G_439.cell 0
            have ld_451 : w_442.cell? ⟨g_26, 0, none⟩ = some (.int .i64 1) := G_409.cell 0
            have ld_452 : w_442.cell? ⟨g_429, 1, none⟩ = some (.int .i64 1) := G_439.cell 1
            have ld_453 : w_442.cell? ⟨g_26, 1, none⟩ = some (.int .i64 1) := G_409.cell 1
            have ld_454 : w_442.cell? ⟨g_429, 2, none⟩ = some (.int .i64 1) := G_439.cell 2
            have ld_455 : w_442.cell? ⟨g_26, 2, none⟩ = some (.int .i64 1) := G_409.cell 2
            go_wp2_with (first | (with_reducible refine stop_store ?_) | (with_reducible refine stop_box ?_) | (with_reducible refine stop_alloc ?_) | (with_reducible refine stop_bslice ?_))
            refine (ex29 _).mono ?_; rintro e w_456 ⟨rfl, hb_457⟩
            clear ld_444 ld_445 ld_446 ld_447 ld_448 ld_449 ld_450 ld_451 ld_452 ld_453 ld_454 ld_455
            replace G_4 := G_4.to hb_457 G_4.lt
            replace G_11 := G_11.to hb_457 G_11.lt
            replace G_409 := G_409.to hb_457 G_409.lt
            replace G_424 := G_424.to hb_457 G_424.lt
            replace G_439 := G_439.to hb_457 G_439.lt
            replace hr := Rd.to hr hb_457
            replace R11_2 := Rd.to R11_2 hb_457
            replace R12_2 := Rd.to R12_2 hb_457
            replace hB := hB.trans (hb_457.mono hB.size)
            clear hb_457
            go_wp2_with (first | (with_reducible refine stop_store ?_) | (with_reducible refine stop_box ?_) | (with_reducible refine stop_alloc ?_) | (with_reducible refine stop_bslice ?_))
            go_returns
            exact ⟨rfl, hB⟩
  ·
    have ec_19 : ((ck : Int) == 0) = false := by simpa using hc_19
    have ec_19n : ((ck : Int) != 0) = true := by simpa using hc_19
    have kc_19 := Lib.hid hc_19
    clear hc_19
    go_wp2_with (first | (with_reducible refine stop_store ?_) | (with_reducible refine stop_box ?_) | (with_reducible refine stop_alloc ?_) | (with_reducible refine stop_bslice ?_))
    refine (ex29 _).mono ?_; rintro e w_458 ⟨rfl, hb_459⟩
    replace G_4 := G_4.to hb_459 G_4.lt
    replace G_11 := G_11.to hb_459 G_11.lt
    replace hr := Rd.to hr hb_459
    replace hB := hB.trans (hb_459.mono hB.size)
    clear hb_459
    go_wp2_with (first | (with_reducible refine stop_store ?_) | (with_reducible refine stop_box ?_) | (with_reducible refine stop_alloc ?_) | (with_reducible refine stop_bslice ?_))
    go_returns
    exact ⟨rfl, hB⟩
end Go.Proofs.Ytmehemojopfihaa
