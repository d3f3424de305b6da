/- The walk of EncryptBack. -/
import Derived.Test.YtmehemojopfihaaEncX
import Derived.Test.YtmehemojopfihaaEncF
import Derived.Test.YtmehemojopfihaaEncP
import Derived.Test.YtmehemojopfihaaRecs
namespace Go.Proofs.Ytmehemojopfihaa
set_option maxRecDepth 100000
open Go.ChangeShapes Go.WideShapes Go.ChangeAt Go.RowKit
set_option linter.unusedVariables false
set_option linter.unusedSimpArgs false

theorem back_seal (s : Ses) (sn ne md ll : Int) (pay : List (BitVec 8)) (A : Option Addr) (c : Nat) (W : World) (hr : RdB W A pay) (hc : pay.length ≤ c) (hk : checkS ⟨sn, ne, md, ll, pay⟩ = 0) (hl : ¬ (251 : Int) < ((pay.length : Nat) : Int)) (sp : List (BitVec 8)) (m : Nat) (hs : sealPay s ll pay = sp) (hm : sp.length = m) :
    Calls Try.prog 32 #[.agg (seA s), .agg #[.int .i64 sn, .int .i64 ne, .int .i64 md, .int .i64 ll, .slice A pay.length c]] W fun e w' => ∃ A' c', e = .returned (.tuple #[.agg #[.int .i64 sn, .int .i64 ne, .int .i64 md, .int .i64 ll, .slice A' m c'], .int .i64 0]) ∧ RdB w' A' sp ∧ m ≤ c' ∧ Below W.heap.size W w' :=
  rep_seal s sn ne md sn ne md ll pay A c W hr hc hk hl (checkS_bits hk).1 sp m hs hm
theorem back_open (s s' : Ses) (sn ne md ll : Int) (pay : List (BitVec 8)) (A : Option Addr) (c : Nat) (W : World) (sp : List (BitVec 8)) (m : Nat) (hs : sealPay s ll pay = sp) (hm : sp.length = m) (hr : RdB W A sp) (hc : m ≤ c) (hk : checkS ⟨sn, ne, md, ll, pay⟩ = 0) (hl : ¬ (251 : Int) < ((pay.length : Nat) : Int))
    (h1 : s'.key = s.key) (h2 : s'.salt = s.salt) (h3 : s'.rx = s.tx) (h4 : gotD s'.role = sentD s.role) (h5 : s.txOn = true) (h6 : s'.rxOn = true) :
    Calls Try.prog 50 #[.agg (seA s'), .agg #[.int .i64 sn, .int .i64 ne, .int .i64 md, .int .i64 ll, .slice A m c]] W fun e w' => ∃ A' c', e = .returned (.tuple #[.agg #[.int .i64 sn, .int .i64 ne, .int .i64 md, .int .i64 ll, .slice A' pay.length c'], .int .i64 0]) ∧ RdB w' A' pay ∧ pay.length ≤ c' ∧ Below W.heap.size W w' := by
  have hb : sp.length ≤ pay.length + 4 := by
    rw [← hs]; unfold sealPay; split
    · omega
    · rw [sealB_length]; exact Nat.le_refl _
  have := enc_Open s' ⟨sn, ne, md, ll, sp⟩ A c W hr (by dsimp only; omega) (by dsimp only; omega)
  have e := open_seal_pdu s s' ⟨sn, ne, md, ll, pay⟩ h1 h2 h3 h4 h5 h6 hk (by dsimp only; omega)
  dsimp only at e
  rw [hs] at e
  rw [e] at this
  unfold RetP pduA at this
  dsimp only at this
  rw [hm] at this
  exact this
set_option maxHeartbeats 16000000 in
theorem law_EncryptBack_s (key h0 h1 : BitVec 64) (A : Option Addr) (c : Nat) (pk : List R_sent) (w : World) (hr : Rd w A (pk.flatMap R_sent.cells)) (hok : ∀ r ∈ pk, r.ok w) (hc : pk.length ≤ c) (hl : pk.length ≤ 40) :
    Calls Try.prog 12 #[.agg #[.int .u64 (W64 key), .int .u64 (W64 h0), .int .u64 (W64 h1), .slice A pk.length c]] w fun e w' => e = .returned (.bool true) ∧ Below w.heap.size w w' := by
  obtain ⟨d, hd⟩ : ∃ d, derive key (lbytes lblSession) [h0, h1] = d := ⟨_, rfl⟩
  obtain ⟨x, hx⟩ : ∃ x, h0 ^^^ h1 = x := ⟨_, rfl⟩
  have N0 := Lib.hid (show ∀ W, Calls Try.prog 25 #[.int .i64 0, .int .u64 (W64 key), .int .u64 (W64 h0), .int .u64 (W64 h1)] W fun e w' => e = .returned (.agg #[.int .i64 0, .int .u64 (W64 d), .int .u64 (W64 x), .bool false, .bool false, .int .u64 0, .int .u64 0]) ∧ Below W.heap.size W w' from fun W => by have := enc_New 0 key h0 h1 W; unfold newS at this; rw [hd, hx] at this; exact this)
  have N1 := Lib.hid (show ∀ W, Calls Try.prog 25 #[.int .i64 1, .int .u64 (W64 key), .int .u64 (W64 h0), .int .u64 (W64 h1)] W fun e w' => e = .returned (.agg #[.int .i64 1, .int .u64 (W64 d), .int .u64 (W64 x), .bool false, .bool false, .int .u64 0, .int .u64 0]) ∧ Below W.heap.size W w' from fun W => by have := enc_New 1 key h0 h1 W; unfold newS at this; rw [hd, hx] at this; exact this)
  have T0 := Lib.hid (show ∀ W, Calls Try.prog 27 #[.agg #[.int .i64 0, .int .u64 (W64 d), .int .u64 (W64 x), .bool false, .bool false, .int .u64 0, .int .u64 0], .bool true, .bool true] W fun e w' => e = .returned (.agg #[.int .i64 0, .int .u64 (W64 d), .int .u64 (W64 x), .bool true, .bool true, .int .u64 (W64 (0#64)), .int .u64 (W64 (0#64))]) ∧ Below W.heap.size W w' from fun W => enc_Turn ⟨0, d, x, false, false, 0#64, 0#64⟩ true true W)
  have T1 := Lib.hid (show ∀ W, Calls Try.prog 27 #[.agg #[.int .i64 1, .int .u64 (W64 d), .int .u64 (W64 x), .bool false, .bool false, .int .u64 0, .int .u64 0], .bool true, .bool true] W fun e w' => e = .returned (.agg #[.int .i64 1, .int .u64 (W64 d), .int .u64 (W64 x), .bool true, .bool true, .int .u64 (W64 (0#64)), .int .u64 (W64 (0#64))]) ∧ Below W.heap.size W w' from fun W => enc_Turn ⟨1, d, x, false, false, 0#64, 0#64⟩ true true W)
  have NX := Lib.hid (fun (r : Int) (u v : BitVec 64) (W : World) => show Calls Try.prog 29 #[.agg #[.int .i64 r, .int .u64 (W64 d), .int .u64 (W64 x), .bool true, .bool true, .int .u64 (W64 u), .int .u64 (W64 v)], .bool true, .bool false] W fun e w' => e = .returned (.agg #[.int .i64 r, .int .u64 (W64 d), .int .u64 (W64 x), .bool true, .bool true, .int .u64 (W64 (u + 1#64)), .int .u64 (W64 v)]) ∧ Below W.heap.size W w' from enc_Next ⟨r, d, x, true, true, u, v⟩ true false W)
  have NY := Lib.hid (fun (r : Int) (u v : BitVec 64) (W : World) => show Calls Try.prog 29 #[.agg #[.int .i64 r, .int .u64 (W64 d), .int .u64 (W64 x), .bool true, .bool true, .int .u64 (W64 u), .int .u64 (W64 v)], .bool false, .bool true] W fun e w' => e = .returned (.agg #[.int .i64 r, .int .u64 (W64 d), .int .u64 (W64 x), .bool true, .bool true, .int .u64 (W64 u), .int .u64 (W64 (v + 1#64))]) ∧ Below W.heap.size W w' from enc_Next ⟨r, d, x, true, true, u, v⟩ false true W)
  have HROW := Lib.hid hr
  have HOK := Lib.hid hok
  have HC := Lib.hid hc
  clear hr hok hc hd hx
  have i0 : decide ((40 : Int) < ((pk.length : Nat) : Int)) = false := by simp; omega
  go_enter Try.func12, Try.ntmps12
  go_wp2_with (first | (with_reducible refine stop_store ?_) | (with_reducible refine stop_box ?_) | (with_reducible refine stop_alloc ?_) | (with_reducible refine stop_bslice ?_))
  unfold Kept
  refine go_mem (ty := 81) (cs := #[.int .u64 (W64 key), .int .u64 (W64 h0), .int .u64 (W64 h1), .slice A pk.length c]) (fun g => .pointer (some ⟨g, 0, none⟩)) rfl (by kernel_rfl) ?_
  intro g_1 w_2 z_6 l_5 hb_3 G_4
  have n_7 : w.heap.size ≤ g_1 := l_5
  have hB := hb_3
  clear hb_3 l_5 z_6
  have ld_8 : w_2.cell? ⟨g_1, 3, none⟩ = some (.slice A pk.length c) := G_4.cell 3
  go_wp2_with (first | (with_reducible refine stop_store ?_) | (with_reducible refine stop_box ?_) | (with_reducible refine stop_alloc ?_) | (with_reducible refine stop_bslice ?_))
  unfold Kept
  refine go_mem (ty := 82) (cs := #[.int .i64 0, .int .u64 0, .int .u64 0, .bool false, .bool false, .int .u64 0, .int .u64 0, .int .i64 0, .int .u64 0, .int .u64 0, .bool false, .bool false, .int .u64 0, .int .u64 0]) (fun g => .pointer (some ⟨g, 0, none⟩)) rfl (by kernel_rfl) ?_
  intro g_9 w_10 z_14 l_13 hb_11 G_12
  clear ld_8
  have n_15 : g_1 < g_9 := Nat.lt_of_lt_of_le G_4.lt l_13
  have n_16 : w.heap.size ≤ g_9 := Nat.le_trans hB.size l_13
  replace G_4 := G_4.to hb_11 G_4.lt
  replace hB := hB.trans (hb_11.mono hB.size)
  clear hb_11 l_13 z_14
  have ld_17 : w_10.cell? ⟨g_1, 0, none⟩ = some (.int .u64 (W64 key)) := G_4.cell 0
  have ld_18 : w_10.cell? ⟨g_1, 1, none⟩ = some (.int .u64 (W64 h0)) := G_4.cell 1
  have ld_19 : w_10.cell? ⟨g_1, 2, none⟩ = some (.int .u64 (W64 h1)) := G_4.cell 2
  go_wp2_with (first | (with_reducible refine stop_store ?_) | (with_reducible refine stop_box ?_) | (with_reducible refine stop_alloc ?_) | (with_reducible refine stop_bslice ?_))
  refine (N0.out _).mono ?_; rintro e w_20 ⟨rfl, hb_21⟩
  clear ld_17 ld_18 ld_19
  replace G_4 := G_4.to hb_21 G_4.lt
  replace G_12 := G_12.to hb_21 G_12.lt
  replace hB := hB.trans (hb_21.mono hB.size)
  clear hb_21
  go_wp2_with (first | (with_reducible refine stop_store ?_) | (with_reducible refine stop_box ?_) | (with_reducible refine stop_alloc ?_) | (with_reducible refine stop_bslice ?_))
  refine (T0.out _).mono ?_; rintro e w_22 ⟨rfl, hb_23⟩
  replace G_4 := G_4.to hb_23 G_4.lt
  replace G_12 := G_12.to hb_23 G_12.lt
  replace hB := hB.trans (hb_23.mono hB.size)
  clear hb_23
  go_wp2_with (first | (with_reducible refine stop_store ?_) | (with_reducible refine stop_box ?_) | (with_reducible refine stop_alloc ?_) | (with_reducible refine stop_bslice ?_))
  unfold Kept
  refine wpList_st 0 #[.int .i64 0, .int .u64 (W64 d), .int .u64 (W64 x), .bool true, .bool true, .int .u64 (W64 (0#64)), .int .u64 (W64 (0#64))] #[.int .i64 0, .int .u64 (W64 d), .int .u64 (W64 x), .bool true, .bool true, .int .u64 (W64 (0#64)), .int .u64 (W64 (0#64)), .int .i64 0, .int .u64 0, .int .u64 0, .bool false, .bool false, .int .u64 0, .int .u64 0] G_12 rfl rfl (by kernel_rfl) rfl (of_decide_eq_true rfl) rfl ?_
  intro w_24 G_26 hU_25
  replace G_4 := hU_25.blk G_4 (by omega)
  replace hB := hU_25.below hB (by omega)
  clear G_12 hU_25
  have ld_27 : w_24.cell? ⟨g_1, 0, none⟩ = some (.int .u64 (W64 key)) := G_4.cell 0
  have ld_28 : w_24.cell? ⟨g_1, 1, none⟩ = some (.int .u64 (W64 h0)) := G_4.cell 1
  have ld_29 : w_24.cell? ⟨g_1, 2, none⟩ = some (.int .u64 (W64 h1)) := G_4.cell 2
  go_wp2_with (first | (with_reducible refine stop_store ?_) | (with_reducible refine stop_box ?_) | (with_reducible refine stop_alloc ?_) | (with_reducible refine stop_bslice ?_))
  refine (N1.out _).mono ?_; rintro e w_30 ⟨rfl, hb_31⟩
  clear ld_27 ld_28 ld_29
  replace G_4 := G_4.to hb_31 G_4.lt
  replace G_26 := G_26.to hb_31 G_26.lt
  replace hB := hB.trans (hb_31.mono hB.size)
  clear hb_31
  go_wp2_with (first | (with_reducible refine stop_store ?_) | (with_reducible refine stop_box ?_) | (with_reducible refine stop_alloc ?_) | (with_reducible refine stop_bslice ?_))
  refine (T1.out _).mono ?_; rintro e w_32 ⟨rfl, hb_33⟩
  replace G_4 := G_4.to hb_33 G_4.lt
  replace G_26 := G_26.to hb_33 G_26.lt
  replace hB := hB.trans (hb_33.mono hB.size)
  clear hb_33
  go_wp2_with (first | (with_reducible refine stop_store ?_) | (with_reducible refine stop_box ?_) | (with_reducible refine stop_alloc ?_) | (with_reducible refine stop_bslice ?_))
  unfold Kept
  refine wpList_st 7 #[.int .i64 1, .int .u64 (W64 d), .int .u64 (W64 x), .bool true, .bool true, .int .u64 (W64 (0#64)), .int .u64 (W64 (0#64))] #[.int .i64 0, .int .u64 (W64 d), .int .u64 (W64 x), .bool true, .bool true, .int .u64 (W64 (0#64)), .int .u64 (W64 (0#64)), .int .i64 1, .int .u64 (W64 d), .int .u64 (W64 x), .bool true, .bool true, .int .u64 (W64 (0#64)), .int .u64 (W64 (0#64))] G_26 rfl rfl (by kernel_rfl) rfl (of_decide_eq_true rfl) rfl ?_
  intro w_34 G_36 hU_35
  replace G_4 := hU_35.blk G_4 (by omega)
  replace hB := hU_35.below hB (by omega)
  clear G_26 hU_35
  go_wp2_with (first | (with_reducible refine stop_store ?_) | (with_reducible refine stop_box ?_) | (with_reducible refine stop_alloc ?_) | (with_reducible refine stop_bslice ?_))
  try simp only [Act.put, List.setIfInBounds_toArray, List.set_cons_zero, List.set_cons_succ]
  go_loopw [4] (fun i wr => ∃ (k : Nat) (u v : BitVec 64), k ≤ pk.length ∧ i = .int .i64 k ∧ Below w.heap.size w wr ∧ Blk wr g_1 81 #[.int .u64 (W64 key), .int .u64 (W64 h0), .int .u64 (W64 h1), .slice A pk.length c] ∧ Blk wr g_9 82 #[.int .i64 0, .int .u64 (W64 d), .int .u64 (W64 x), .bool true, .bool true, .int .u64 (W64 u), .int .u64 (W64 v), .int .i64 1, .int .u64 (W64 d), .int .u64 (W64 x), .bool true, .bool true, .int .u64 (W64 v), .int .u64 (W64 u)] ∧ g_1 < g_9) (fun i _ => pk.length - (intOf i).toNat)
  case atStart => exact ⟨0, 0#64, 0#64, Nat.zero_le _, rfl, hB, G_4, G_36, n_15⟩
  case round =>
    clear G_4 G_36 hB
    obtain ⟨k, u, v, hk0, rfl, hB, G1, G3, hn⟩ := hrel
    by_cases hlt : k < pk.length
    ·
      obtain ⟨y, hy⟩ : ∃ y, pk[k] = y := ⟨_, rfl⟩
      obtain ⟨bk, off, rfl, hrow⟩ := srow_open R_sent.len (by decide) HROW.out k hlt
      have hq := HOK.out _ (List.getElem_mem hlt)
      rw [hy] at hrow hq
      obtain ⟨up, sn, ne, md, ll, pA, pB, pC⟩ := y
      obtain ⟨-, -, -, -, ⟨hp0, hpc⟩, -⟩ := hq
      dsimp only at hp0 hpc
      have HE := Lib.hid hrow
      have hp := Rd.to hp0 hB
      have HPC := Lib.hid hpc
      obtain ⟨ck, hk⟩ : ∃ z, checkS ⟨sn, ne, md, ll, pB⟩ = z := ⟨_, rfl⟩
      have CK := Lib.hid (fun W => show Calls Try.prog 35 #[.agg #[.int .i64 sn, .int .i64 ne, .int .i64 md, .int .i64 ll, .slice pA pB.length pC]] W fun e w' => e = .returned (.int .i64 ck) ∧ Below W.heap.size W w' from by have := r23_Check ⟨sn, ne, md, ll, pB⟩ pA pC W; rw [hk] at this; exact this)
      have HK := Lib.hid hk
      have CM := Lib.hid (fun (W : World) A1 c1 (h : RdB W A1 pB) (h2 : RdB W pA pB) => show Calls Try.prog 34 #[.agg #[.int .i64 sn, .int .i64 ne, .int .i64 md, .int .i64 ll, .slice A1 pB.length c1], .agg #[.int .i64 sn, .int .i64 ne, .int .i64 md, .int .i64 ll, .slice pA pB.length pC]] W fun e w' => e = .returned (.bool true) ∧ Below W.heap.size W w' from by have := r23_SamePDU ⟨sn, ne, md, ll, pB⟩ ⟨sn, ne, md, ll, pB⟩ A1 pA c1 pC W h h2; rw [(samePS_iff _ _).2 rfl] at this; exact this)
      obtain ⟨bl, hbl⟩ : ∃ z, blankS ⟨sn, ne, md, ll, pB⟩ = z := ⟨_, rfl⟩
      have CB := Lib.hid (fun W => show Calls Try.prog 52 #[.agg #[.int .i64 ll, .slice pA pB.length pC]] W fun e w' => e = .returned (.bool bl) ∧ Below W.heap.size W w' from by have := r23_Blank ⟨sn, ne, md, ll, pB⟩ pA pC W; rw [hbl] at this; exact this)
      obtain ⟨SP0, hs0⟩ : ∃ z, sealPay ⟨0, d, x, true, true, u, v⟩ ll pB = z := ⟨_, rfl⟩
      obtain ⟨SP1, hs1⟩ : ∃ z, sealPay ⟨1, d, x, true, true, v, u⟩ ll pB = z := ⟨_, rfl⟩
      rcases Bool.eq_false_or_eq_true bl with hb | hb
      ·
        subst hb
        have hbq : (decide (ll = 1) && decide (pB.length = 0)) = true := hbl
        have HSM0 := Lib.hid (show SP0.length = pB.length from by rw [← hs0, sealPay_blank _ _ _ hbq])
        have HSP0 := Lib.hid hs0
        have HSM1 := Lib.hid (show SP1.length = pB.length from by rw [← hs1, sealPay_blank _ _ _ hbq])
        have HSP1 := Lib.hid hs1
        have i1 : decide ((k : Int) < ((pk.length : Nat) : Int)) = true := by simp; exact hlt
        have i2 : decide (k < pk.length) = true := decide_eq_true hlt
        clear hrow hp0 hpc hk hy hs0 hs1 hbl hbq
        have ld_37 : wr.cell? ⟨g_1, 3, none⟩ = some (.slice ((some ⟨bk, off, none⟩)) pk.length c) := G1.cell 3
        go_wp2_with (first | (with_reducible refine stop_store ?_) | (with_reducible refine stop_box ?_) | (with_reducible refine stop_alloc ?_) | (with_reducible refine stop_bslice ?_) | ((with_reducible refine wpList_ldr [.int .i64 sn, .int .i64 ne, .int .i64 md, .int .i64 ll, .slice pA pB.length pC] (range_part (HE.out _ hB) 1 [.int .i64 sn, .int .i64 ne, .int .i64 md, .int .i64 ll, .slice pA pB.length pC] rfl) ?_ Try.underlying49 ?_ ?_ ?_); rfl; rfl; kernel_rfl))
        unfold Kept
        refine go_mem (ty := 49) (cs := #[.int .i64 0, .int .i64 0, .int .i64 0, .int .i64 0, .slice none 0 0]) (fun g => .pointer (some ⟨g, 0, none⟩)) rfl (by kernel_rfl) ?_
        intro g_39 w_40 z_44 l_43 hb_41 G_42
        clear ld_37
        have n_45 : g_9 < g_39 := Nat.lt_of_lt_of_le G3.lt l_43
        have n_46 : w.heap.size ≤ g_39 := Nat.le_trans hB.size l_43
        replace G1 := G1.to hb_41 G1.lt
        replace G3 := G3.to hb_41 G3.lt
        replace hp := Rd.to hp hb_41
        replace hB := hB.trans (hb_41.mono hB.size)
        clear hb_41 l_43 z_44
        go_wp2_with (first | (with_reducible refine stop_store ?_) | (with_reducible refine stop_box ?_) | (with_reducible refine stop_alloc ?_) | (with_reducible refine stop_bslice ?_))
        unfold Kept
        refine wpList_st 0 #[.int .i64 sn, .int .i64 ne, .int .i64 md, .int .i64 ll, .slice pA pB.length pC] #[.int .i64 sn, .int .i64 ne, .int .i64 md, .int .i64 ll, .slice pA pB.length pC] G_42 rfl rfl (by kernel_rfl) rfl (of_decide_eq_true rfl) rfl ?_
        intro w_47 G_49 hU_48
        replace G1 := hU_48.blk G1 (by omega)
        replace G3 := hU_48.blk G3 (by omega)
        replace hp := RdB.upd hp G_42 hU_48 (by rfl)
        replace hB := hU_48.below hB (by omega)
        clear G_42 hU_48
        go_wp2_with (first | (with_reducible refine stop_store ?_) | (with_reducible refine stop_box ?_) | (with_reducible refine stop_alloc ?_) | (with_reducible refine stop_bslice ?_) | ((with_reducible refine wpList_ld 0 [.int .i64 sn, .int .i64 ne, .int .i64 md, .int .i64 ll, .slice pA pB.length pC] G_49 ?_ ?_ Try.underlying49 ?_ ?_ ?_); rfl; rfl; rfl; kernel_rfl) | ((with_reducible refine wpList_ldg 0 [.int .i64 sn, .int .i64 ne, .int .i64 md, .int .i64 ll, .slice pA pB.length pC] G_49 ?_ ?_ Try.underlying49 ?_ ?_ ?_ ?_); rfl; rfl; rfl; kernel_rfl; rfl))
        refine (CK.out _).mono ?_; rintro e w_51 ⟨rfl, hb_52⟩
        replace G1 := G1.to hb_52 G1.lt
        replace G3 := G3.to hb_52 G3.lt
        replace G_49 := G_49.to hb_52 G_49.lt
        replace hp := Rd.to hp hb_52
        replace hB := hB.trans (hb_52.mono hB.size)
        clear hb_52
        by_cases hc_53 : (ck : Int) = 0
        ·
          subst hc_53
          by_cases hc_54 : (251 : Int) < ((pB.length : Nat) : Int)
          ·
            have ec_54m : (251 : Int) < ((pB.length : Nat) : Int) := hc_54
            have ec_54 : decide ((251 : Int) < ((pB.length : Nat) : Int)) = true := decide_eq_true hc_54
            have ec_54n : decide ((((pB.length : Nat) : Int) : Int) ≤ 251) = false := decide_eq_false (Int.not_le.2 hc_54)
            have kc_54 := Lib.hid hc_54
            clear hc_54
            have ld_55 : w_51.cell? ⟨g_39, 4, none⟩ = some (.slice pA pB.length pC) := G_49.cell 4
            go_wp2_with (first | (with_reducible refine stop_store ?_) | (with_reducible refine stop_box ?_) | (with_reducible refine stop_alloc ?_) | (with_reducible refine stop_bslice ?_))
            refine (ex29 _).mono ?_; rintro e w_56 ⟨rfl, hb_57⟩
            clear ld_55
            replace G1 := G1.to hb_57 G1.lt
            replace G3 := G3.to hb_57 G3.lt
            replace G_49 := G_49.to hb_57 G_49.lt
            replace hp := Rd.to hp hb_57
            replace hB := hB.trans (hb_57.mono hB.size)
            clear hb_57
            go_wp2_with (first | (with_reducible refine stop_store ?_) | (with_reducible refine stop_box ?_) | (with_reducible refine stop_alloc ?_) | (with_reducible refine stop_bslice ?_))
            go_returns
            exact ⟨rfl, hB⟩
          ·
            have ec_54m : (((pB.length : Nat) : Int) : Int) ≤ 251 := Int.not_lt.1 hc_54
            have ec_54 : decide ((251 : Int) < ((pB.length : Nat) : Int)) = false := decide_eq_false hc_54
            have ec_54n : decide ((((pB.length : Nat) : Int) : Int) ≤ 251) = true := decide_eq_true (Int.not_lt.1 hc_54)
            have kc_54 := Lib.hid hc_54
            clear hc_54
            cases up
            case false =>
              skip
              have ld_59 : w_51.cell? ⟨g_39, 4, none⟩ = some (.slice pA pB.length pC) := G_49.cell 4
              have ld_60 : w_51.cell? ⟨g_1, 3, none⟩ = some (.slice ((some ⟨bk, off, none⟩)) pk.length c) := G1.cell 3
              have ld_61 : w_51.cell? ⟨bk, off + k * 6, none⟩ = some (.bool false) := (HE.out _ hB) 0 _ rfl
              go_wp2_with (first | (with_reducible refine stop_store ?_) | (with_reducible refine stop_box ?_) | (with_reducible refine stop_alloc ?_) | (with_reducible refine stop_bslice ?_))
              clear ld_59 ld_60 ld_61
              try simp only [Act.put, List.setIfInBounds_toArray, List.set_cons_zero, List.set_cons_succ]
              go_cut [7, 8] from 125 (fun v7 v8 WX => ∃ (A15_4 : Option Addr) (c15_4 : Nat) (g15_8 : Nat), v7 = .pointer (some ⟨g15_8, 0, none⟩) ∧ v8 = .int .i64 0 ∧ w.heap.size ≤ g15_8 ∧ g_1 < g15_8 ∧ g_9 < g15_8 ∧ g_39 < g15_8 ∧ Below w.heap.size w WX ∧ Blk WX g_1 81 #[.int .u64 (W64 key), .int .u64 (W64 h0), .int .u64 (W64 h1), .slice ((some ⟨bk, off, none⟩)) pk.length c] ∧ Blk WX g_9 82 #[.int .i64 0, .int .u64 (W64 d), .int .u64 (W64 x), .bool true, .bool true, .int .u64 (W64 u), .int .u64 (W64 v), .int .i64 1, .int .u64 (W64 d), .int .u64 (W64 x), .bool true, .bool true, .int .u64 (W64 v), .int .u64 (W64 u)] ∧ Blk WX g_39 49 #[.int .i64 sn, .int .i64 ne, .int .i64 md, .int .i64 ll, .slice pA pB.length pC] ∧ Blk WX g15_8 49 #[.int .i64 sn, .int .i64 ne, .int .i64 md, .int .i64 ll, .slice A15_4 pB.length c15_4] ∧ RdB WX pA pB ∧ RdB WX A15_4 SP0 ∧ pB.length ≤ c15_4)
              case first =>
                have hst : Stable fun W => Below w.heap.size w W ∧ Blk W g_1 81 #[.int .u64 (W64 key), .int .u64 (W64 h0), .int .u64 (W64 h1), .slice ((some ⟨bk, off, none⟩)) pk.length c] ∧ Blk W g_9 82 #[.int .i64 0, .int .u64 (W64 d), .int .u64 (W64 x), .bool true, .bool true, .int .u64 (W64 u), .int .u64 (W64 v), .int .i64 1, .int .u64 (W64 d), .int .u64 (W64 x), .bool true, .bool true, .int .u64 (W64 v), .int .u64 (W64 u)] ∧ Blk W g_39 49 #[.int .i64 sn, .int .i64 ne, .int .i64 md, .int .i64 ll, .slice pA pB.length pC] ∧ RdB W pA pB := stable_and (stable_below _ _ (Nat.le_refl _)) (stable_and (stable_blk _ _ _) (stable_and (stable_blk _ _ _) (stable_and (stable_blk _ _ _) (stable_rdB _ _))))
                refine wp_region_v _ 11 hst ⟨hB.drew, G1, G3, G_49, hp⟩ ?_
                clear hB G1 G3 G_49 hp
                refine wpU_take (v := ?_) 0 hst (fun _ h => h) rfl ?_ ?_; rotate_left; (intro W hS K hK; clear hS; go_simp; exact hK.out _ (Below.refl _ _)); simp only [Act.put, List.setIfInBounds_toArray, List.set_cons_zero, List.set_cons_succ]
                refine wpU_take (v := ?_) 1 hst (fun _ h => h) rfl ?_ ?_; rotate_left; (intro W hS K hK; clear hS; go_simp; exact hK.out _ (Below.refl _ _)); simp only [Act.put, List.setIfInBounds_toArray, List.set_cons_zero, List.set_cons_succ]
                refine wpU_take (v := .agg #[.int .i64 0, .int .u64 (W64 d), .int .u64 (W64 x), .bool true, .bool true, .int .u64 (W64 u), .int .u64 (W64 v)]) 2 hst (fun _ h => h) rfl (fun W hS K hK => calm_load rfl rfl (load_part hS.2.2.1 0 [.int .i64 0, .int .u64 (W64 d), .int .u64 (W64 x), .bool true, .bool true, .int .u64 (W64 u), .int .u64 (W64 v)] rfl Try.underlying40 rfl (by kernel_rfl)) (hK.out _ (Below.refl _ _))) ?_; simp only [Act.put, List.setIfInBounds_toArray, List.set_cons_zero, List.set_cons_succ]
                refine wpU_take (v := .agg #[.int .i64 sn, .int .i64 ne, .int .i64 md, .int .i64 ll, .slice pA pB.length pC]) 3 hst (fun _ h => h) rfl (fun W hS K hK => calm_load rfl rfl (load_part hS.2.2.2.1 0 [.int .i64 sn, .int .i64 ne, .int .i64 md, .int .i64 ll, .slice pA pB.length pC] rfl Try.underlying49 rfl (by kernel_rfl)) (hK.out _ (Below.refl _ _))) ?_; simp only [Act.put, List.setIfInBounds_toArray, List.set_cons_zero, List.set_cons_succ]
                refine wpV_two 4 8 hst rfl rfl ?_ ?_
                · intro W hS K hK
                  go_simp
                  refine (back_seal ⟨0, d, x, true, true, u, v⟩ sn ne md ll pB pA pC _ hS.2.2.2.2 HPC.out HK.out (by have hh := kc_54.out; omega) SP0 pB.length HSP0.out HSM0.out).mono ?_; rintro e w9 ⟨A15_4, c15_4, rfl, R15_4, q15_4, hb⟩
                  refine hK.out (fun W => RdB W A15_4 SP0 ∧ pB.length ≤ c15_4) _ _ (stable_and (stable_rdB _ _) (stable_const _)) hb (⟨R15_4, q15_4⟩) (fun hst => ?_)
                  clear hK K hb R15_4 q15_4 hS
                  try simp only [Act.put, List.setIfInBounds_toArray, List.set_cons_zero, List.set_cons_succ]
                  refine wpU_take (v := ?_) 5 hst (fun _ h => h) rfl ?_ ?_; rotate_left; (intro W hS K hK; clear hS; go_simp; exact hK.out _ (Below.refl _ _)); simp only [Act.put, List.setIfInBounds_toArray, List.set_cons_zero, List.set_cons_succ]
                  refine wpU_take (v := ?_) 6 hst (fun _ h => h) rfl ?_ ?_; rotate_left; (intro W hS K hK; clear hS; go_simp; exact hK.out _ (Below.refl _ _)); simp only [Act.put, List.setIfInBounds_toArray, List.set_cons_zero, List.set_cons_succ]
                  refine wpU_take (v := ?_) 7 hst (fun _ h => h) rfl ?_ ?_; rotate_left; (intro W hS K hK; clear hS; go_simp; exact hK.out _ (Below.refl _ _)); simp only [Act.put, List.setIfInBounds_toArray, List.set_cons_zero, List.set_cons_succ]
                  refine wpV_new 8 hst rfl ?_; intro W hS K hK
                  have l15_8_g_1 : g_1 < W.heap.size := hS.1.2.1.lt
                  have l15_8_g_9 : g_9 < W.heap.size := hS.1.2.2.1.lt
                  have l15_8_g_39 : g_39 < W.heap.size := hS.1.2.2.2.1.lt
                  have n15_8a : w.heap.size ≤ W.heap.size := hS.1.1.size
                  clear hS
                  go_simp
                  refine hK.out (fun W' => Room W.heap.size 49 5 W') _ _ (stable_room _ _ _) ((Below.refl _ _).alloc (Nat.le_refl _) _) (⟨_, rfl, rfl, Blk.new _ _ _⟩) (fun hst => ?_)
                  clear hK K
                  try simp only [Act.put, List.setIfInBounds_toArray, List.set_cons_zero, List.set_cons_succ]
                  generalize W.heap.size = g15_8 at hst l15_8_g_1 l15_8_g_9 l15_8_g_39 n15_8a ⊢
                  clear W
                  refine wpV_st 9 hst (fun _ h => h) #[.int .i64 sn, .int .i64 ne, .int .i64 md, .int .i64 ll, .slice A15_4 pB.length c15_4] rfl rfl rfl rfl (fun W hS => hS.2) (fun W W' h hU hG => ?_) (by kernel_rfl) rfl (fun hst => ?_)
                  · obtain ⟨⟨⟨h0_0, h0_1, h0_2, h0_3, h0_4⟩, ⟨h1_0, h1_1⟩⟩, ⟨ch2_0, ah2_0, bh2_0, h2_0⟩⟩ := h
                    exact ⟨⟨⟨hU.below h0_0 (by omega), hU.blk h0_1 (by omega), hU.blk h0_2 (by omega), hU.blk h0_3 (by omega), RdB.upd h0_4 h2_0 hU bh2_0⟩, ⟨RdB.upd h1_0 h2_0 hU bh2_0, h1_1⟩⟩, ⟨_, rfl, rfl, hG⟩⟩
                  refine wpU_take (v := ?_) 10 hst (fun _ h => h.1) rfl ?_ ?_; rotate_left; (intro W hS K hK; clear hS; go_simp; exact hK.out _ (Below.refl _ _)); simp only [Act.put, List.setIfInBounds_toArray, List.set_cons_zero, List.set_cons_succ]
                  refine wpU_done (fun w_62 hS => ?_)
                  obtain ⟨⟨⟨⟨hB, G1, G3, G_49, hp⟩, ⟨R15_4, q15_4⟩⟩, -⟩, G15_8s⟩ := hS
                  clear hst
                  go_wp2_with fail
                  go_meet
                  case rel => exact ⟨A15_4, c15_4, g15_8, rfl, rfl, (by omega), (by omega), (by omega), (by omega), hB, G1, G3, G_49, G15_8s, hp, R15_4, q15_4⟩
                · intro W hS K hK
                  have l15_8_g_1 : g_1 < W.heap.size := hS.2.1.lt
                  have l15_8_g_9 : g_9 < W.heap.size := hS.2.2.1.lt
                  have l15_8_g_39 : g_39 < W.heap.size := hS.2.2.2.1.lt
                  have n15_8a : w.heap.size ≤ W.heap.size := hS.1.size
                  clear hS
                  go_simp
                  refine hK.out (fun W' => Room W.heap.size 49 5 W') _ _ (stable_room _ _ _) ((Below.refl _ _).alloc (Nat.le_refl _) _) (⟨_, rfl, rfl, Blk.new _ _ _⟩) (fun hst => ?_)
                  clear hK K
                  try simp only [Act.put, List.setIfInBounds_toArray, List.set_cons_zero, List.set_cons_succ]
                  generalize W.heap.size = g15_8 at hst l15_8_g_1 l15_8_g_9 l15_8_g_39 n15_8a ⊢
                  clear W
                  refine wpV_new 4 hst rfl ?_; intro W hS K hK
                  go_simp
                  refine (back_seal ⟨0, d, x, true, true, u, v⟩ sn ne md ll pB pA pC _ hS.1.2.2.2.2 HPC.out HK.out (by have hh := kc_54.out; omega) SP0 pB.length HSP0.out HSM0.out).mono ?_; rintro e w9 ⟨A15_4, c15_4, rfl, R15_4, q15_4, hb⟩
                  refine hK.out (fun W => RdB W A15_4 SP0 ∧ pB.length ≤ c15_4) _ _ (stable_and (stable_rdB _ _) (stable_const _)) hb (⟨R15_4, q15_4⟩) (fun hst => ?_)
                  clear hK K hb R15_4 q15_4 hS
                  try simp only [Act.put, List.setIfInBounds_toArray, List.set_cons_zero, List.set_cons_succ]
                  refine wpU_take (v := ?_) 5 hst (fun _ h => h) rfl ?_ ?_; rotate_left; (intro W hS K hK; clear hS; go_simp; exact hK.out _ (Below.refl _ _)); simp only [Act.put, List.setIfInBounds_toArray, List.set_cons_zero, List.set_cons_succ]
                  refine wpU_take (v := ?_) 6 hst (fun _ h => h) rfl ?_ ?_; rotate_left; (intro W hS K hK; clear hS; go_simp; exact hK.out _ (Below.refl _ _)); simp only [Act.put, List.setIfInBounds_toArray, List.set_cons_zero, List.set_cons_succ]
                  refine wpU_take (v := ?_) 7 hst (fun _ h => h) rfl ?_ ?_; rotate_left; (intro W hS K hK; clear hS; go_simp; exact hK.out _ (Below.refl _ _)); simp only [Act.put, List.setIfInBounds_toArray, List.set_cons_zero, List.set_cons_succ]
                  refine wpV_st 9 hst (fun _ h => h) #[.int .i64 sn, .int .i64 ne, .int .i64 md, .int .i64 ll, .slice A15_4 pB.length c15_4] rfl rfl rfl rfl (fun W hS => hS.1.2) (fun W W' h hU hG => ?_) (by kernel_rfl) rfl (fun hst => ?_)
                  · obtain ⟨⟨⟨h0_0, h0_1, h0_2, h0_3, h0_4⟩, ⟨ch1_0, ah1_0, bh1_0, h1_0⟩⟩, ⟨h2_0, h2_1⟩⟩ := h
                    exact ⟨⟨⟨hU.below h0_0 (by omega), hU.blk h0_1 (by omega), hU.blk h0_2 (by omega), hU.blk h0_3 (by omega), RdB.upd h0_4 h1_0 hU bh1_0⟩, ⟨_, rfl, rfl, hG⟩⟩, ⟨RdB.upd h2_0 h1_0 hU bh1_0, h2_1⟩⟩
                  refine wpU_take (v := ?_) 10 hst (fun _ h => h.1) rfl ?_ ?_; rotate_left; (intro W hS K hK; clear hS; go_simp; exact hK.out _ (Below.refl _ _)); simp only [Act.put, List.setIfInBounds_toArray, List.set_cons_zero, List.set_cons_succ]
                  refine wpU_done (fun w_63 hS => ?_)
                  obtain ⟨⟨⟨⟨hB, G1, G3, G_49, hp⟩, -⟩, ⟨R15_4, q15_4⟩⟩, G15_8s⟩ := hS
                  clear hst
                  go_wp2_with fail
                  go_meet
                  case rel => exact ⟨A15_4, c15_4, g15_8, rfl, rfl, (by omega), (by omega), (by omega), (by omega), hB, G1, G3, G_49, G15_8s, hp, R15_4, q15_4⟩
              case rest =>
                obtain ⟨A15_4, c15_4, g15_8, rfl, rfl, n15_8a, n15_8_g_1, n15_8_g_9, n15_8_g_39, hB, G1, G3, G_49, G15_8, hp, R15_4, q15_4⟩ := hcut
                skip
                go_wp2_with (first | (with_reducible refine stop_store ?_) | (with_reducible refine stop_box ?_) | (with_reducible refine stop_alloc ?_) | (with_reducible refine stop_bslice ?_))
                try simp only [Act.put, List.setIfInBounds_toArray, List.set_cons_zero, List.set_cons_succ]
                go_cut [9, 10] from 125 (fun v9 v10 WX => ∃ (A16_5 : Option Addr) (c16_5 : Nat) (g16_9 : Nat), v9 = .pointer (some ⟨g16_9, 0, none⟩) ∧ v10 = .int .i64 0 ∧ w.heap.size ≤ g16_9 ∧ g_1 < g16_9 ∧ g_9 < g16_9 ∧ g_39 < g16_9 ∧ g15_8 < g16_9 ∧ Below w.heap.size w WX ∧ Blk WX g_1 81 #[.int .u64 (W64 key), .int .u64 (W64 h0), .int .u64 (W64 h1), .slice ((some ⟨bk, off, none⟩)) pk.length c] ∧ Blk WX g_9 82 #[.int .i64 0, .int .u64 (W64 d), .int .u64 (W64 x), .bool true, .bool true, .int .u64 (W64 u), .int .u64 (W64 v), .int .i64 1, .int .u64 (W64 d), .int .u64 (W64 x), .bool true, .bool true, .int .u64 (W64 v), .int .u64 (W64 u)] ∧ Blk WX g_39 49 #[.int .i64 sn, .int .i64 ne, .int .i64 md, .int .i64 ll, .slice pA pB.length pC] ∧ Blk WX g15_8 49 #[.int .i64 sn, .int .i64 ne, .int .i64 md, .int .i64 ll, .slice A15_4 pB.length c15_4] ∧ Blk WX g16_9 49 #[.int .i64 sn, .int .i64 ne, .int .i64 md, .int .i64 ll, .slice A16_5 pB.length c16_5] ∧ RdB WX pA pB ∧ RdB WX A15_4 SP0 ∧ pB.length ≤ c15_4 ∧ RdB WX A16_5 pB)
                case first =>
                  have hst : Stable fun W => Below w.heap.size w W ∧ Blk W g_1 81 #[.int .u64 (W64 key), .int .u64 (W64 h0), .int .u64 (W64 h1), .slice ((some ⟨bk, off, none⟩)) pk.length c] ∧ Blk W g_9 82 #[.int .i64 0, .int .u64 (W64 d), .int .u64 (W64 x), .bool true, .bool true, .int .u64 (W64 u), .int .u64 (W64 v), .int .i64 1, .int .u64 (W64 d), .int .u64 (W64 x), .bool true, .bool true, .int .u64 (W64 v), .int .u64 (W64 u)] ∧ Blk W g_39 49 #[.int .i64 sn, .int .i64 ne, .int .i64 md, .int .i64 ll, .slice pA pB.length pC] ∧ Blk W g15_8 49 #[.int .i64 sn, .int .i64 ne, .int .i64 md, .int .i64 ll, .slice A15_4 pB.length c15_4] ∧ RdB W pA pB ∧ RdB W A15_4 SP0 ∧ pB.length ≤ c15_4 := stable_and (stable_below _ _ (Nat.le_refl _)) (stable_and (stable_blk _ _ _) (stable_and (stable_blk _ _ _) (stable_and (stable_blk _ _ _) (stable_and (stable_blk _ _ _) (stable_and (stable_rdB _ _) (stable_and (stable_rdB _ _) (stable_const _)))))))
                  refine wp_region_v _ 12 hst ⟨hB.drew, G1, G3, G_49, G15_8, hp, R15_4, q15_4⟩ ?_
                  clear hB G1 G3 G_49 G15_8 hp R15_4 q15_4
                  refine wpU_take (v := ?_) 0 hst (fun _ h => h) rfl ?_ ?_; rotate_left; (intro W hS K hK; clear hS; go_simp; exact hK.out _ (Below.refl _ _)); simp only [Act.put, List.setIfInBounds_toArray, List.set_cons_zero, List.set_cons_succ]
                  refine wpU_take (v := ?_) 1 hst (fun _ h => h) rfl ?_ ?_; rotate_left; (intro W hS K hK; clear hS; go_simp; exact hK.out _ (Below.refl _ _)); simp only [Act.put, List.setIfInBounds_toArray, List.set_cons_zero, List.set_cons_succ]
                  refine wpU_take (v := ?_) 2 hst (fun _ h => h) rfl ?_ ?_; rotate_left; (intro W hS K hK; clear hS; go_simp; exact hK.out _ (Below.refl _ _)); simp only [Act.put, List.setIfInBounds_toArray, List.set_cons_zero, List.set_cons_succ]
                  refine wpU_take (v := .agg #[.int .i64 1, .int .u64 (W64 d), .int .u64 (W64 x), .bool true, .bool true, .int .u64 (W64 v), .int .u64 (W64 u)]) 3 hst (fun _ h => h) rfl (fun W hS K hK => calm_load rfl rfl (load_part hS.2.2.1 7 [.int .i64 1, .int .u64 (W64 d), .int .u64 (W64 x), .bool true, .bool true, .int .u64 (W64 v), .int .u64 (W64 u)] rfl Try.underlying40 rfl (by kernel_rfl)) (hK.out _ (Below.refl _ _))) ?_; simp only [Act.put, List.setIfInBounds_toArray, List.set_cons_zero, List.set_cons_succ]
                  refine wpU_take (v := .agg #[.int .i64 sn, .int .i64 ne, .int .i64 md, .int .i64 ll, .slice A15_4 pB.length c15_4]) 4 hst (fun _ h => h) rfl (fun W hS K hK => calm_load rfl rfl (load_part hS.2.2.2.2.1 0 [.int .i64 sn, .int .i64 ne, .int .i64 md, .int .i64 ll, .slice A15_4 pB.length c15_4] rfl Try.underlying49 rfl (by kernel_rfl)) (hK.out _ (Below.refl _ _))) ?_; simp only [Act.put, List.setIfInBounds_toArray, List.set_cons_zero, List.set_cons_succ]
                  refine wpV_two 5 9 hst rfl rfl ?_ ?_
                  · intro W hS K hK
                    go_simp
                    refine (back_open ⟨0, d, x, true, true, u, v⟩ ⟨1, d, x, true, true, v, u⟩ sn ne md ll pB A15_4 c15_4 _ SP0 pB.length HSP0.out HSM0.out hS.2.2.2.2.2.2.1 hS.2.2.2.2.2.2.2 HK.out (by have hh := kc_54.out; omega) rfl rfl rfl rfl rfl rfl).mono ?_; rintro e w9 ⟨A16_5, c16_5, rfl, R16_5, q16_5, hb⟩
                    refine hK.out (fun W => RdB W A16_5 pB) _ _ (stable_rdB _ _) hb (R16_5) (fun hst => ?_)
                    clear hK K hb R16_5 hS
                    try simp only [Act.put, List.setIfInBounds_toArray, List.set_cons_zero, List.set_cons_succ]
                    refine wpU_take (v := ?_) 6 hst (fun _ h => h) rfl ?_ ?_; rotate_left; (intro W hS K hK; clear hS; go_simp; exact hK.out _ (Below.refl _ _)); simp only [Act.put, List.setIfInBounds_toArray, List.set_cons_zero, List.set_cons_succ]
                    refine wpU_take (v := ?_) 7 hst (fun _ h => h) rfl ?_ ?_; rotate_left; (intro W hS K hK; clear hS; go_simp; exact hK.out _ (Below.refl _ _)); simp only [Act.put, List.setIfInBounds_toArray, List.set_cons_zero, List.set_cons_succ]
                    refine wpU_take (v := ?_) 8 hst (fun _ h => h) rfl ?_ ?_; rotate_left; (intro W hS K hK; clear hS; go_simp; exact hK.out _ (Below.refl _ _)); simp only [Act.put, List.setIfInBounds_toArray, List.set_cons_zero, List.set_cons_succ]
                    refine wpV_new 9 hst rfl ?_; intro W hS K hK
                    have l16_9_g_1 : g_1 < W.heap.size := hS.1.2.1.lt
                    have l16_9_g_9 : g_9 < W.heap.size := hS.1.2.2.1.lt
                    have l16_9_g_39 : g_39 < W.heap.size := hS.1.2.2.2.1.lt
                    have l16_9_g15_8 : g15_8 < W.heap.size := hS.1.2.2.2.2.1.lt
                    have n16_9a : w.heap.size ≤ W.heap.size := hS.1.1.size
                    clear hS
                    go_simp
                    refine hK.out (fun W' => Room W.heap.size 49 5 W') _ _ (stable_room _ _ _) ((Below.refl _ _).alloc (Nat.le_refl _) _) (⟨_, rfl, rfl, Blk.new _ _ _⟩) (fun hst => ?_)
                    clear hK K
                    try simp only [Act.put, List.setIfInBounds_toArray, List.set_cons_zero, List.set_cons_succ]
                    generalize W.heap.size = g16_9 at hst l16_9_g_1 l16_9_g_9 l16_9_g_39 l16_9_g15_8 n16_9a ⊢
                    clear W
                    refine wpV_st 10 hst (fun _ h => h) #[.int .i64 sn, .int .i64 ne, .int .i64 md, .int .i64 ll, .slice A16_5 pB.length c16_5] rfl rfl rfl rfl (fun W hS => hS.2) (fun W W' h hU hG => ?_) (by kernel_rfl) rfl (fun hst => ?_)
                    · obtain ⟨⟨⟨h0_0, h0_1, h0_2, h0_3, h0_4, h0_5, h0_6, h0_7⟩, h1_0⟩, ⟨ch2_0, ah2_0, bh2_0, h2_0⟩⟩ := h
                      exact ⟨⟨⟨hU.below h0_0 (by omega), hU.blk h0_1 (by omega), hU.blk h0_2 (by omega), hU.blk h0_3 (by omega), hU.blk h0_4 (by omega), RdB.upd h0_5 h2_0 hU bh2_0, RdB.upd h0_6 h2_0 hU bh2_0, h0_7⟩, RdB.upd h1_0 h2_0 hU bh2_0⟩, ⟨_, rfl, rfl, hG⟩⟩
                    refine wpU_take (v := ?_) 11 hst (fun _ h => h.1) rfl ?_ ?_; rotate_left; (intro W hS K hK; clear hS; go_simp; exact hK.out _ (Below.refl _ _)); simp only [Act.put, List.setIfInBounds_toArray, List.set_cons_zero, List.set_cons_succ]
                    refine wpU_done (fun w_65 hS => ?_)
                    obtain ⟨⟨⟨⟨hB, G1, G3, G_49, G15_8, hp, R15_4, q15_4⟩, R16_5⟩, -⟩, G16_9s⟩ := hS
                    clear hst
                    go_wp2_with fail
                    go_meet
                    case rel => exact ⟨A16_5, c16_5, g16_9, rfl, rfl, (by omega), (by omega), (by omega), (by omega), (by omega), hB, G1, G3, G_49, G15_8, G16_9s, hp, R15_4, q15_4, R16_5⟩
                  · intro W hS K hK
                    have l16_9_g_1 : g_1 < W.heap.size := hS.2.1.lt
                    have l16_9_g_9 : g_9 < W.heap.size := hS.2.2.1.lt
                    have l16_9_g_39 : g_39 < W.heap.size := hS.2.2.2.1.lt
                    have l16_9_g15_8 : g15_8 < W.heap.size := hS.2.2.2.2.1.lt
                    have n16_9a : w.heap.size ≤ W.heap.size := hS.1.size
                    clear hS
                    go_simp
                    refine hK.out (fun W' => Room W.heap.size 49 5 W') _ _ (stable_room _ _ _) ((Below.refl _ _).alloc (Nat.le_refl _) _) (⟨_, rfl, rfl, Blk.new _ _ _⟩) (fun hst => ?_)
                    clear hK K
                    try simp only [Act.put, List.setIfInBounds_toArray, List.set_cons_zero, List.set_cons_succ]
                    generalize W.heap.size = g16_9 at hst l16_9_g_1 l16_9_g_9 l16_9_g_39 l16_9_g15_8 n16_9a ⊢
                    clear W
                    refine wpV_new 5 hst rfl ?_; intro W hS K hK
                    go_simp
                    refine (back_open ⟨0, d, x, true, true, u, v⟩ ⟨1, d, x, true, true, v, u⟩ sn ne md ll pB A15_4 c15_4 _ SP0 pB.length HSP0.out HSM0.out hS.1.2.2.2.2.2.2.1 hS.1.2.2.2.2.2.2.2 HK.out (by have hh := kc_54.out; omega) rfl rfl rfl rfl rfl rfl).mono ?_; rintro e w9 ⟨A16_5, c16_5, rfl, R16_5, q16_5, hb⟩
                    refine hK.out (fun W => RdB W A16_5 pB) _ _ (stable_rdB _ _) hb (R16_5) (fun hst => ?_)
                    clear hK K hb R16_5 hS
                    try simp only [Act.put, List.setIfInBounds_toArray, List.set_cons_zero, List.set_cons_succ]
                    refine wpU_take (v := ?_) 6 hst (fun _ h => h) rfl ?_ ?_; rotate_left; (intro W hS K hK; clear hS; go_simp; exact hK.out _ (Below.refl _ _)); simp only [Act.put, List.setIfInBounds_toArray, List.set_cons_zero, List.set_cons_succ]
                    refine wpU_take (v := ?_) 7 hst (fun _ h => h) rfl ?_ ?_; rotate_left; (intro W hS K hK; clear hS; go_simp; exact hK.out _ (Below.refl _ _)); simp only [Act.put, List.setIfInBounds_toArray, List.set_cons_zero, List.set_cons_succ]
                    refine wpU_take (v := ?_) 8 hst (fun _ h => h) rfl ?_ ?_; rotate_left; (intro W hS K hK; clear hS; go_simp; exact hK.out _ (Below.refl _ _)); simp only [Act.put, List.setIfInBounds_toArray, List.set_cons_zero, List.set_cons_succ]
                    refine wpV_st 10 hst (fun _ h => h) #[.int .i64 sn, .int .i64 ne, .int .i64 md, .int .i64 ll, .slice A16_5 pB.length c16_5] rfl rfl rfl rfl (fun W hS => hS.1.2) (fun W W' h hU hG => ?_) (by kernel_rfl) rfl (fun hst => ?_)
                    · obtain ⟨⟨⟨h0_0, h0_1, h0_2, h0_3, h0_4, h0_5, h0_6, h0_7⟩, ⟨ch1_0, ah1_0, bh1_0, h1_0⟩⟩, h2_0⟩ := h
                      exact ⟨⟨⟨hU.below h0_0 (by omega), hU.blk h0_1 (by omega), hU.blk h0_2 (by omega), hU.blk h0_3 (by omega), hU.blk h0_4 (by omega), RdB.upd h0_5 h1_0 hU bh1_0, RdB.upd h0_6 h1_0 hU bh1_0, h0_7⟩, ⟨_, rfl, rfl, hG⟩⟩, RdB.upd h2_0 h1_0 hU bh1_0⟩
                    refine wpU_take (v := ?_) 11 hst (fun _ h => h.1) rfl ?_ ?_; rotate_left; (intro W hS K hK; clear hS; go_simp; exact hK.out _ (Below.refl _ _)); simp only [Act.put, List.setIfInBounds_toArray, List.set_cons_zero, List.set_cons_succ]
                    refine wpU_done (fun w_66 hS => ?_)
                    obtain ⟨⟨⟨⟨hB, G1, G3, G_49, G15_8, hp, R15_4, q15_4⟩, -⟩, R16_5⟩, G16_9s⟩ := hS
                    clear hst
                    go_wp2_with fail
                    go_meet
                    case rel => exact ⟨A16_5, c16_5, g16_9, rfl, rfl, (by omega), (by omega), (by omega), (by omega), (by omega), hB, G1, G3, G_49, G15_8, G16_9s, hp, R15_4, q15_4, R16_5⟩
                case rest =>
                  obtain ⟨A16_5, c16_5, g16_9, rfl, rfl, n16_9a, n16_9_g_1, n16_9_g_9, n16_9_g_39, n16_9_g15_8, hB, G1, G3, G_49, G15_8, G16_9, hp, R15_4, q15_4, R16_5⟩ := hcut
                  skip
                  go_wp2_with (first | (with_reducible refine stop_store ?_) | (with_reducible refine stop_box ?_) | (with_reducible refine stop_alloc ?_) | (with_reducible refine stop_bslice ?_) | ((with_reducible refine wpList_ld 0 [.int .i64 sn, .int .i64 ne, .int .i64 md, .int .i64 ll, .slice A16_5 pB.length c16_5] G16_9 ?_ ?_ Try.underlying49 ?_ ?_ ?_); rfl; rfl; rfl; kernel_rfl) | ((with_reducible refine wpList_ldg 0 [.int .i64 sn, .int .i64 ne, .int .i64 md, .int .i64 ll, .slice A16_5 pB.length c16_5] G16_9 ?_ ?_ Try.underlying49 ?_ ?_ ?_ ?_); rfl; rfl; rfl; kernel_rfl; rfl) | ((with_reducible refine wpList_ld 0 [.int .i64 sn, .int .i64 ne, .int .i64 md, .int .i64 ll, .slice pA pB.length pC] G_49 ?_ ?_ Try.underlying49 ?_ ?_ ?_); rfl; rfl; rfl; kernel_rfl) | ((with_reducible refine wpList_ldg 0 [.int .i64 sn, .int .i64 ne, .int .i64 md, .int .i64 ll, .slice pA pB.length pC] G_49 ?_ ?_ Try.underlying49 ?_ ?_ ?_ ?_); rfl; rfl; rfl; kernel_rfl; rfl))
                  refine (CM.out _ _ _ R16_5 hp).mono ?_; rintro e w_70 ⟨rfl, hb_71⟩
                  replace G1 := G1.to hb_71 G1.lt
                  replace G3 := G3.to hb_71 G3.lt
                  replace G_49 := G_49.to hb_71 G_49.lt
                  replace G15_8 := G15_8.to hb_71 G15_8.lt
                  replace G16_9 := G16_9.to hb_71 G16_9.lt
                  replace hp := Rd.to hp hb_71
                  replace R15_4 := Rd.to R15_4 hb_71
                  replace R16_5 := Rd.to R16_5 hb_71
                  replace hB := hB.trans (hb_71.mono hB.size)
                  clear hb_71
                  go_wp2_with (first | (with_reducible refine stop_store ?_) | (with_reducible refine stop_box ?_) | (with_reducible refine stop_alloc ?_) | (with_reducible refine stop_bslice ?_) | ((with_reducible refine wpList_ld 3 [.int .i64 ll, .slice pA pB.length pC] G_49 ?_ ?_ Try.underlying47 ?_ ?_ ?_); rfl; rfl; rfl; kernel_rfl))
                  refine (CB.out _).mono ?_; rintro e w_73 ⟨rfl, hb_74⟩
                  replace G1 := G1.to hb_74 G1.lt
                  replace G3 := G3.to hb_74 G3.lt
                  replace G_49 := G_49.to hb_74 G_49.lt
                  replace G15_8 := G15_8.to hb_74 G15_8.lt
                  replace G16_9 := G16_9.to hb_74 G16_9.lt
                  replace hp := Rd.to hp hb_74
                  replace R15_4 := Rd.to R15_4 hb_74
                  replace R16_5 := Rd.to R16_5 hb_74
                  replace hB := hB.trans (hb_74.mono hB.size)
                  clear hb_74
                  go_wp2_with (first | (with_reducible refine stop_store ?_) | (with_reducible refine stop_box ?_) | (with_reducible refine stop_alloc ?_) | (with_reducible refine stop_bslice ?_))
                  go_roundw
                  case rel => exact ⟨k + 1, u, v, by omega, by go_num, hB, G1, G3, hn⟩
                  case measure => simp [intOf]; omega
            case true =>
              skip
              have ld_75 : w_51.cell? ⟨g_39, 4, none⟩ = some (.slice pA pB.length pC) := G_49.cell 4
              have ld_76 : w_51.cell? ⟨g_1, 3, none⟩ = some (.slice ((some ⟨bk, off, none⟩)) pk.length c) := G1.cell 3
              have ld_77 : w_51.cell? ⟨bk, off + k * 6, none⟩ = some (.bool true) := (HE.out _ hB) 0 _ rfl
              go_wp2_with (first | (with_reducible refine stop_store ?_) | (with_reducible refine stop_box ?_) | (with_reducible refine stop_alloc ?_) | (with_reducible refine stop_bslice ?_))
              clear ld_75 ld_76 ld_77
              try simp only [Act.put, List.setIfInBounds_toArray, List.set_cons_zero, List.set_cons_succ]
              go_cut [7, 8] from 125 (fun v7 v8 WX => ∃ (A15_4 : Option Addr) (c15_4 : Nat) (g15_8 : Nat), v7 = .pointer (some ⟨g15_8, 0, none⟩) ∧ v8 = .int .i64 0 ∧ w.heap.size ≤ g15_8 ∧ g_1 < g15_8 ∧ g_9 < g15_8 ∧ g_39 < g15_8 ∧ Below w.heap.size w WX ∧ Blk WX g_1 81 #[.int .u64 (W64 key), .int .u64 (W64 h0), .int .u64 (W64 h1), .slice ((some ⟨bk, off, none⟩)) pk.length c] ∧ Blk WX g_9 82 #[.int .i64 0, .int .u64 (W64 d), .int .u64 (W64 x), .bool true, .bool true, .int .u64 (W64 u), .int .u64 (W64 v), .int .i64 1, .int .u64 (W64 d), .int .u64 (W64 x), .bool true, .bool true, .int .u64 (W64 v), .int .u64 (W64 u)] ∧ Blk WX g_39 49 #[.int .i64 sn, .int .i64 ne, .int .i64 md, .int .i64 ll, .slice pA pB.length pC] ∧ Blk WX g15_8 49 #[.int .i64 sn, .int .i64 ne, .int .i64 md, .int .i64 ll, .slice A15_4 pB.length c15_4] ∧ RdB WX pA pB ∧ RdB WX A15_4 SP1 ∧ pB.length ≤ c15_4)
              case first =>
                have hst : Stable fun W => Below w.heap.size w W ∧ Blk W g_1 81 #[.int .u64 (W64 key), .int .u64 (W64 h0), .int .u64 (W64 h1), .slice ((some ⟨bk, off, none⟩)) pk.length c] ∧ Blk W g_9 82 #[.int .i64 0, .int .u64 (W64 d), .int .u64 (W64 x), .bool true, .bool true, .int .u64 (W64 u), .int .u64 (W64 v), .int .i64 1, .int .u64 (W64 d), .int .u64 (W64 x), .bool true, .bool true, .int .u64 (W64 v), .int .u64 (W64 u)] ∧ Blk W g_39 49 #[.int .i64 sn, .int .i64 ne, .int .i64 md, .int .i64 ll, .slice pA pB.length pC] ∧ RdB W pA pB := stable_and (stable_below _ _ (Nat.le_refl _)) (stable_and (stable_blk _ _ _) (stable_and (stable_blk _ _ _) (stable_and (stable_blk _ _ _) (stable_rdB _ _))))
                refine wp_region_v _ 11 hst ⟨hB.drew, G1, G3, G_49, hp⟩ ?_
                clear hB G1 G3 G_49 hp
                refine wpU_take (v := ?_) 0 hst (fun _ h => h) rfl ?_ ?_; rotate_left; (intro W hS K hK; clear hS; go_simp; exact hK.out _ (Below.refl _ _)); simp only [Act.put, List.setIfInBounds_toArray, List.set_cons_zero, List.set_cons_succ]
                refine wpU_take (v := ?_) 1 hst (fun _ h => h) rfl ?_ ?_; rotate_left; (intro W hS K hK; clear hS; go_simp; exact hK.out _ (Below.refl _ _)); simp only [Act.put, List.setIfInBounds_toArray, List.set_cons_zero, List.set_cons_succ]
                refine wpU_take (v := .agg #[.int .i64 1, .int .u64 (W64 d), .int .u64 (W64 x), .bool true, .bool true, .int .u64 (W64 v), .int .u64 (W64 u)]) 2 hst (fun _ h => h) rfl (fun W hS K hK => calm_load rfl rfl (load_part hS.2.2.1 7 [.int .i64 1, .int .u64 (W64 d), .int .u64 (W64 x), .bool true, .bool true, .int .u64 (W64 v), .int .u64 (W64 u)] rfl Try.underlying40 rfl (by kernel_rfl)) (hK.out _ (Below.refl _ _))) ?_; simp only [Act.put, List.setIfInBounds_toArray, List.set_cons_zero, List.set_cons_succ]
                refine wpU_take (v := .agg #[.int .i64 sn, .int .i64 ne, .int .i64 md, .int .i64 ll, .slice pA pB.length pC]) 3 hst (fun _ h => h) rfl (fun W hS K hK => calm_load rfl rfl (load_part hS.2.2.2.1 0 [.int .i64 sn, .int .i64 ne, .int .i64 md, .int .i64 ll, .slice pA pB.length pC] rfl Try.underlying49 rfl (by kernel_rfl)) (hK.out _ (Below.refl _ _))) ?_; simp only [Act.put, List.setIfInBounds_toArray, List.set_cons_zero, List.set_cons_succ]
                refine wpV_two 4 8 hst rfl rfl ?_ ?_
                · intro W hS K hK
                  go_simp
                  refine (back_seal ⟨1, d, x, true, true, v, u⟩ sn ne md ll pB pA pC _ hS.2.2.2.2 HPC.out HK.out (by have hh := kc_54.out; omega) SP1 pB.length HSP1.out HSM1.out).mono ?_; rintro e w9 ⟨A15_4, c15_4, rfl, R15_4, q15_4, hb⟩
                  refine hK.out (fun W => RdB W A15_4 SP1 ∧ pB.length ≤ c15_4) _ _ (stable_and (stable_rdB _ _) (stable_const _)) hb (⟨R15_4, q15_4⟩) (fun hst => ?_)
                  clear hK K hb R15_4 q15_4 hS
                  try simp only [Act.put, List.setIfInBounds_toArray, List.set_cons_zero, List.set_cons_succ]
                  refine wpU_take (v := ?_) 5 hst (fun _ h => h) rfl ?_ ?_; rotate_left; (intro W hS K hK; clear hS; go_simp; exact hK.out _ (Below.refl _ _)); simp only [Act.put, List.setIfInBounds_toArray, List.set_cons_zero, List.set_cons_succ]
                  refine wpU_take (v := ?_) 6 hst (fun _ h => h) rfl ?_ ?_; rotate_left; (intro W hS K hK; clear hS; go_simp; exact hK.out _ (Below.refl _ _)); simp only [Act.put, List.setIfInBounds_toArray, List.set_cons_zero, List.set_cons_succ]
                  refine wpU_take (v := ?_) 7 hst (fun _ h => h) rfl ?_ ?_; rotate_left; (intro W hS K hK; clear hS; go_simp; exact hK.out _ (Below.refl _ _)); simp only [Act.put, List.setIfInBounds_toArray, List.set_cons_zero, List.set_cons_succ]
                  refine wpV_new 8 hst rfl ?_; intro W hS K hK
                  have l15_8_g_1 : g_1 < W.heap.size := hS.1.2.1.lt
                  have l15_8_g_9 : g_9 < W.heap.size := hS.1.2.2.1.lt
                  have l15_8_g_39 : g_39 < W.heap.size := hS.1.2.2.2.1.lt
                  have n15_8a : w.heap.size ≤ W.heap.size := hS.1.1.size
                  clear hS
                  go_simp
                  refine hK.out (fun W' => Room W.heap.size 49 5 W') _ _ (stable_room _ _ _) ((Below.refl _ _).alloc (Nat.le_refl _) _) (⟨_, rfl, rfl, Blk.new _ _ _⟩) (fun hst => ?_)
                  clear hK K
                  try simp only [Act.put, List.setIfInBounds_toArray, List.set_cons_zero, List.set_cons_succ]
                  generalize W.heap.size = g15_8 at hst l15_8_g_1 l15_8_g_9 l15_8_g_39 n15_8a ⊢
                  clear W
                  refine wpV_st 9 hst (fun _ h => h) #[.int .i64 sn, .int .i64 ne, .int .i64 md, .int .i64 ll, .slice A15_4 pB.length c15_4] rfl rfl rfl rfl (fun W hS => hS.2) (fun W W' h hU hG => ?_) (by kernel_rfl) rfl (fun hst => ?_)
                  · obtain ⟨⟨⟨h0_0, h0_1, h0_2, h0_3, h0_4⟩, ⟨h1_0, h1_1⟩⟩, ⟨ch2_0, ah2_0, bh2_0, h2_0⟩⟩ := h
                    exact ⟨⟨⟨hU.below h0_0 (by omega), hU.blk h0_1 (by omega), hU.blk h0_2 (by omega), hU.blk h0_3 (by omega), RdB.upd h0_4 h2_0 hU bh2_0⟩, ⟨RdB.upd h1_0 h2_0 hU bh2_0, h1_1⟩⟩, ⟨_, rfl, rfl, hG⟩⟩
                  refine wpU_take (v := ?_) 10 hst (fun _ h => h.1) rfl ?_ ?_; rotate_left; (intro W hS K hK; clear hS; go_simp; exact hK.out _ (Below.refl _ _)); simp only [Act.put, List.setIfInBounds_toArray, List.set_cons_zero, List.set_cons_succ]
                  refine wpU_done (fun w_78 hS => ?_)
                  obtain ⟨⟨⟨⟨hB, G1, G3, G_49, hp⟩, ⟨R15_4, q15_4⟩⟩, -⟩, G15_8s⟩ := hS
                  clear hst
                  go_wp2_with fail
                  go_meet
                  case rel => exact ⟨A15_4, c15_4, g15_8, rfl, rfl, (by omega), (by omega), (by omega), (by omega), hB, G1, G3, G_49, G15_8s, hp, R15_4, q15_4⟩
                · intro W hS K hK
                  have l15_8_g_1 : g_1 < W.heap.size := hS.2.1.lt
                  have l15_8_g_9 : g_9 < W.heap.size := hS.2.2.1.lt
                  have l15_8_g_39 : g_39 < W.heap.size := hS.2.2.2.1.lt
                  have n15_8a : w.heap.size ≤ W.heap.size := hS.1.size
                  clear hS
                  go_simp
                  refine hK.out (fun W' => Room W.heap.size 49 5 W') _ _ (stable_room _ _ _) ((Below.refl _ _).alloc (Nat.le_refl _) _) (⟨_, rfl, rfl, Blk.new _ _ _⟩) (fun hst => ?_)
                  clear hK K
                  try simp only [Act.put, List.setIfInBounds_toArray, List.set_cons_zero, List.set_cons_succ]
                  generalize W.heap.size = g15_8 at hst l15_8_g_1 l15_8_g_9 l15_8_g_39 n15_8a ⊢
                  clear W
                  refine wpV_new 4 hst rfl ?_; intro W hS K hK
                  go_simp
                  refine (back_seal ⟨1, d, x, true, true, v, u⟩ sn ne md ll pB pA pC _ hS.1.2.2.2.2 HPC.out HK.out (by have hh := kc_54.out; omega) SP1 pB.length HSP1.out HSM1.out).mono ?_; rintro e w9 ⟨A15_4, c15_4, rfl, R15_4, q15_4, hb⟩
                  refine hK.out (fun W => RdB W A15_4 SP1 ∧ pB.length ≤ c15_4) _ _ (stable_and (stable_rdB _ _) (stable_const _)) hb (⟨R15_4, q15_4⟩) (fun hst => ?_)
                  clear hK K hb R15_4 q15_4 hS
                  try simp only [Act.put, List.setIfInBounds_toArray, List.set_cons_zero, List.set_cons_succ]
                  refine wpU_take (v := ?_) 5 hst (fun _ h => h) rfl ?_ ?_; rotate_left; (intro W hS K hK; clear hS; go_simp; exact hK.out _ (Below.refl _ _)); simp only [Act.put, List.setIfInBounds_toArray, List.set_cons_zero, List.set_cons_succ]
                  refine wpU_take (v := ?_) 6 hst (fun _ h => h) rfl ?_ ?_; rotate_left; (intro W hS K hK; clear hS; go_simp; exact hK.out _ (Below.refl _ _)); simp only [Act.put, List.setIfInBounds_toArray, List.set_cons_zero, List.set_cons_succ]
                  refine wpU_take (v := ?_) 7 hst (fun _ h => h) rfl ?_ ?_; rotate_left; (intro W hS K hK; clear hS; go_simp; exact hK.out _ (Below.refl _ _)); simp only [Act.put, List.setIfInBounds_toArray, List.set_cons_zero, List.set_cons_succ]
                  refine wpV_st 9 hst (fun _ h => h) #[.int .i64 sn, .int .i64 ne, .int .i64 md, .int .i64 ll, .slice A15_4 pB.length c15_4] rfl rfl rfl rfl (fun W hS => hS.1.2) (fun W W' h hU hG => ?_) (by kernel_rfl) rfl (fun hst => ?_)
                  · obtain ⟨⟨⟨h0_0, h0_1, h0_2, h0_3, h0_4⟩, ⟨ch1_0, ah1_0, bh1_0, h1_0⟩⟩, ⟨h2_0, h2_1⟩⟩ := h
                    exact ⟨⟨⟨hU.below h0_0 (by omega), hU.blk h0_1 (by omega), hU.blk h0_2 (by omega), hU.blk h0_3 (by omega), RdB.upd h0_4 h1_0 hU bh1_0⟩, ⟨_, rfl, rfl, hG⟩⟩, ⟨RdB.upd h2_0 h1_0 hU bh1_0, h2_1⟩⟩
                  refine wpU_take (v := ?_) 10 hst (fun _ h => h.1) rfl ?_ ?_; rotate_left; (intro W hS K hK; clear hS; go_simp; exact hK.out _ (Below.refl _ _)); simp only [Act.put, List.setIfInBounds_toArray, List.set_cons_zero, List.set_cons_succ]
                  refine wpU_done (fun w_79 hS => ?_)
                  obtain ⟨⟨⟨⟨hB, G1, G3, G_49, hp⟩, -⟩, ⟨R15_4, q15_4⟩⟩, G15_8s⟩ := hS
                  clear hst
                  go_wp2_with fail
                  go_meet
                  case rel => exact ⟨A15_4, c15_4, g15_8, rfl, rfl, (by omega), (by omega), (by omega), (by omega), hB, G1, G3, G_49, G15_8s, hp, R15_4, q15_4⟩
              case rest =>
                obtain ⟨A15_4, c15_4, g15_8, rfl, rfl, n15_8a, n15_8_g_1, n15_8_g_9, n15_8_g_39, hB, G1, G3, G_49, G15_8, hp, R15_4, q15_4⟩ := hcut
                skip
                go_wp2_with (first | (with_reducible refine stop_store ?_) | (with_reducible refine stop_box ?_) | (with_reducible refine stop_alloc ?_) | (with_reducible refine stop_bslice ?_))
                try simp only [Act.put, List.setIfInBounds_toArray, List.set_cons_zero, List.set_cons_succ]
                go_cut [9, 10] from 125 (fun v9 v10 WX => ∃ (A16_5 : Option Addr) (c16_5 : Nat) (g16_9 : Nat), v9 = .pointer (some ⟨g16_9, 0, none⟩) ∧ v10 = .int .i64 0 ∧ w.heap.size ≤ g16_9 ∧ g_1 < g16_9 ∧ g_9 < g16_9 ∧ g_39 < g16_9 ∧ g15_8 < g16_9 ∧ Below w.heap.size w WX ∧ Blk WX g_1 81 #[.int .u64 (W64 key), .int .u64 (W64 h0), .int .u64 (W64 h1), .slice ((some ⟨bk, off, none⟩)) pk.length c] ∧ Blk WX g_9 82 #[.int .i64 0, .int .u64 (W64 d), .int .u64 (W64 x), .bool true, .bool true, .int .u64 (W64 u), .int .u64 (W64 v), .int .i64 1, .int .u64 (W64 d), .int .u64 (W64 x), .bool true, .bool true, .int .u64 (W64 v), .int .u64 (W64 u)] ∧ Blk WX g_39 49 #[.int .i64 sn, .int .i64 ne, .int .i64 md, .int .i64 ll, .slice pA pB.length pC] ∧ Blk WX g15_8 49 #[.int .i64 sn, .int .i64 ne, .int .i64 md, .int .i64 ll, .slice A15_4 pB.length c15_4] ∧ Blk WX g16_9 49 #[.int .i64 sn, .int .i64 ne, .int .i64 md, .int .i64 ll, .slice A16_5 pB.length c16_5] ∧ RdB WX pA pB ∧ RdB WX A15_4 SP1 ∧ pB.length ≤ c15_4 ∧ RdB WX A16_5 pB)
                case first =>
                  have hst : Stable fun W => Below w.heap.size w W ∧ Blk W g_1 81 #[.int .u64 (W64 key), .int .u64 (W64 h0), .int .u64 (W64 h1), .slice ((some ⟨bk, off, none⟩)) pk.length c] ∧ Blk W g_9 82 #[.int .i64 0, .int .u64 (W64 d), .int .u64 (W64 x), .bool true, .bool true, .int .u64 (W64 u), .int .u64 (W64 v), .int .i64 1, .int .u64 (W64 d), .int .u64 (W64 x), .bool true, .bool true, .int .u64 (W64 v), .int .u64 (W64 u)] ∧ Blk W g_39 49 #[.int .i64 sn, .int .i64 ne, .int .i64 md, .int .i64 ll, .slice pA pB.length pC] ∧ Blk W g15_8 49 #[.int .i64 sn, .int .i64 ne, .int .i64 md, .int .i64 ll, .slice A15_4 pB.length c15_4] ∧ RdB W pA pB ∧ RdB W A15_4 SP1 ∧ pB.length ≤ c15_4 := stable_and (stable_below _ _ (Nat.le_refl _)) (stable_and (stable_blk _ _ _) (stable_and (stable_blk _ _ _) (stable_and (stable_blk _ _ _) (stable_and (stable_blk _ _ _) (stable_and (stable_rdB _ _) (stable_and (stable_rdB _ _) (stable_const _)))))))
                  refine wp_region_v _ 12 hst ⟨hB.drew, G1, G3, G_49, G15_8, hp, R15_4, q15_4⟩ ?_
                  clear hB G1 G3 G_49 G15_8 hp R15_4 q15_4
                  refine wpU_take (v := ?_) 0 hst (fun _ h => h) rfl ?_ ?_; rotate_left; (intro W hS K hK; clear hS; go_simp; exact hK.out _ (Below.refl _ _)); simp only [Act.put, List.setIfInBounds_toArray, List.set_cons_zero, List.set_cons_succ]
                  refine wpU_take (v := ?_) 1 hst (fun _ h => h) rfl ?_ ?_; rotate_left; (intro W hS K hK; clear hS; go_simp; exact hK.out _ (Below.refl _ _)); simp only [Act.put, List.setIfInBounds_toArray, List.set_cons_zero, List.set_cons_succ]
                  refine wpU_take (v := ?_) 2 hst (fun _ h => h) rfl ?_ ?_; rotate_left; (intro W hS K hK; clear hS; go_simp; exact hK.out _ (Below.refl _ _)); simp only [Act.put, List.setIfInBounds_toArray, List.set_cons_zero, List.set_cons_succ]
                  refine wpU_take (v := .agg #[.int .i64 0, .int .u64 (W64 d), .int .u64 (W64 x), .bool true, .bool true, .int .u64 (W64 u), .int .u64 (W64 v)]) 3 hst (fun _ h => h) rfl (fun W hS K hK => calm_load rfl rfl (load_part hS.2.2.1 0 [.int .i64 0, .int .u64 (W64 d), .int .u64 (W64 x), .bool true, .bool true, .int .u64 (W64 u), .int .u64 (W64 v)] rfl Try.underlying40 rfl (by kernel_rfl)) (hK.out _ (Below.refl _ _))) ?_; simp only [Act.put, List.setIfInBounds_toArray, List.set_cons_zero, List.set_cons_succ]
                  refine wpU_take (v := .agg #[.int .i64 sn, .int .i64 ne, .int .i64 md, .int .i64 ll, .slice A15_4 pB.length c15_4]) 4 hst (fun _ h => h) rfl (fun W hS K hK => calm_load rfl rfl (load_part hS.2.2.2.2.1 0 [.int .i64 sn, .int .i64 ne, .int .i64 md, .int .i64 ll, .slice A15_4 pB.length c15_4] rfl Try.underlying49 rfl (by kernel_rfl)) (hK.out _ (Below.refl _ _))) ?_; simp only [Act.put, List.setIfInBounds_toArray, List.set_cons_zero, List.set_cons_succ]
                  refine wpV_two 5 9 hst rfl rfl ?_ ?_
                  · intro W hS K hK
                    go_simp
                    refine (back_open ⟨1, d, x, true, true, v, u⟩ ⟨0, d, x, true, true, u, v⟩ sn ne md ll pB A15_4 c15_4 _ SP1 pB.length HSP1.out HSM1.out hS.2.2.2.2.2.2.1 hS.2.2.2.2.2.2.2 HK.out (by have hh := kc_54.out; omega) rfl rfl rfl rfl rfl rfl).mono ?_; rintro e w9 ⟨A16_5, c16_5, rfl, R16_5, q16_5, hb⟩
                    refine hK.out (fun W => RdB W A16_5 pB) _ _ (stable_rdB _ _) hb (R16_5) (fun hst => ?_)
                    clear hK K hb R16_5 hS
                    try simp only [Act.put, List.setIfInBounds_toArray, List.set_cons_zero, List.set_cons_succ]
                    refine wpU_take (v := ?_) 6 hst (fun _ h => h) rfl ?_ ?_; rotate_left; (intro W hS K hK; clear hS; go_simp; exact hK.out _ (Below.refl _ _)); simp only [Act.put, List.setIfInBounds_toArray, List.set_cons_zero, List.set_cons_succ]
                    refine wpU_take (v := ?_) 7 hst (fun _ h => h) rfl ?_ ?_; rotate_left; (intro W hS K hK; clear hS; go_simp; exact hK.out _ (Below.refl _ _)); simp only [Act.put, List.setIfInBounds_toArray, List.set_cons_zero, List.set_cons_succ]
                    refine wpU_take (v := ?_) 8 hst (fun _ h => h) rfl ?_ ?_; rotate_left; (intro W hS K hK; clear hS; go_simp; exact hK.out _ (Below.refl _ _)); simp only [Act.put, List.setIfInBounds_toArray, List.set_cons_zero, List.set_cons_succ]
                    refine wpV_new 9 hst rfl ?_; intro W hS K hK
                    have l16_9_g_1 : g_1 < W.heap.size := hS.1.2.1.lt
                    have l16_9_g_9 : g_9 < W.heap.size := hS.1.2.2.1.lt
                    have l16_9_g_39 : g_39 < W.heap.size := hS.1.2.2.2.1.lt
                    have l16_9_g15_8 : g15_8 < W.heap.size := hS.1.2.2.2.2.1.lt
                    have n16_9a : w.heap.size ≤ W.heap.size := hS.1.1.size
                    clear hS
                    go_simp
                    refine hK.out (fun W' => Room W.heap.size 49 5 W') _ _ (stable_room _ _ _) ((Below.refl _ _).alloc (Nat.le_refl _) _) (⟨_, rfl, rfl, Blk.new _ _ _⟩) (fun hst => ?_)
                    clear hK K
                    try simp only [Act.put, List.setIfInBounds_toArray, List.set_cons_zero, List.set_cons_succ]
                    generalize W.heap.size = g16_9 at hst l16_9_g_1 l16_9_g_9 l16_9_g_39 l16_9_g15_8 n16_9a ⊢
                    clear W
                    refine wpV_st 10 hst (fun _ h => h) #[.int .i64 sn, .int .i64 ne, .int .i64 md, .int .i64 ll, .slice A16_5 pB.length c16_5] rfl rfl rfl rfl (fun W hS => hS.2) (fun W W' h hU hG => ?_) (by kernel_rfl) rfl (fun hst => ?_)
                    · obtain ⟨⟨⟨h0_0, h0_1, h0_2, h0_3, h0_4, h0_5, h0_6, h0_7⟩, h1_0⟩, ⟨ch2_0, ah2_0, bh2_0, h2_0⟩⟩ := h
                      exact ⟨⟨⟨hU.below h0_0 (by omega), hU.blk h0_1 (by omega), hU.blk h0_2 (by omega), hU.blk h0_3 (by omega), hU.blk h0_4 (by omega), RdB.upd h0_5 h2_0 hU bh2_0, RdB.upd h0_6 h2_0 hU bh2_0, h0_7⟩, RdB.upd h1_0 h2_0 hU bh2_0⟩, ⟨_, rfl, rfl, hG⟩⟩
                    refine wpU_take (v := ?_) 11 hst (fun _ h => h.1) rfl ?_ ?_; rotate_left; (intro W hS K hK; clear hS; go_simp; exact hK.out _ (Below.refl _ _)); simp only [Act.put, List.setIfInBounds_toArray, List.set_cons_zero, List.set_cons_succ]
                    refine wpU_done (fun w_81 hS => ?_)
                    obtain ⟨⟨⟨⟨hB, G1, G3, G_49, G15_8, hp, R15_4, q15_4⟩, R16_5⟩, -⟩, G16_9s⟩ := hS
                    clear hst
                    go_wp2_with fail
                    go_meet
                    case rel => exact ⟨A16_5, c16_5, g16_9, rfl, rfl, (by omega), (by omega), (by omega), (by omega), (by omega), hB, G1, G3, G_49, G15_8, G16_9s, hp, R15_4, q15_4, R16_5⟩
                  · intro W hS K hK
                    have l16_9_g_1 : g_1 < W.heap.size := hS.2.1.lt
                    have l16_9_g_9 : g_9 < W.heap.size := hS.2.2.1.lt
                    have l16_9_g_39 : g_39 < W.heap.size := hS.2.2.2.1.lt
                    have l16_9_g15_8 : g15_8 < W.heap.size := hS.2.2.2.2.1.lt
                    have n16_9a : w.heap.size ≤ W.heap.size := hS.1.size
                    clear hS
                    go_simp
                    refine hK.out (fun W' => Room W.heap.size 49 5 W') _ _ (stable_room _ _ _) ((Below.refl _ _).alloc (Nat.le_refl _) _) (⟨_, rfl, rfl, Blk.new _ _ _⟩) (fun hst => ?_)
                    clear hK K
                    try simp only [Act.put, List.setIfInBounds_toArray, List.set_cons_zero, List.set_cons_succ]
                    generalize W.heap.size = g16_9 at hst l16_9_g_1 l16_9_g_9 l16_9_g_39 l16_9_g15_8 n16_9a ⊢
                    clear W
                    refine wpV_new 5 hst rfl ?_; intro W hS K hK
                    go_simp
                    refine (back_open ⟨1, d, x, true, true, v, u⟩ ⟨0, d, x, true, true, u, v⟩ sn ne md ll pB A15_4 c15_4 _ SP1 pB.length HSP1.out HSM1.out hS.1.2.2.2.2.2.2.1 hS.1.2.2.2.2.2.2.2 HK.out (by have hh := kc_54.out; omega) rfl rfl rfl rfl rfl rfl).mono ?_; rintro e w9 ⟨A16_5, c16_5, rfl, R16_5, q16_5, hb⟩
                    refine hK.out (fun W => RdB W A16_5 pB) _ _ (stable_rdB _ _) hb (R16_5) (fun hst => ?_)
                    clear hK K hb R16_5 hS
                    try simp only [Act.put, List.setIfInBounds_toArray, List.set_cons_zero, List.set_cons_succ]
                    refine wpU_take (v := ?_) 6 hst (fun _ h => h) rfl ?_ ?_; rotate_left; (intro W hS K hK; clear hS; go_simp; exact hK.out _ (Below.refl _ _)); simp only [Act.put, List.setIfInBounds_toArray, List.set_cons_zero, List.set_cons_succ]
                    refine wpU_take (v := ?_) 7 hst (fun _ h => h) rfl ?_ ?_; rotate_left; (intro W hS K hK; clear hS; go_simp; exact hK.out _ (Below.refl _ _)); simp only [Act.put, List.setIfInBounds_toArray, List.set_cons_zero, List.set_cons_succ]
                    refine wpU_take (v := ?_) 8 hst (fun _ h => h) rfl ?_ ?_; rotate_left; (intro W hS K hK; clear hS; go_simp; exact hK.out _ (Below.refl _ _)); simp only [Act.put, List.setIfInBounds_toArray, List.set_cons_zero, List.set_cons_succ]
                    refine wpV_st 10 hst (fun _ h => h) #[.int .i64 sn, .int .i64 ne, .int .i64 md, .int .i64 ll, .slice A16_5 pB.length c16_5] rfl rfl rfl rfl (fun W hS => hS.1.2) (fun W W' h hU hG => ?_) (by kernel_rfl) rfl (fun hst => ?_)
                    · obtain ⟨⟨⟨h0_0, h0_1, h0_2, h0_3, h0_4, h0_5, h0_6, h0_7⟩, ⟨ch1_0, ah1_0, bh1_0, h1_0⟩⟩, h2_0⟩ := h
                      exact ⟨⟨⟨hU.below h0_0 (by omega), hU.blk h0_1 (by omega), hU.blk h0_2 (by omega), hU.blk h0_3 (by omega), hU.blk h0_4 (by omega), RdB.upd h0_5 h1_0 hU bh1_0, RdB.upd h0_6 h1_0 hU bh1_0, h0_7⟩, ⟨_, rfl, rfl, hG⟩⟩, RdB.upd h2_0 h1_0 hU bh1_0⟩
                    refine wpU_take (v := ?_) 11 hst (fun _ h => h.1) rfl ?_ ?_; rotate_left; (intro W hS K hK; clear hS; go_simp; exact hK.out _ (Below.refl _ _)); simp only [Act.put, List.setIfInBounds_toArray, List.set_cons_zero, List.set_cons_succ]
                    refine wpU_done (fun w_82 hS => ?_)
                    obtain ⟨⟨⟨⟨hB, G1, G3, G_49, G15_8, hp, R15_4, q15_4⟩, -⟩, R16_5⟩, G16_9s⟩ := hS
                    clear hst
                    go_wp2_with fail
                    go_meet
                    case rel => exact ⟨A16_5, c16_5, g16_9, rfl, rfl, (by omega), (by omega), (by omega), (by omega), (by omega), hB, G1, G3, G_49, G15_8, G16_9s, hp, R15_4, q15_4, R16_5⟩
                case rest =>
                  obtain ⟨A16_5, c16_5, g16_9, rfl, rfl, n16_9a, n16_9_g_1, n16_9_g_9, n16_9_g_39, n16_9_g15_8, hB, G1, G3, G_49, G15_8, G16_9, hp, R15_4, q15_4, R16_5⟩ := hcut
                  skip
                  go_wp2_with (first | (with_reducible refine stop_store ?_) | (with_reducible refine stop_box ?_) | (with_reducible refine stop_alloc ?_) | (with_reducible refine stop_bslice ?_) | ((with_reducible refine wpList_ld 0 [.int .i64 sn, .int .i64 ne, .int .i64 md, .int .i64 ll, .slice A16_5 pB.length c16_5] G16_9 ?_ ?_ Try.underlying49 ?_ ?_ ?_); rfl; rfl; rfl; kernel_rfl) | ((with_reducible refine wpList_ldg 0 [.int .i64 sn, .int .i64 ne, .int .i64 md, .int .i64 ll, .slice A16_5 pB.length c16_5] G16_9 ?_ ?_ Try.underlying49 ?_ ?_ ?_ ?_); rfl; rfl; rfl; kernel_rfl; rfl) | ((with_reducible refine wpList_ld 0 [.int .i64 sn, .int .i64 ne, .int .i64 md, .int .i64 ll, .slice pA pB.length pC] G_49 ?_ ?_ Try.underlying49 ?_ ?_ ?_); rfl; rfl; rfl; kernel_rfl) | ((with_reducible refine wpList_ldg 0 [.int .i64 sn, .int .i64 ne, .int .i64 md, .int .i64 ll, .slice pA pB.length pC] G_49 ?_ ?_ Try.underlying49 ?_ ?_ ?_ ?_); rfl; rfl; rfl; kernel_rfl; rfl))
                  refine (CM.out _ _ _ R16_5 hp).mono ?_; rintro e w_86 ⟨rfl, hb_87⟩
                  replace G1 := G1.to hb_87 G1.lt
                  replace G3 := G3.to hb_87 G3.lt
                  replace G_49 := G_49.to hb_87 G_49.lt
                  replace G15_8 := G15_8.to hb_87 G15_8.lt
                  replace G16_9 := G16_9.to hb_87 G16_9.lt
                  replace hp := Rd.to hp hb_87
                  replace R15_4 := Rd.to R15_4 hb_87
                  replace R16_5 := Rd.to R16_5 hb_87
                  replace hB := hB.trans (hb_87.mono hB.size)
                  clear hb_87
                  go_wp2_with (first | (with_reducible refine stop_store ?_) | (with_reducible refine stop_box ?_) | (with_reducible refine stop_alloc ?_) | (with_reducible refine stop_bslice ?_) | ((with_reducible refine wpList_ld 3 [.int .i64 ll, .slice pA pB.length pC] G_49 ?_ ?_ Try.underlying47 ?_ ?_ ?_); rfl; rfl; rfl; kernel_rfl))
                  refine (CB.out _).mono ?_; rintro e w_89 ⟨rfl, hb_90⟩
                  replace G1 := G1.to hb_90 G1.lt
                  replace G3 := G3.to hb_90 G3.lt
                  replace G_49 := G_49.to hb_90 G_49.lt
                  replace G15_8 := G15_8.to hb_90 G15_8.lt
                  replace G16_9 := G16_9.to hb_90 G16_9.lt
                  replace hp := Rd.to hp hb_90
                  replace R15_4 := Rd.to R15_4 hb_90
                  replace R16_5 := Rd.to R16_5 hb_90
                  replace hB := hB.trans (hb_90.mono hB.size)
                  clear hb_90
                  go_wp2_with (first | (with_reducible refine stop_store ?_) | (with_reducible refine stop_box ?_) | (with_reducible refine stop_alloc ?_) | (with_reducible refine stop_bslice ?_))
                  go_roundw
                  case rel => exact ⟨k + 1, u, v, by omega, by go_num, hB, G1, G3, hn⟩
                  case measure => simp [intOf]; omega
        ·
          have ec_53 : ((ck : Int) == 0) = false := by simpa using hc_53
          have ec_53n : ((ck : Int) != 0) = true := by simpa using hc_53
          have kc_53 := Lib.hid hc_53
          clear hc_53
          go_wp2_with (first | (with_reducible refine stop_store ?_) | (with_reducible refine stop_box ?_) | (with_reducible refine stop_alloc ?_) | (with_reducible refine stop_bslice ?_))
          refine (ex29 _).mono ?_; rintro e w_91 ⟨rfl, hb_92⟩
          replace G1 := G1.to hb_92 G1.lt
          replace G3 := G3.to hb_92 G3.lt
          replace G_49 := G_49.to hb_92 G_49.lt
          replace hp := Rd.to hp hb_92
          replace hB := hB.trans (hb_92.mono hB.size)
          clear hb_92
          go_wp2_with (first | (with_reducible refine stop_store ?_) | (with_reducible refine stop_box ?_) | (with_reducible refine stop_alloc ?_) | (with_reducible refine stop_bslice ?_))
          go_returns
          exact ⟨rfl, hB⟩
      ·
        subst hb
        have hbq : (decide (ll = 1) && decide (pB.length = 0)) = false := hbl
        have hm0 : SP0.length = pB.length + 4 := by rw [← hs0]; exact sealPay_len _ _ _ rfl hbq
        have HSP0 := Lib.hid hs0
        have hm1 : SP1.length = pB.length + 4 := by rw [← hs1]; exact sealPay_len _ _ _ rfl hbq
        have HSP1 := Lib.hid hs1
        obtain ⟨sm, hsm⟩ : ∃ z, pB.length + 4 = z := ⟨_, rfl⟩
        rw [hsm] at hm0 hm1
        have HSM0 := Lib.hid hm0
        have HSM1 := Lib.hid hm1
        have i5 : (((sm : Nat) : Int) != ((pB.length : Nat) : Int) + 4) = false := by simp; omega
        clear hm0 hm1 hsm
        have i1 : decide ((k : Int) < ((pk.length : Nat) : Int)) = true := by simp; exact hlt
        have i2 : decide (k < pk.length) = true := decide_eq_true hlt
        clear hrow hp0 hpc hk hy hs0 hs1 hbl hbq
        have ld_93 : wr.cell? ⟨g_1, 3, none⟩ = some (.slice ((some ⟨bk, off, none⟩)) pk.length c) := G1.cell 3
        go_wp2_with (first | (with_reducible refine stop_store ?_) | (with_reducible refine stop_box ?_) | (with_reducible refine stop_alloc ?_) | (with_reducible refine stop_bslice ?_) | ((with_reducible refine wpList_ldr [.int .i64 sn, .int .i64 ne, .int .i64 md, .int .i64 ll, .slice pA pB.length pC] (range_part (HE.out _ hB) 1 [.int .i64 sn, .int .i64 ne, .int .i64 md, .int .i64 ll, .slice pA pB.length pC] rfl) ?_ Try.underlying49 ?_ ?_ ?_); rfl; rfl; kernel_rfl))
        unfold Kept
        refine go_mem (ty := 49) (cs := #[.int .i64 0, .int .i64 0, .int .i64 0, .int .i64 0, .slice none 0 0]) (fun g => .pointer (some ⟨g, 0, none⟩)) rfl (by kernel_rfl) ?_
        intro g_95 w_96 z_100 l_99 hb_97 G_98
        clear ld_93
        have n_101 : g_9 < g_95 := Nat.lt_of_lt_of_le G3.lt l_99
        have n_102 : w.heap.size ≤ g_95 := Nat.le_trans hB.size l_99
        replace G1 := G1.to hb_97 G1.lt
        replace G3 := G3.to hb_97 G3.lt
        replace hp := Rd.to hp hb_97
        replace hB := hB.trans (hb_97.mono hB.size)
        clear hb_97 l_99 z_100
        go_wp2_with (first | (with_reducible refine stop_store ?_) | (with_reducible refine stop_box ?_) | (with_reducible refine stop_alloc ?_) | (with_reducible refine stop_bslice ?_))
        unfold Kept
        refine wpList_st 0 #[.int .i64 sn, .int .i64 ne, .int .i64 md, .int .i64 ll, .slice pA pB.length pC] #[.int .i64 sn, .int .i64 ne, .int .i64 md, .int .i64 ll, .slice pA pB.length pC] G_98 rfl rfl (by kernel_rfl) rfl (of_decide_eq_true rfl) rfl ?_
        intro w_103 G_105 hU_104
        replace G1 := hU_104.blk G1 (by omega)
        replace G3 := hU_104.blk G3 (by omega)
        replace hp := RdB.upd hp G_98 hU_104 (by rfl)
        replace hB := hU_104.below hB (by omega)
        clear G_98 hU_104
        go_wp2_with (first | (with_reducible refine stop_store ?_) | (with_reducible refine stop_box ?_) | (with_reducible refine stop_alloc ?_) | (with_reducible refine stop_bslice ?_) | ((with_reducible refine wpList_ld 0 [.int .i64 sn, .int .i64 ne, .int .i64 md, .int .i64 ll, .slice pA pB.length pC] G_105 ?_ ?_ Try.underlying49 ?_ ?_ ?_); rfl; rfl; rfl; kernel_rfl) | ((with_reducible refine wpList_ldg 0 [.int .i64 sn, .int .i64 ne, .int .i64 md, .int .i64 ll, .slice pA pB.length pC] G_105 ?_ ?_ Try.underlying49 ?_ ?_ ?_ ?_); rfl; rfl; rfl; kernel_rfl; rfl))
        refine (CK.out _).mono ?_; rintro e w_107 ⟨rfl, hb_108⟩
        replace G1 := G1.to hb_108 G1.lt
        replace G3 := G3.to hb_108 G3.lt
        replace G_105 := G_105.to hb_108 G_105.lt
        replace hp := Rd.to hp hb_108
        replace hB := hB.trans (hb_108.mono hB.size)
        clear hb_108
        by_cases hc_109 : (ck : Int) = 0
        ·
          subst hc_109
          by_cases hc_110 : (251 : Int) < ((pB.length : Nat) : Int)
          ·
            have ec_110m : (251 : Int) < ((pB.length : Nat) : Int) := hc_110
            have ec_110 : decide ((251 : Int) < ((pB.length : Nat) : Int)) = true := decide_eq_true hc_110
            have ec_110n : decide ((((pB.length : Nat) : Int) : Int) ≤ 251) = false := decide_eq_false (Int.not_le.2 hc_110)
            have kc_110 := Lib.hid hc_110
            clear hc_110
            have ld_111 : w_107.cell? ⟨g_95, 4, none⟩ = some (.slice pA pB.length pC) := G_105.cell 4
            go_wp2_with (first | (with_reducible refine stop_store ?_) | (with_reducible refine stop_box ?_) | (with_reducible refine stop_alloc ?_) | (with_reducible refine stop_bslice ?_))
            refine (ex29 _).mono ?_; rintro e w_112 ⟨rfl, hb_113⟩
            clear ld_111
            replace G1 := G1.to hb_113 G1.lt
            replace G3 := G3.to hb_113 G3.lt
            replace G_105 := G_105.to hb_113 G_105.lt
            replace hp := Rd.to hp hb_113
            replace hB := hB.trans (hb_113.mono hB.size)
            clear hb_113
            go_wp2_with (first | (with_reducible refine stop_store ?_) | (with_reducible refine stop_box ?_) | (with_reducible refine stop_alloc ?_) | (with_reducible refine stop_bslice ?_))
            go_returns
            exact ⟨rfl, hB⟩
          ·
            have ec_110m : (((pB.length : Nat) : Int) : Int) ≤ 251 := Int.not_lt.1 hc_110
            have ec_110 : decide ((251 : Int) < ((pB.length : Nat) : Int)) = false := decide_eq_false hc_110
            have ec_110n : decide ((((pB.length : Nat) : Int) : Int) ≤ 251) = true := decide_eq_true (Int.not_lt.1 hc_110)
            have kc_110 := Lib.hid hc_110
            clear hc_110
            cases up
            case false =>
              skip
              have ld_115 : w_107.cell? ⟨g_95, 4, none⟩ = some (.slice pA pB.length pC) := G_105.cell 4
              have ld_116 : w_107.cell? ⟨g_1, 3, none⟩ = some (.slice ((some ⟨bk, off, none⟩)) pk.length c) := G1.cell 3
              have ld_117 : w_107.cell? ⟨bk, off + k * 6, none⟩ = some (.bool false) := (HE.out _ hB) 0 _ rfl
              go_wp2_with (first | (with_reducible refine stop_store ?_) | (with_reducible refine stop_box ?_) | (with_reducible refine stop_alloc ?_) | (with_reducible refine stop_bslice ?_))
              clear ld_115 ld_116 ld_117
              try simp only [Act.put, List.setIfInBounds_toArray, List.set_cons_zero, List.set_cons_succ]
              go_cut [7, 8] from 125 (fun v7 v8 WX => ∃ (A15_4 : Option Addr) (c15_4 : Nat) (g15_8 : Nat), v7 = .pointer (some ⟨g15_8, 0, none⟩) ∧ v8 = .int .i64 0 ∧ w.heap.size ≤ g15_8 ∧ g_1 < g15_8 ∧ g_9 < g15_8 ∧ g_95 < g15_8 ∧ Below w.heap.size w WX ∧ Blk WX g_1 81 #[.int .u64 (W64 key), .int .u64 (W64 h0), .int .u64 (W64 h1), .slice ((some ⟨bk, off, none⟩)) pk.length c] ∧ Blk WX g_9 82 #[.int .i64 0, .int .u64 (W64 d), .int .u64 (W64 x), .bool true, .bool true, .int .u64 (W64 u), .int .u64 (W64 v), .int .i64 1, .int .u64 (W64 d), .int .u64 (W64 x), .bool true, .bool true, .int .u64 (W64 v), .int .u64 (W64 u)] ∧ Blk WX g_95 49 #[.int .i64 sn, .int .i64 ne, .int .i64 md, .int .i64 ll, .slice pA pB.length pC] ∧ Blk WX g15_8 49 #[.int .i64 sn, .int .i64 ne, .int .i64 md, .int .i64 ll, .slice A15_4 sm c15_4] ∧ RdB WX pA pB ∧ RdB WX A15_4 SP0 ∧ sm ≤ c15_4)
              case first =>
                have hst : Stable fun W => Below w.heap.size w W ∧ Blk W g_1 81 #[.int .u64 (W64 key), .int .u64 (W64 h0), .int .u64 (W64 h1), .slice ((some ⟨bk, off, none⟩)) pk.length c] ∧ Blk W g_9 82 #[.int .i64 0, .int .u64 (W64 d), .int .u64 (W64 x), .bool true, .bool true, .int .u64 (W64 u), .int .u64 (W64 v), .int .i64 1, .int .u64 (W64 d), .int .u64 (W64 x), .bool true, .bool true, .int .u64 (W64 v), .int .u64 (W64 u)] ∧ Blk W g_95 49 #[.int .i64 sn, .int .i64 ne, .int .i64 md, .int .i64 ll, .slice pA pB.length pC] ∧ RdB W pA pB := stable_and (stable_below _ _ (Nat.le_refl _)) (stable_and (stable_blk _ _ _) (stable_and (stable_blk _ _ _) (stable_and (stable_blk _ _ _) (stable_rdB _ _))))
                refine wp_region_v _ 11 hst ⟨hB.drew, G1, G3, G_105, hp⟩ ?_
                clear hB G1 G3 G_105 hp
                refine wpU_take (v := ?_) 0 hst (fun _ h => h) rfl ?_ ?_; rotate_left; (intro W hS K hK; clear hS; go_simp; exact hK.out _ (Below.refl _ _)); simp only [Act.put, List.setIfInBounds_toArray, List.set_cons_zero, List.set_cons_succ]
                refine wpU_take (v := ?_) 1 hst (fun _ h => h) rfl ?_ ?_; rotate_left; (intro W hS K hK; clear hS; go_simp; exact hK.out _ (Below.refl _ _)); simp only [Act.put, List.setIfInBounds_toArray, List.set_cons_zero, List.set_cons_succ]
                refine wpU_take (v := .agg #[.int .i64 0, .int .u64 (W64 d), .int .u64 (W64 x), .bool true, .bool true, .int .u64 (W64 u), .int .u64 (W64 v)]) 2 hst (fun _ h => h) rfl (fun W hS K hK => calm_load rfl rfl (load_part hS.2.2.1 0 [.int .i64 0, .int .u64 (W64 d), .int .u64 (W64 x), .bool true, .bool true, .int .u64 (W64 u), .int .u64 (W64 v)] rfl Try.underlying40 rfl (by kernel_rfl)) (hK.out _ (Below.refl _ _))) ?_; simp only [Act.put, List.setIfInBounds_toArray, List.set_cons_zero, List.set_cons_succ]
                refine wpU_take (v := .agg #[.int .i64 sn, .int .i64 ne, .int .i64 md, .int .i64 ll, .slice pA pB.length pC]) 3 hst (fun _ h => h) rfl (fun W hS K hK => calm_load rfl rfl (load_part hS.2.2.2.1 0 [.int .i64 sn, .int .i64 ne, .int .i64 md, .int .i64 ll, .slice pA pB.length pC] rfl Try.underlying49 rfl (by kernel_rfl)) (hK.out _ (Below.refl _ _))) ?_; simp only [Act.put, List.setIfInBounds_toArray, List.set_cons_zero, List.set_cons_succ]
                refine wpV_two 4 8 hst rfl rfl ?_ ?_
                · intro W hS K hK
                  go_simp
                  refine (back_seal ⟨0, d, x, true, true, u, v⟩ sn ne md ll pB pA pC _ hS.2.2.2.2 HPC.out HK.out (by have hh := kc_110.out; omega) SP0 sm HSP0.out HSM0.out).mono ?_; rintro e w9 ⟨A15_4, c15_4, rfl, R15_4, q15_4, hb⟩
                  refine hK.out (fun W => RdB W A15_4 SP0 ∧ sm ≤ c15_4) _ _ (stable_and (stable_rdB _ _) (stable_const _)) hb (⟨R15_4, q15_4⟩) (fun hst => ?_)
                  clear hK K hb R15_4 q15_4 hS
                  try simp only [Act.put, List.setIfInBounds_toArray, List.set_cons_zero, List.set_cons_succ]
                  refine wpU_take (v := ?_) 5 hst (fun _ h => h) rfl ?_ ?_; rotate_left; (intro W hS K hK; clear hS; go_simp; exact hK.out _ (Below.refl _ _)); simp only [Act.put, List.setIfInBounds_toArray, List.set_cons_zero, List.set_cons_succ]
                  refine wpU_take (v := ?_) 6 hst (fun _ h => h) rfl ?_ ?_; rotate_left; (intro W hS K hK; clear hS; go_simp; exact hK.out _ (Below.refl _ _)); simp only [Act.put, List.setIfInBounds_toArray, List.set_cons_zero, List.set_cons_succ]
                  refine wpU_take (v := ?_) 7 hst (fun _ h => h) rfl ?_ ?_; rotate_left; (intro W hS K hK; clear hS; go_simp; exact hK.out _ (Below.refl _ _)); simp only [Act.put, List.setIfInBounds_toArray, List.set_cons_zero, List.set_cons_succ]
                  refine wpV_new 8 hst rfl ?_; intro W hS K hK
                  have l15_8_g_1 : g_1 < W.heap.size := hS.1.2.1.lt
                  have l15_8_g_9 : g_9 < W.heap.size := hS.1.2.2.1.lt
                  have l15_8_g_95 : g_95 < W.heap.size := hS.1.2.2.2.1.lt
                  have n15_8a : w.heap.size ≤ W.heap.size := hS.1.1.size
                  clear hS
                  go_simp
                  refine hK.out (fun W' => Room W.heap.size 49 5 W') _ _ (stable_room _ _ _) ((Below.refl _ _).alloc (Nat.le_refl _) _) (⟨_, rfl, rfl, Blk.new _ _ _⟩) (fun hst => ?_)
                  clear hK K
                  try simp only [Act.put, List.setIfInBounds_toArray, List.set_cons_zero, List.set_cons_succ]
                  generalize W.heap.size = g15_8 at hst l15_8_g_1 l15_8_g_9 l15_8_g_95 n15_8a ⊢
                  clear W
                  refine wpV_st 9 hst (fun _ h => h) #[.int .i64 sn, .int .i64 ne, .int .i64 md, .int .i64 ll, .slice A15_4 sm c15_4] rfl rfl rfl rfl (fun W hS => hS.2) (fun W W' h hU hG => ?_) (by kernel_rfl) rfl (fun hst => ?_)
                  · obtain ⟨⟨⟨h0_0, h0_1, h0_2, h0_3, h0_4⟩, ⟨h1_0, h1_1⟩⟩, ⟨ch2_0, ah2_0, bh2_0, h2_0⟩⟩ := h
                    exact ⟨⟨⟨hU.below h0_0 (by omega), hU.blk h0_1 (by omega), hU.blk h0_2 (by omega), hU.blk h0_3 (by omega), RdB.upd h0_4 h2_0 hU bh2_0⟩, ⟨RdB.upd h1_0 h2_0 hU bh2_0, h1_1⟩⟩, ⟨_, rfl, rfl, hG⟩⟩
                  refine wpU_take (v := ?_) 10 hst (fun _ h => h.1) rfl ?_ ?_; rotate_left; (intro W hS K hK; clear hS; go_simp; exact hK.out _ (Below.refl _ _)); simp only [Act.put, List.setIfInBounds_toArray, List.set_cons_zero, List.set_cons_succ]
                  refine wpU_done (fun w_118 hS => ?_)
                  obtain ⟨⟨⟨⟨hB, G1, G3, G_105, hp⟩, ⟨R15_4, q15_4⟩⟩, -⟩, G15_8s⟩ := hS
                  clear hst
                  go_wp2_with fail
                  go_meet
                  case rel => exact ⟨A15_4, c15_4, g15_8, rfl, rfl, (by omega), (by omega), (by omega), (by omega), hB, G1, G3, G_105, G15_8s, hp, R15_4, q15_4⟩
                · intro W hS K hK
                  have l15_8_g_1 : g_1 < W.heap.size := hS.2.1.lt
                  have l15_8_g_9 : g_9 < W.heap.size := hS.2.2.1.lt
                  have l15_8_g_95 : g_95 < W.heap.size := hS.2.2.2.1.lt
                  have n15_8a : w.heap.size ≤ W.heap.size := hS.1.size
                  clear hS
                  go_simp
                  refine hK.out (fun W' => Room W.heap.size 49 5 W') _ _ (stable_room _ _ _) ((Below.refl _ _).alloc (Nat.le_refl _) _) (⟨_, rfl, rfl, Blk.new _ _ _⟩) (fun hst => ?_)
                  clear hK K
                  try simp only [Act.put, List.setIfInBounds_toArray, List.set_cons_zero, List.set_cons_succ]
                  generalize W.heap.size = g15_8 at hst l15_8_g_1 l15_8_g_9 l15_8_g_95 n15_8a ⊢
                  clear W
                  refine wpV_new 4 hst rfl ?_; intro W hS K hK
                  go_simp
                  refine (back_seal ⟨0, d, x, true, true, u, v⟩ sn ne md ll pB pA pC _ hS.1.2.2.2.2 HPC.out HK.out (by have hh := kc_110.out; omega) SP0 sm HSP0.out HSM0.out).mono ?_; rintro e w9 ⟨A15_4, c15_4, rfl, R15_4, q15_4, hb⟩
                  refine hK.out (fun W => RdB W A15_4 SP0 ∧ sm ≤ c15_4) _ _ (stable_and (stable_rdB _ _) (stable_const _)) hb (⟨R15_4, q15_4⟩) (fun hst => ?_)
                  clear hK K hb R15_4 q15_4 hS
                  try simp only [Act.put, List.setIfInBounds_toArray, List.set_cons_zero, List.set_cons_succ]
                  refine wpU_take (v := ?_) 5 hst (fun _ h => h) rfl ?_ ?_; rotate_left; (intro W hS K hK; clear hS; go_simp; exact hK.out _ (Below.refl _ _)); simp only [Act.put, List.setIfInBounds_toArray, List.set_cons_zero, List.set_cons_succ]
                  refine wpU_take (v := ?_) 6 hst (fun _ h => h) rfl ?_ ?_; rotate_left; (intro W hS K hK; clear hS; go_simp; exact hK.out _ (Below.refl _ _)); simp only [Act.put, List.setIfInBounds_toArray, List.set_cons_zero, List.set_cons_succ]
                  refine wpU_take (v := ?_) 7 hst (fun _ h => h) rfl ?_ ?_; rotate_left; (intro W hS K hK; clear hS; go_simp; exact hK.out _ (Below.refl _ _)); simp only [Act.put, List.setIfInBounds_toArray, List.set_cons_zero, List.set_cons_succ]
                  refine wpV_st 9 hst (fun _ h => h) #[.int .i64 sn, .int .i64 ne, .int .i64 md, .int .i64 ll, .slice A15_4 sm c15_4] rfl rfl rfl rfl (fun W hS => hS.1.2) (fun W W' h hU hG => ?_) (by kernel_rfl) rfl (fun hst => ?_)
                  · obtain ⟨⟨⟨h0_0, h0_1, h0_2, h0_3, h0_4⟩, ⟨ch1_0, ah1_0, bh1_0, h1_0⟩⟩, ⟨h2_0, h2_1⟩⟩ := h
                    exact ⟨⟨⟨hU.below h0_0 (by omega), hU.blk h0_1 (by omega), hU.blk h0_2 (by omega), hU.blk h0_3 (by omega), RdB.upd h0_4 h1_0 hU bh1_0⟩, ⟨_, rfl, rfl, hG⟩⟩, ⟨RdB.upd h2_0 h1_0 hU bh1_0, h2_1⟩⟩
                  refine wpU_take (v := ?_) 10 hst (fun _ h => h.1) rfl ?_ ?_; rotate_left; (intro W hS K hK; clear hS; go_simp; exact hK.out _ (Below.refl _ _)); simp only [Act.put, List.setIfInBounds_toArray, List.set_cons_zero, List.set_cons_succ]
                  refine wpU_done (fun w_119 hS => ?_)
                  obtain ⟨⟨⟨⟨hB, G1, G3, G_105, hp⟩, -⟩, ⟨R15_4, q15_4⟩⟩, G15_8s⟩ := hS
                  clear hst
                  go_wp2_with fail
                  go_meet
                  case rel => exact ⟨A15_4, c15_4, g15_8, rfl, rfl, (by omega), (by omega), (by omega), (by omega), hB, G1, G3, G_105, G15_8s, hp, R15_4, q15_4⟩
              case rest =>
                obtain ⟨A15_4, c15_4, g15_8, rfl, rfl, n15_8a, n15_8_g_1, n15_8_g_9, n15_8_g_95, hB, G1, G3, G_105, G15_8, hp, R15_4, q15_4⟩ := hcut
                skip
                go_wp2_with (first | (with_reducible refine stop_store ?_) | (with_reducible refine stop_box ?_) | (with_reducible refine stop_alloc ?_) | (with_reducible refine stop_bslice ?_))
                try simp only [Act.put, List.setIfInBounds_toArray, List.set_cons_zero, List.set_cons_succ]
                go_cut [9, 10] from 125 (fun v9 v10 WX => ∃ (A16_5 : Option Addr) (c16_5 : Nat) (g16_9 : Nat), v9 = .pointer (some ⟨g16_9, 0, none⟩) ∧ v10 = .int .i64 0 ∧ w.heap.size ≤ g16_9 ∧ g_1 < g16_9 ∧ g_9 < g16_9 ∧ g_95 < g16_9 ∧ g15_8 < g16_9 ∧ Below w.heap.size w WX ∧ Blk WX g_1 81 #[.int .u64 (W64 key), .int .u64 (W64 h0), .int .u64 (W64 h1), .slice ((some ⟨bk, off, none⟩)) pk.length c] ∧ Blk WX g_9 82 #[.int .i64 0, .int .u64 (W64 d), .int .u64 (W64 x), .bool true, .bool true, .int .u64 (W64 u), .int .u64 (W64 v), .int .i64 1, .int .u64 (W64 d), .int .u64 (W64 x), .bool true, .bool true, .int .u64 (W64 v), .int .u64 (W64 u)] ∧ Blk WX g_95 49 #[.int .i64 sn, .int .i64 ne, .int .i64 md, .int .i64 ll, .slice pA pB.length pC] ∧ Blk WX g15_8 49 #[.int .i64 sn, .int .i64 ne, .int .i64 md, .int .i64 ll, .slice A15_4 sm c15_4] ∧ Blk WX g16_9 49 #[.int .i64 sn, .int .i64 ne, .int .i64 md, .int .i64 ll, .slice A16_5 pB.length c16_5] ∧ RdB WX pA pB ∧ RdB WX A15_4 SP0 ∧ sm ≤ c15_4 ∧ RdB WX A16_5 pB)
                case first =>
                  have hst : Stable fun W => Below w.heap.size w W ∧ Blk W g_1 81 #[.int .u64 (W64 key), .int .u64 (W64 h0), .int .u64 (W64 h1), .slice ((some ⟨bk, off, none⟩)) pk.length c] ∧ Blk W g_9 82 #[.int .i64 0, .int .u64 (W64 d), .int .u64 (W64 x), .bool true, .bool true, .int .u64 (W64 u), .int .u64 (W64 v), .int .i64 1, .int .u64 (W64 d), .int .u64 (W64 x), .bool true, .bool true, .int .u64 (W64 v), .int .u64 (W64 u)] ∧ Blk W g_95 49 #[.int .i64 sn, .int .i64 ne, .int .i64 md, .int .i64 ll, .slice pA pB.length pC] ∧ Blk W g15_8 49 #[.int .i64 sn, .int .i64 ne, .int .i64 md, .int .i64 ll, .slice A15_4 sm c15_4] ∧ RdB W pA pB ∧ RdB W A15_4 SP0 ∧ sm ≤ c15_4 := stable_and (stable_below _ _ (Nat.le_refl _)) (stable_and (stable_blk _ _ _) (stable_and (stable_blk _ _ _) (stable_and (stable_blk _ _ _) (stable_and (stable_blk _ _ _) (stable_and (stable_rdB _ _) (stable_and (stable_rdB _ _) (stable_const _)))))))
                  refine wp_region_v _ 12 hst ⟨hB.drew, G1, G3, G_105, G15_8, hp, R15_4, q15_4⟩ ?_
                  clear hB G1 G3 G_105 G15_8 hp R15_4 q15_4
                  refine wpU_take (v := ?_) 0 hst (fun _ h => h) rfl ?_ ?_; rotate_left; (intro W hS K hK; clear hS; go_simp; exact hK.out _ (Below.refl _ _)); simp only [Act.put, List.setIfInBounds_toArray, List.set_cons_zero, List.set_cons_succ]
                  refine wpU_take (v := ?_) 1 hst (fun _ h => h) rfl ?_ ?_; rotate_left; (intro W hS K hK; clear hS; go_simp; exact hK.out _ (Below.refl _ _)); simp only [Act.put, List.setIfInBounds_toArray, List.set_cons_zero, List.set_cons_succ]
                  refine wpU_take (v := ?_) 2 hst (fun _ h => h) rfl ?_ ?_; rotate_left; (intro W hS K hK; clear hS; go_simp; exact hK.out _ (Below.refl _ _)); simp only [Act.put, List.setIfInBounds_toArray, List.set_cons_zero, List.set_cons_succ]
                  refine wpU_take (v := .agg #[.int .i64 1, .int .u64 (W64 d), .int .u64 (W64 x), .bool true, .bool true, .int .u64 (W64 v), .int .u64 (W64 u)]) 3 hst (fun _ h => h) rfl (fun W hS K hK => calm_load rfl rfl (load_part hS.2.2.1 7 [.int .i64 1, .int .u64 (W64 d), .int .u64 (W64 x), .bool true, .bool true, .int .u64 (W64 v), .int .u64 (W64 u)] rfl Try.underlying40 rfl (by kernel_rfl)) (hK.out _ (Below.refl _ _))) ?_; simp only [Act.put, List.setIfInBounds_toArray, List.set_cons_zero, List.set_cons_succ]
                  refine wpU_take (v := .agg #[.int .i64 sn, .int .i64 ne, .int .i64 md, .int .i64 ll, .slice A15_4 sm c15_4]) 4 hst (fun _ h => h) rfl (fun W hS K hK => calm_load rfl rfl (load_part hS.2.2.2.2.1 0 [.int .i64 sn, .int .i64 ne, .int .i64 md, .int .i64 ll, .slice A15_4 sm c15_4] rfl Try.underlying49 rfl (by kernel_rfl)) (hK.out _ (Below.refl _ _))) ?_; simp only [Act.put, List.setIfInBounds_toArray, List.set_cons_zero, List.set_cons_succ]
                  refine wpV_two 5 9 hst rfl rfl ?_ ?_
                  · intro W hS K hK
                    go_simp
                    refine (back_open ⟨0, d, x, true, true, u, v⟩ ⟨1, d, x, true, true, v, u⟩ sn ne md ll pB A15_4 c15_4 _ SP0 sm HSP0.out HSM0.out hS.2.2.2.2.2.2.1 hS.2.2.2.2.2.2.2 HK.out (by have hh := kc_110.out; omega) rfl rfl rfl rfl rfl rfl).mono ?_; rintro e w9 ⟨A16_5, c16_5, rfl, R16_5, q16_5, hb⟩
                    refine hK.out (fun W => RdB W A16_5 pB) _ _ (stable_rdB _ _) hb (R16_5) (fun hst => ?_)
                    clear hK K hb R16_5 hS
                    try simp only [Act.put, List.setIfInBounds_toArray, List.set_cons_zero, List.set_cons_succ]
                    refine wpU_take (v := ?_) 6 hst (fun _ h => h) rfl ?_ ?_; rotate_left; (intro W hS K hK; clear hS; go_simp; exact hK.out _ (Below.refl _ _)); simp only [Act.put, List.setIfInBounds_toArray, List.set_cons_zero, List.set_cons_succ]
                    refine wpU_take (v := ?_) 7 hst (fun _ h => h) rfl ?_ ?_; rotate_left; (intro W hS K hK; clear hS; go_simp; exact hK.out _ (Below.refl _ _)); simp only [Act.put, List.setIfInBounds_toArray, List.set_cons_zero, List.set_cons_succ]
                    refine wpU_take (v := ?_) 8 hst (fun _ h => h) rfl ?_ ?_; rotate_left; (intro W hS K hK; clear hS; go_simp; exact hK.out _ (Below.refl _ _)); simp only [Act.put, List.setIfInBounds_toArray, List.set_cons_zero, List.set_cons_succ]
                    refine wpV_new 9 hst rfl ?_; intro W hS K hK
                    have l16_9_g_1 : g_1 < W.heap.size := hS.1.2.1.lt
                    have l16_9_g_9 : g_9 < W.heap.size := hS.1.2.2.1.lt
                    have l16_9_g_95 : g_95 < W.heap.size := hS.1.2.2.2.1.lt
                    have l16_9_g15_8 : g15_8 < W.heap.size := hS.1.2.2.2.2.1.lt
                    have n16_9a : w.heap.size ≤ W.heap.size := hS.1.1.size
                    clear hS
                    go_simp
                    refine hK.out (fun W' => Room W.heap.size 49 5 W') _ _ (stable_room _ _ _) ((Below.refl _ _).alloc (Nat.le_refl _) _) (⟨_, rfl, rfl, Blk.new _ _ _⟩) (fun hst => ?_)
                    clear hK K
                    try simp only [Act.put, List.setIfInBounds_toArray, List.set_cons_zero, List.set_cons_succ]
                    generalize W.heap.size = g16_9 at hst l16_9_g_1 l16_9_g_9 l16_9_g_95 l16_9_g15_8 n16_9a ⊢
                    clear W
                    refine wpV_st 10 hst (fun _ h => h) #[.int .i64 sn, .int .i64 ne, .int .i64 md, .int .i64 ll, .slice A16_5 pB.length c16_5] rfl rfl rfl rfl (fun W hS => hS.2) (fun W W' h hU hG => ?_) (by kernel_rfl) rfl (fun hst => ?_)
                    · obtain ⟨⟨⟨h0_0, h0_1, h0_2, h0_3, h0_4, h0_5, h0_6, h0_7⟩, h1_0⟩, ⟨ch2_0, ah2_0, bh2_0, h2_0⟩⟩ := h
                      exact ⟨⟨⟨hU.below h0_0 (by omega), hU.blk h0_1 (by omega), hU.blk h0_2 (by omega), hU.blk h0_3 (by omega), hU.blk h0_4 (by omega), RdB.upd h0_5 h2_0 hU bh2_0, RdB.upd h0_6 h2_0 hU bh2_0, h0_7⟩, RdB.upd h1_0 h2_0 hU bh2_0⟩, ⟨_, rfl, rfl, hG⟩⟩
                    refine wpU_take (v := ?_) 11 hst (fun _ h => h.1) rfl ?_ ?_; rotate_left; (intro W hS K hK; clear hS; go_simp; exact hK.out _ (Below.refl _ _)); simp only [Act.put, List.setIfInBounds_toArray, List.set_cons_zero, List.set_cons_succ]
                    refine wpU_done (fun w_121 hS => ?_)
                    obtain ⟨⟨⟨⟨hB, G1, G3, G_105, G15_8, hp, R15_4, q15_4⟩, R16_5⟩, -⟩, G16_9s⟩ := hS
                    clear hst
                    go_wp2_with fail
                    go_meet
                    case rel => exact ⟨A16_5, c16_5, g16_9, rfl, rfl, (by omega), (by omega), (by omega), (by omega), (by omega), hB, G1, G3, G_105, G15_8, G16_9s, hp, R15_4, q15_4, R16_5⟩
                  · intro W hS K hK
                    have l16_9_g_1 : g_1 < W.heap.size := hS.2.1.lt
                    have l16_9_g_9 : g_9 < W.heap.size := hS.2.2.1.lt
                    have l16_9_g_95 : g_95 < W.heap.size := hS.2.2.2.1.lt
                    have l16_9_g15_8 : g15_8 < W.heap.size := hS.2.2.2.2.1.lt
                    have n16_9a : w.heap.size ≤ W.heap.size := hS.1.size
                    clear hS
                    go_simp
                    refine hK.out (fun W' => Room W.heap.size 49 5 W') _ _ (stable_room _ _ _) ((Below.refl _ _).alloc (Nat.le_refl _) _) (⟨_, rfl, rfl, Blk.new _ _ _⟩) (fun hst => ?_)
                    clear hK K
                    try simp only [Act.put, List.setIfInBounds_toArray, List.set_cons_zero, List.set_cons_succ]
                    generalize W.heap.size = g16_9 at hst l16_9_g_1 l16_9_g_9 l16_9_g_95 l16_9_g15_8 n16_9a ⊢
                    clear W
                    refine wpV_new 5 hst rfl ?_; intro W hS K hK
                    go_simp
                    refine (back_open ⟨0, d, x, true, true, u, v⟩ ⟨1, d, x, true, true, v, u⟩ sn ne md ll pB A15_4 c15_4 _ SP0 sm HSP0.out HSM0.out hS.1.2.2.2.2.2.2.1 hS.1.2.2.2.2.2.2.2 HK.out (by have hh := kc_110.out; omega) rfl rfl rfl rfl rfl rfl).mono ?_; rintro e w9 ⟨A16_5, c16_5, rfl, R16_5, q16_5, hb⟩
                    refine hK.out (fun W => RdB W A16_5 pB) _ _ (stable_rdB _ _) hb (R16_5) (fun hst => ?_)
                    clear hK K hb R16_5 hS
                    try simp only [Act.put, List.setIfInBounds_toArray, List.set_cons_zero, List.set_cons_succ]
                    refine wpU_take (v := ?_) 6 hst (fun _ h => h) rfl ?_ ?_; rotate_left; (intro W hS K hK; clear hS; go_simp; exact hK.out _ (Below.refl _ _)); simp only [Act.put, List.setIfInBounds_toArray, List.set_cons_zero, List.set_cons_succ]
                    refine wpU_take (v := ?_) 7 hst (fun _ h => h) rfl ?_ ?_; rotate_left; (intro W hS K hK; clear hS; go_simp; exact hK.out _ (Below.refl _ _)); simp only [Act.put, List.setIfInBounds_toArray, List.set_cons_zero, List.set_cons_succ]
                    refine wpU_take (v := ?_) 8 hst (fun _ h => h) rfl ?_ ?_; rotate_left; (intro W hS K hK; clear hS; go_simp; exact hK.out _ (Below.refl _ _)); simp only [Act.put, List.setIfInBounds_toArray, List.set_cons_zero, List.set_cons_succ]
                    refine wpV_st 10 hst (fun _ h => h) #[.int .i64 sn, .int .i64 ne, .int .i64 md, .int .i64 ll, .slice A16_5 pB.length c16_5] rfl rfl rfl rfl (fun W hS => hS.1.2) (fun W W' h hU hG => ?_) (by kernel_rfl) rfl (fun hst => ?_)
                    · obtain ⟨⟨⟨h0_0, h0_1, h0_2, h0_3, h0_4, h0_5, h0_6, h0_7⟩, ⟨ch1_0, ah1_0, bh1_0, h1_0⟩⟩, h2_0⟩ := h
                      exact ⟨⟨⟨hU.below h0_0 (by omega), hU.blk h0_1 (by omega), hU.blk h0_2 (by omega), hU.blk h0_3 (by omega), hU.blk h0_4 (by omega), RdB.upd h0_5 h1_0 hU bh1_0, RdB.upd h0_6 h1_0 hU bh1_0, h0_7⟩, ⟨_, rfl, rfl, hG⟩⟩, RdB.upd h2_0 h1_0 hU bh1_0⟩
                    refine wpU_take (v := ?_) 11 hst (fun _ h => h.1) rfl ?_ ?_; rotate_left; (intro W hS K hK; clear hS; go_simp; exact hK.out _ (Below.refl _ _)); simp only [Act.put, List.setIfInBounds_toArray, List.set_cons_zero, List.set_cons_succ]
                    refine wpU_done (fun w_122 hS => ?_)
                    obtain ⟨⟨⟨⟨hB, G1, G3, G_105, G15_8, hp, R15_4, q15_4⟩, -⟩, R16_5⟩, G16_9s⟩ := hS
                    clear hst
                    go_wp2_with fail
                    go_meet
                    case rel => exact ⟨A16_5, c16_5, g16_9, rfl, rfl, (by omega), (by omega), (by omega), (by omega), (by omega), hB, G1, G3, G_105, G15_8, G16_9s, hp, R15_4, q15_4, R16_5⟩
                case rest =>
                  obtain ⟨A16_5, c16_5, g16_9, rfl, rfl, n16_9a, n16_9_g_1, n16_9_g_9, n16_9_g_95, n16_9_g15_8, hB, G1, G3, G_105, G15_8, G16_9, hp, R15_4, q15_4, R16_5⟩ := hcut
                  skip
                  go_wp2_with (first | (with_reducible refine stop_store ?_) | (with_reducible refine stop_box ?_) | (with_reducible refine stop_alloc ?_) | (with_reducible refine stop_bslice ?_) | ((with_reducible refine wpList_ld 0 [.int .i64 sn, .int .i64 ne, .int .i64 md, .int .i64 ll, .slice A16_5 pB.length c16_5] G16_9 ?_ ?_ Try.underlying49 ?_ ?_ ?_); rfl; rfl; rfl; kernel_rfl) | ((with_reducible refine wpList_ldg 0 [.int .i64 sn, .int .i64 ne, .int .i64 md, .int .i64 ll, .slice A16_5 pB.length c16_5] G16_9 ?_ ?_ Try.underlying49 ?_ ?_ ?_ ?_); rfl; rfl; rfl; kernel_rfl; rfl) | ((with_reducible refine wpList_ld 0 [.int .i64 sn, .int .i64 ne, .int .i64 md, .int .i64 ll, .slice pA pB.length pC] G_105 ?_ ?_ Try.underlying49 ?_ ?_ ?_); rfl; rfl; rfl; kernel_rfl) | ((with_reducible refine wpList_ldg 0 [.int .i64 sn, .int .i64 ne, .int .i64 md, .int .i64 ll, .slice pA pB.length pC] G_105 ?_ ?_ Try.underlying49 ?_ ?_ ?_ ?_); rfl; rfl; rfl; kernel_rfl; rfl))
                  refine (CM.out _ _ _ R16_5 hp).mono ?_; rintro e w_126 ⟨rfl, hb_127⟩
                  replace G1 := G1.to hb_127 G1.lt
                  replace G3 := G3.to hb_127 G3.lt
                  replace G_105 := G_105.to hb_127 G_105.lt
                  replace G15_8 := G15_8.to hb_127 G15_8.lt
                  replace G16_9 := G16_9.to hb_127 G16_9.lt
                  replace hp := Rd.to hp hb_127
                  replace R15_4 := Rd.to R15_4 hb_127
                  replace R16_5 := Rd.to R16_5 hb_127
                  replace hB := hB.trans (hb_127.mono hB.size)
                  clear hb_127
                  go_wp2_with (first | (with_reducible refine stop_store ?_) | (with_reducible refine stop_box ?_) | (with_reducible refine stop_alloc ?_) | (with_reducible refine stop_bslice ?_) | ((with_reducible refine wpList_ld 3 [.int .i64 ll, .slice pA pB.length pC] G_105 ?_ ?_ Try.underlying47 ?_ ?_ ?_); rfl; rfl; rfl; kernel_rfl))
                  refine (CB.out _).mono ?_; rintro e w_129 ⟨rfl, hb_130⟩
                  replace G1 := G1.to hb_130 G1.lt
                  replace G3 := G3.to hb_130 G3.lt
                  replace G_105 := G_105.to hb_130 G_105.lt
                  replace G15_8 := G15_8.to hb_130 G15_8.lt
                  replace G16_9 := G16_9.to hb_130 G16_9.lt
                  replace hp := Rd.to hp hb_130
                  replace R15_4 := Rd.to R15_4 hb_130
                  replace R16_5 := Rd.to R16_5 hb_130
                  replace hB := hB.trans (hb_130.mono hB.size)
                  clear hb_130
                  have ld_131 : w_129.cell? ⟨g15_8, 4, none⟩ = some (.slice A15_4 sm c15_4) := G15_8.cell 4
                  have ld_132 : w_129.cell? ⟨g_95, 4, none⟩ = some (.slice pA pB.length pC) := G_105.cell 4
                  go_wp2_with (first | (with_reducible refine stop_store ?_) | (with_reducible refine stop_box ?_) | (with_reducible refine stop_alloc ?_) | (with_reducible refine stop_bslice ?_) | ((with_reducible refine wpList_ld 0 [.int .i64 0, .int .u64 (W64 d), .int .u64 (W64 x), .bool true, .bool true, .int .u64 (W64 u), .int .u64 (W64 v)] G3 ?_ ?_ Try.underlying40 ?_ ?_ ?_); rfl; rfl; rfl; kernel_rfl))
                  refine (NX.out 0 u v _).mono ?_; rintro e w_134 ⟨rfl, hb_135⟩
                  clear ld_131 ld_132
                  replace G1 := G1.to hb_135 G1.lt
                  replace G3 := G3.to hb_135 G3.lt
                  replace G_105 := G_105.to hb_135 G_105.lt
                  replace G15_8 := G15_8.to hb_135 G15_8.lt
                  replace G16_9 := G16_9.to hb_135 G16_9.lt
                  replace hp := Rd.to hp hb_135
                  replace R15_4 := Rd.to R15_4 hb_135
                  replace R16_5 := Rd.to R16_5 hb_135
                  replace hB := hB.trans (hb_135.mono hB.size)
                  clear hb_135
                  go_wp2_with (first | (with_reducible refine stop_store ?_) | (with_reducible refine stop_box ?_) | (with_reducible refine stop_alloc ?_) | (with_reducible refine stop_bslice ?_))
                  unfold Kept
                  refine wpList_st 0 #[.int .i64 0, .int .u64 (W64 d), .int .u64 (W64 x), .bool true, .bool true, .int .u64 (W64 (u + 1#64)), .int .u64 (W64 v)] #[.int .i64 0, .int .u64 (W64 d), .int .u64 (W64 x), .bool true, .bool true, .int .u64 (W64 (u + 1#64)), .int .u64 (W64 v), .int .i64 1, .int .u64 (W64 d), .int .u64 (W64 x), .bool true, .bool true, .int .u64 (W64 v), .int .u64 (W64 u)] G3 rfl rfl (by kernel_rfl) rfl (of_decide_eq_true rfl) rfl ?_
                  intro w_136 G_138 hU_137
                  replace G1 := hU_137.blk G1 (by omega)
                  replace G_105 := hU_137.blk G_105 (by omega)
                  replace G15_8 := hU_137.blk G15_8 (by omega)
                  replace G16_9 := hU_137.blk G16_9 (by omega)
                  replace hp := RdB.upd hp G3 hU_137 (by rfl)
                  replace R15_4 := RdB.upd R15_4 G3 hU_137 (by rfl)
                  replace R16_5 := RdB.upd R16_5 G3 hU_137 (by rfl)
                  replace hB := hU_137.below hB (by omega)
                  clear G3 hU_137
                  go_wp2_with (first | (with_reducible refine stop_store ?_) | (with_reducible refine stop_box ?_) | (with_reducible refine stop_alloc ?_) | (with_reducible refine stop_bslice ?_) | ((with_reducible refine wpList_ld 7 [.int .i64 1, .int .u64 (W64 d), .int .u64 (W64 x), .bool true, .bool true, .int .u64 (W64 v), .int .u64 (W64 u)] G_138 ?_ ?_ Try.underlying40 ?_ ?_ ?_); rfl; rfl; rfl; kernel_rfl))
                  refine (NY.out 1 v u _).mono ?_; rintro e w_140 ⟨rfl, hb_141⟩
                  replace G1 := G1.to hb_141 G1.lt
                  replace G_138 := G_138.to hb_141 G_138.lt
                  replace G_105 := G_105.to hb_141 G_105.lt
                  replace G15_8 := G15_8.to hb_141 G15_8.lt
                  replace G16_9 := G16_9.to hb_141 G16_9.lt
                  replace hp := Rd.to hp hb_141
                  replace R15_4 := Rd.to R15_4 hb_141
                  replace R16_5 := Rd.to R16_5 hb_141
                  replace hB := hB.trans (hb_141.mono hB.size)
                  clear hb_141
                  go_wp2_with (first | (with_reducible refine stop_store ?_) | (with_reducible refine stop_box ?_) | (with_reducible refine stop_alloc ?_) | (with_reducible refine stop_bslice ?_))
                  unfold Kept
                  refine wpList_st 7 #[.int .i64 1, .int .u64 (W64 d), .int .u64 (W64 x), .bool true, .bool true, .int .u64 (W64 v), .int .u64 (W64 (u + 1#64))] #[.int .i64 0, .int .u64 (W64 d), .int .u64 (W64 x), .bool true, .bool true, .int .u64 (W64 (u + 1#64)), .int .u64 (W64 v), .int .i64 1, .int .u64 (W64 d), .int .u64 (W64 x), .bool true, .bool true, .int .u64 (W64 v), .int .u64 (W64 (u + 1#64))] G_138 rfl rfl (by kernel_rfl) rfl (of_decide_eq_true rfl) rfl ?_
                  intro w_142 G_144 hU_143
                  replace G1 := hU_143.blk G1 (by omega)
                  replace G_105 := hU_143.blk G_105 (by omega)
                  replace G15_8 := hU_143.blk G15_8 (by omega)
                  replace G16_9 := hU_143.blk G16_9 (by omega)
                  replace hp := RdB.upd hp G_138 hU_143 (by rfl)
                  replace R15_4 := RdB.upd R15_4 G_138 hU_143 (by rfl)
                  replace R16_5 := RdB.upd R16_5 G_138 hU_143 (by rfl)
                  replace hB := hU_143.below hB (by omega)
                  clear G_138 hU_143
                  go_wp2_with (first | (with_reducible refine stop_store ?_) | (with_reducible refine stop_box ?_) | (with_reducible refine stop_alloc ?_) | (with_reducible refine stop_bslice ?_))
                  go_roundw
                  case rel => exact ⟨k + 1, u + 1#64, v, by omega, by go_num, hB, G1, G_144, hn⟩
                  case measure => simp [intOf]; omega
            case true =>
              skip
              have ld_145 : w_107.cell? ⟨g_95, 4, none⟩ = some (.slice pA pB.length pC) := G_105.cell 4
              have ld_146 : w_107.cell? ⟨g_1, 3, none⟩ = some (.slice ((some ⟨bk, off, none⟩)) pk.length c) := G1.cell 3
              have ld_147 : w_107.cell? ⟨bk, off + k * 6, none⟩ = some (.bool true) := (HE.out _ hB) 0 _ rfl
              go_wp2_with (first | (with_reducible refine stop_store ?_) | (with_reducible refine stop_box ?_) | (with_reducible refine stop_alloc ?_) | (with_reducible refine stop_bslice ?_))
              clear ld_145 ld_146 ld_147
              try simp only [Act.put, List.setIfInBounds_toArray, List.set_cons_zero, List.set_cons_succ]
              go_cut [7, 8] from 125 (fun v7 v8 WX => ∃ (A15_4 : Option Addr) (c15_4 : Nat) (g15_8 : Nat), v7 = .pointer (some ⟨g15_8, 0, none⟩) ∧ v8 = .int .i64 0 ∧ w.heap.size ≤ g15_8 ∧ g_1 < g15_8 ∧ g_9 < g15_8 ∧ g_95 < g15_8 ∧ Below w.heap.size w WX ∧ Blk WX g_1 81 #[.int .u64 (W64 key), .int .u64 (W64 h0), .int .u64 (W64 h1), .slice ((some ⟨bk, off, none⟩)) pk.length c] ∧ Blk WX g_9 82 #[.int .i64 0, .int .u64 (W64 d), .int .u64 (W64 x), .bool true, .bool true, .int .u64 (W64 u), .int .u64 (W64 v), .int .i64 1, .int .u64 (W64 d), .int .u64 (W64 x), .bool true, .bool true, .int .u64 (W64 v), .int .u64 (W64 u)] ∧ Blk WX g_95 49 #[.int .i64 sn, .int .i64 ne, .int .i64 md, .int .i64 ll, .slice pA pB.length pC] ∧ Blk WX g15_8 49 #[.int .i64 sn, .int .i64 ne, .int .i64 md, .int .i64 ll, .slice A15_4 sm c15_4] ∧ RdB WX pA pB ∧ RdB WX A15_4 SP1 ∧ sm ≤ c15_4)
              case first =>
                have hst : Stable fun W => Below w.heap.size w W ∧ Blk W g_1 81 #[.int .u64 (W64 key), .int .u64 (W64 h0), .int .u64 (W64 h1), .slice ((some ⟨bk, off, none⟩)) pk.length c] ∧ Blk W g_9 82 #[.int .i64 0, .int .u64 (W64 d), .int .u64 (W64 x), .bool true, .bool true, .int .u64 (W64 u), .int .u64 (W64 v), .int .i64 1, .int .u64 (W64 d), .int .u64 (W64 x), .bool true, .bool true, .int .u64 (W64 v), .int .u64 (W64 u)] ∧ Blk W g_95 49 #[.int .i64 sn, .int .i64 ne, .int .i64 md, .int .i64 ll, .slice pA pB.length pC] ∧ RdB W pA pB := stable_and (stable_below _ _ (Nat.le_refl _)) (stable_and (stable_blk _ _ _) (stable_and (stable_blk _ _ _) (stable_and (stable_blk _ _ _) (stable_rdB _ _))))
                refine wp_region_v _ 11 hst ⟨hB.drew, G1, G3, G_105, hp⟩ ?_
                clear hB G1 G3 G_105 hp
                refine wpU_take (v := ?_) 0 hst (fun _ h => h) rfl ?_ ?_; rotate_left; (intro W hS K hK; clear hS; go_simp; exact hK.out _ (Below.refl _ _)); simp only [Act.put, List.setIfInBounds_toArray, List.set_cons_zero, List.set_cons_succ]
                refine wpU_take (v := ?_) 1 hst (fun _ h => h) rfl ?_ ?_; rotate_left; (intro W hS K hK; clear hS; go_simp; exact hK.out _ (Below.refl _ _)); simp only [Act.put, List.setIfInBounds_toArray, List.set_cons_zero, List.set_cons_succ]
                refine wpU_take (v := .agg #[.int .i64 1, .int .u64 (W64 d), .int .u64 (W64 x), .bool true, .bool true, .int .u64 (W64 v), .int .u64 (W64 u)]) 2 hst (fun _ h => h) rfl (fun W hS K hK => calm_load rfl rfl (load_part hS.2.2.1 7 [.int .i64 1, .int .u64 (W64 d), .int .u64 (W64 x), .bool true, .bool true, .int .u64 (W64 v), .int .u64 (W64 u)] rfl Try.underlying40 rfl (by kernel_rfl)) (hK.out _ (Below.refl _ _))) ?_; simp only [Act.put, List.setIfInBounds_toArray, List.set_cons_zero, List.set_cons_succ]
                refine wpU_take (v := .agg #[.int .i64 sn, .int .i64 ne, .int .i64 md, .int .i64 ll, .slice pA pB.length pC]) 3 hst (fun _ h => h) rfl (fun W hS K hK => calm_load rfl rfl (load_part hS.2.2.2.1 0 [.int .i64 sn, .int .i64 ne, .int .i64 md, .int .i64 ll, .slice pA pB.length pC] rfl Try.underlying49 rfl (by kernel_rfl)) (hK.out _ (Below.refl _ _))) ?_; simp only [Act.put, List.setIfInBounds_toArray, List.set_cons_zero, List.set_cons_succ]
                refine wpV_two 4 8 hst rfl rfl ?_ ?_
                · intro W hS K hK
                  go_simp
                  refine (back_seal ⟨1, d, x, true, true, v, u⟩ sn ne md ll pB pA pC _ hS.2.2.2.2 HPC.out HK.out (by have hh := kc_110.out; omega) SP1 sm HSP1.out HSM1.out).mono ?_; rintro e w9 ⟨A15_4, c15_4, rfl, R15_4, q15_4, hb⟩
                  refine hK.out (fun W => RdB W A15_4 SP1 ∧ sm ≤ c15_4) _ _ (stable_and (stable_rdB _ _) (stable_const _)) hb (⟨R15_4, q15_4⟩) (fun hst => ?_)
                  clear hK K hb R15_4 q15_4 hS
                  try simp only [Act.put, List.setIfInBounds_toArray, List.set_cons_zero, List.set_cons_succ]
                  refine wpU_take (v := ?_) 5 hst (fun _ h => h) rfl ?_ ?_; rotate_left; (intro W hS K hK; clear hS; go_simp; exact hK.out _ (Below.refl _ _)); simp only [Act.put, List.setIfInBounds_toArray, List.set_cons_zero, List.set_cons_succ]
                  refine wpU_take (v := ?_) 6 hst (fun _ h => h) rfl ?_ ?_; rotate_left; (intro W hS K hK; clear hS; go_simp; exact hK.out _ (Below.refl _ _)); simp only [Act.put, List.setIfInBounds_toArray, List.set_cons_zero, List.set_cons_succ]
                  refine wpU_take (v := ?_) 7 hst (fun _ h => h) rfl ?_ ?_; rotate_left; (intro W hS K hK; clear hS; go_simp; exact hK.out _ (Below.refl _ _)); simp only [Act.put, List.setIfInBounds_toArray, List.set_cons_zero, List.set_cons_succ]
                  refine wpV_new 8 hst rfl ?_; intro W hS K hK
                  have l15_8_g_1 : g_1 < W.heap.size := hS.1.2.1.lt
                  have l15_8_g_9 : g_9 < W.heap.size := hS.1.2.2.1.lt
                  have l15_8_g_95 : g_95 < W.heap.size := hS.1.2.2.2.1.lt
                  have n15_8a : w.heap.size ≤ W.heap.size := hS.1.1.size
                  clear hS
                  go_simp
                  refine hK.out (fun W' => Room W.heap.size 49 5 W') _ _ (stable_room _ _ _) ((Below.refl _ _).alloc (Nat.le_refl _) _) (⟨_, rfl, rfl, Blk.new _ _ _⟩) (fun hst => ?_)
                  clear hK K
                  try simp only [Act.put, List.setIfInBounds_toArray, List.set_cons_zero, List.set_cons_succ]
                  generalize W.heap.size = g15_8 at hst l15_8_g_1 l15_8_g_9 l15_8_g_95 n15_8a ⊢
                  clear W
                  refine wpV_st 9 hst (fun _ h => h) #[.int .i64 sn, .int .i64 ne, .int .i64 md, .int .i64 ll, .slice A15_4 sm c15_4] rfl rfl rfl rfl (fun W hS => hS.2) (fun W W' h hU hG => ?_) (by kernel_rfl) rfl (fun hst => ?_)
                  · obtain ⟨⟨⟨h0_0, h0_1, h0_2, h0_3, h0_4⟩, ⟨h1_0, h1_1⟩⟩, ⟨ch2_0, ah2_0, bh2_0, h2_0⟩⟩ := h
                    exact ⟨⟨⟨hU.below h0_0 (by omega), hU.blk h0_1 (by omega), hU.blk h0_2 (by omega), hU.blk h0_3 (by omega), RdB.upd h0_4 h2_0 hU bh2_0⟩, ⟨RdB.upd h1_0 h2_0 hU bh2_0, h1_1⟩⟩, ⟨_, rfl, rfl, hG⟩⟩
                  refine wpU_take (v := ?_) 10 hst (fun _ h => h.1) rfl ?_ ?_; rotate_left; (intro W hS K hK; clear hS; go_simp; exact hK.out _ (Below.refl _ _)); simp only [Act.put, List.setIfInBounds_toArray, List.set_cons_zero, List.set_cons_succ]
                  refine wpU_done (fun w_148 hS => ?_)
                  obtain ⟨⟨⟨⟨hB, G1, G3, G_105, hp⟩, ⟨R15_4, q15_4⟩⟩, -⟩, G15_8s⟩ := hS
                  clear hst
                  go_wp2_with fail
                  go_meet
                  case rel => exact ⟨A15_4, c15_4, g15_8, rfl, rfl, (by omega), (by omega), (by omega), (by omega), hB, G1, G3, G_105, G15_8s, hp, R15_4, q15_4⟩
                · intro W hS K hK
                  have l15_8_g_1 : g_1 < W.heap.size := hS.2.1.lt
                  have l15_8_g_9 : g_9 < W.heap.size := hS.2.2.1.lt
                  have l15_8_g_95 : g_95 < W.heap.size := hS.2.2.2.1.lt
                  have n15_8a : w.heap.size ≤ W.heap.size := hS.1.size
                  clear hS
                  go_simp
                  refine hK.out (fun W' => Room W.heap.size 49 5 W') _ _ (stable_room _ _ _) ((Below.refl _ _).alloc (Nat.le_refl _) _) (⟨_, rfl, rfl, Blk.new _ _ _⟩) (fun hst => ?_)
                  clear hK K
                  try simp only [Act.put, List.setIfInBounds_toArray, List.set_cons_zero, List.set_cons_succ]
                  generalize W.heap.size = g15_8 at hst l15_8_g_1 l15_8_g_9 l15_8_g_95 n15_8a ⊢
                  clear W
                  refine wpV_new 4 hst rfl ?_; intro W hS K hK
                  go_simp
                  refine (back_seal ⟨1, d, x, true, true, v, u⟩ sn ne md ll pB pA pC _ hS.1.2.2.2.2 HPC.out HK.out (by have hh := kc_110.out; omega) SP1 sm HSP1.out HSM1.out).mono ?_; rintro e w9 ⟨A15_4, c15_4, rfl, R15_4, q15_4, hb⟩
                  refine hK.out (fun W => RdB W A15_4 SP1 ∧ sm ≤ c15_4) _ _ (stable_and (stable_rdB _ _) (stable_const _)) hb (⟨R15_4, q15_4⟩) (fun hst => ?_)
                  clear hK K hb R15_4 q15_4 hS
                  try simp only [Act.put, List.setIfInBounds_toArray, List.set_cons_zero, List.set_cons_succ]
                  refine wpU_take (v := ?_) 5 hst (fun _ h => h) rfl ?_ ?_; rotate_left; (intro W hS K hK; clear hS; go_simp; exact hK.out _ (Below.refl _ _)); simp only [Act.put, List.setIfInBounds_toArray, List.set_cons_zero, List.set_cons_succ]
                  refine wpU_take (v := ?_) 6 hst (fun _ h => h) rfl ?_ ?_; rotate_left; (intro W hS K hK; clear hS; go_simp; exact hK.out _ (Below.refl _ _)); simp only [Act.put, List.setIfInBounds_toArray, List.set_cons_zero, List.set_cons_succ]
                  refine wpU_take (v := ?_) 7 hst (fun _ h => h) rfl ?_ ?_; rotate_left; (intro W hS K hK; clear hS; go_simp; exact hK.out _ (Below.refl _ _)); simp only [Act.put, List.setIfInBounds_toArray, List.set_cons_zero, List.set_cons_succ]
                  refine wpV_st 9 hst (fun _ h => h) #[.int .i64 sn, .int .i64 ne, .int .i64 md, .int .i64 ll, .slice A15_4 sm c15_4] rfl rfl rfl rfl (fun W hS => hS.1.2) (fun W W' h hU hG => ?_) (by kernel_rfl) rfl (fun hst => ?_)
                  · obtain ⟨⟨⟨h0_0, h0_1, h0_2, h0_3, h0_4⟩, ⟨ch1_0, ah1_0, bh1_0, h1_0⟩⟩, ⟨h2_0, h2_1⟩⟩ := h
                    exact ⟨⟨⟨hU.below h0_0 (by omega), hU.blk h0_1 (by omega), hU.blk h0_2 (by omega), hU.blk h0_3 (by omega), RdB.upd h0_4 h1_0 hU bh1_0⟩, ⟨_, rfl, rfl, hG⟩⟩, ⟨RdB.upd h2_0 h1_0 hU bh1_0, h2_1⟩⟩
                  refine wpU_take (v := ?_) 10 hst (fun _ h => h.1) rfl ?_ ?_; rotate_left; (intro W hS K hK; clear hS; go_simp; exact hK.out _ (Below.refl _ _)); simp only [Act.put, List.setIfInBounds_toArray, List.set_cons_zero, List.set_cons_succ]
                  refine wpU_done (fun w_149 hS => ?_)
                  obtain ⟨⟨⟨⟨hB, G1, G3, G_105, hp⟩, -⟩, ⟨R15_4, q15_4⟩⟩, G15_8s⟩ := hS
                  clear hst
                  go_wp2_with fail
                  go_meet
                  case rel => exact ⟨A15_4, c15_4, g15_8, rfl, rfl, (by omega), (by omega), (by omega), (by omega), hB, G1, G3, G_105, G15_8s, hp, R15_4, q15_4⟩
              case rest =>
                obtain ⟨A15_4, c15_4, g15_8, rfl, rfl, n15_8a, n15_8_g_1, n15_8_g_9, n15_8_g_95, hB, G1, G3, G_105, G15_8, hp, R15_4, q15_4⟩ := hcut
                skip
                go_wp2_with (first | (with_reducible refine stop_store ?_) | (with_reducible refine stop_box ?_) | (with_reducible refine stop_alloc ?_) | (with_reducible refine stop_bslice ?_))
                try simp only [Act.put, List.setIfInBounds_toArray, List.set_cons_zero, List.set_cons_succ]
                go_cut [9, 10] from 125 (fun v9 v10 WX => ∃ (A16_5 : Option Addr) (c16_5 : Nat) (g16_9 : Nat), v9 = .pointer (some ⟨g16_9, 0, none⟩) ∧ v10 = .int .i64 0 ∧ w.heap.size ≤ g16_9 ∧ g_1 < g16_9 ∧ g_9 < g16_9 ∧ g_95 < g16_9 ∧ g15_8 < g16_9 ∧ Below w.heap.size w WX ∧ Blk WX g_1 81 #[.int .u64 (W64 key), .int .u64 (W64 h0), .int .u64 (W64 h1), .slice ((some ⟨bk, off, none⟩)) pk.length c] ∧ Blk WX g_9 82 #[.int .i64 0, .int .u64 (W64 d), .int .u64 (W64 x), .bool true, .bool true, .int .u64 (W64 u), .int .u64 (W64 v), .int .i64 1, .int .u64 (W64 d), .int .u64 (W64 x), .bool true, .bool true, .int .u64 (W64 v), .int .u64 (W64 u)] ∧ Blk WX g_95 49 #[.int .i64 sn, .int .i64 ne, .int .i64 md, .int .i64 ll, .slice pA pB.length pC] ∧ Blk WX g15_8 49 #[.int .i64 sn, .int .i64 ne, .int .i64 md, .int .i64 ll, .slice A15_4 sm c15_4] ∧ Blk WX g16_9 49 #[.int .i64 sn, .int .i64 ne, .int .i64 md, .int .i64 ll, .slice A16_5 pB.length c16_5] ∧ RdB WX pA pB ∧ RdB WX A15_4 SP1 ∧ sm ≤ c15_4 ∧ RdB WX A16_5 pB)
                case first =>
                  have hst : Stable fun W => Below w.heap.size w W ∧ Blk W g_1 81 #[.int .u64 (W64 key), .int .u64 (W64 h0), .int .u64 (W64 h1), .slice ((some ⟨bk, off, none⟩)) pk.length c] ∧ Blk W g_9 82 #[.int .i64 0, .int .u64 (W64 d), .int .u64 (W64 x), .bool true, .bool true, .int .u64 (W64 u), .int .u64 (W64 v), .int .i64 1, .int .u64 (W64 d), .int .u64 (W64 x), .bool true, .bool true, .int .u64 (W64 v), .int .u64 (W64 u)] ∧ Blk W g_95 49 #[.int .i64 sn, .int .i64 ne, .int .i64 md, .int .i64 ll, .slice pA pB.length pC] ∧ Blk W g15_8 49 #[.int .i64 sn, .int .i64 ne, .int .i64 md, .int .i64 ll, .slice A15_4 sm c15_4] ∧ RdB W pA pB ∧ RdB W A15_4 SP1 ∧ sm ≤ c15_4 := stable_and (stable_below _ _ (Nat.le_refl _)) (stable_and (stable_blk _ _ _) (stable_and (stable_blk _ _ _) (stable_and (stable_blk _ _ _) (stable_and (stable_blk _ _ _) (stable_and (stable_rdB _ _) (stable_and (stable_rdB _ _) (stable_const _)))))))
                  refine wp_region_v _ 12 hst ⟨hB.drew, G1, G3, G_105, G15_8, hp, R15_4, q15_4⟩ ?_
                  clear hB G1 G3 G_105 G15_8 hp R15_4 q15_4
                  refine wpU_take (v := ?_) 0 hst (fun _ h => h) rfl ?_ ?_; rotate_left; (intro W hS K hK; clear hS; go_simp; exact hK.out _ (Below.refl _ _)); simp only [Act.put, List.setIfInBounds_toArray, List.set_cons_zero, List.set_cons_succ]
                  refine wpU_take (v := ?_) 1 hst (fun _ h => h) rfl ?_ ?_; rotate_left; (intro W hS K hK; clear hS; go_simp; exact hK.out _ (Below.refl _ _)); simp only [Act.put, List.setIfInBounds_toArray, List.set_cons_zero, List.set_cons_succ]
                  refine wpU_take (v := ?_) 2 hst (fun _ h => h) rfl ?_ ?_; rotate_left; (intro W hS K hK; clear hS; go_simp; exact hK.out _ (Below.refl _ _)); simp only [Act.put, List.setIfInBounds_toArray, List.set_cons_zero, List.set_cons_succ]
                  refine wpU_take (v := .agg #[.int .i64 0, .int .u64 (W64 d), .int .u64 (W64 x), .bool true, .bool true, .int .u64 (W64 u), .int .u64 (W64 v)]) 3 hst (fun _ h => h) rfl (fun W hS K hK => calm_load rfl rfl (load_part hS.2.2.1 0 [.int .i64 0, .int .u64 (W64 d), .int .u64 (W64 x), .bool true, .bool true, .int .u64 (W64 u), .int .u64 (W64 v)] rfl Try.underlying40 rfl (by kernel_rfl)) (hK.out _ (Below.refl _ _))) ?_; simp only [Act.put, List.setIfInBounds_toArray, List.set_cons_zero, List.set_cons_succ]
                  refine wpU_take (v := .agg #[.int .i64 sn, .int .i64 ne, .int .i64 md, .int .i64 ll, .slice A15_4 sm c15_4]) 4 hst (fun _ h => h) rfl (fun W hS K hK => calm_load rfl rfl (load_part hS.2.2.2.2.1 0 [.int .i64 sn, .int .i64 ne, .int .i64 md, .int .i64 ll, .slice A15_4 sm c15_4] rfl Try.underlying49 rfl (by kernel_rfl)) (hK.out _ (Below.refl _ _))) ?_; simp only [Act.put, List.setIfInBounds_toArray, List.set_cons_zero, List.set_cons_succ]
                  refine wpV_two 5 9 hst rfl rfl ?_ ?_
                  · intro W hS K hK
                    go_simp
                    refine (back_open ⟨1, d, x, true, true, v, u⟩ ⟨0, d, x, true, true, u, v⟩ sn ne md ll pB A15_4 c15_4 _ SP1 sm HSP1.out HSM1.out hS.2.2.2.2.2.2.1 hS.2.2.2.2.2.2.2 HK.out (by have hh := kc_110.out; omega) rfl rfl rfl rfl rfl rfl).mono ?_; rintro e w9 ⟨A16_5, c16_5, rfl, R16_5, q16_5, hb⟩
                    refine hK.out (fun W => RdB W A16_5 pB) _ _ (stable_rdB _ _) hb (R16_5) (fun hst => ?_)
                    clear hK K hb R16_5 hS
                    try simp only [Act.put, List.setIfInBounds_toArray, List.set_cons_zero, List.set_cons_succ]
                    refine wpU_take (v := ?_) 6 hst (fun _ h => h) rfl ?_ ?_; rotate_left; (intro W hS K hK; clear hS; go_simp; exact hK.out _ (Below.refl _ _)); simp only [Act.put, List.setIfInBounds_toArray, List.set_cons_zero, List.set_cons_succ]
                    refine wpU_take (v := ?_) 7 hst (fun _ h => h) rfl ?_ ?_; rotate_left; (intro W hS K hK; clear hS; go_simp; exact hK.out _ (Below.refl _ _)); simp only [Act.put, List.setIfInBounds_toArray, List.set_cons_zero, List.set_cons_succ]
                    refine wpU_take (v := ?_) 8 hst (fun _ h => h) rfl ?_ ?_; rotate_left; (intro W hS K hK; clear hS; go_simp; exact hK.out _ (Below.refl _ _)); simp only [Act.put, List.setIfInBounds_toArray, List.set_cons_zero, List.set_cons_succ]
                    refine wpV_new 9 hst rfl ?_; intro W hS K hK
                    have l16_9_g_1 : g_1 < W.heap.size := hS.1.2.1.lt
                    have l16_9_g_9 : g_9 < W.heap.size := hS.1.2.2.1.lt
                    have l16_9_g_95 : g_95 < W.heap.size := hS.1.2.2.2.1.lt
                    have l16_9_g15_8 : g15_8 < W.heap.size := hS.1.2.2.2.2.1.lt
                    have n16_9a : w.heap.size ≤ W.heap.size := hS.1.1.size
                    clear hS
                    go_simp
                    refine hK.out (fun W' => Room W.heap.size 49 5 W') _ _ (stable_room _ _ _) ((Below.refl _ _).alloc (Nat.le_refl _) _) (⟨_, rfl, rfl, Blk.new _ _ _⟩) (fun hst => ?_)
                    clear hK K
                    try simp only [Act.put, List.setIfInBounds_toArray, List.set_cons_zero, List.set_cons_succ]
                    generalize W.heap.size = g16_9 at hst l16_9_g_1 l16_9_g_9 l16_9_g_95 l16_9_g15_8 n16_9a ⊢
                    clear W
                    refine wpV_st 10 hst (fun _ h => h) #[.int .i64 sn, .int .i64 ne, .int .i64 md, .int .i64 ll, .slice A16_5 pB.length c16_5] rfl rfl rfl rfl (fun W hS => hS.2) (fun W W' h hU hG => ?_) (by kernel_rfl) rfl (fun hst => ?_)
                    · obtain ⟨⟨⟨h0_0, h0_1, h0_2, h0_3, h0_4, h0_5, h0_6, h0_7⟩, h1_0⟩, ⟨ch2_0, ah2_0, bh2_0, h2_0⟩⟩ := h
                      exact ⟨⟨⟨hU.below h0_0 (by omega), hU.blk h0_1 (by omega), hU.blk h0_2 (by omega), hU.blk h0_3 (by omega), hU.blk h0_4 (by omega), RdB.upd h0_5 h2_0 hU bh2_0, RdB.upd h0_6 h2_0 hU bh2_0, h0_7⟩, RdB.upd h1_0 h2_0 hU bh2_0⟩, ⟨_, rfl, rfl, hG⟩⟩
                    refine wpU_take (v := ?_) 11 hst (fun _ h => h.1) rfl ?_ ?_; rotate_left; (intro W hS K hK; clear hS; go_simp; exact hK.out _ (Below.refl _ _)); simp only [Act.put, List.setIfInBounds_toArray, List.set_cons_zero, List.set_cons_succ]
                    refine wpU_done (fun w_151 hS => ?_)
                    obtain ⟨⟨⟨⟨hB, G1, G3, G_105, G15_8, hp, R15_4, q15_4⟩, R16_5⟩, -⟩, G16_9s⟩ := hS
                    clear hst
                    go_wp2_with fail
                    go_meet
                    case rel => exact ⟨A16_5, c16_5, g16_9, rfl, rfl, (by omega), (by omega), (by omega), (by omega), (by omega), hB, G1, G3, G_105, G15_8, G16_9s, hp, R15_4, q15_4, R16_5⟩
                  · intro W hS K hK
                    have l16_9_g_1 : g_1 < W.heap.size := hS.2.1.lt
                    have l16_9_g_9 : g_9 < W.heap.size := hS.2.2.1.lt
                    have l16_9_g_95 : g_95 < W.heap.size := hS.2.2.2.1.lt
                    have l16_9_g15_8 : g15_8 < W.heap.size := hS.2.2.2.2.1.lt
                    have n16_9a : w.heap.size ≤ W.heap.size := hS.1.size
                    clear hS
                    go_simp
                    refine hK.out (fun W' => Room W.heap.size 49 5 W') _ _ (stable_room _ _ _) ((Below.refl _ _).alloc (Nat.le_refl _) _) (⟨_, rfl, rfl, Blk.new _ _ _⟩) (fun hst => ?_)
                    clear hK K
                    try simp only [Act.put, List.setIfInBounds_toArray, List.set_cons_zero, List.set_cons_succ]
                    generalize W.heap.size = g16_9 at hst l16_9_g_1 l16_9_g_9 l16_9_g_95 l16_9_g15_8 n16_9a ⊢
                    clear W
                    refine wpV_new 5 hst rfl ?_; intro W hS K hK
                    go_simp
                    refine (back_open ⟨1, d, x, true, true, v, u⟩ ⟨0, d, x, true, true, u, v⟩ sn ne md ll pB A15_4 c15_4 _ SP1 sm HSP1.out HSM1.out hS.1.2.2.2.2.2.2.1 hS.1.2.2.2.2.2.2.2 HK.out (by have hh := kc_110.out; omega) rfl rfl rfl rfl rfl rfl).mono ?_; rintro e w9 ⟨A16_5, c16_5, rfl, R16_5, q16_5, hb⟩
                    refine hK.out (fun W => RdB W A16_5 pB) _ _ (stable_rdB _ _) hb (R16_5) (fun hst => ?_)
                    clear hK K hb R16_5 hS
                    try simp only [Act.put, List.setIfInBounds_toArray, List.set_cons_zero, List.set_cons_succ]
                    refine wpU_take (v := ?_) 6 hst (fun _ h => h) rfl ?_ ?_; rotate_left; (intro W hS K hK; clear hS; go_simp; exact hK.out _ (Below.refl _ _)); simp only [Act.put, List.setIfInBounds_toArray, List.set_cons_zero, List.set_cons_succ]
                    refine wpU_take (v := ?_) 7 hst (fun _ h => h) rfl ?_ ?_; rotate_left; (intro W hS K hK; clear hS; go_simp; exact hK.out _ (Below.refl _ _)); simp only [Act.put, List.setIfInBounds_toArray, List.set_cons_zero, List.set_cons_succ]
                    refine wpU_take (v := ?_) 8 hst (fun _ h => h) rfl ?_ ?_; rotate_left; (intro W hS K hK; clear hS; go_simp; exact hK.out _ (Below.refl _ _)); simp only [Act.put, List.setIfInBounds_toArray, List.set_cons_zero, List.set_cons_succ]
                    refine wpV_st 10 hst (fun _ h => h) #[.int .i64 sn, .int .i64 ne, .int .i64 md, .int .i64 ll, .slice A16_5 pB.length c16_5] rfl rfl rfl rfl (fun W hS => hS.1.2) (fun W W' h hU hG => ?_) (by kernel_rfl) rfl (fun hst => ?_)
                    · obtain ⟨⟨⟨h0_0, h0_1, h0_2, h0_3, h0_4, h0_5, h0_6, h0_7⟩, ⟨ch1_0, ah1_0, bh1_0, h1_0⟩⟩, h2_0⟩ := h
                      exact ⟨⟨⟨hU.below h0_0 (by omega), hU.blk h0_1 (by omega), hU.blk h0_2 (by omega), hU.blk h0_3 (by omega), hU.blk h0_4 (by omega), RdB.upd h0_5 h1_0 hU bh1_0, RdB.upd h0_6 h1_0 hU bh1_0, h0_7⟩, ⟨_, rfl, rfl, hG⟩⟩, RdB.upd h2_0 h1_0 hU bh1_0⟩
                    refine wpU_take (v := ?_) 11 hst (fun _ h => h.1) rfl ?_ ?_; rotate_left; (intro W hS K hK; clear hS; go_simp; exact hK.out _ (Below.refl _ _)); simp only [Act.put, List.setIfInBounds_toArray, List.set_cons_zero, List.set_cons_succ]
                    refine wpU_done (fun w_152 hS => ?_)
                    obtain ⟨⟨⟨⟨hB, G1, G3, G_105, G15_8, hp, R15_4, q15_4⟩, -⟩, R16_5⟩, G16_9s⟩ := hS
                    clear hst
                    go_wp2_with fail
                    go_meet
                    case rel => exact ⟨A16_5, c16_5, g16_9, rfl, rfl, (by omega), (by omega), (by omega), (by omega), (by omega), hB, G1, G3, G_105, G15_8, G16_9s, hp, R15_4, q15_4, R16_5⟩
                case rest =>
                  obtain ⟨A16_5, c16_5, g16_9, rfl, rfl, n16_9a, n16_9_g_1, n16_9_g_9, n16_9_g_95, n16_9_g15_8, hB, G1, G3, G_105, G15_8, G16_9, hp, R15_4, q15_4, R16_5⟩ := hcut
                  skip
                  go_wp2_with (first | (with_reducible refine stop_store ?_) | (with_reducible refine stop_box ?_) | (with_reducible refine stop_alloc ?_) | (with_reducible refine stop_bslice ?_) | ((with_reducible refine wpList_ld 0 [.int .i64 sn, .int .i64 ne, .int .i64 md, .int .i64 ll, .slice A16_5 pB.length c16_5] G16_9 ?_ ?_ Try.underlying49 ?_ ?_ ?_); rfl; rfl; rfl; kernel_rfl) | ((with_reducible refine wpList_ldg 0 [.int .i64 sn, .int .i64 ne, .int .i64 md, .int .i64 ll, .slice A16_5 pB.length c16_5] G16_9 ?_ ?_ Try.underlying49 ?_ ?_ ?_ ?_); rfl; rfl; rfl; kernel_rfl; rfl) | ((with_reducible refine wpList_ld 0 [.int .i64 sn, .int .i64 ne, .int .i64 md, .int .i64 ll, .slice pA pB.length pC] G_105 ?_ ?_ Try.underlying49 ?_ ?_ ?_); rfl; rfl; rfl; kernel_rfl) | ((with_reducible refine wpList_ldg 0 [.int .i64 sn, .int .i64 ne, .int .i64 md, .int .i64 ll, .slice pA pB.length pC] G_105 ?_ ?_ Try.underlying49 ?_ ?_ ?_ ?_); rfl; rfl; rfl; kernel_rfl; rfl))
                  refine (CM.out _ _ _ R16_5 hp).mono ?_; rintro e w_156 ⟨rfl, hb_157⟩
                  replace G1 := G1.to hb_157 G1.lt
                  replace G3 := G3.to hb_157 G3.lt
                  replace G_105 := G_105.to hb_157 G_105.lt
                  replace G15_8 := G15_8.to hb_157 G15_8.lt
                  replace G16_9 := G16_9.to hb_157 G16_9.lt
                  replace hp := Rd.to hp hb_157
                  replace R15_4 := Rd.to R15_4 hb_157
                  replace R16_5 := Rd.to R16_5 hb_157
                  replace hB := hB.trans (hb_157.mono hB.size)
                  clear hb_157
                  go_wp2_with (first | (with_reducible refine stop_store ?_) | (with_reducible refine stop_box ?_) | (with_reducible refine stop_alloc ?_) | (with_reducible refine stop_bslice ?_) | ((with_reducible refine wpList_ld 3 [.int .i64 ll, .slice pA pB.length pC] G_105 ?_ ?_ Try.underlying47 ?_ ?_ ?_); rfl; rfl; rfl; kernel_rfl))
                  refine (CB.out _).mono ?_; rintro e w_159 ⟨rfl, hb_160⟩
                  replace G1 := G1.to hb_160 G1.lt
                  replace G3 := G3.to hb_160 G3.lt
                  replace G_105 := G_105.to hb_160 G_105.lt
                  replace G15_8 := G15_8.to hb_160 G15_8.lt
                  replace G16_9 := G16_9.to hb_160 G16_9.lt
                  replace hp := Rd.to hp hb_160
                  replace R15_4 := Rd.to R15_4 hb_160
                  replace R16_5 := Rd.to R16_5 hb_160
                  replace hB := hB.trans (hb_160.mono hB.size)
                  clear hb_160
                  have ld_161 : w_159.cell? ⟨g15_8, 4, none⟩ = some (.slice A15_4 sm c15_4) := G15_8.cell 4
                  have ld_162 : w_159.cell? ⟨g_95, 4, none⟩ = some (.slice pA pB.length pC) := G_105.cell 4
                  go_wp2_with (first | (with_reducible refine stop_store ?_) | (with_reducible refine stop_box ?_) | (with_reducible refine stop_alloc ?_) | (with_reducible refine stop_bslice ?_) | ((with_reducible refine wpList_ld 7 [.int .i64 1, .int .u64 (W64 d), .int .u64 (W64 x), .bool true, .bool true, .int .u64 (W64 v), .int .u64 (W64 u)] G3 ?_ ?_ Try.underlying40 ?_ ?_ ?_); rfl; rfl; rfl; kernel_rfl))
                  refine (NX.out 1 v u _).mono ?_; rintro e w_164 ⟨rfl, hb_165⟩
                  clear ld_161 ld_162
                  replace G1 := G1.to hb_165 G1.lt
                  replace G3 := G3.to hb_165 G3.lt
                  replace G_105 := G_105.to hb_165 G_105.lt
                  replace G15_8 := G15_8.to hb_165 G15_8.lt
                  replace G16_9 := G16_9.to hb_165 G16_9.lt
                  replace hp := Rd.to hp hb_165
                  replace R15_4 := Rd.to R15_4 hb_165
                  replace R16_5 := Rd.to R16_5 hb_165
                  replace hB := hB.trans (hb_165.mono hB.size)
                  clear hb_165
                  go_wp2_with (first | (with_reducible refine stop_store ?_) | (with_reducible refine stop_box ?_) | (with_reducible refine stop_alloc ?_) | (with_reducible refine stop_bslice ?_))
                  unfold Kept
                  refine wpList_st 7 #[.int .i64 1, .int .u64 (W64 d), .int .u64 (W64 x), .bool true, .bool true, .int .u64 (W64 (v + 1#64)), .int .u64 (W64 u)] #[.int .i64 0, .int .u64 (W64 d), .int .u64 (W64 x), .bool true, .bool true, .int .u64 (W64 u), .int .u64 (W64 v), .int .i64 1, .int .u64 (W64 d), .int .u64 (W64 x), .bool true, .bool true, .int .u64 (W64 (v + 1#64)), .int .u64 (W64 u)] G3 rfl rfl (by kernel_rfl) rfl (of_decide_eq_true rfl) rfl ?_
                  intro w_166 G_168 hU_167
                  replace G1 := hU_167.blk G1 (by omega)
                  replace G_105 := hU_167.blk G_105 (by omega)
                  replace G15_8 := hU_167.blk G15_8 (by omega)
                  replace G16_9 := hU_167.blk G16_9 (by omega)
                  replace hp := RdB.upd hp G3 hU_167 (by rfl)
                  replace R15_4 := RdB.upd R15_4 G3 hU_167 (by rfl)
                  replace R16_5 := RdB.upd R16_5 G3 hU_167 (by rfl)
                  replace hB := hU_167.below hB (by omega)
                  clear G3 hU_167
                  go_wp2_with (first | (with_reducible refine stop_store ?_) | (with_reducible refine stop_box ?_) | (with_reducible refine stop_alloc ?_) | (with_reducible refine stop_bslice ?_) | ((with_reducible refine wpList_ld 0 [.int .i64 0, .int .u64 (W64 d), .int .u64 (W64 x), .bool true, .bool true, .int .u64 (W64 u), .int .u64 (W64 v)] G_168 ?_ ?_ Try.underlying40 ?_ ?_ ?_); rfl; rfl; rfl; kernel_rfl))
                  refine (NY.out 0 u v _).mono ?_; rintro e w_170 ⟨rfl, hb_171⟩
                  replace G1 := G1.to hb_171 G1.lt
                  replace G_168 := G_168.to hb_171 G_168.lt
                  replace G_105 := G_105.to hb_171 G_105.lt
                  replace G15_8 := G15_8.to hb_171 G15_8.lt
                  replace G16_9 := G16_9.to hb_171 G16_9.lt
                  replace hp := Rd.to hp hb_171
                  replace R15_4 := Rd.to R15_4 hb_171
                  replace R16_5 := Rd.to R16_5 hb_171
                  replace hB := hB.trans (hb_171.mono hB.size)
                  clear hb_171
                  go_wp2_with (first | (with_reducible refine stop_store ?_) | (with_reducible refine stop_box ?_) | (with_reducible refine stop_alloc ?_) | (with_reducible refine stop_bslice ?_))
                  unfold Kept
                  refine wpList_st 0 #[.int .i64 0, .int .u64 (W64 d), .int .u64 (W64 x), .bool true, .bool true, .int .u64 (W64 u), .int .u64 (W64 (v + 1#64))] #[.int .i64 0, .int .u64 (W64 d), .int .u64 (W64 x), .bool true, .bool true, .int .u64 (W64 u), .int .u64 (W64 (v + 1#64)), .int .i64 1, .int .u64 (W64 d), .int .u64 (W64 x), .bool true, .bool true, .int .u64 (W64 (v + 1#64)), .int .u64 (W64 u)] G_168 rfl rfl (by kernel_rfl) rfl (of_decide_eq_true rfl) rfl ?_
                  intro w_172 G_174 hU_173
                  replace G1 := hU_173.blk G1 (by omega)
                  replace G_105 := hU_173.blk G_105 (by omega)
                  replace G15_8 := hU_173.blk G15_8 (by omega)
                  replace G16_9 := hU_173.blk G16_9 (by omega)
                  replace hp := RdB.upd hp G_168 hU_173 (by rfl)
                  replace R15_4 := RdB.upd R15_4 G_168 hU_173 (by rfl)
                  replace R16_5 := RdB.upd R16_5 G_168 hU_173 (by rfl)
                  replace hB := hU_173.below hB (by omega)
                  clear G_168 hU_173
                  go_wp2_with (first | (with_reducible refine stop_store ?_) | (with_reducible refine stop_box ?_) | (with_reducible refine stop_alloc ?_) | (with_reducible refine stop_bslice ?_))
                  go_roundw
                  case rel => exact ⟨k + 1, u, v + 1#64, by omega, by go_num, hB, G1, G_174, hn⟩
                  case measure => simp [intOf]; omega
        ·
          have ec_109 : ((ck : Int) == 0) = false := by simpa using hc_109
          have ec_109n : ((ck : Int) != 0) = true := by simpa using hc_109
          have kc_109 := Lib.hid hc_109
          clear hc_109
          go_wp2_with (first | (with_reducible refine stop_store ?_) | (with_reducible refine stop_box ?_) | (with_reducible refine stop_alloc ?_) | (with_reducible refine stop_bslice ?_))
          refine (ex29 _).mono ?_; rintro e w_175 ⟨rfl, hb_176⟩
          replace G1 := G1.to hb_176 G1.lt
          replace G3 := G3.to hb_176 G3.lt
          replace G_105 := G_105.to hb_176 G_105.lt
          replace hp := Rd.to hp hb_176
          replace hB := hB.trans (hb_176.mono hB.size)
          clear hb_176
          go_wp2_with (first | (with_reducible refine stop_store ?_) | (with_reducible refine stop_box ?_) | (with_reducible refine stop_alloc ?_) | (with_reducible refine stop_bslice ?_))
          go_returns
          exact ⟨rfl, hB⟩
    ·
      have i1 : decide ((k : Int) < ((pk.length : Nat) : Int)) = false := by simp; omega
      have i2 : decide (k < pk.length) = false := by simpa using hlt
      have i3 : pk.length ≤ k := Nat.le_of_not_lt hlt
      clear hlt
      have ld_177 : wr.cell? ⟨g_1, 3, none⟩ = some (.slice A pk.length c) := G1.cell 3
      go_wp2_with (first | (with_reducible refine stop_store ?_) | (with_reducible refine stop_box ?_) | (with_reducible refine stop_alloc ?_) | (with_reducible refine stop_bslice ?_))
      refine (ex29 _).mono ?_; rintro e w_178 ⟨rfl, hb_179⟩
      clear ld_177
      replace G1 := G1.to hb_179 G1.lt
      replace G3 := G3.to hb_179 G3.lt
      replace hB := hB.trans (hb_179.mono hB.size)
      clear hb_179
      go_wp2_with (first | (with_reducible refine stop_store ?_) | (with_reducible refine stop_box ?_) | (with_reducible refine stop_alloc ?_) | (with_reducible refine stop_bslice ?_))
      go_returns
      exact ⟨rfl, hB⟩
set_option maxHeartbeats 16000000 in
theorem law_EncryptBack_b (key h0 h1 : BitVec 64) (A : Option Addr) (c : Nat) (pk : List R_sent) (w : World) (hr : Rd w A (pk.flatMap R_sent.cells)) (hok : ∀ r ∈ pk, r.ok w) (hc : pk.length ≤ c) (hl : 40 < pk.length) :
    Calls Try.prog 12 #[.agg #[.int .u64 (W64 key), .int .u64 (W64 h0), .int .u64 (W64 h1), .slice A pk.length c]] w fun e w' => e = .returned (.bool true) ∧ Below w.heap.size w w' := by
  obtain ⟨d, hd⟩ : ∃ d, derive key (lbytes lblSession) [h0, h1] = d := ⟨_, rfl⟩
  obtain ⟨x, hx⟩ : ∃ x, h0 ^^^ h1 = x := ⟨_, rfl⟩
  have N0 := Lib.hid (show ∀ W, Calls Try.prog 25 #[.int .i64 0, .int .u64 (W64 key), .int .u64 (W64 h0), .int .u64 (W64 h1)] W fun e w' => e = .returned (.agg #[.int .i64 0, .int .u64 (W64 d), .int .u64 (W64 x), .bool false, .bool false, .int .u64 0, .int .u64 0]) ∧ Below W.heap.size W w' from fun W => by have := enc_New 0 key h0 h1 W; unfold newS at this; rw [hd, hx] at this; exact this)
  have N1 := Lib.hid (show ∀ W, Calls Try.prog 25 #[.int .i64 1, .int .u64 (W64 key), .int .u64 (W64 h0), .int .u64 (W64 h1)] W fun e w' => e = .returned (.agg #[.int .i64 1, .int .u64 (W64 d), .int .u64 (W64 x), .bool false, .bool false, .int .u64 0, .int .u64 0]) ∧ Below W.heap.size W w' from fun W => by have := enc_New 1 key h0 h1 W; unfold newS at this; rw [hd, hx] at this; exact this)
  have T0 := Lib.hid (show ∀ W, Calls Try.prog 27 #[.agg #[.int .i64 0, .int .u64 (W64 d), .int .u64 (W64 x), .bool false, .bool false, .int .u64 0, .int .u64 0], .bool true, .bool true] W fun e w' => e = .returned (.agg #[.int .i64 0, .int .u64 (W64 d), .int .u64 (W64 x), .bool true, .bool true, .int .u64 (W64 (0#64)), .int .u64 (W64 (0#64))]) ∧ Below W.heap.size W w' from fun W => enc_Turn ⟨0, d, x, false, false, 0#64, 0#64⟩ true true W)
  have T1 := Lib.hid (show ∀ W, Calls Try.prog 27 #[.agg #[.int .i64 1, .int .u64 (W64 d), .int .u64 (W64 x), .bool false, .bool false, .int .u64 0, .int .u64 0], .bool true, .bool true] W fun e w' => e = .returned (.agg #[.int .i64 1, .int .u64 (W64 d), .int .u64 (W64 x), .bool true, .bool true, .int .u64 (W64 (0#64)), .int .u64 (W64 (0#64))]) ∧ Below W.heap.size W w' from fun W => enc_Turn ⟨1, d, x, false, false, 0#64, 0#64⟩ true true W)
  have NX := Lib.hid (fun (r : Int) (u v : BitVec 64) (W : World) => show Calls Try.prog 29 #[.agg #[.int .i64 r, .int .u64 (W64 d), .int .u64 (W64 x), .bool true, .bool true, .int .u64 (W64 u), .int .u64 (W64 v)], .bool true, .bool false] W fun e w' => e = .returned (.agg #[.int .i64 r, .int .u64 (W64 d), .int .u64 (W64 x), .bool true, .bool true, .int .u64 (W64 (u + 1#64)), .int .u64 (W64 v)]) ∧ Below W.heap.size W w' from enc_Next ⟨r, d, x, true, true, u, v⟩ true false W)
  have NY := Lib.hid (fun (r : Int) (u v : BitVec 64) (W : World) => show Calls Try.prog 29 #[.agg #[.int .i64 r, .int .u64 (W64 d), .int .u64 (W64 x), .bool true, .bool true, .int .u64 (W64 u), .int .u64 (W64 v)], .bool false, .bool true] W fun e w' => e = .returned (.agg #[.int .i64 r, .int .u64 (W64 d), .int .u64 (W64 x), .bool true, .bool true, .int .u64 (W64 u), .int .u64 (W64 (v + 1#64))]) ∧ Below W.heap.size W w' from enc_Next ⟨r, d, x, true, true, u, v⟩ false true W)
  have HROW := Lib.hid hr
  have HOK := Lib.hid hok
  have HC := Lib.hid hc
  clear hr hok hc hd hx
  have i0 : decide ((40 : Int) < ((pk.length : Nat) : Int)) = true := by simp; omega
  go_enter Try.func12, Try.ntmps12
  go_wp2_with (first | (with_reducible refine stop_store ?_) | (with_reducible refine stop_box ?_) | (with_reducible refine stop_alloc ?_) | (with_reducible refine stop_bslice ?_))
  unfold Kept
  refine go_mem (ty := 81) (cs := #[.int .u64 (W64 key), .int .u64 (W64 h0), .int .u64 (W64 h1), .slice A pk.length c]) (fun g => .pointer (some ⟨g, 0, none⟩)) rfl (by kernel_rfl) ?_
  intro g_1 w_2 z_6 l_5 hb_3 G_4
  have n_7 : w.heap.size ≤ g_1 := l_5
  have hB := hb_3
  clear hb_3 l_5 z_6
  have ld_8 : w_2.cell? ⟨g_1, 3, none⟩ = some (.slice A pk.length c) := G_4.cell 3
  go_wp2_with (first | (with_reducible refine stop_store ?_) | (with_reducible refine stop_box ?_) | (with_reducible refine stop_alloc ?_) | (with_reducible refine stop_bslice ?_))
  refine (ex29 _).mono ?_; rintro e w_9 ⟨rfl, hb_10⟩
  clear ld_8
  replace G_4 := G_4.to hb_10 G_4.lt
  replace hB := hB.trans (hb_10.mono hB.size)
  clear hb_10
  go_wp2_with (first | (with_reducible refine stop_store ?_) | (with_reducible refine stop_box ?_) | (with_reducible refine stop_alloc ?_) | (with_reducible refine stop_bslice ?_))
  go_returns
  exact ⟨rfl, hB⟩
theorem law_EncryptBack (key h0 h1 : BitVec 64) (A : Option Addr) (c : Nat) (pk : List R_sent) (w : World) (hr : Rd w A (pk.flatMap R_sent.cells)) (hok : ∀ r ∈ pk, r.ok w) (hc : pk.length ≤ c) :
    Calls Try.prog 12 #[.agg #[.int .u64 (W64 key), .int .u64 (W64 h0), .int .u64 (W64 h1), .slice A pk.length c]] w fun e w' => e = .returned (.bool true) ∧ Below w.heap.size w w' := by
  rcases Nat.lt_or_ge 40 pk.length with h | h
  · exact law_EncryptBack_b key h0 h1 A c pk w hr hok hc h
  · exact law_EncryptBack_s key h0 h1 A c pk w hr hok hc h
end Go.Proofs.Ytmehemojopfihaa
