/- Encode of layer 48 (netpdu). -/
import Derived.Test.YtbkaeoaepmeceaaNetB
import Derived.Test.YtbkaeoaepmeceaaMesh
namespace Go.Proofs.Ytbkaeoaepmeceaa
set_option maxRecDepth 100000
open Go.ChangeShapes Go.WideShapes Go.ChangeAt Go.RowKit
set_option linter.unusedVariables false
set_option linter.unusedSimpArgs false

theorem list6 {l : List (BitVec 8)} (h : l.length = 6) : ∃ b0 b1 b2 b3 b4 b5, l = [b0, b1, b2, b3, b4, b5] := by
  match l, h with
  | [b0, b1, b2, b3, b4, b5], _ => exact ⟨b0, b1, b2, b3, b4, b5, rfl⟩
theorem check_ok {p : NP} (h : checkN p = 0) : 0 ≤ p.nid ∧ p.nid ≤ 127 ∧ 0 ≤ p.ttl ∧ p.ttl ≤ 127 ∧ p.seq ≤ 16777215#32 ∧ 0 < p.pay.length ∧ p.pay.length ≤ 16 := by
  unfold checkN at h
  by_cases h1 : rangeN p
  · rw [if_pos h1] at h; omega
  rw [if_neg h1] at h
  by_cases h2 : shapeN p
  · rw [if_pos h2] at h; omega
  rw [if_neg h2] at h
  by_cases h3 : 16 < p.pay.length
  · rw [if_pos h3] at h; omega
  unfold rangeN at h1
  unfold shapeN at h2
  simp only [not_or, BitVec.not_lt] at h1 h2
  exact ⟨by omega, by omega, by omega, by omega, h1.2.2.2.2, by omega, by omega⟩
set_option maxHeartbeats 1000000 in
theorem net_Encode_b (k1 : BitVec 64) (k2 : Int) (k3 k4 k5 : BitVec 64) (iv : BitVec 32) (nid : Int) (ctl : Bool) (ttl : Int) (seq : BitVec 32) (src dst : BitVec 16) (A : Option Addr) (c : Nat) (pay : List (BitVec 8)) (ck : Int) (w : World) (hl : pay.length ≤ 1048576) (hck : checkN ⟨iv, nid, ctl, ttl, seq, src, dst, pay⟩ = ck) (h0 : ck ≠ 0) :
    Calls Try.prog 32 #[.agg #[.int .u64 (W64 k1), .int .i64 k2, .int .u64 (W64 k3), .int .u64 (W64 k4), .int .u64 (W64 k5)], .agg #[.int .u32 (W32 iv), .int .i64 nid, .bool ctl, .int .i64 ttl, .int .u32 (W32 seq), .int .u16 (W16 src), .int .u16 (W16 dst), .slice A pay.length c]] w (RetO w (encN ⟨k1, k2, k3, k4, k5⟩ ⟨iv, nid, ctl, ttl, seq, src, dst, pay⟩)) := by
  have hE : encN ⟨k1, k2, k3, k4, k5⟩ ⟨iv, nid, ctl, ttl, seq, src, dst, pay⟩ = ([], ck) := by unfold encN; rw [hck, if_pos h0]
  rw [hE]
  have CK := Lib.hid (fun W => show Calls Try.prog 26 #[.agg #[.int .u32 (W32 iv), .int .i64 nid, .bool ctl, .int .i64 ttl, .int .u32 (W32 seq), .int .u16 (W16 src), .int .u16 (W16 dst), .slice A pay.length c]] W fun e w' => e = .returned (.int .i64 ck) ∧ Below W.heap.size W w' from by have := net_Check ⟨iv, nid, ctl, ttl, seq, src, dst, pay⟩ A c W hl; rw [hck] at this; exact this)
  have e0 : ((ck : Int) != 0) = true := by simpa using h0
  have e1 : ((ck : Int) == 0) = false := by simpa using h0
  clear hE hck h0 hl
  go_enter Try.func32, Try.ntmps32
  go_wp2_with (first | (with_reducible refine stop_store ?_) | (with_reducible refine stop_box ?_) | (with_reducible refine stop_alloc ?_) | (with_reducible refine stop_bslice ?_))
  unfold Kept
  refine go_mem (ty := 25) (cs := #[.int .u64 (W64 k1), .int .i64 k2, .int .u64 (W64 k3), .int .u64 (W64 k4), .int .u64 (W64 k5)]) (fun g => .pointer (some ⟨g, 0, none⟩)) rfl (by kernel_rfl) ?_
  intro g_1 w_2 z_6 l_5 hb_3 G_4
  have n_7 : w.heap.size ≤ g_1 := l_5
  have hB := hb_3
  clear hb_3 l_5 z_6
  go_wp2_with (first | (with_reducible refine stop_store ?_) | (with_reducible refine stop_box ?_) | (with_reducible refine stop_alloc ?_) | (with_reducible refine stop_bslice ?_))
  unfold Kept
  refine go_mem (ty := 44) (cs := #[.int .u32 (W32 iv), .int .i64 nid, .bool ctl, .int .i64 ttl, .int .u32 (W32 seq), .int .u16 (W16 src), .int .u16 (W16 dst), .slice A pay.length c]) (fun g => .pointer (some ⟨g, 0, none⟩)) rfl (by kernel_rfl) ?_
  intro g_8 w_9 z_13 l_12 hb_10 G_11
  have n_14 : g_1 < g_8 := Nat.lt_of_lt_of_le G_4.lt l_12
  have n_15 : w.heap.size ≤ g_8 := Nat.le_trans hB.size l_12
  replace G_4 := G_4.to hb_10 G_4.lt
  replace hB := hB.trans (hb_10.mono hB.size)
  clear hb_10 l_12 z_13
  go_wp2_with (first | (with_reducible refine stop_store ?_) | (with_reducible refine stop_box ?_) | (with_reducible refine stop_alloc ?_) | (with_reducible refine stop_bslice ?_) | ((with_reducible refine wpList_ld 0 [.int .u32 (W32 iv), .int .i64 nid, .bool ctl, .int .i64 ttl, .int .u32 (W32 seq), .int .u16 (W16 src), .int .u16 (W16 dst), .slice A pay.length c] G_11 ?_ ?_ Try.underlying44 ?_ ?_ ?_); rfl; rfl; rfl; kernel_rfl))
  refine (CK.out _).mono ?_; rintro e w_17 ⟨rfl, hb_18⟩
  replace G_4 := G_4.to hb_18 G_4.lt
  replace G_11 := G_11.to hb_18 G_11.lt
  replace hB := hB.trans (hb_18.mono hB.size)
  clear hb_18
  go_wp2_with (first | (with_reducible refine stop_store ?_) | (with_reducible refine stop_box ?_) | (with_reducible refine stop_alloc ?_) | (with_reducible refine stop_bslice ?_))
  go_returns
  exact ⟨none, 0, rfl, fun j u hu => by simp [bcells] at hu, Nat.le_refl _, hB⟩
set_option maxHeartbeats 1000000 in
theorem net_Encode_k (k1 : BitVec 64) (k2 : Int) (k3 k4 k5 : BitVec 64) (iv : BitVec 32) (nid : Int) (ctl : Bool) (ttl : Int) (seq : BitVec 32) (src dst : BitVec 16) (A : Option Addr) (c : Nat) (pay : List (BitVec 8)) (w : World) (hl : pay.length ≤ 1048576) (hck : checkN ⟨iv, nid, ctl, ttl, seq, src, dst, pay⟩ = 0) (h0 : nid ≠ k2) :
    Calls Try.prog 32 #[.agg #[.int .u64 (W64 k1), .int .i64 k2, .int .u64 (W64 k3), .int .u64 (W64 k4), .int .u64 (W64 k5)], .agg #[.int .u32 (W32 iv), .int .i64 nid, .bool ctl, .int .i64 ttl, .int .u32 (W32 seq), .int .u16 (W16 src), .int .u16 (W16 dst), .slice A pay.length c]] w (RetO w (encN ⟨k1, k2, k3, k4, k5⟩ ⟨iv, nid, ctl, ttl, seq, src, dst, pay⟩)) := by
  have hE : encN ⟨k1, k2, k3, k4, k5⟩ ⟨iv, nid, ctl, ttl, seq, src, dst, pay⟩ = ([], 17) := by unfold encN; rw [hck, if_neg (by decide), if_pos h0]
  rw [hE]
  have CK := Lib.hid (fun W => show Calls Try.prog 26 #[.agg #[.int .u32 (W32 iv), .int .i64 nid, .bool ctl, .int .i64 ttl, .int .u32 (W32 seq), .int .u16 (W16 src), .int .u16 (W16 dst), .slice A pay.length c]] W fun e w' => e = .returned (.int .i64 0) ∧ Below W.heap.size W w' from by have := net_Check ⟨iv, nid, ctl, ttl, seq, src, dst, pay⟩ A c W hl; rw [hck] at this; exact this)
  have e0 : ((nid : Int) != k2) = true := by simpa using h0
  have e1 : ((nid : Int) == k2) = false := by simpa using h0
  clear hE hck h0 hl
  go_enter Try.func32, Try.ntmps32
  go_wp2_with (first | (with_reducible refine stop_store ?_) | (with_reducible refine stop_box ?_) | (with_reducible refine stop_alloc ?_) | (with_reducible refine stop_bslice ?_))
  unfold Kept
  refine go_mem (ty := 25) (cs := #[.int .u64 (W64 k1), .int .i64 k2, .int .u64 (W64 k3), .int .u64 (W64 k4), .int .u64 (W64 k5)]) (fun g => .pointer (some ⟨g, 0, none⟩)) rfl (by kernel_rfl) ?_
  intro g_1 w_2 z_6 l_5 hb_3 G_4
  have n_7 : w.heap.size ≤ g_1 := l_5
  have hB := hb_3
  clear hb_3 l_5 z_6
  go_wp2_with (first | (with_reducible refine stop_store ?_) | (with_reducible refine stop_box ?_) | (with_reducible refine stop_alloc ?_) | (with_reducible refine stop_bslice ?_))
  unfold Kept
  refine go_mem (ty := 44) (cs := #[.int .u32 (W32 iv), .int .i64 nid, .bool ctl, .int .i64 ttl, .int .u32 (W32 seq), .int .u16 (W16 src), .int .u16 (W16 dst), .slice A pay.length c]) (fun g => .pointer (some ⟨g, 0, none⟩)) rfl (by kernel_rfl) ?_
  intro g_8 w_9 z_13 l_12 hb_10 G_11
  have n_14 : g_1 < g_8 := Nat.lt_of_lt_of_le G_4.lt l_12
  have n_15 : w.heap.size ≤ g_8 := Nat.le_trans hB.size l_12
  replace G_4 := G_4.to hb_10 G_4.lt
  replace hB := hB.trans (hb_10.mono hB.size)
  clear hb_10 l_12 z_13
  go_wp2_with (first | (with_reducible refine stop_store ?_) | (with_reducible refine stop_box ?_) | (with_reducible refine stop_alloc ?_) | (with_reducible refine stop_bslice ?_) | ((with_reducible refine wpList_ld 0 [.int .u32 (W32 iv), .int .i64 nid, .bool ctl, .int .i64 ttl, .int .u32 (W32 seq), .int .u16 (W16 src), .int .u16 (W16 dst), .slice A pay.length c] G_11 ?_ ?_ Try.underlying44 ?_ ?_ ?_); rfl; rfl; rfl; kernel_rfl))
  refine (CK.out _).mono ?_; rintro e w_17 ⟨rfl, hb_18⟩
  replace G_4 := G_4.to hb_18 G_4.lt
  replace G_11 := G_11.to hb_18 G_11.lt
  replace hB := hB.trans (hb_18.mono hB.size)
  clear hb_18
  have ld_19 : w_17.cell? ⟨g_8, 1, none⟩ = some (.int .i64 nid) := G_11.cell 1
  have ld_20 : w_17.cell? ⟨g_1, 1, none⟩ = some (.int .i64 k2) := G_4.cell 1
  go_wp2_with (first | (with_reducible refine stop_store ?_) | (with_reducible refine stop_box ?_) | (with_reducible refine stop_alloc ?_) | (with_reducible refine stop_bslice ?_))
  go_returns
  exact ⟨none, 0, rfl, fun j u hu => by simp [bcells] at hu, Nat.le_refl _, hB⟩
set_option maxHeartbeats 8000000 in
theorem net_Encode_o (k1 : BitVec 64) (k3 k4 k5 : BitVec 64) (iv : BitVec 32) (nid : Int) (ctl : Bool) (ttl : Int) (seq : BitVec 32) (src dst : BitVec 16) (A : Option Addr) (c : Nat) (pay : List (BitVec 8)) (w : World) (hl : pay.length ≤ 1048576) (hp0 : RdB w A pay) (hck : checkN ⟨iv, nid, ctl, ttl, seq, src, dst, pay⟩ = 0) :
    Calls Try.prog 32 #[.agg #[.int .u64 (W64 k1), .int .i64 nid, .int .u64 (W64 k3), .int .u64 (W64 k4), .int .u64 (W64 k5)], .agg #[.int .u32 (W32 iv), .int .i64 nid, .bool ctl, .int .i64 ttl, .int .u32 (W32 seq), .int .u16 (W16 src), .int .u16 (W16 dst), .slice A pay.length c]] w (RetO w (encN ⟨k1, nid, k3, k4, k5⟩ ⟨iv, nid, ctl, ttl, seq, src, dst, pay⟩)) := by
  obtain ⟨n0, n1, t0, t1, s1, p0, p1⟩ := check_ok hck
  dsimp only at n0 n1 t0 t1 s1 p0 p1
  have CK := Lib.hid (fun W => show Calls Try.prog 26 #[.agg #[.int .u32 (W32 iv), .int .i64 nid, .bool ctl, .int .i64 ttl, .int .u32 (W32 seq), .int .u16 (W16 src), .int .u16 (W16 dst), .slice A pay.length c]] W fun e w' => e = .returned (.int .i64 0) ∧ Below W.heap.size W w' from by have := net_Check ⟨iv, nid, ctl, ttl, seq, src, dst, pay⟩ A c W hl; rw [hck] at this; exact this)
  obtain ⟨m, hm⟩ : ∃ m, 2 + pay.length = m := ⟨_, rfl⟩
  obtain ⟨non, hnon⟩ : ∃ x, nonceK 0 src seq iv = x := ⟨_, rfl⟩
  have CN := Lib.hid (fun W => show Calls Try.prog 17 #[.int .i64 0, .int .u16 (W16 src), .int .u32 (W32 seq), .int .u32 (W32 iv)] W fun e w' => e = .returned (.int .u64 (W64 non)) ∧ Below W.heap.size W w' from by have := mesh_Nonce 0 src seq iv W; rw [hnon] at this; exact this)
  obtain ⟨cb, hcb⟩ : ∃ x, ctlB ctl ttl = x := ⟨_, rfl⟩
  have CC := Lib.hid (fun W => show Calls Try.prog 51 #[.agg #[.int .u32 (W32 iv), .int .i64 nid, .bool ctl, .int .i64 ttl, .int .u32 (W32 seq), .int .u16 (W16 src), .int .u16 (W16 dst), .slice A pay.length c]] W fun e w' => e = .returned (.int .u8 (W8 cb)) ∧ Below W.heap.size W w' from by have := net_control ⟨iv, nid, ctl, ttl, seq, src, dst, pay⟩ A c W t0 t1; dsimp only at this; rw [hcb] at this; exact this)
  have hpl : ([BitVec.setWidth 8 dst, BitVec.setWidth 8 (dst >>> 8)] ++ pay) = plainL ⟨iv, nid, ctl, ttl, seq, src, dst, pay⟩ := by unfold plainL; rw [hdr_eq]
  have hplm : (([BitVec.setWidth 8 dst, BitVec.setWidth 8 (dst >>> 8)] ++ pay) : List (BitVec 8)).length = m := by rw [List.length_append, ← hm] <;> rfl
  obtain ⟨sd, hsd⟩ : ∃ x, sealB k3 non [cb] ([BitVec.setWidth 8 dst, BitVec.setWidth 8 (dst >>> 8)] ++ pay) = x := ⟨_, rfl⟩
  obtain ⟨s, hs⟩ : ∃ x, sd.length = x := ⟨_, rfl⟩
  have hsm : s = m + 4 := by rw [← hs, ← hsd, sealB_length, hplm]
  have hpart : partL ⟨k1, nid, k3, k4, k5⟩ ⟨iv, nid, ctl, ttl, seq, src, dst, pay⟩ = sd := by unfold partL; dsimp only; rw [hnon, hcb, ← hpl, hsd]
  have CS := Lib.hid (fun W g A7 c7 (hh : RdB W (some ⟨g, 0, none⟩) [cb]) (hp : RdB W A7 ([BitVec.setWidth 8 dst, BitVec.setWidth 8 (dst >>> 8)] ++ pay)) => show Calls Try.prog 45 #[.int .u64 (W64 k3), .int .u64 (W64 non), .slice (some ⟨g, 0, none⟩) 1 1, .slice A7 m c7] W (RetB W sd) from by
    have := mac_Seal k3 non (some ⟨g, 0, none⟩) A7 1 c7 [cb] ([BitVec.setWidth 8 dst, BitVec.setWidth 8 (dst >>> 8)] ++ pay) W hh hp (by simp) (by rw [hplm]; omega)
    rw [hplm, hsd] at this
    
    exact this)
  obtain ⟨q0, q1, q2, q3, q4, q5, hq⟩ := list6 (l := openL ⟨iv, nid, ctl, ttl, seq, src, dst, pay⟩) rfl
  obtain ⟨m0, m1, m2, m3, m4, m5, hmk⟩ := list6 (maskL_length ⟨k1, nid, k3, k4, k5⟩ iv sd)
  obtain ⟨h0, e0⟩ : ∃ x, q0 ^^^ m0 = x := ⟨_, rfl⟩
  obtain ⟨h1, e1⟩ : ∃ x, q1 ^^^ m1 = x := ⟨_, rfl⟩
  obtain ⟨h2, e2⟩ : ∃ x, q2 ^^^ m2 = x := ⟨_, rfl⟩
  obtain ⟨h3, e3⟩ : ∃ x, q3 ^^^ m3 = x := ⟨_, rfl⟩
  obtain ⟨h4, e4⟩ : ∃ x, q4 ^^^ m4 = x := ⟨_, rfl⟩
  obtain ⟨h5, e5⟩ : ∃ x, q5 ^^^ m5 = x := ⟨_, rfl⟩
  have hxx : xorB [q0, q1, q2, q3, q4, q5] [m0, m1, m2, m3, m4, m5] = [h0, h1, h2, h3, h4, h5] := by rw [← e0, ← e1, ← e2, ← e3, ← e4, ← e5]; rfl
  have hE : encN ⟨k1, nid, k3, k4, k5⟩ ⟨iv, nid, ctl, ttl, seq, src, dst, pay⟩ = (([BitVec.ofInt 8 nid ||| (BitVec.setWidth 8 iv &&& 1#8) <<< 7] ++ ([h0, h1, h2, h3, h4, h5] ++ sd)), 0) := by
    unfold encN
    rw [hck, if_neg (by decide), if_neg (by simp)]
    unfold encB
    rw [hpart, hq, hmk, hxx]; dsimp only; rw [show headN iv nid = BitVec.ofInt 8 nid ||| (BitVec.setWidth 8 iv &&& 1#8) <<< 7 from by unfold headN; rw [BitVec.setWidth_and] <;> rfl]
    
  rw [hE]
  obtain ⟨LF, hLF⟩ : ∃ x, (([BitVec.ofInt 8 nid ||| (BitVec.setWidth 8 iv &&& 1#8) <<< 7] ++ ([h0, h1, h2, h3, h4, h5] ++ sd)) : List (BitVec 8)) = x := ⟨_, rfl⟩
  rw [hLF]
  obtain ⟨z, hz⟩ : ∃ x, LF.length = x := ⟨_, rfl⟩
  have hzs : z = 7 + s := by rw [← hz, ← hLF]; simp only [List.length_append, List.length_cons, List.length_nil, hs] <;> omega
  have HZS := Lib.hid hzs
  have HZ := Lib.hid hz
  have HLF := Lib.hid hLF
  have CO := Lib.hid (fun W => show Calls Try.prog 52 #[.agg #[.int .u32 (W32 iv), .int .i64 nid, .bool ctl, .int .i64 ttl, .int .u32 (W32 seq), .int .u16 (W16 src), .int .u16 (W16 dst), .slice A pay.length c]] W fun e w' => e = .returned (.agg #[.int .u8 (W8 q0), .int .u8 (W8 q1), .int .u8 (W8 q2), .int .u8 (W8 q3), .int .u8 (W8 q4), .int .u8 (W8 q5)]) ∧ Below W.heap.size W w' from by have := net_openOf_f iv nid ctl ttl seq src dst A c pay W t0 t1; rw [hq] at this; exact this)
  have CM := Lib.hid (fun W S d (hr : RdB W S sd) (hd : s ≤ d) => show Calls Try.prog 54 #[.agg #[.int .u64 (W64 k1), .int .i64 nid, .int .u64 (W64 k3), .int .u64 (W64 k4), .int .u64 (W64 k5)], .int .u32 (W32 iv), .slice S s d] W fun e w' => e = .returned (.agg #[.int .u8 (W8 m0), .int .u8 (W8 m1), .int .u8 (W8 m2), .int .u8 (W8 m3), .int .u8 (W8 m4), .int .u8 (W8 m5)]) ∧ Below W.heap.size W w' from by have := net_mask_f k1 nid k3 k4 k5 iv S s d sd W hr hs (by omega) (by omega) hd; rw [hmk] at this; exact this)
  have CX := Lib.hid (fun W => show Calls Try.prog 53 #[.agg #[.int .u8 (W8 q0), .int .u8 (W8 q1), .int .u8 (W8 q2), .int .u8 (W8 q3), .int .u8 (W8 q4), .int .u8 (W8 q5)], .agg #[.int .u8 (W8 m0), .int .u8 (W8 m1), .int .u8 (W8 m2), .int .u8 (W8 m3), .int .u8 (W8 m4), .int .u8 (W8 m5)]] W fun e w' => e = .returned (.agg #[.int .u8 (W8 h0), .int .u8 (W8 h1), .int .u8 (W8 h2), .int .u8 (W8 h3), .int .u8 (W8 h4), .int .u8 (W8 h5)]) ∧ Below W.heap.size W w' from by have := net_xor_f q0 q1 q2 q3 q4 q5 m0 m1 m2 m3 m4 m5 W; rw [e0, e1, e2, e3, e4, e5] at this; exact this)
  have HS := Lib.hid hs
  have HP := Lib.hid hplm
  have u1 : 3 ≤ m := by omega
  have u2 : m ≤ 18 := by omega
  have u3 : 7 ≤ s := by omega
  have u4 : s ≤ 22 := by omega
  have u5 : z ≤ 29 := by omega
  clear hsm hzs hm
  clear hE hck hz hLF hs hplm hsd hnon hcb hpl hpart hq hmk e0 e1 e2 e3 e4 e5 hxx s1 hl
  go_enter Try.func32, Try.ntmps32
  have hB := Below.refl w.heap.size w
  go_wp2_with (first | (with_reducible refine stop_store ?_) | (with_reducible refine stop_box ?_) | (with_reducible refine stop_alloc ?_) | (with_reducible refine stop_bslice ?_))
  unfold Kept
  refine go_mem (ty := 25) (cs := #[.int .u64 (W64 k1), .int .i64 nid, .int .u64 (W64 k3), .int .u64 (W64 k4), .int .u64 (W64 k5)]) (fun g => .pointer (some ⟨g, 0, none⟩)) rfl (by kernel_rfl) ?_
  intro g_1 w_2 z_6 l_5 hb_3 G_4
  have n_7 : w.heap.size ≤ g_1 := Nat.le_trans hB.size l_5
  replace hB := hB.trans (hb_3.mono hB.size)
  clear hb_3 l_5 z_6
  go_wp2_with (first | (with_reducible refine stop_store ?_) | (with_reducible refine stop_box ?_) | (with_reducible refine stop_alloc ?_) | (with_reducible refine stop_bslice ?_))
  unfold Kept
  refine go_mem (ty := 44) (cs := #[.int .u32 (W32 iv), .int .i64 nid, .bool ctl, .int .i64 ttl, .int .u32 (W32 seq), .int .u16 (W16 src), .int .u16 (W16 dst), .slice A pay.length c]) (fun g => .pointer (some ⟨g, 0, none⟩)) rfl (by kernel_rfl) ?_
  intro g_8 w_9 z_13 l_12 hb_10 G_11
  have n_14 : g_1 < g_8 := Nat.lt_of_lt_of_le G_4.lt l_12
  have n_15 : w.heap.size ≤ g_8 := Nat.le_trans hB.size l_12
  replace G_4 := G_4.to hb_10 G_4.lt
  replace hB := hB.trans (hb_10.mono hB.size)
  clear hb_10 l_12 z_13
  go_wp2_with (first | (with_reducible refine stop_store ?_) | (with_reducible refine stop_box ?_) | (with_reducible refine stop_alloc ?_) | (with_reducible refine stop_bslice ?_) | ((with_reducible refine wpList_ld 0 [.int .u32 (W32 iv), .int .i64 nid, .bool ctl, .int .i64 ttl, .int .u32 (W32 seq), .int .u16 (W16 src), .int .u16 (W16 dst), .slice A pay.length c] G_11 ?_ ?_ Try.underlying44 ?_ ?_ ?_); rfl; rfl; rfl; kernel_rfl))
  refine (CK.out _).mono ?_; rintro e w_17 ⟨rfl, hb_18⟩
  replace G_4 := G_4.to hb_18 G_4.lt
  replace G_11 := G_11.to hb_18 G_11.lt
  replace hB := hB.trans (hb_18.mono hB.size)
  clear hb_18
  have ld_19 : w_17.cell? ⟨g_8, 1, none⟩ = some (.int .i64 nid) := G_11.cell 1
  have ld_20 : w_17.cell? ⟨g_1, 1, none⟩ = some (.int .i64 nid) := G_4.cell 1
  have ld_21 : w_17.cell? ⟨g_8, 6, none⟩ = some (.int .u16 (W16 dst)) := G_11.cell 6
  go_wp2_with (first | (with_reducible refine stop_store ?_) | (with_reducible refine stop_box ?_) | (with_reducible refine stop_alloc ?_) | (with_reducible refine stop_bslice ?_))
  unfold Kept
  refine go_mem (ty := 5) (cs := #[.int .u8 (W8 (BitVec.setWidth 8 dst)), .int .u8 (W8 (BitVec.setWidth 8 (dst >>> 8)))]) (fun g => .slice (some ⟨g, 0, none⟩) 2 2) rfl (by kernel_rfl) ?_
  intro g_22 w_23 z_27 l_26 hb_24 G_25
  clear ld_19 ld_20 ld_21
  have n_28 : g_8 < g_22 := Nat.lt_of_lt_of_le G_11.lt l_26
  have n_29 : w.heap.size ≤ g_22 := Nat.le_trans hB.size l_26
  replace G_4 := G_4.to hb_24 G_4.lt
  replace G_11 := G_11.to hb_24 G_11.lt
  replace hB := hB.trans (hb_24.mono hB.size)
  clear hb_24 l_26 z_27
  have ld_30 : w_23.cell? ⟨g_8, 7, none⟩ = some (.slice A pay.length c) := G_11.cell 7
  go_wp2_with (first | (with_reducible refine stop_store ?_) | (with_reducible refine stop_box ?_) | (with_reducible refine stop_alloc ?_) | (with_reducible refine stop_bslice ?_))
  unfold Kept
  refine go_mem (ty := 36) (cs := #[.slice (some ⟨g_22, 0, none⟩) 2 2, .slice A pay.length c]) (fun g => .slice (some ⟨g, 0, none⟩) 2 2) rfl (by kernel_rfl) ?_
  intro g_31 w_32 z_36 l_35 hb_33 G_34
  clear ld_30
  have n_37 : g_22 < g_31 := Nat.lt_of_lt_of_le G_25.lt l_35
  have n_38 : w.heap.size ≤ g_31 := Nat.le_trans hB.size l_35
  replace G_4 := G_4.to hb_33 G_4.lt
  replace G_11 := G_11.to hb_33 G_11.lt
  replace G_25 := G_25.to hb_33 G_25.lt
  replace hB := hB.trans (hb_33.mono hB.size)
  clear hb_33 l_35 z_36
  go_wp2_with (first | (with_reducible refine stop_store ?_) | (with_reducible refine stop_box ?_) | (with_reducible refine stop_alloc ?_) | (with_reducible refine stop_bslice ?_))
  refine (join_at (n := 2) (m := m) [(some ⟨g_22, 0, none⟩, 2, [(BitVec.setWidth 8 dst), (BitVec.setWidth 8 (dst >>> 8))]), (A, c, pay)] ([(BitVec.setWidth 8 dst), (BitVec.setWidth 8 (dst >>> 8))] ++ pay) G_34 (rfl) rfl (by simp) (HP.out) (fun p hp => by
      simp only [List.mem_cons, List.not_mem_nil, or_false] at hp
      rcases hp with rfl | rfl
      · exact rd_blk G_25
      · exact Rd.to hp0 hB) (by omega) (by decide) hB.size).mono ?_; rintro e w_39 ⟨A6_11, c6_11, rfl, R6_11, hb_40⟩
  replace G_4 := G_4.to hb_40 G_4.lt
  replace G_11 := G_11.to hb_40 G_11.lt
  replace G_25 := G_25.to hb_40 G_25.lt
  replace G_34 := G_34.to hb_40 G_34.lt
  replace hB := hB.trans (hb_40.mono hB.size)
  clear hb_40
  go_wp2_with (first | (with_reducible refine stop_store ?_) | (with_reducible refine stop_box ?_) | (with_reducible refine stop_alloc ?_) | (with_reducible refine stop_bslice ?_))
  have hst : Stable fun W => Below w.heap.size w W ∧ Blk W g_1 25 #[.int .u64 (W64 k1), .int .i64 nid, .int .u64 (W64 k3), .int .u64 (W64 k4), .int .u64 (W64 k5)] ∧ Blk W g_8 44 #[.int .u32 (W32 iv), .int .i64 nid, .bool ctl, .int .i64 ttl, .int .u32 (W32 seq), .int .u16 (W16 src), .int .u16 (W16 dst), .slice A pay.length c] ∧ Blk W g_22 5 #[.int .u8 (W8 (BitVec.setWidth 8 dst)), .int .u8 (W8 (BitVec.setWidth 8 (dst >>> 8)))] ∧ Blk W g_31 36 #[.slice (some ⟨g_22, 0, none⟩) 2 2, .slice A pay.length c] ∧ W.ownsRow w.heap.size 5 1 (.slice A6_11 m c6_11) m (bcells ([(BitVec.setWidth 8 dst), (BitVec.setWidth 8 (dst >>> 8))] ++ pay)) := stable_and (stable_below _ _ (Nat.le_refl _)) (stable_and (stable_blk _ _ _) (stable_and (stable_blk _ _ _) (stable_and (stable_blk _ _ _) (stable_and (stable_blk _ _ _) (stable_own _ _ _ _ _ _)))))
  refine wp_region_v _ 15 hst ⟨hB.drew, G_4, G_11, G_25, G_34, R6_11⟩ ?_
  clear hB G_4 G_11 G_25 G_34 R6_11
  refine wpU_take (v := ?_) 0 hst (fun _ h => h) rfl ?_ ?_; rotate_left; (intro W hS K hK; clear hS; go_simp; exact hK.out _ (Below.refl _ _)); simp only [Act.put, List.setIfInBounds_toArray, List.set_cons_zero, List.set_cons_succ]
  refine wpU_take (v := ?_) 1 hst (fun _ h => h) rfl ?_ ?_; rotate_left; (intro W hS K hK; have ld : W.cell? ⟨g_1, 2, none⟩ = some (.int .u64 (W64 k3)) := hS.2.1.cell 2; clear hS; go_simp; exact hK.out _ (Below.refl _ _)); simp only [Act.put, List.setIfInBounds_toArray, List.set_cons_zero, List.set_cons_succ]
  refine wpU_take (v := ?_) 2 hst (fun _ h => h) rfl ?_ ?_; rotate_left; (intro W hS K hK; clear hS; go_simp; exact hK.out _ (Below.refl _ _)); simp only [Act.put, List.setIfInBounds_toArray, List.set_cons_zero, List.set_cons_succ]
  refine wpU_take (v := ?_) 3 hst (fun _ h => h) rfl ?_ ?_; rotate_left; (intro W hS K hK; have ld : W.cell? ⟨g_8, 5, none⟩ = some (.int .u16 (W16 src)) := hS.2.2.1.cell 5; clear hS; go_simp; exact hK.out _ (Below.refl _ _)); simp only [Act.put, List.setIfInBounds_toArray, List.set_cons_zero, List.set_cons_succ]
  refine wpU_take (v := ?_) 4 hst (fun _ h => h) rfl ?_ ?_; rotate_left; (intro W hS K hK; clear hS; go_simp; exact hK.out _ (Below.refl _ _)); simp only [Act.put, List.setIfInBounds_toArray, List.set_cons_zero, List.set_cons_succ]
  refine wpU_take (v := ?_) 5 hst (fun _ h => h) rfl ?_ ?_; rotate_left; (intro W hS K hK; have ld : W.cell? ⟨g_8, 4, none⟩ = some (.int .u32 (W32 seq)) := hS.2.2.1.cell 4; clear hS; go_simp; exact hK.out _ (Below.refl _ _)); simp only [Act.put, List.setIfInBounds_toArray, List.set_cons_zero, List.set_cons_succ]
  refine wpU_take (v := ?_) 6 hst (fun _ h => h) rfl ?_ ?_; rotate_left; (intro W hS K hK; clear hS; go_simp; exact hK.out _ (Below.refl _ _)); simp only [Act.put, List.setIfInBounds_toArray, List.set_cons_zero, List.set_cons_succ]
  refine wpU_take (v := ?_) 7 hst (fun _ h => h) rfl ?_ ?_; rotate_left; (intro W hS K hK; have ld : W.cell? ⟨g_8, 0, none⟩ = some (.int .u32 (W32 iv)) := hS.2.2.1.cell 0; clear hS; go_simp; exact hK.out _ (Below.refl _ _)); simp only [Act.put, List.setIfInBounds_toArray, List.set_cons_zero, List.set_cons_succ]
  refine wpU_take (v := .agg #[.int .u32 (W32 iv), .int .i64 nid, .bool ctl, .int .i64 ttl, .int .u32 (W32 seq), .int .u16 (W16 src), .int .u16 (W16 dst), .slice A pay.length c]) 9 hst (fun _ h => h) rfl (fun W hS K hK => calm_load rfl rfl (load_part hS.2.2.1 0 [.int .u32 (W32 iv), .int .i64 nid, .bool ctl, .int .i64 ttl, .int .u32 (W32 seq), .int .u16 (W16 src), .int .u16 (W16 dst), .slice A pay.length c] rfl Try.underlying44 rfl (by kernel_rfl)) (hK.out _ (Below.refl _ _))) ?_; simp only [Act.put, List.setIfInBounds_toArray, List.set_cons_zero, List.set_cons_succ]
  refine wpU_take (v := ?_) 12 hst (fun _ h => h) rfl ?_ ?_; rotate_left; (intro W hS K hK; clear hS; go_simp; exact hK.out _ (Below.refl _ _)); simp only [Act.put, List.setIfInBounds_toArray, List.set_cons_zero, List.set_cons_succ]
  refine wpU_take (v := .int .u64 (W64 non)) 8 hst (fun _ h => h) rfl ?_ ?_; (intro W hS K hK; clear hS; go_simp; refine (CN.out _).mono ?_; rintro e w9 ⟨rfl, hb⟩; refine CallPost.mk ?_; exact hK.out _ (hb)); simp only [Act.put, List.setIfInBounds_toArray, List.set_cons_zero, List.set_cons_succ]
  refine wpU_take (v := .int .u8 (W8 cb)) 10 hst (fun _ h => h) rfl ?_ ?_; (intro W hS K hK; clear hS; go_simp; refine (CC.out _).mono ?_; rintro e w9 ⟨rfl, hb⟩; refine CallPost.mk ?_; exact hK.out _ (hb)); simp only [Act.put, List.setIfInBounds_toArray, List.set_cons_zero, List.set_cons_succ]
  refine wpV_new 11 hst rfl ?_; intro W hS K hK
  have l7_11_g_1 : g_1 < W.heap.size := hS.2.1.lt
  have l7_11_g_8 : g_8 < W.heap.size := hS.2.2.1.lt
  have l7_11_g_22 : g_22 < W.heap.size := hS.2.2.2.1.lt
  have l7_11_g_31 : g_31 < W.heap.size := hS.2.2.2.2.1.lt
  have n7_11a : w.heap.size ≤ W.heap.size := hS.1.size
  clear hS
  go_simp
  refine hK.out (fun W' => Blk W' W.heap.size 5 #[.int .u8 (W8 cb)]) _ _ (stable_blk _ _ _) ((Below.refl _ _).alloc (Nat.le_refl _) _) (Blk.new _ _ _) (fun hst => ?_)
  clear hK K
  try simp only [Act.put, List.setIfInBounds_toArray, List.set_cons_zero, List.set_cons_succ]
  generalize W.heap.size = g7_11 at hst l7_11_g_1 l7_11_g_8 l7_11_g_22 l7_11_g_31 n7_11a ⊢
  clear W
  refine wpV_new 13 hst rfl ?_; intro W hS K hK
  go_simp
  refine (retB_at (CS.out _ g7_11 A6_11 c6_11 (rd_blk hS.2) (Rd.of_own hS.1.2.2.2.2.2)) (HS.out) hS.1.1.size).mono ?_; rintro e w9 ⟨A7_13, c7_13, rfl, R7_13, hb⟩
  refine hK.out (fun W => W.ownsRow w.heap.size 5 1 (.slice A7_13 s c7_13) s (bcells sd)) _ _ (stable_own _ _ _ _ _ _) hb (R7_13) (fun hst => ?_)
  clear hK K hb R7_13 hS
  try simp only [Act.put, List.setIfInBounds_toArray, List.set_cons_zero, List.set_cons_succ]
  refine wpU_take (v := ?_) 14 hst (fun _ h => h) rfl ?_ ?_; rotate_left; (intro W hS K hK; clear hS; go_simp; exact hK.out _ (Below.refl _ _)); simp only [Act.put, List.setIfInBounds_toArray, List.set_cons_zero, List.set_cons_succ]
  refine wpU_done (fun w_41 hS => ?_)
  obtain ⟨⟨⟨hB, G_4, G_11, G_25, G_34, R6_11⟩, G7_11⟩, R7_13⟩ := hS
  clear hst
  go_wp2_with (first | (with_reducible refine stop_store ?_) | (with_reducible refine stop_box ?_) | (with_reducible refine stop_alloc ?_) | (with_reducible refine stop_bslice ?_))
  try simp only [Act.put, List.setIfInBounds_toArray, List.set_cons_zero, List.set_cons_succ]
  have hst : Stable fun W => Below w.heap.size w W ∧ Blk W g_1 25 #[.int .u64 (W64 k1), .int .i64 nid, .int .u64 (W64 k3), .int .u64 (W64 k4), .int .u64 (W64 k5)] ∧ Blk W g_8 44 #[.int .u32 (W32 iv), .int .i64 nid, .bool ctl, .int .i64 ttl, .int .u32 (W32 seq), .int .u16 (W16 src), .int .u16 (W16 dst), .slice A pay.length c] ∧ Blk W g_22 5 #[.int .u8 (W8 (BitVec.setWidth 8 dst)), .int .u8 (W8 (BitVec.setWidth 8 (dst >>> 8)))] ∧ Blk W g_31 36 #[.slice (some ⟨g_22, 0, none⟩) 2 2, .slice A pay.length c] ∧ Blk W g7_11 5 #[.int .u8 (W8 cb)] ∧ W.ownsRow w.heap.size 5 1 (.slice A6_11 m c6_11) m (bcells ([(BitVec.setWidth 8 dst), (BitVec.setWidth 8 (dst >>> 8))] ++ pay)) ∧ W.ownsRow w.heap.size 5 1 (.slice A7_13 s c7_13) s (bcells sd) := stable_and (stable_below _ _ (Nat.le_refl _)) (stable_and (stable_blk _ _ _) (stable_and (stable_blk _ _ _) (stable_and (stable_blk _ _ _) (stable_and (stable_blk _ _ _) (stable_and (stable_blk _ _ _) (stable_and (stable_own _ _ _ _ _ _) (stable_own _ _ _ _ _ _)))))))
  refine wp_region_hh (fun W => Below w.heap.size w W ∧ Blk W g_1 25 #[.int .u64 (W64 k1), .int .i64 nid, .int .u64 (W64 k3), .int .u64 (W64 k4), .int .u64 (W64 k5)] ∧ Blk W g_8 44 #[.int .u32 (W32 iv), .int .i64 nid, .bool ctl, .int .i64 ttl, .int .u32 (W32 seq), .int .u16 (W16 src), .int .u16 (W16 dst), .slice A pay.length c] ∧ Blk W g_22 5 #[.int .u8 (W8 (BitVec.setWidth 8 dst)), .int .u8 (W8 (BitVec.setWidth 8 (dst >>> 8)))] ∧ Blk W g_31 36 #[.slice (some ⟨g_22, 0, none⟩) 2 2, .slice A pay.length c] ∧ Blk W g7_11 5 #[.int .u8 (W8 cb)] ∧ W.ownsRow w.heap.size 5 1 (.slice A6_11 m c6_11) m (bcells ([(BitVec.setWidth 8 dst), (BitVec.setWidth 8 (dst >>> 8))] ++ pay)) ∧ W.ownsRow w.heap.size 5 1 (.slice A7_13 s c7_13) s (bcells sd)) 9 hst ⟨hB.drew, G_4, G_11, G_25, G_34, G7_11, R6_11, R7_13⟩ ⟨by kernel_rfl, by kernel_rfl, by kernel_rfl, by decide⟩ (fun hR => ?_)
  clear hB G_4 G_11 G_25 G_34 G7_11 R6_11 R7_13
  refine wpH_take (v := .agg #[.int .u32 (W32 iv), .int .i64 nid, .bool ctl, .int .i64 ttl, .int .u32 (W32 seq), .int .u16 (W16 src), .int .u16 (W16 dst), .slice A pay.length c]) 0 hR hst rfl (fun W hS K hK => calm_load rfl rfl (load_part hS.2.2.1 0 [.int .u32 (W32 iv), .int .i64 nid, .bool ctl, .int .i64 ttl, .int .u32 (W32 seq), .int .u16 (W16 src), .int .u16 (W16 dst), .slice A pay.length c] rfl Try.underlying44 rfl (by kernel_rfl)) (hK.out _ (Below.refl _ _))) ?_; simp only [Act.put, List.setIfInBounds_toArray, List.set_cons_zero, List.set_cons_succ]
  refine wpH_take (v := .agg #[.int .u64 (W64 k1), .int .i64 nid, .int .u64 (W64 k3), .int .u64 (W64 k4), .int .u64 (W64 k5)]) 2 hR hst rfl (fun W hS K hK => calm_load rfl rfl (load_part hS.2.1 0 [.int .u64 (W64 k1), .int .i64 nid, .int .u64 (W64 k3), .int .u64 (W64 k4), .int .u64 (W64 k5)] rfl Try.underlying25 rfl (by kernel_rfl)) (hK.out _ (Below.refl _ _))) ?_; simp only [Act.put, List.setIfInBounds_toArray, List.set_cons_zero, List.set_cons_succ]
  refine wpH_take (v := ?_) 3 hR hst rfl ?_ ?_; rotate_left; (intro W hS K hK; clear hS; go_simp; exact hK.out _ (Below.refl _ _)); simp only [Act.put, List.setIfInBounds_toArray, List.set_cons_zero, List.set_cons_succ]
  refine wpH_take (v := ?_) 4 hR hst rfl ?_ ?_; rotate_left; (intro W hS K hK; have ld : W.cell? ⟨g_8, 0, none⟩ = some (.int .u32 (W32 iv)) := hS.2.2.1.cell 0; clear hS; go_simp; exact hK.out _ (Below.refl _ _)); simp only [Act.put, List.setIfInBounds_toArray, List.set_cons_zero, List.set_cons_succ]
  refine wpH_take (v := ?_) 5 hR hst rfl ?_ ?_; rotate_left; (intro W hS K hK; clear hS; go_simp; exact hK.out _ (Below.refl _ _)); simp only [Act.put, List.setIfInBounds_toArray, List.set_cons_zero, List.set_cons_succ]
  refine wpH_take (v := .agg #[.int .u8 (W8 q0), .int .u8 (W8 q1), .int .u8 (W8 q2), .int .u8 (W8 q3), .int .u8 (W8 q4), .int .u8 (W8 q5)]) 1 hR hst rfl ?_ ?_; (intro W hS K hK; clear hS; go_simp; refine (CO.out _).mono ?_; rintro e w9 ⟨rfl, hb⟩; refine CallPost.mk ?_; exact hK.out _ (hb)); simp only [Act.put, List.setIfInBounds_toArray, List.set_cons_zero, List.set_cons_succ]
  refine wpH_take (v := .agg #[.int .u8 (W8 m0), .int .u8 (W8 m1), .int .u8 (W8 m2), .int .u8 (W8 m3), .int .u8 (W8 m4), .int .u8 (W8 m5)]) 6 hR hst rfl ?_ ?_; (intro W hS K hK; go_simp; refine (CM.out _ _ _ (Rd.of_own hS.2.2.2.2.2.2.2) (own_cap hS.2.2.2.2.2.2.2).1).mono ?_; rintro e w9 ⟨rfl, hb⟩; refine CallPost.mk ?_; exact hK.out _ (hb)); simp only [Act.put, List.setIfInBounds_toArray, List.set_cons_zero, List.set_cons_succ]
  refine wpH_take (v := .agg #[.int .u8 (W8 h0), .int .u8 (W8 h1), .int .u8 (W8 h2), .int .u8 (W8 h3), .int .u8 (W8 h4), .int .u8 (W8 h5)]) 7 hR hst rfl ?_ ?_; (intro W hS K hK; clear hS; go_simp; refine (CX.out _).mono ?_; rintro e w9 ⟨rfl, hb⟩; refine CallPost.mk ?_; exact hK.out _ (hb)); simp only [Act.put, List.setIfInBounds_toArray, List.set_cons_zero, List.set_cons_succ]
  refine wpH_new 8 hst rfl ?_; intro W hS K hK
  have l8_8_g_1 : g_1 < W.heap.size := hS.2.1.lt
  have l8_8_g_8 : g_8 < W.heap.size := hS.2.2.1.lt
  have l8_8_g_22 : g_22 < W.heap.size := hS.2.2.2.1.lt
  have l8_8_g_31 : g_31 < W.heap.size := hS.2.2.2.2.1.lt
  have l8_8_g7_11 : g7_11 < W.heap.size := hS.2.2.2.2.2.1.lt
  have n8_8a : w.heap.size ≤ W.heap.size := hS.1.size
  clear hS
  go_simp
  refine hK.out (fun W' => Blk W' W.heap.size 73 #[.int .u8 0, .int .u8 0, .int .u8 0, .int .u8 0, .int .u8 0, .int .u8 0]) _ _ (stable_blk _ _ _) ((Below.refl _ _).alloc (Nat.le_refl _) _) (Blk.new _ _ _) (fun hst => ?_)
  clear hK K
  try simp only [Act.put, List.setIfInBounds_toArray, List.set_cons_zero, List.set_cons_succ]
  generalize W.heap.size = g8_8 at hst l8_8_g_1 l8_8_g_8 l8_8_g_22 l8_8_g_31 l8_8_g7_11 n8_8a ⊢
  clear W
  refine wpH_done (fun w_42 hS => ?_)
  obtain ⟨⟨hB, G_4, G_11, G_25, G_34, G7_11, R6_11, R7_13⟩, G8_8⟩ := hS
  clear hst
  dsimp only [List.drop]
  go_wp2_with (first | (with_reducible refine stop_store ?_) | (with_reducible refine stop_box ?_) | (with_reducible refine stop_alloc ?_) | (with_reducible refine stop_bslice ?_))
  unfold Kept
  refine wpList_st 0 #[.int .u8 (W8 h0), .int .u8 (W8 h1), .int .u8 (W8 h2), .int .u8 (W8 h3), .int .u8 (W8 h4), .int .u8 (W8 h5)] #[.int .u8 (W8 h0), .int .u8 (W8 h1), .int .u8 (W8 h2), .int .u8 (W8 h3), .int .u8 (W8 h4), .int .u8 (W8 h5)] G8_8 rfl rfl (by kernel_rfl) rfl (of_decide_eq_true rfl) rfl ?_
  intro w_43 G_45 hU_44
  replace G_4 := hU_44.blk G_4 (by omega)
  replace G_11 := hU_44.blk G_11 (by omega)
  replace G_25 := hU_44.blk G_25 (by omega)
  replace G_34 := hU_44.blk G_34 (by omega)
  replace G7_11 := hU_44.blk G7_11 (by omega)
  replace R6_11 := own_upd R6_11 G8_8 hU_44 (by decide)
  replace R7_13 := own_upd R7_13 G8_8 hU_44 (by decide)
  replace hB := hU_44.below hB (by omega)
  clear G8_8 hU_44
  go_wp2_with (first | (with_reducible refine stop_store ?_) | (with_reducible refine stop_box ?_) | (with_reducible refine stop_alloc ?_) | (with_reducible refine stop_bslice ?_))
  have hst : Stable fun W => Below w.heap.size w W ∧ Blk W g_1 25 #[.int .u64 (W64 k1), .int .i64 nid, .int .u64 (W64 k3), .int .u64 (W64 k4), .int .u64 (W64 k5)] ∧ Blk W g_8 44 #[.int .u32 (W32 iv), .int .i64 nid, .bool ctl, .int .i64 ttl, .int .u32 (W32 seq), .int .u16 (W16 src), .int .u16 (W16 dst), .slice A pay.length c] ∧ Blk W g_22 5 #[.int .u8 (W8 (BitVec.setWidth 8 dst)), .int .u8 (W8 (BitVec.setWidth 8 (dst >>> 8)))] ∧ Blk W g_31 36 #[.slice (some ⟨g_22, 0, none⟩) 2 2, .slice A pay.length c] ∧ Blk W g7_11 5 #[.int .u8 (W8 cb)] ∧ Blk W g8_8 73 #[.int .u8 (W8 h0), .int .u8 (W8 h1), .int .u8 (W8 h2), .int .u8 (W8 h3), .int .u8 (W8 h4), .int .u8 (W8 h5)] ∧ W.ownsRow w.heap.size 5 1 (.slice A6_11 m c6_11) m (bcells ([(BitVec.setWidth 8 dst), (BitVec.setWidth 8 (dst >>> 8))] ++ pay)) ∧ W.ownsRow w.heap.size 5 1 (.slice A7_13 s c7_13) s (bcells sd) := stable_and (stable_below _ _ (Nat.le_refl _)) (stable_and (stable_blk _ _ _) (stable_and (stable_blk _ _ _) (stable_and (stable_blk _ _ _) (stable_and (stable_blk _ _ _) (stable_and (stable_blk _ _ _) (stable_and (stable_blk _ _ _) (stable_and (stable_own _ _ _ _ _ _) (stable_own _ _ _ _ _ _))))))))
  refine wp_region_v _ 16 hst ⟨hB.drew, G_4, G_11, G_25, G_34, G7_11, G_45, R6_11, R7_13⟩ ?_
  clear hB G_4 G_11 G_25 G_34 G7_11 G_45 R6_11 R7_13
  refine wpU_take (v := ?_) 0 hst (fun _ h => h) rfl ?_ ?_; rotate_left; (intro W hS K hK; clear hS; go_simp; exact hK.out _ (Below.refl _ _)); simp only [Act.put, List.setIfInBounds_toArray, List.set_cons_zero, List.set_cons_succ]
  refine wpU_take (v := ?_) 1 hst (fun _ h => h) rfl ?_ ?_; rotate_left; (intro W hS K hK; have ld : W.cell? ⟨g_8, 1, none⟩ = some (.int .i64 nid) := hS.2.2.1.cell 1; clear hS; go_simp; exact hK.out _ (Below.refl _ _)); simp only [Act.put, List.setIfInBounds_toArray, List.set_cons_zero, List.set_cons_succ]
  refine wpU_take (v := ?_) 2 hst (fun _ h => h) rfl ?_ ?_; rotate_left; (intro W hS K hK; clear hS; go_simp; exact hK.out _ (Below.refl _ _)); simp only [Act.put, List.setIfInBounds_toArray, List.set_cons_zero, List.set_cons_succ]
  refine wpU_take (v := ?_) 3 hst (fun _ h => h) rfl ?_ ?_; rotate_left; (intro W hS K hK; clear hS; go_simp; exact hK.out _ (Below.refl _ _)); simp only [Act.put, List.setIfInBounds_toArray, List.set_cons_zero, List.set_cons_succ]
  refine wpU_take (v := ?_) 4 hst (fun _ h => h) rfl ?_ ?_; rotate_left; (intro W hS K hK; have ld : W.cell? ⟨g_8, 0, none⟩ = some (.int .u32 (W32 iv)) := hS.2.2.1.cell 0; clear hS; go_simp; exact hK.out _ (Below.refl _ _)); simp only [Act.put, List.setIfInBounds_toArray, List.set_cons_zero, List.set_cons_succ]
  refine wpU_take (v := ?_) 5 hst (fun _ h => h) rfl ?_ ?_; rotate_left; (intro W hS K hK; clear hS; go_simp; exact hK.out _ (Below.refl _ _)); simp only [Act.put, List.setIfInBounds_toArray, List.set_cons_zero, List.set_cons_succ]
  refine wpU_take (v := ?_) 6 hst (fun _ h => h) rfl ?_ ?_; rotate_left; (intro W hS K hK; clear hS; go_simp; exact hK.out _ (Below.refl _ _)); simp only [Act.put, List.setIfInBounds_toArray, List.set_cons_zero, List.set_cons_succ]
  refine wpU_take (v := ?_) 7 hst (fun _ h => h) rfl ?_ ?_; rotate_left; (intro W hS K hK; clear hS; go_simp; exact hK.out _ (Below.refl _ _)); simp only [Act.put, List.setIfInBounds_toArray, List.set_cons_zero, List.set_cons_succ]
  refine wpU_take (v := ?_) 8 hst (fun _ h => h) rfl ?_ ?_; rotate_left; (intro W hS K hK; clear hS; go_simp; exact hK.out _ (Below.refl _ _)); simp only [Act.put, List.setIfInBounds_toArray, List.set_cons_zero, List.set_cons_succ]
  refine wpU_take (v := ?_) 10 hst (fun _ h => h) rfl ?_ ?_; rotate_left; (intro W hS K hK; clear hS; go_simp; exact hK.out _ (Below.refl _ _)); simp only [Act.put, List.setIfInBounds_toArray, List.set_cons_zero, List.set_cons_succ]
  refine wpU_take (v := ?_) 11 hst (fun _ h => h) rfl ?_ ?_; rotate_left; (intro W hS K hK; clear hS; go_simp; exact hK.out _ (Below.refl _ _)); simp only [Act.put, List.setIfInBounds_toArray, List.set_cons_zero, List.set_cons_succ]
  refine wpV_new 9 hst rfl ?_; intro W hS K hK
  have l9_9_g_1 : g_1 < W.heap.size := hS.2.1.lt
  have l9_9_g_8 : g_8 < W.heap.size := hS.2.2.1.lt
  have l9_9_g_22 : g_22 < W.heap.size := hS.2.2.2.1.lt
  have l9_9_g_31 : g_31 < W.heap.size := hS.2.2.2.2.1.lt
  have l9_9_g7_11 : g7_11 < W.heap.size := hS.2.2.2.2.2.1.lt
  have l9_9_g8_8 : g8_8 < W.heap.size := hS.2.2.2.2.2.2.1.lt
  have n9_9a : w.heap.size ≤ W.heap.size := hS.1.size
  clear hS
  go_simp
  refine hK.out (fun W' => Blk W' W.heap.size 5 #[.int .u8 (W8 ((BitVec.ofInt 8 nid) ||| ((BitVec.setWidth 8 iv &&& 1#8) <<< 7)))]) _ _ (stable_blk _ _ _) ((Below.refl _ _).alloc (Nat.le_refl _) _) (Blk.new _ _ _) (fun hst => ?_)
  clear hK K
  try simp only [Act.put, List.setIfInBounds_toArray, List.set_cons_zero, List.set_cons_succ]
  generalize W.heap.size = g9_9 at hst l9_9_g_1 l9_9_g_8 l9_9_g_22 l9_9_g_31 l9_9_g7_11 l9_9_g8_8 n9_9a ⊢
  clear W
  refine wpV_new 12 hst rfl ?_; intro W hS K hK
  have l9_12_g_1 : g_1 < W.heap.size := hS.1.2.1.lt
  have l9_12_g_8 : g_8 < W.heap.size := hS.1.2.2.1.lt
  have l9_12_g_22 : g_22 < W.heap.size := hS.1.2.2.2.1.lt
  have l9_12_g_31 : g_31 < W.heap.size := hS.1.2.2.2.2.1.lt
  have l9_12_g7_11 : g7_11 < W.heap.size := hS.1.2.2.2.2.2.1.lt
  have l9_12_g8_8 : g8_8 < W.heap.size := hS.1.2.2.2.2.2.2.1.lt
  have l9_12_g9_9 : g9_9 < W.heap.size := hS.2.lt
  have n9_12a : w.heap.size ≤ W.heap.size := hS.1.1.size
  clear hS
  go_simp
  refine hK.out (fun W' => Blk W' W.heap.size 36 #[.slice (some ⟨g9_9, 0, none⟩) 1 1, .slice (some ⟨g8_8, 0, none⟩) 6 6, .slice A7_13 s c7_13]) _ _ (stable_blk _ _ _) ((Below.refl _ _).alloc (Nat.le_refl _) _) (Blk.new _ _ _) (fun hst => ?_)
  clear hK K
  try simp only [Act.put, List.setIfInBounds_toArray, List.set_cons_zero, List.set_cons_succ]
  generalize W.heap.size = g9_12 at hst l9_12_g_1 l9_12_g_8 l9_12_g_22 l9_12_g_31 l9_12_g7_11 l9_12_g8_8 l9_12_g9_9 n9_12a ⊢
  clear W
  refine wpV_new 13 hst rfl ?_; intro W hS K hK
  go_simp
  refine (join_at (n := 3) (m := z) [(some ⟨g9_9, 0, none⟩, 1, [((BitVec.ofInt 8 nid) ||| ((BitVec.setWidth 8 iv &&& 1#8) <<< 7))]), (some ⟨g8_8, 0, none⟩, 6, [h0, h1, h2, h3, h4, h5]), (A7_13, c7_13, sd)] ([((BitVec.ofInt 8 nid) ||| ((BitVec.setWidth 8 iv &&& 1#8) <<< 7))] ++ ([h0, h1, h2, h3, h4, h5] ++ sd)) hS.2 (by simp only [pcells, List.map_cons, List.map_nil, own_len hS.1.1.2.2.2.2.2.2.2.2]; try rfl) rfl (by simp) (by rw [HLF.out]; exact HZ.out) (fun p hp => by
      simp only [List.mem_cons, List.not_mem_nil, or_false] at hp
      rcases hp with rfl | rfl | rfl
      · exact rd_blk hS.1.2
      · exact rd_blk hS.1.1.2.2.2.2.2.2.1
      · exact Rd.of_own hS.1.1.2.2.2.2.2.2.2.2) (by omega) (by decide) hS.1.1.1.size).mono ?_; rintro e w9 ⟨A9_13, c9_13, rfl, R9_13, hb⟩
  refine hK.out (fun W => W.ownsRow w.heap.size 5 1 (.slice A9_13 z c9_13) z (bcells ([((BitVec.ofInt 8 nid) ||| ((BitVec.setWidth 8 iv &&& 1#8) <<< 7))] ++ ([h0, h1, h2, h3, h4, h5] ++ sd)))) _ _ (stable_own _ _ _ _ _ _) hb (R9_13) (fun hst => ?_)
  clear hK K hb R9_13 hS
  try simp only [Act.put, List.setIfInBounds_toArray, List.set_cons_zero, List.set_cons_succ]
  refine wpU_take (v := ?_) 14 hst (fun _ h => h) rfl ?_ ?_; rotate_left; (intro W hS K hK; clear hS; go_simp; exact hK.out _ (Below.refl _ _)); simp only [Act.put, List.setIfInBounds_toArray, List.set_cons_zero, List.set_cons_succ]
  refine wpU_take (v := ?_) 15 hst (fun _ h => h) rfl ?_ ?_; rotate_left; (intro W hS K hK; clear hS; go_simp; exact hK.out _ (Below.refl _ _)); simp only [Act.put, List.setIfInBounds_toArray, List.set_cons_zero, List.set_cons_succ]
  refine wpU_done (fun w_46 hS => ?_)
  obtain ⟨⟨⟨⟨hB, G_4, G_11, G_25, G_34, G7_11, G_45, R6_11, R7_13⟩, G9_9⟩, G9_12⟩, R9_13⟩ := hS
  clear hst
  go_wp2_with (first | (with_reducible refine stop_store ?_) | (with_reducible refine stop_box ?_) | (with_reducible refine stop_alloc ?_) | (with_reducible refine stop_bslice ?_))
  go_returns
  exact ⟨A9_13, c9_13, by rw [HZ.out]; rfl, by rw [← HLF.out]; exact Rd.of_own R9_13, by rw [HZ.out]; exact (own_cap R9_13).1, hB⟩
theorem net_Encode (k : NK) (p : NP) (A : Option Addr) (c : Nat) (w : World) (hl : p.pay.length ≤ 1048576) (hp : RdB w A p.pay) :
    Calls Try.prog 32 #[.agg #[.int .u64 (W64 k.key), .int .i64 k.nid, .int .u64 (W64 k.enc), .int .u64 (W64 k.hide), .int .u64 (W64 k.bea)], .agg (npA p A c)] w (RetO w (encN k p)) := by
  obtain ⟨k1, k2, k3, k4, k5⟩ := k
  obtain ⟨iv, nid, ctl, ttl, seq, src, dst, pay⟩ := p
  obtain ⟨ck, hck⟩ : ∃ x, checkN ⟨iv, nid, ctl, ttl, seq, src, dst, pay⟩ = x := ⟨_, rfl⟩
  by_cases h0 : ck = 0
  · subst h0
    by_cases h1 : nid = k2
    · subst h1
      exact net_Encode_o k1 k3 k4 k5 iv nid ctl ttl seq src dst A c pay w hl hp hck
    · exact net_Encode_k k1 k2 k3 k4 k5 iv nid ctl ttl seq src dst A c pay w hl hck h1
  · exact net_Encode_b k1 k2 k3 k4 k5 iv nid ctl ttl seq src dst A c pay ck w hl hck h0
end Go.Proofs.Ytbkaeoaepmeceaa
