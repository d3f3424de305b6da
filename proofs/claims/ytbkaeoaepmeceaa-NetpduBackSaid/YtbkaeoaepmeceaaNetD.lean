/- Encode of the reference of layer 48. -/
import Derived.Test.YtbkaeoaepmeceaaNetC
namespace Go.Proofs.Ytbkaeoaepmeceaa
set_option maxRecDepth 100000
open Go.ChangeShapes Go.WideShapes Go.ChangeAt Go.RowKit
set_option linter.unusedVariables false
set_option linter.unusedSimpArgs false

set_option maxHeartbeats 1000000 in
theorem r48_Encode_b (k1 : BitVec 64) (k2 : Int) (k3 k4 k5 : BitVec 64) (iv : BitVec 32) (nid : Int) (ctl : Bool) (ttl : Int) (seq : BitVec 32) (src dst : BitVec 16) (A : Option Addr) (c : Nat) (pay : List (BitVec 8)) (ck : Int) (w : World) (hl : pay.length ≤ 1048576) (hck : checkN ⟨iv, nid, ctl, ttl, seq, src, dst, pay⟩ = ck) (h0 : ck ≠ 0) :
    Calls Try.prog 33 #[.agg #[.int .u64 (W64 k1), .int .i64 k2, .int .u64 (W64 k3), .int .u64 (W64 k4), .int .u64 (W64 k5)], .agg #[.int .u32 (W32 iv), .int .i64 nid, .bool ctl, .int .i64 ttl, .int .u32 (W32 seq), .int .u16 (W16 src), .int .u16 (W16 dst), .slice A pay.length c]] w (RetO w (encN ⟨k1, k2, k3, k4, k5⟩ ⟨iv, nid, ctl, ttl, seq, src, dst, pay⟩)) := by
  have hE : encN ⟨k1, k2, k3, k4, k5⟩ ⟨iv, nid, ctl, ttl, seq, src, dst, pay⟩ = ([], ck) := by unfold encN; rw [hck, if_pos h0]
  rw [hE]
  have CK := Lib.hid (fun W => show Calls Try.prog 27 #[.agg #[.int .u32 (W32 iv), .int .i64 nid, .bool ctl, .int .i64 ttl, .int .u32 (W32 seq), .int .u16 (W16 src), .int .u16 (W16 dst), .slice A pay.length c]] W fun e w' => e = .returned (.int .i64 ck) ∧ Below W.heap.size W w' from by have := r48_Check ⟨iv, nid, ctl, ttl, seq, src, dst, pay⟩ A c W hl; rw [hck] at this; exact this)
  have e0 : ((ck : Int) != 0) = true := by simpa using h0
  have e1 : ((ck : Int) == 0) = false := by simpa using h0
  clear hE hck h0 hl
  go_enter Try.func33, Try.ntmps33
  go_wp2_with (first | (with_reducible refine stop_store ?_) | (with_reducible refine stop_box ?_) | (with_reducible refine stop_alloc ?_) | (with_reducible refine stop_bslice ?_))
  unfold Kept
  refine go_mem (ty := 25) (cs := #[.int .u64 (W64 k1), .int .i64 k2, .int .u64 (W64 k3), .int .u64 (W64 k4), .int .u64 (W64 k5)]) (fun g => .pointer (some ⟨g, 0, none⟩)) rfl (by kernel_rfl) ?_
  intro g_1 w_2 z_6 l_5 hb_3 G_4
  have n_7 : w.heap.size ≤ g_1 := l_5
  have hB := hb_3
  clear hb_3 l_5 z_6
  go_wp2_with (first | (with_reducible refine stop_store ?_) | (with_reducible refine stop_box ?_) | (with_reducible refine stop_alloc ?_) | (with_reducible refine stop_bslice ?_))
  unfold Kept
  refine go_mem (ty := 44) (cs := #[.int .u32 (W32 iv), .int .i64 nid, .bool ctl, .int .i64 ttl, .int .u32 (W32 seq), .int .u16 (W16 src), .int .u16 (W16 dst), .slice A pay.length c]) (fun g => .pointer (some ⟨g, 0, none⟩)) rfl (by kernel_rfl) ?_
  intro g_8 w_9 z_13 l_12 hb_10 G_11
  have n_14 : g_1 < g_8 := Nat.lt_of_lt_of_le G_4.lt l_12
  have n_15 : w.heap.size ≤ g_8 := Nat.le_trans hB.size l_12
  replace G_4 := G_4.to hb_10 G_4.lt
  replace hB := hB.trans (hb_10.mono hB.size)
  clear hb_10 l_12 z_13
  go_wp2_with (first | (with_reducible refine stop_store ?_) | (with_reducible refine stop_box ?_) | (with_reducible refine stop_alloc ?_) | (with_reducible refine stop_bslice ?_) | ((with_reducible refine wpList_ld 0 [.int .u32 (W32 iv), .int .i64 nid, .bool ctl, .int .i64 ttl, .int .u32 (W32 seq), .int .u16 (W16 src), .int .u16 (W16 dst), .slice A pay.length c] G_11 ?_ ?_ Try.underlying44 ?_ ?_ ?_); rfl; rfl; rfl; kernel_rfl))
  refine (CK.out _).mono ?_; rintro e w_17 ⟨rfl, hb_18⟩
  replace G_4 := G_4.to hb_18 G_4.lt
  replace G_11 := G_11.to hb_18 G_11.lt
  replace hB := hB.trans (hb_18.mono hB.size)
  clear hb_18
  go_wp2_with (first | (with_reducible refine stop_store ?_) | (with_reducible refine stop_box ?_) | (with_reducible refine stop_alloc ?_) | (with_reducible refine stop_bslice ?_))
  go_returns
  exact ⟨none, 0, rfl, fun j u hu => by simp [bcells] at hu, Nat.le_refl _, hB⟩
set_option maxHeartbeats 1000000 in
theorem r48_Encode_k (k1 : BitVec 64) (k2 : Int) (k3 k4 k5 : BitVec 64) (iv : BitVec 32) (nid : Int) (ctl : Bool) (ttl : Int) (seq : BitVec 32) (src dst : BitVec 16) (A : Option Addr) (c : Nat) (pay : List (BitVec 8)) (w : World) (hl : pay.length ≤ 1048576) (hck : checkN ⟨iv, nid, ctl, ttl, seq, src, dst, pay⟩ = 0) (h0 : nid ≠ k2) :
    Calls Try.prog 33 #[.agg #[.int .u64 (W64 k1), .int .i64 k2, .int .u64 (W64 k3), .int .u64 (W64 k4), .int .u64 (W64 k5)], .agg #[.int .u32 (W32 iv), .int .i64 nid, .bool ctl, .int .i64 ttl, .int .u32 (W32 seq), .int .u16 (W16 src), .int .u16 (W16 dst), .slice A pay.length c]] w (RetO w (encN ⟨k1, k2, k3, k4, k5⟩ ⟨iv, nid, ctl, ttl, seq, src, dst, pay⟩)) := by
  have hE : encN ⟨k1, k2, k3, k4, k5⟩ ⟨iv, nid, ctl, ttl, seq, src, dst, pay⟩ = ([], 17) := by unfold encN; rw [hck, if_neg (by decide), if_pos h0]
  rw [hE]
  have CK := Lib.hid (fun W => show Calls Try.prog 27 #[.agg #[.int .u32 (W32 iv), .int .i64 nid, .bool ctl, .int .i64 ttl, .int .u32 (W32 seq), .int .u16 (W16 src), .int .u16 (W16 dst), .slice A pay.length c]] W fun e w' => e = .returned (.int .i64 0) ∧ Below W.heap.size W w' from by have := r48_Check ⟨iv, nid, ctl, ttl, seq, src, dst, pay⟩ A c W hl; rw [hck] at this; exact this)
  have e0 : ((nid : Int) != k2) = true := by simpa using h0
  have e1 : ((nid : Int) == k2) = false := by simpa using h0
  clear hE hck h0 hl
  go_enter Try.func33, Try.ntmps33
  go_wp2_with (first | (with_reducible refine stop_store ?_) | (with_reducible refine stop_box ?_) | (with_reducible refine stop_alloc ?_) | (with_reducible refine stop_bslice ?_))
  unfold Kept
  refine go_mem (ty := 25) (cs := #[.int .u64 (W64 k1), .int .i64 k2, .int .u64 (W64 k3), .int .u64 (W64 k4), .int .u64 (W64 k5)]) (fun g => .pointer (some ⟨g, 0, none⟩)) rfl (by kernel_rfl) ?_
  intro g_1 w_2 z_6 l_5 hb_3 G_4
  have n_7 : w.heap.size ≤ g_1 := l_5
  have hB := hb_3
  clear hb_3 l_5 z_6
  go_wp2_with (first | (with_reducible refine stop_store ?_) | (with_reducible refine stop_box ?_) | (with_reducible refine stop_alloc ?_) | (with_reducible refine stop_bslice ?_))
  unfold Kept
  refine go_mem (ty := 44) (cs := #[.int .u32 (W32 iv), .int .i64 nid, .bool ctl, .int .i64 ttl, .int .u32 (W32 seq), .int .u16 (W16 src), .int .u16 (W16 dst), .slice A pay.length c]) (fun g => .pointer (some ⟨g, 0, none⟩)) rfl (by kernel_rfl) ?_
  intro g_8 w_9 z_13 l_12 hb_10 G_11
  have n_14 : g_1 < g_8 := Nat.lt_of_lt_of_le G_4.lt l_12
  have n_15 : w.heap.size ≤ g_8 := Nat.le_trans hB.size l_12
  replace G_4 := G_4.to hb_10 G_4.lt
  replace hB := hB.trans (hb_10.mono hB.size)
  clear hb_10 l_12 z_13
  go_wp2_with (first | (with_reducible refine stop_store ?_) | (with_reducible refine stop_box ?_) | (with_reducible refine stop_alloc ?_) | (with_reducible refine stop_bslice ?_) | ((with_reducible refine wpList_ld 0 [.int .u32 (W32 iv), .int .i64 nid, .bool ctl, .int .i64 ttl, .int .u32 (W32 seq), .int .u16 (W16 src), .int .u16 (W16 dst), .slice A pay.length c] G_11 ?_ ?_ Try.underlying44 ?_ ?_ ?_); rfl; rfl; rfl; kernel_rfl))
  refine (CK.out _).mono ?_; rintro e w_17 ⟨rfl, hb_18⟩
  replace G_4 := G_4.to hb_18 G_4.lt
  replace G_11 := G_11.to hb_18 G_11.lt
  replace hB := hB.trans (hb_18.mono hB.size)
  clear hb_18
  have ld_19 : w_17.cell? ⟨g_8, 1, none⟩ = some (.int .i64 nid) := G_11.cell 1
  have ld_20 : w_17.cell? ⟨g_1, 1, none⟩ = some (.int .i64 k2) := G_4.cell 1
  go_wp2_with (first | (with_reducible refine stop_store ?_) | (with_reducible refine stop_box ?_) | (with_reducible refine stop_alloc ?_) | (with_reducible refine stop_bslice ?_))
  go_returns
  exact ⟨none, 0, rfl, fun j u hu => by simp [bcells] at hu, Nat.le_refl _, hB⟩
theorem open_ref (p : NP) : ([ctlB p.ctl p.ttl] ++ numB 3 (BitVec.setWidth 64 p.seq)) ++ numB 2 (BitVec.setWidth 64 p.src) = openL p := by
  have e3 : numB 3 (BitVec.setWidth 64 p.seq) = [p.seq.setWidth 8, (p.seq >>> 8).setWidth 8, (p.seq >>> 16).setWidth 8] := by
    show [((p.seq.setWidth 64) >>> (8 * 0)).setWidth 8, ((p.seq.setWidth 64) >>> (8 * 1)).setWidth 8, ((p.seq.setWidth 64) >>> (8 * 2)).setWidth 8] = _
    have h : ∀ k : Nat, ((p.seq.setWidth 64) >>> k).setWidth 8 = (p.seq >>> k).setWidth 8 := fun k : Nat => by
      apply BitVec.eq_of_toNat_eq
      simp only [BitVec.toNat_setWidth, BitVec.toNat_ushiftRight, Nat.shiftRight_eq_div_pow]
      have := p.seq.isLt
      rw [Nat.mod_eq_of_lt (by omega : p.seq.toNat < 2 ^ 64)]
    rw [h, h, h]
    simp
  have e2 : numB 2 (BitVec.setWidth 64 p.src) = [p.src.setWidth 8, (p.src >>> 8).setWidth 8] := hdr_eq p.src
  rw [e3, e2]
  rfl
set_option maxHeartbeats 8000000 in
theorem r48_Encode_o (k1 : BitVec 64) (k3 k4 k5 : BitVec 64) (iv : BitVec 32) (nid : Int) (ctl : Bool) (ttl : Int) (seq : BitVec 32) (src dst : BitVec 16) (A : Option Addr) (c : Nat) (pay : List (BitVec 8)) (w : World) (hl : pay.length ≤ 1048576) (hp0 : RdB w A pay) (hck : checkN ⟨iv, nid, ctl, ttl, seq, src, dst, pay⟩ = 0) :
    Calls Try.prog 33 #[.agg #[.int .u64 (W64 k1), .int .i64 nid, .int .u64 (W64 k3), .int .u64 (W64 k4), .int .u64 (W64 k5)], .agg #[.int .u32 (W32 iv), .int .i64 nid, .bool ctl, .int .i64 ttl, .int .u32 (W32 seq), .int .u16 (W16 src), .int .u16 (W16 dst), .slice A pay.length c]] w (RetO w (encN ⟨k1, nid, k3, k4, k5⟩ ⟨iv, nid, ctl, ttl, seq, src, dst, pay⟩)) := by
  obtain ⟨i0, hi0, hz0, hz1, hz2⟩ := info_parts info_u8
  obtain ⟨n0, n1, t0, t1, s1, p0, p1⟩ := check_ok hck
  dsimp only at n0 n1 t0 t1 s1 p0 p1
  have CK := Lib.hid (fun W => show Calls Try.prog 27 #[.agg #[.int .u32 (W32 iv), .int .i64 nid, .bool ctl, .int .i64 ttl, .int .u32 (W32 seq), .int .u16 (W16 src), .int .u16 (W16 dst), .slice A pay.length c]] W fun e w' => e = .returned (.int .i64 0) ∧ Below W.heap.size W w' from by have := r48_Check ⟨iv, nid, ctl, ttl, seq, src, dst, pay⟩ A c W hl; rw [hck] at this; exact this)
  obtain ⟨m, hm⟩ : ∃ m, 2 + pay.length = m := ⟨_, rfl⟩
  obtain ⟨non, hnon⟩ : ∃ x, nonceK 0 src seq iv = x := ⟨_, rfl⟩
  have CN := Lib.hid (fun W => show Calls Try.prog 18 #[.int .i64 0, .int .u16 (W16 src), .int .u32 (W32 seq), .int .u32 (W32 iv)] W fun e w' => e = .returned (.int .u64 (W64 non)) ∧ Below W.heap.size W w' from by have := ref47_Nonce 0 src seq iv W; rw [hnon] at this; exact this)
  obtain ⟨cb, hcb⟩ : ∃ x, ctlB ctl ttl = x := ⟨_, rfl⟩
  have CC := Lib.hid (fun W => show Calls Try.prog 55 #[.agg #[.int .u32 (W32 iv), .int .i64 nid, .bool ctl, .int .i64 ttl, .int .u32 (W32 seq), .int .u16 (W16 src), .int .u16 (W16 dst), .slice A pay.length c]] W fun e w' => e = .returned (.int .u8 (W8 cb)) ∧ Below W.heap.size W w' from by have := r48_control ⟨iv, nid, ctl, ttl, seq, src, dst, pay⟩ A c W t0 t1; dsimp only at this; rw [hcb] at this; exact this)
  have hpl : ((numB 2 (BitVec.setWidth 64 dst)) ++ pay) = plainL ⟨iv, nid, ctl, ttl, seq, src, dst, pay⟩ := by rfl
  have hplm : (((numB 2 (BitVec.setWidth 64 dst)) ++ pay) : List (BitVec 8)).length = m := by rw [List.length_append, ← hm, numB_length] <;> rfl
  obtain ⟨sd, hsd⟩ : ∃ x, sealB k3 non [cb] ((numB 2 (BitVec.setWidth 64 dst)) ++ pay) = x := ⟨_, rfl⟩
  obtain ⟨s, hs⟩ : ∃ x, sd.length = x := ⟨_, rfl⟩
  have hsm : s = m + 4 := by rw [← hs, ← hsd, sealB_length, hplm]
  have hpart : partL ⟨k1, nid, k3, k4, k5⟩ ⟨iv, nid, ctl, ttl, seq, src, dst, pay⟩ = sd := by unfold partL; dsimp only; rw [hnon, hcb, ← hpl, hsd]
  have CS := Lib.hid (fun W g A7 c7 (hh : RdB W (some ⟨g, 0, none⟩) [cb]) (hp : RdB W A7 ((numB 2 (BitVec.setWidth 64 dst)) ++ pay)) => show Calls Try.prog 46 #[.int .u64 (W64 k3), .int .u64 (W64 non), .slice (some ⟨g, 0, none⟩) 1 1, .slice A7 (2 + pay.length) c7] W (RetB W sd) from by
    have := ref6_Seal k3 non (some ⟨g, 0, none⟩) A7 1 c7 [cb] ((numB 2 (BitVec.setWidth 64 dst)) ++ pay) W hh hp (by simp) (by rw [hplm]; omega)
    rw [hplm, hsd] at this
    rw [← hm] at this
    exact this)
  obtain ⟨q0, q1, q2, q3, q4, q5, hq⟩ := list6 (l := openL ⟨iv, nid, ctl, ttl, seq, src, dst, pay⟩) rfl
  obtain ⟨m0, m1, m2, m3, m4, m5, hmk⟩ := list6 (maskL_length ⟨k1, nid, k3, k4, k5⟩ iv sd)
  obtain ⟨h0, e0⟩ : ∃ x, q0 ^^^ m0 = x := ⟨_, rfl⟩
  obtain ⟨h1, e1⟩ : ∃ x, q1 ^^^ m1 = x := ⟨_, rfl⟩
  obtain ⟨h2, e2⟩ : ∃ x, q2 ^^^ m2 = x := ⟨_, rfl⟩
  obtain ⟨h3, e3⟩ : ∃ x, q3 ^^^ m3 = x := ⟨_, rfl⟩
  obtain ⟨h4, e4⟩ : ∃ x, q4 ^^^ m4 = x := ⟨_, rfl⟩
  obtain ⟨h5, e5⟩ : ∃ x, q5 ^^^ m5 = x := ⟨_, rfl⟩
  have hxx : xorB [q0, q1, q2, q3, q4, q5] [m0, m1, m2, m3, m4, m5] = [h0, h1, h2, h3, h4, h5] := by rw [← e0, ← e1, ← e2, ← e3, ← e4, ← e5]; rfl
  have hE : encN ⟨k1, nid, k3, k4, k5⟩ ⟨iv, nid, ctl, ttl, seq, src, dst, pay⟩ = ((([BitVec.setWidth 8 (BitVec.ofInt 32 nid + (iv % 2#32) * 128#32)] ++ [h0, h1, h2, h3, h4, h5]) ++ sd), 0) := by
    unfold encN
    rw [hck, if_neg (by decide), if_neg (by simp)]
    unfold encB
    rw [hpart, hq, hmk, hxx]; dsimp only; rw [← head_ref iv nid n0 n1]
    try rfl
  rw [hE]
  obtain ⟨LF, hLF⟩ : ∃ x, ((([BitVec.setWidth 8 (BitVec.ofInt 32 nid + (iv % 2#32) * 128#32)] ++ [h0, h1, h2, h3, h4, h5]) ++ sd) : List (BitVec 8)) = x := ⟨_, rfl⟩
  rw [hLF]
  obtain ⟨z, hz⟩ : ∃ x, LF.length = x := ⟨_, rfl⟩
  have hzs : z = 7 + s := by rw [← hz, ← hLF]; simp only [List.length_append, List.length_cons, List.length_nil, hs] <;> omega
  have HZS := Lib.hid hzs
  have HZ := Lib.hid hz
  have HLF := Lib.hid hLF
  have hop : (([cb] ++ (numB 3 (BitVec.setWidth 64 seq))) ++ (numB 2 (BitVec.setWidth 64 src))) = [q0, q1, q2, q3, q4, q5] := by rw [← hq, ← hcb]; exact open_ref ⟨iv, nid, ctl, ttl, seq, src, dst, pay⟩
  have CH := Lib.hid (fun W S2 c2 S d (hs2 : RdB W S2 (([cb] ++ (numB 3 (BitVec.setWidth 64 seq))) ++ (numB 2 (BitVec.setWidth 64 src)))) (hr : RdB W S sd) (hd : s ≤ d) => show Calls Try.prog 56 #[.agg #[.int .u64 (W64 k1), .int .i64 nid, .int .u64 (W64 k3), .int .u64 (W64 k4), .int .u64 (W64 k5)], .int .u32 (W32 iv), .slice S2 6 c2, .slice S s d] W (RetB W [h0, h1, h2, h3, h4, h5]) from by
    have := r48_hide_f k1 nid k3 k4 k5 iv S2 c2 [q0, q1, q2, q3, q4, q5] S s d sd W (by rw [← hop]; exact hs2) rfl hr hs (by omega) (by omega) hd
    rw [hmk, hxx] at this
    exact this)
  have HS := Lib.hid hs
  have HP := Lib.hid hplm
  have u1 : 3 ≤ m := by omega
  have u2 : m ≤ 18 := by omega
  have u3 : 7 ≤ s := by omega
  have u4 : s ≤ 22 := by omega
  have u5 : z ≤ 29 := by omega
  clear hsm hzs hm
  clear hE hck hz hLF hs hplm hsd hnon hcb hpl hpart hq hmk e0 e1 e2 e3 e4 e5 hxx s1 hl hop
  go_enter Try.func33, Try.ntmps33
  have hB := Below.refl w.heap.size w
  go_wp2_with (first | (with_reducible refine stop_store ?_) | (with_reducible refine stop_box ?_) | (with_reducible refine stop_alloc ?_) | (with_reducible refine stop_bslice ?_) | (with_reducible refine stop_append ?_))
  unfold Kept
  refine go_mem (ty := 25) (cs := #[.int .u64 (W64 k1), .int .i64 nid, .int .u64 (W64 k3), .int .u64 (W64 k4), .int .u64 (W64 k5)]) (fun g => .pointer (some ⟨g, 0, none⟩)) rfl (by kernel_rfl) ?_
  intro g_1 w_2 z_6 l_5 hb_3 G_4
  have n_7 : w.heap.size ≤ g_1 := Nat.le_trans hB.size l_5
  replace hB := hB.trans (hb_3.mono hB.size)
  clear hb_3 l_5 z_6
  go_wp2_with (first | (with_reducible refine stop_store ?_) | (with_reducible refine stop_box ?_) | (with_reducible refine stop_alloc ?_) | (with_reducible refine stop_bslice ?_) | (with_reducible refine stop_append ?_))
  unfold Kept
  refine go_mem (ty := 44) (cs := #[.int .u32 (W32 iv), .int .i64 nid, .bool ctl, .int .i64 ttl, .int .u32 (W32 seq), .int .u16 (W16 src), .int .u16 (W16 dst), .slice A pay.length c]) (fun g => .pointer (some ⟨g, 0, none⟩)) rfl (by kernel_rfl) ?_
  intro g_8 w_9 z_13 l_12 hb_10 G_11
  have n_14 : g_1 < g_8 := Nat.lt_of_lt_of_le G_4.lt l_12
  have n_15 : w.heap.size ≤ g_8 := Nat.le_trans hB.size l_12
  replace G_4 := G_4.to hb_10 G_4.lt
  replace hB := hB.trans (hb_10.mono hB.size)
  clear hb_10 l_12 z_13
  go_wp2_with (first | (with_reducible refine stop_store ?_) | (with_reducible refine stop_box ?_) | (with_reducible refine stop_alloc ?_) | (with_reducible refine stop_bslice ?_) | (with_reducible refine stop_append ?_) | ((with_reducible refine wpList_ld 0 [.int .u32 (W32 iv), .int .i64 nid, .bool ctl, .int .i64 ttl, .int .u32 (W32 seq), .int .u16 (W16 src), .int .u16 (W16 dst), .slice A pay.length c] G_11 ?_ ?_ Try.underlying44 ?_ ?_ ?_); rfl; rfl; rfl; kernel_rfl))
  refine (CK.out _).mono ?_; rintro e w_17 ⟨rfl, hb_18⟩
  replace G_4 := G_4.to hb_18 G_4.lt
  replace G_11 := G_11.to hb_18 G_11.lt
  replace hB := hB.trans (hb_18.mono hB.size)
  clear hb_18
  have ld_19 : w_17.cell? ⟨g_8, 1, none⟩ = some (.int .i64 nid) := G_11.cell 1
  have ld_20 : w_17.cell? ⟨g_1, 1, none⟩ = some (.int .i64 nid) := G_4.cell 1
  go_wp2_with (first | (with_reducible refine stop_store ?_) | (with_reducible refine stop_box ?_) | (with_reducible refine stop_alloc ?_) | (with_reducible refine stop_bslice ?_) | (with_reducible refine stop_append ?_))
  clear ld_19 ld_20
  try simp only [Act.put, List.setIfInBounds_toArray, List.set_cons_zero, List.set_cons_succ]
  have hst : Stable fun W => Below w.heap.size w W ∧ Blk W g_1 25 #[.int .u64 (W64 k1), .int .i64 nid, .int .u64 (W64 k3), .int .u64 (W64 k4), .int .u64 (W64 k5)] ∧ Blk W g_8 44 #[.int .u32 (W32 iv), .int .i64 nid, .bool ctl, .int .i64 ttl, .int .u32 (W32 seq), .int .u16 (W16 src), .int .u16 (W16 dst), .slice A pay.length c] := stable_and (stable_below _ _ (Nat.le_refl _)) (stable_and (stable_blk _ _ _) (stable_blk _ _ _))
  refine wp_region_hh (fun W => Below w.heap.size w W ∧ Blk W g_1 25 #[.int .u64 (W64 k1), .int .i64 nid, .int .u64 (W64 k3), .int .u64 (W64 k4), .int .u64 (W64 k5)] ∧ Blk W g_8 44 #[.int .u32 (W32 iv), .int .i64 nid, .bool ctl, .int .i64 ttl, .int .u32 (W32 seq), .int .u16 (W16 src), .int .u16 (W16 dst), .slice A pay.length c]) 6 hst ⟨hB.drew, G_4, G_11⟩ ⟨by kernel_rfl, by kernel_rfl, by kernel_rfl, by decide⟩ (fun hR => ?_)
  clear hB G_4 G_11
  refine wpH_take (v := ?_) 0 hR hst rfl ?_ ?_; rotate_left; (intro W hS K hK; clear hS; go_simp; exact hK.out _ (Below.refl _ _)); simp only [Act.put, List.setIfInBounds_toArray, List.set_cons_zero, List.set_cons_succ]
  refine wpH_take (v := ?_) 1 hR hst rfl ?_ ?_; rotate_left; (intro W hS K hK; have ld : W.cell? ⟨g_8, 6, none⟩ = some (.int .u16 (W16 dst)) := hS.2.2.cell 6; clear hS; go_simp; exact hK.out _ (Below.refl _ _)); simp only [Act.put, List.setIfInBounds_toArray, List.set_cons_zero, List.set_cons_succ]
  refine wpH_take (v := ?_) 2 hR hst rfl ?_ ?_; rotate_left; (intro W hS K hK; clear hS; go_simp; exact hK.out _ (Below.refl _ _)); simp only [Act.put, List.setIfInBounds_toArray, List.set_cons_zero, List.set_cons_succ]
  refine wpH_take (v := ?_) 4 hR hst rfl ?_ ?_; rotate_left; (intro W hS K hK; clear hS; go_simp; exact hK.out _ (Below.refl _ _)); simp only [Act.put, List.setIfInBounds_toArray, List.set_cons_zero, List.set_cons_succ]
  refine wpH_take (v := ?_) 5 hR hst rfl ?_ ?_; rotate_left; (intro W hS K hK; have ld : W.cell? ⟨g_8, 7, none⟩ = some (.slice A pay.length c) := hS.2.2.cell 7; clear hS; go_simp; exact hK.out _ (Below.refl _ _)); simp only [Act.put, List.setIfInBounds_toArray, List.set_cons_zero, List.set_cons_succ]
  refine wpH_new 3 hst rfl ?_; intro W hS K hK
  go_simp
  refine (retB_at (ref2_Num 2 ((BitVec.setWidth 64 dst)) _ (by decide) (by decide)) (numB_length _ _) hS.1.size).mono ?_; rintro e w9 ⟨A6_3, c6_3, rfl, R6_3, hb⟩
  refine hK.out (fun W => W.ownsRow w.heap.size 5 1 (.slice A6_3 2 c6_3) 2 (bcells (numB 2 (BitVec.setWidth 64 dst)))) _ _ (stable_own _ _ _ _ _ _) hb (R6_3) (fun hst => ?_)
  clear hK K hb R6_3 hS
  try simp only [Act.put, List.setIfInBounds_toArray, List.set_cons_zero, List.set_cons_succ]
  refine wpH_done (fun w_21 hS => ?_)
  obtain ⟨⟨hB, G_4, G_11⟩, R6_3⟩ := hS
  clear hst
  dsimp only [List.drop]
  go_wp2_with (first | (with_reducible refine stop_store ?_) | (with_reducible refine stop_box ?_) | (with_reducible refine stop_alloc ?_) | (with_reducible refine stop_bslice ?_) | (with_reducible refine stop_append ?_))
  unfold Kept
  refine wpList_append_rd _ rfl _ _ 36 rfl w.heap.size 5 i0 _ 1 1 Try.underlying36 hi0 hz0 hz1 hz2 rfl (by omega) (.slice A6_3 2 c6_3) 2 (bcells (numB 2 (BitVec.setWidth 64 dst))) rfl (R6_3) A pay.length c (bcells pay) rfl (Rd.to hp0 hB) (by rw [bcells_length] <;> first | rfl | omega) ((bcells_one _)) (by simp only [maxLen]; omega) (by omega) hB.size ?_
  intro A_22 c_23 w_24 ho_25 hb_26 hg_27
  replace ho_25 : w_24.ownsRow w.heap.size 5 1 (.slice A_22 (2 + pay.length) c_23) (2 + pay.length) ((bcells ((numB 2 (BitVec.setWidth 64 dst)) ++ pay))) := by rw [bcells_append]; exact ho_25
  replace G_4 := Blk.own G_4 (R6_3) (by decide) hg_27
  replace G_11 := Blk.own G_11 (R6_3) (by decide) hg_27
  replace hB := hB.trans hb_26
  clear R6_3
  clear hg_27 hb_26
  go_wp2_with (first | (with_reducible refine stop_store ?_) | (with_reducible refine stop_box ?_) | (with_reducible refine stop_alloc ?_) | (with_reducible refine stop_bslice ?_) | (with_reducible refine stop_append ?_))
  have hst : Stable fun W => Below w.heap.size w W ∧ Blk W g_1 25 #[.int .u64 (W64 k1), .int .i64 nid, .int .u64 (W64 k3), .int .u64 (W64 k4), .int .u64 (W64 k5)] ∧ Blk W g_8 44 #[.int .u32 (W32 iv), .int .i64 nid, .bool ctl, .int .i64 ttl, .int .u32 (W32 seq), .int .u16 (W16 src), .int .u16 (W16 dst), .slice A pay.length c] ∧ W.ownsRow w.heap.size 5 1 (.slice A_22 (2 + pay.length) c_23) (2 + pay.length) ((bcells ((numB 2 (BitVec.setWidth 64 dst)) ++ pay))) := stable_and (stable_below _ _ (Nat.le_refl _)) (stable_and (stable_blk _ _ _) (stable_and (stable_blk _ _ _) (stable_own _ _ _ _ _ _)))
  refine wp_region_v _ 15 hst ⟨hB.drew, G_4, G_11, ho_25⟩ ?_
  clear hB G_4 G_11 ho_25
  refine wpU_take (v := ?_) 0 hst (fun _ h => h) rfl ?_ ?_; rotate_left; (intro W hS K hK; clear hS; go_simp; exact hK.out _ (Below.refl _ _)); simp only [Act.put, List.setIfInBounds_toArray, List.set_cons_zero, List.set_cons_succ]
  refine wpU_take (v := ?_) 1 hst (fun _ h => h) rfl ?_ ?_; rotate_left; (intro W hS K hK; have ld : W.cell? ⟨g_1, 2, none⟩ = some (.int .u64 (W64 k3)) := hS.2.1.cell 2; clear hS; go_simp; exact hK.out _ (Below.refl _ _)); simp only [Act.put, List.setIfInBounds_toArray, List.set_cons_zero, List.set_cons_succ]
  refine wpU_take (v := ?_) 2 hst (fun _ h => h) rfl ?_ ?_; rotate_left; (intro W hS K hK; clear hS; go_simp; exact hK.out _ (Below.refl _ _)); simp only [Act.put, List.setIfInBounds_toArray, List.set_cons_zero, List.set_cons_succ]
  refine wpU_take (v := ?_) 3 hst (fun _ h => h) rfl ?_ ?_; rotate_left; (intro W hS K hK; have ld : W.cell? ⟨g_8, 5, none⟩ = some (.int .u16 (W16 src)) := hS.2.2.1.cell 5; clear hS; go_simp; exact hK.out _ (Below.refl _ _)); simp only [Act.put, List.setIfInBounds_toArray, List.set_cons_zero, List.set_cons_succ]
  refine wpU_take (v := ?_) 4 hst (fun _ h => h) rfl ?_ ?_; rotate_left; (intro W hS K hK; clear hS; go_simp; exact hK.out _ (Below.refl _ _)); simp only [Act.put, List.setIfInBounds_toArray, List.set_cons_zero, List.set_cons_succ]
  refine wpU_take (v := ?_) 5 hst (fun _ h => h) rfl ?_ ?_; rotate_left; (intro W hS K hK; have ld : W.cell? ⟨g_8, 4, none⟩ = some (.int .u32 (W32 seq)) := hS.2.2.1.cell 4; clear hS; go_simp; exact hK.out _ (Below.refl _ _)); simp only [Act.put, List.setIfInBounds_toArray, List.set_cons_zero, List.set_cons_succ]
  refine wpU_take (v := ?_) 6 hst (fun _ h => h) rfl ?_ ?_; rotate_left; (intro W hS K hK; clear hS; go_simp; exact hK.out _ (Below.refl _ _)); simp only [Act.put, List.setIfInBounds_toArray, List.set_cons_zero, List.set_cons_succ]
  refine wpU_take (v := ?_) 7 hst (fun _ h => h) rfl ?_ ?_; rotate_left; (intro W hS K hK; have ld : W.cell? ⟨g_8, 0, none⟩ = some (.int .u32 (W32 iv)) := hS.2.2.1.cell 0; clear hS; go_simp; exact hK.out _ (Below.refl _ _)); simp only [Act.put, List.setIfInBounds_toArray, List.set_cons_zero, List.set_cons_succ]
  refine wpU_take (v := .agg #[.int .u32 (W32 iv), .int .i64 nid, .bool ctl, .int .i64 ttl, .int .u32 (W32 seq), .int .u16 (W16 src), .int .u16 (W16 dst), .slice A pay.length c]) 9 hst (fun _ h => h) rfl (fun W hS K hK => calm_load rfl rfl (load_part hS.2.2.1 0 [.int .u32 (W32 iv), .int .i64 nid, .bool ctl, .int .i64 ttl, .int .u32 (W32 seq), .int .u16 (W16 src), .int .u16 (W16 dst), .slice A pay.length c] rfl Try.underlying44 rfl (by kernel_rfl)) (hK.out _ (Below.refl _ _))) ?_; simp only [Act.put, List.setIfInBounds_toArray, List.set_cons_zero, List.set_cons_succ]
  refine wpU_take (v := ?_) 12 hst (fun _ h => h) rfl ?_ ?_; rotate_left; (intro W hS K hK; clear hS; go_simp; exact hK.out _ (Below.refl _ _)); simp only [Act.put, List.setIfInBounds_toArray, List.set_cons_zero, List.set_cons_succ]
  refine wpU_take (v := .int .u64 (W64 non)) 8 hst (fun _ h => h) rfl ?_ ?_; (intro W hS K hK; clear hS; go_simp; refine (CN.out _).mono ?_; rintro e w9 ⟨rfl, hb⟩; refine CallPost.mk ?_; exact hK.out _ (hb)); simp only [Act.put, List.setIfInBounds_toArray, List.set_cons_zero, List.set_cons_succ]
  refine wpU_take (v := .int .u8 (W8 cb)) 10 hst (fun _ h => h) rfl ?_ ?_; (intro W hS K hK; clear hS; go_simp; refine (CC.out _).mono ?_; rintro e w9 ⟨rfl, hb⟩; refine CallPost.mk ?_; exact hK.out _ (hb)); simp only [Act.put, List.setIfInBounds_toArray, List.set_cons_zero, List.set_cons_succ]
  refine wpV_new 11 hst rfl ?_; intro W hS K hK
  have l7_11_g_1 : g_1 < W.heap.size := hS.2.1.lt
  have l7_11_g_8 : g_8 < W.heap.size := hS.2.2.1.lt
  have n7_11a : w.heap.size ≤ W.heap.size := hS.1.size
  clear hS
  go_simp
  refine hK.out (fun W' => Blk W' W.heap.size 5 #[.int .u8 (W8 cb)]) _ _ (stable_blk _ _ _) ((Below.refl _ _).alloc (Nat.le_refl _) _) (Blk.new _ _ _) (fun hst => ?_)
  clear hK K
  try simp only [Act.put, List.setIfInBounds_toArray, List.set_cons_zero, List.set_cons_succ]
  generalize W.heap.size = g7_11 at hst l7_11_g_1 l7_11_g_8 n7_11a ⊢
  clear W
  refine wpV_new 13 hst rfl ?_; intro W hS K hK
  go_simp
  refine (retB_at (CS.out _ g7_11 A_22 c_23 (rd_blk hS.2) (Rd.of_own hS.1.2.2.2)) (HS.out) hS.1.1.size).mono ?_; rintro e w9 ⟨A7_13, c7_13, rfl, R7_13, hb⟩
  refine hK.out (fun W => W.ownsRow w.heap.size 5 1 (.slice A7_13 s c7_13) s (bcells sd)) _ _ (stable_own _ _ _ _ _ _) hb (R7_13) (fun hst => ?_)
  clear hK K hb R7_13 hS
  try simp only [Act.put, List.setIfInBounds_toArray, List.set_cons_zero, List.set_cons_succ]
  refine wpU_take (v := ?_) 14 hst (fun _ h => h) rfl ?_ ?_; rotate_left; (intro W hS K hK; clear hS; go_simp; exact hK.out _ (Below.refl _ _)); simp only [Act.put, List.setIfInBounds_toArray, List.set_cons_zero, List.set_cons_succ]
  refine wpU_done (fun w_28 hS => ?_)
  obtain ⟨⟨⟨hB, G_4, G_11, ho_25⟩, G7_11⟩, R7_13⟩ := hS
  clear hst
  go_wp2_with (first | (with_reducible refine stop_store ?_) | (with_reducible refine stop_box ?_) | (with_reducible refine stop_alloc ?_) | (with_reducible refine stop_bslice ?_) | (with_reducible refine stop_append ?_))
  try simp only [Act.put, List.setIfInBounds_toArray, List.set_cons_zero, List.set_cons_succ]
  have hB01 := hB
  replace hB := Below.refl w_28.heap.size w_28
  have C1ho_25 := Rd.of_own ho_25
  have K1ho_25 := (own_cap ho_25).1
  have L1ho_25 := own_len ho_25
  clear ho_25
  have C1R7_13 := Rd.of_own R7_13
  have K1R7_13 := (own_cap R7_13).1
  have L1R7_13 := own_len R7_13
  clear R7_13
  have lt1_g_1 : g_1 < w_28.heap.size := G_4.lt
  have lt1_g_8 : g_8 < w_28.heap.size := G_11.lt
  have lt1_g7_11 : g7_11 < w_28.heap.size := G7_11.lt
  go_wp2_with (first | (with_reducible refine stop_store ?_) | (with_reducible refine stop_box ?_) | (with_reducible refine stop_alloc ?_) | (with_reducible refine stop_bslice ?_) | (with_reducible refine stop_append ?_))
  try simp only [Act.put, List.setIfInBounds_toArray, List.set_cons_zero, List.set_cons_succ]
  have hst : Stable fun W => Below w_28.heap.size w_28 W ∧ Blk W g_1 25 #[.int .u64 (W64 k1), .int .i64 nid, .int .u64 (W64 k3), .int .u64 (W64 k4), .int .u64 (W64 k5)] ∧ Blk W g_8 44 #[.int .u32 (W32 iv), .int .i64 nid, .bool ctl, .int .i64 ttl, .int .u32 (W32 seq), .int .u16 (W16 src), .int .u16 (W16 dst), .slice A pay.length c] ∧ Blk W g7_11 5 #[.int .u8 (W8 cb)] := stable_and (stable_below _ _ (Nat.le_refl _)) (stable_and (stable_blk _ _ _) (stable_and (stable_blk _ _ _) (stable_blk _ _ _)))
  refine wp_region_hh (fun W => Below w_28.heap.size w_28 W ∧ Blk W g_1 25 #[.int .u64 (W64 k1), .int .i64 nid, .int .u64 (W64 k3), .int .u64 (W64 k4), .int .u64 (W64 k5)] ∧ Blk W g_8 44 #[.int .u32 (W32 iv), .int .i64 nid, .bool ctl, .int .i64 ttl, .int .u32 (W32 seq), .int .u16 (W16 src), .int .u16 (W16 dst), .slice A pay.length c] ∧ Blk W g7_11 5 #[.int .u8 (W8 cb)]) 7 hst ⟨hB.drew, G_4, G_11, G7_11⟩ ⟨by kernel_rfl, by kernel_rfl, by kernel_rfl, by decide⟩ (fun hR => ?_)
  clear hB G_4 G_11 G7_11
  refine wpH_take (v := .agg #[.int .u32 (W32 iv), .int .i64 nid, .bool ctl, .int .i64 ttl, .int .u32 (W32 seq), .int .u16 (W16 src), .int .u16 (W16 dst), .slice A pay.length c]) 0 hR hst rfl (fun W hS K hK => calm_load rfl rfl (load_part hS.2.2.1 0 [.int .u32 (W32 iv), .int .i64 nid, .bool ctl, .int .i64 ttl, .int .u32 (W32 seq), .int .u16 (W16 src), .int .u16 (W16 dst), .slice A pay.length c] rfl Try.underlying44 rfl (by kernel_rfl)) (hK.out _ (Below.refl _ _))) ?_; simp only [Act.put, List.setIfInBounds_toArray, List.set_cons_zero, List.set_cons_succ]
  refine wpH_take (v := ?_) 3 hR hst rfl ?_ ?_; rotate_left; (intro W hS K hK; clear hS; go_simp; exact hK.out _ (Below.refl _ _)); simp only [Act.put, List.setIfInBounds_toArray, List.set_cons_zero, List.set_cons_succ]
  refine wpH_take (v := ?_) 4 hR hst rfl ?_ ?_; rotate_left; (intro W hS K hK; have ld : W.cell? ⟨g_8, 4, none⟩ = some (.int .u32 (W32 seq)) := hS.2.2.1.cell 4; clear hS; go_simp; exact hK.out _ (Below.refl _ _)); simp only [Act.put, List.setIfInBounds_toArray, List.set_cons_zero, List.set_cons_succ]
  refine wpH_take (v := ?_) 5 hR hst rfl ?_ ?_; rotate_left; (intro W hS K hK; clear hS; go_simp; exact hK.out _ (Below.refl _ _)); simp only [Act.put, List.setIfInBounds_toArray, List.set_cons_zero, List.set_cons_succ]
  refine wpH_take (v := .int .u8 (W8 cb)) 1 hR hst rfl ?_ ?_; (intro W hS K hK; clear hS; go_simp; refine (CC.out _).mono ?_; rintro e w9 ⟨rfl, hb⟩; refine CallPost.mk ?_; exact hK.out _ (hb)); simp only [Act.put, List.setIfInBounds_toArray, List.set_cons_zero, List.set_cons_succ]
  refine wpH_two 2 6 hst rfl rfl ?_ ?_
  · intro W hS K hK
    have l8_2_g_1 : g_1 < W.heap.size := hS.2.1.lt
    have l8_2_g_8 : g_8 < W.heap.size := hS.2.2.1.lt
    have l8_2_g7_11 : g7_11 < W.heap.size := hS.2.2.2.lt
    have n8_2a : w_28.heap.size ≤ W.heap.size := hS.1.size
    clear hS
    go_simp
    refine hK.out (fun W' => Blk W' W.heap.size 5 #[.int .u8 (W8 cb)]) _ _ (stable_blk _ _ _) ((Below.refl _ _).alloc (Nat.le_refl _) _) (Blk.new _ _ _) (fun hst => ?_)
    clear hK K
    try simp only [Act.put, List.setIfInBounds_toArray, List.set_cons_zero, List.set_cons_succ]
    generalize W.heap.size = g8_2 at hst l8_2_g_1 l8_2_g_8 l8_2_g7_11 n8_2a ⊢
    clear W
    refine wpH_new 6 hst rfl ?_; intro W hS K hK
    go_simp
    refine (retB_at (ref2_Num 3 ((BitVec.setWidth 64 seq)) _ (by decide) (by decide)) (numB_length _ _) hS.1.1.size).mono ?_; rintro e w9 ⟨A8_6, c8_6, rfl, R8_6, hb⟩
    refine hK.out (fun W => W.ownsRow w_28.heap.size 5 1 (.slice A8_6 3 c8_6) 3 (bcells (numB 3 (BitVec.setWidth 64 seq)))) _ _ (stable_own _ _ _ _ _ _) hb (R8_6) (fun hst => ?_)
    clear hK K hb R8_6 hS
    try simp only [Act.put, List.setIfInBounds_toArray, List.set_cons_zero, List.set_cons_succ]
    refine wpH_done (fun w_29 hS => ?_)
    obtain ⟨⟨⟨hB, G_4, G_11, G7_11⟩, G8_2⟩, R8_6⟩ := hS
    clear hst
    dsimp only [List.drop]
    go_wp2_with (first | (with_reducible refine stop_store ?_) | (with_reducible refine stop_box ?_) | (with_reducible refine stop_alloc ?_) | (with_reducible refine stop_bslice ?_) | (with_reducible refine stop_append ?_))
    unfold Kept
    refine wpList_append_rd _ rfl _ _ 36 rfl w_28.heap.size 5 i0 _ 1 1 Try.underlying36 hi0 hz0 hz1 hz2 rfl (by omega) (.slice (some ⟨g8_2, 0, none⟩) 1 1) 1 (bcells [cb]) rfl (own_of_blk (l := [cb]) G8_2 (by omega) (by simp [maxLen])) A8_6 3 c8_6 (bcells (numB 3 (BitVec.setWidth 64 seq))) rfl (Rd.of_own R8_6) (R8_6.1) ((bcells_one _)) (by simp only [maxLen]; omega) (by omega) hB.size ?_
    intro A_30 c_31 w_32 ho_33 hb_34 hg_35
    replace ho_33 : w_32.ownsRow w_28.heap.size 5 1 (.slice A_30 4 c_31) 4 ((bcells ([cb] ++ (numB 3 (BitVec.setWidth 64 seq))))) := by rw [bcells_append]; exact ho_33
    replace G_4 := Blk.own G_4 (own_of_blk (l := [cb]) G8_2 (by omega) (by simp [maxLen])) (by decide) hg_35
    replace G_11 := Blk.own G_11 (own_of_blk (l := [cb]) G8_2 (by omega) (by simp [maxLen])) (by decide) hg_35
    clear G7_11
    clear R8_6
    replace hB := hB.trans hb_34
    clear G8_2
    clear hg_35 hb_34
    have ld_36 : w_32.cell? ⟨g_8, 5, none⟩ = some (.int .u16 (W16 src)) := G_11.cell 5
    go_wp2_with (first | (with_reducible refine stop_store ?_) | (with_reducible refine stop_box ?_) | (with_reducible refine stop_alloc ?_) | (with_reducible refine stop_bslice ?_) | (with_reducible refine stop_append ?_))
    refine (retB_at (ref2_Num 2 ((BitVec.setWidth 64 src)) _ (by decide) (by decide)) (numB_length _ _) hB.size).mono ?_; rintro e w_37 ⟨A9_4, c9_4, rfl, R9_4, hb_38⟩
    clear ld_36
    replace G_4 := G_4.to hb_38 G_4.lt
    replace G_11 := G_11.to hb_38 G_11.lt
    replace ho_33 := own_to ho_33 hb_38
    replace hB := hB.trans (hb_38.mono hB.size)
    clear hb_38
    go_wp2_with (first | (with_reducible refine stop_store ?_) | (with_reducible refine stop_box ?_) | (with_reducible refine stop_alloc ?_) | (with_reducible refine stop_bslice ?_) | (with_reducible refine stop_append ?_))
    unfold Kept
    refine wpList_append_rd _ rfl _ _ 36 rfl w_28.heap.size 5 i0 _ 1 1 Try.underlying36 hi0 hz0 hz1 hz2 rfl (by omega) (.slice A_30 4 c_31) 4 (bcells ([cb] ++ (numB 3 (BitVec.setWidth 64 seq)))) rfl (ho_33) A9_4 2 c9_4 (bcells (numB 2 (BitVec.setWidth 64 src))) rfl (Rd.of_own R9_4) (R9_4.1) ((bcells_one _)) (by simp only [maxLen]; omega) (by omega) hB.size ?_
    intro A_39 c_40 w_41 ho_42 hb_43 hg_44
    replace ho_42 : w_41.ownsRow w_28.heap.size 5 1 (.slice A_39 6 c_40) 6 ((bcells (([cb] ++ (numB 3 (BitVec.setWidth 64 seq))) ++ (numB 2 (BitVec.setWidth 64 src))))) := by rw [bcells_append]; exact ho_42
    replace G_4 := Blk.own G_4 (ho_33) (by decide) hg_44
    replace G_11 := Blk.own G_11 (ho_33) (by decide) hg_44
    clear R9_4
    replace hB := hB.trans hb_43
    clear ho_33
    clear hg_44 hb_43
    have ld_45 : w_41.cell? ⟨g_8, 1, none⟩ = some (.int .i64 nid) := G_11.cell 1
    have ld_46 : w_41.cell? ⟨g_8, 0, none⟩ = some (.int .u32 (W32 iv)) := G_11.cell 0
    go_wp2_with (first | (with_reducible refine stop_store ?_) | (with_reducible refine stop_box ?_) | (with_reducible refine stop_alloc ?_) | (with_reducible refine stop_bslice ?_) | (with_reducible refine stop_append ?_))
    unfold Kept
    refine go_mem (ty := 5) (cs := #[.int .u8 (W8 (BitVec.setWidth 8 ((BitVec.ofInt 32 nid) + ((iv % (2#32)) * (128#32)))))]) (fun g => .slice (some ⟨g, 0, none⟩) 1 1) rfl (by kernel_rfl) ?_
    intro g_47 w_48 z_52 l_51 hb_49 G_50
    clear ld_45 ld_46
    have n_53 : g_8 < g_47 := Nat.lt_of_lt_of_le G_11.lt l_51
    have n_54 : w_28.heap.size ≤ g_47 := Nat.le_trans hB.size l_51
    replace G_4 := G_4.to hb_49 G_4.lt
    replace G_11 := G_11.to hb_49 G_11.lt
    replace ho_42 := own_to ho_42 hb_49
    replace hB := hB.trans (hb_49.mono hB.size)
    clear hb_49 l_51 z_52
    have ld_56 : w_48.cell? ⟨g_8, 0, none⟩ = some (.int .u32 (W32 iv)) := G_11.cell 0
    go_wp2_with (first | (with_reducible refine stop_store ?_) | (with_reducible refine stop_box ?_) | (with_reducible refine stop_alloc ?_) | (with_reducible refine stop_bslice ?_) | (with_reducible refine stop_append ?_) | ((with_reducible refine wpList_ld 0 [.int .u64 (W64 k1), .int .i64 nid, .int .u64 (W64 k3), .int .u64 (W64 k4), .int .u64 (W64 k5)] G_4 ?_ ?_ Try.underlying25 ?_ ?_ ?_); rfl; rfl; rfl; kernel_rfl))
    refine (retB_at (CH.out _ A_39 c_40 A7_13 c7_13 (Rd.of_own ho_42) (Rd.to C1R7_13 hB) K1R7_13) (rfl) hB.size).mono ?_; rintro e w_57 ⟨A11_6, c11_6, rfl, R11_6, hb_58⟩
    clear ld_56
    replace G_4 := G_4.to hb_58 G_4.lt
    replace G_11 := G_11.to hb_58 G_11.lt
    replace G_50 := G_50.to hb_58 G_50.lt
    replace ho_42 := own_to ho_42 hb_58
    replace hB := hB.trans (hb_58.mono hB.size)
    clear hb_58
    go_wp2_with (first | (with_reducible refine stop_store ?_) | (with_reducible refine stop_box ?_) | (with_reducible refine stop_alloc ?_) | (with_reducible refine stop_bslice ?_) | (with_reducible refine stop_append ?_))
    unfold Kept
    refine wpList_append_rd _ rfl _ _ 36 rfl w_28.heap.size 5 i0 _ 1 1 Try.underlying36 hi0 hz0 hz1 hz2 rfl (by omega) (.slice (some ⟨g_47, 0, none⟩) 1 1) 1 (bcells [(BitVec.setWidth 8 ((BitVec.ofInt 32 nid) + ((iv % (2#32)) * (128#32))))]) rfl (own_of_blk (l := [(BitVec.setWidth 8 ((BitVec.ofInt 32 nid) + ((iv % (2#32)) * (128#32))))]) G_50 (by omega) (by simp [maxLen])) A11_6 6 c11_6 (bcells [h0, h1, h2, h3, h4, h5]) rfl (Rd.of_own R11_6) (R11_6.1) ((bcells_one _)) (by simp only [maxLen]; omega) (by omega) hB.size ?_
    intro A_59 c_60 w_61 ho_62 hb_63 hg_64
    replace ho_62 : w_61.ownsRow w_28.heap.size 5 1 (.slice A_59 7 c_60) 7 ((bcells ([(BitVec.setWidth 8 ((BitVec.ofInt 32 nid) + ((iv % (2#32)) * (128#32))))] ++ [h0, h1, h2, h3, h4, h5]))) := by rw [bcells_append]; exact ho_62
    replace G_4 := Blk.own G_4 (own_of_blk (l := [(BitVec.setWidth 8 ((BitVec.ofInt 32 nid) + ((iv % (2#32)) * (128#32))))]) G_50 (by omega) (by simp [maxLen])) (by decide) hg_64
    replace G_11 := Blk.own G_11 (own_of_blk (l := [(BitVec.setWidth 8 ((BitVec.ofInt 32 nid) + ((iv % (2#32)) * (128#32))))]) G_50 (by omega) (by simp [maxLen])) (by decide) hg_64
    clear ho_42
    clear R11_6
    replace hB := hB.trans hb_63
    clear G_50
    clear hg_64 hb_63
    go_wp2_with (first | (with_reducible refine stop_store ?_) | (with_reducible refine stop_box ?_) | (with_reducible refine stop_alloc ?_) | (with_reducible refine stop_bslice ?_) | (with_reducible refine stop_append ?_))
    unfold Kept
    refine wpList_append_rd _ rfl _ _ 36 rfl w_28.heap.size 5 i0 _ 1 1 Try.underlying36 hi0 hz0 hz1 hz2 rfl (by omega) (.slice A_59 7 c_60) 7 (bcells ([(BitVec.setWidth 8 ((BitVec.ofInt 32 nid) + ((iv % (2#32)) * (128#32))))] ++ [h0, h1, h2, h3, h4, h5])) rfl (ho_62) A7_13 s c7_13 (bcells sd) rfl (Rd.to C1R7_13 hB) (by rw [bcells_length, L1R7_13, Nat.mul_one]) ((bcells_one _)) (by simp only [maxLen]; omega) (by omega) hB.size ?_
    intro A_65 c_66 w_67 ho_68 hb_69 hg_70
    replace ho_68 : w_67.ownsRow w_28.heap.size 5 1 (.slice A_65 (7 + s) c_66) (7 + s) ((bcells (([(BitVec.setWidth 8 ((BitVec.ofInt 32 nid) + ((iv % (2#32)) * (128#32))))] ++ [h0, h1, h2, h3, h4, h5]) ++ sd))) := by rw [bcells_append]; exact ho_68
    replace G_4 := Blk.own G_4 (ho_62) (by decide) hg_70
    replace G_11 := Blk.own G_11 (ho_62) (by decide) hg_70
    replace hB := hB.trans hb_69
    clear ho_62
    clear hg_70 hb_69
    go_wp2_with (first | (with_reducible refine stop_store ?_) | (with_reducible refine stop_box ?_) | (with_reducible refine stop_alloc ?_) | (with_reducible refine stop_bslice ?_) | (with_reducible refine stop_append ?_))
    replace hB := hB01.trans (hB.mono hB01.size)
    go_returns
    exact ⟨A_65, c_66, by rw [HZ.out, HZS.out]; rfl, by rw [← HLF.out]; exact Rd.of_own ho_68, by rw [HZ.out, HZS.out]; exact (own_cap ho_68).1, hB⟩
  · intro W hS K hK
    go_simp
    refine (retB_at (ref2_Num 3 ((BitVec.setWidth 64 seq)) _ (by decide) (by decide)) (numB_length _ _) hS.1.size).mono ?_; rintro e w9 ⟨A8_6, c8_6, rfl, R8_6, hb⟩
    refine hK.out (fun W => W.ownsRow w_28.heap.size 5 1 (.slice A8_6 3 c8_6) 3 (bcells (numB 3 (BitVec.setWidth 64 seq)))) _ _ (stable_own _ _ _ _ _ _) hb (R8_6) (fun hst => ?_)
    clear hK K hb R8_6 hS
    try simp only [Act.put, List.setIfInBounds_toArray, List.set_cons_zero, List.set_cons_succ]
    refine wpH_new 2 hst rfl ?_; intro W hS K hK
    have l8_2_g_1 : g_1 < W.heap.size := hS.1.2.1.lt
    have l8_2_g_8 : g_8 < W.heap.size := hS.1.2.2.1.lt
    have l8_2_g7_11 : g7_11 < W.heap.size := hS.1.2.2.2.lt
    have n8_2a : w_28.heap.size ≤ W.heap.size := hS.1.1.size
    clear hS
    go_simp
    refine hK.out (fun W' => Blk W' W.heap.size 5 #[.int .u8 (W8 cb)]) _ _ (stable_blk _ _ _) ((Below.refl _ _).alloc (Nat.le_refl _) _) (Blk.new _ _ _) (fun hst => ?_)
    clear hK K
    try simp only [Act.put, List.setIfInBounds_toArray, List.set_cons_zero, List.set_cons_succ]
    generalize W.heap.size = g8_2 at hst l8_2_g_1 l8_2_g_8 l8_2_g7_11 n8_2a ⊢
    clear W
    refine wpH_done (fun w_71 hS => ?_)
    obtain ⟨⟨⟨hB, G_4, G_11, G7_11⟩, R8_6⟩, G8_2⟩ := hS
    clear hst
    dsimp only [List.drop]
    go_wp2_with (first | (with_reducible refine stop_store ?_) | (with_reducible refine stop_box ?_) | (with_reducible refine stop_alloc ?_) | (with_reducible refine stop_bslice ?_) | (with_reducible refine stop_append ?_))
    unfold Kept
    refine wpList_append_rd _ rfl _ _ 36 rfl w_28.heap.size 5 i0 _ 1 1 Try.underlying36 hi0 hz0 hz1 hz2 rfl (by omega) (.slice (some ⟨g8_2, 0, none⟩) 1 1) 1 (bcells [cb]) rfl (own_of_blk (l := [cb]) G8_2 (by omega) (by simp [maxLen])) A8_6 3 c8_6 (bcells (numB 3 (BitVec.setWidth 64 seq))) rfl (Rd.of_own R8_6) (R8_6.1) ((bcells_one _)) (by simp only [maxLen]; omega) (by omega) hB.size ?_
    intro A_72 c_73 w_74 ho_75 hb_76 hg_77
    replace ho_75 : w_74.ownsRow w_28.heap.size 5 1 (.slice A_72 4 c_73) 4 ((bcells ([cb] ++ (numB 3 (BitVec.setWidth 64 seq))))) := by rw [bcells_append]; exact ho_75
    replace G_4 := Blk.own G_4 (own_of_blk (l := [cb]) G8_2 (by omega) (by simp [maxLen])) (by decide) hg_77
    replace G_11 := Blk.own G_11 (own_of_blk (l := [cb]) G8_2 (by omega) (by simp [maxLen])) (by decide) hg_77
    clear G7_11
    clear R8_6
    replace hB := hB.trans hb_76
    clear G8_2
    clear hg_77 hb_76
    have ld_78 : w_74.cell? ⟨g_8, 5, none⟩ = some (.int .u16 (W16 src)) := G_11.cell 5
    go_wp2_with (first | (with_reducible refine stop_store ?_) | (with_reducible refine stop_box ?_) | (with_reducible refine stop_alloc ?_) | (with_reducible refine stop_bslice ?_) | (with_reducible refine stop_append ?_))
    refine (retB_at (ref2_Num 2 ((BitVec.setWidth 64 src)) _ (by decide) (by decide)) (numB_length _ _) hB.size).mono ?_; rintro e w_79 ⟨A9_4, c9_4, rfl, R9_4, hb_80⟩
    clear ld_78
    replace G_4 := G_4.to hb_80 G_4.lt
    replace G_11 := G_11.to hb_80 G_11.lt
    replace ho_75 := own_to ho_75 hb_80
    replace hB := hB.trans (hb_80.mono hB.size)
    clear hb_80
    go_wp2_with (first | (with_reducible refine stop_store ?_) | (with_reducible refine stop_box ?_) | (with_reducible refine stop_alloc ?_) | (with_reducible refine stop_bslice ?_) | (with_reducible refine stop_append ?_))
    unfold Kept
    refine wpList_append_rd _ rfl _ _ 36 rfl w_28.heap.size 5 i0 _ 1 1 Try.underlying36 hi0 hz0 hz1 hz2 rfl (by omega) (.slice A_72 4 c_73) 4 (bcells ([cb] ++ (numB 3 (BitVec.setWidth 64 seq)))) rfl (ho_75) A9_4 2 c9_4 (bcells (numB 2 (BitVec.setWidth 64 src))) rfl (Rd.of_own R9_4) (R9_4.1) ((bcells_one _)) (by simp only [maxLen]; omega) (by omega) hB.size ?_
    intro A_81 c_82 w_83 ho_84 hb_85 hg_86
    replace ho_84 : w_83.ownsRow w_28.heap.size 5 1 (.slice A_81 6 c_82) 6 ((bcells (([cb] ++ (numB 3 (BitVec.setWidth 64 seq))) ++ (numB 2 (BitVec.setWidth 64 src))))) := by rw [bcells_append]; exact ho_84
    replace G_4 := Blk.own G_4 (ho_75) (by decide) hg_86
    replace G_11 := Blk.own G_11 (ho_75) (by decide) hg_86
    clear R9_4
    replace hB := hB.trans hb_85
    clear ho_75
    clear hg_86 hb_85
    have ld_87 : w_83.cell? ⟨g_8, 1, none⟩ = some (.int .i64 nid) := G_11.cell 1
    have ld_88 : w_83.cell? ⟨g_8, 0, none⟩ = some (.int .u32 (W32 iv)) := G_11.cell 0
    go_wp2_with (first | (with_reducible refine stop_store ?_) | (with_reducible refine stop_box ?_) | (with_reducible refine stop_alloc ?_) | (with_reducible refine stop_bslice ?_) | (with_reducible refine stop_append ?_))
    unfold Kept
    refine go_mem (ty := 5) (cs := #[.int .u8 (W8 (BitVec.setWidth 8 ((BitVec.ofInt 32 nid) + ((iv % (2#32)) * (128#32)))))]) (fun g => .slice (some ⟨g, 0, none⟩) 1 1) rfl (by kernel_rfl) ?_
    intro g_89 w_90 z_94 l_93 hb_91 G_92
    clear ld_87 ld_88
    have n_95 : g_8 < g_89 := Nat.lt_of_lt_of_le G_11.lt l_93
    have n_96 : w_28.heap.size ≤ g_89 := Nat.le_trans hB.size l_93
    replace G_4 := G_4.to hb_91 G_4.lt
    replace G_11 := G_11.to hb_91 G_11.lt
    replace ho_84 := own_to ho_84 hb_91
    replace hB := hB.trans (hb_91.mono hB.size)
    clear hb_91 l_93 z_94
    have ld_98 : w_90.cell? ⟨g_8, 0, none⟩ = some (.int .u32 (W32 iv)) := G_11.cell 0
    go_wp2_with (first | (with_reducible refine stop_store ?_) | (with_reducible refine stop_box ?_) | (with_reducible refine stop_alloc ?_) | (with_reducible refine stop_bslice ?_) | (with_reducible refine stop_append ?_) | ((with_reducible refine wpList_ld 0 [.int .u64 (W64 k1), .int .i64 nid, .int .u64 (W64 k3), .int .u64 (W64 k4), .int .u64 (W64 k5)] G_4 ?_ ?_ Try.underlying25 ?_ ?_ ?_); rfl; rfl; rfl; kernel_rfl))
    refine (retB_at (CH.out _ A_81 c_82 A7_13 c7_13 (Rd.of_own ho_84) (Rd.to C1R7_13 hB) K1R7_13) (rfl) hB.size).mono ?_; rintro e w_99 ⟨A11_6, c11_6, rfl, R11_6, hb_100⟩
    clear ld_98
    replace G_4 := G_4.to hb_100 G_4.lt
    replace G_11 := G_11.to hb_100 G_11.lt
    replace G_92 := G_92.to hb_100 G_92.lt
    replace ho_84 := own_to ho_84 hb_100
    replace hB := hB.trans (hb_100.mono hB.size)
    clear hb_100
    go_wp2_with (first | (with_reducible refine stop_store ?_) | (with_reducible refine stop_box ?_) | (with_reducible refine stop_alloc ?_) | (with_reducible refine stop_bslice ?_) | (with_reducible refine stop_append ?_))
    unfold Kept
    refine wpList_append_rd _ rfl _ _ 36 rfl w_28.heap.size 5 i0 _ 1 1 Try.underlying36 hi0 hz0 hz1 hz2 rfl (by omega) (.slice (some ⟨g_89, 0, none⟩) 1 1) 1 (bcells [(BitVec.setWidth 8 ((BitVec.ofInt 32 nid) + ((iv % (2#32)) * (128#32))))]) rfl (own_of_blk (l := [(BitVec.setWidth 8 ((BitVec.ofInt 32 nid) + ((iv % (2#32)) * (128#32))))]) G_92 (by omega) (by simp [maxLen])) A11_6 6 c11_6 (bcells [h0, h1, h2, h3, h4, h5]) rfl (Rd.of_own R11_6) (R11_6.1) ((bcells_one _)) (by simp only [maxLen]; omega) (by omega) hB.size ?_
    intro A_101 c_102 w_103 ho_104 hb_105 hg_106
    replace ho_104 : w_103.ownsRow w_28.heap.size 5 1 (.slice A_101 7 c_102) 7 ((bcells ([(BitVec.setWidth 8 ((BitVec.ofInt 32 nid) + ((iv % (2#32)) * (128#32))))] ++ [h0, h1, h2, h3, h4, h5]))) := by rw [bcells_append]; exact ho_104
    replace G_4 := Blk.own G_4 (own_of_blk (l := [(BitVec.setWidth 8 ((BitVec.ofInt 32 nid) + ((iv % (2#32)) * (128#32))))]) G_92 (by omega) (by simp [maxLen])) (by decide) hg_106
    replace G_11 := Blk.own G_11 (own_of_blk (l := [(BitVec.setWidth 8 ((BitVec.ofInt 32 nid) + ((iv % (2#32)) * (128#32))))]) G_92 (by omega) (by simp [maxLen])) (by decide) hg_106
    clear ho_84
    clear R11_6
    replace hB := hB.trans hb_105
    clear G_92
    clear hg_106 hb_105
    go_wp2_with (first | (with_reducible refine stop_store ?_) | (with_reducible refine stop_box ?_) | (with_reducible refine stop_alloc ?_) | (with_reducible refine stop_bslice ?_) | (with_reducible refine stop_append ?_))
    unfold Kept
    refine wpList_append_rd _ rfl _ _ 36 rfl w_28.heap.size 5 i0 _ 1 1 Try.underlying36 hi0 hz0 hz1 hz2 rfl (by omega) (.slice A_101 7 c_102) 7 (bcells ([(BitVec.setWidth 8 ((BitVec.ofInt 32 nid) + ((iv % (2#32)) * (128#32))))] ++ [h0, h1, h2, h3, h4, h5])) rfl (ho_104) A7_13 s c7_13 (bcells sd) rfl (Rd.to C1R7_13 hB) (by rw [bcells_length, L1R7_13, Nat.mul_one]) ((bcells_one _)) (by simp only [maxLen]; omega) (by omega) hB.size ?_
    intro A_107 c_108 w_109 ho_110 hb_111 hg_112
    replace ho_110 : w_109.ownsRow w_28.heap.size 5 1 (.slice A_107 (7 + s) c_108) (7 + s) ((bcells (([(BitVec.setWidth 8 ((BitVec.ofInt 32 nid) + ((iv % (2#32)) * (128#32))))] ++ [h0, h1, h2, h3, h4, h5]) ++ sd))) := by rw [bcells_append]; exact ho_110
    replace G_4 := Blk.own G_4 (ho_104) (by decide) hg_112
    replace G_11 := Blk.own G_11 (ho_104) (by decide) hg_112
    replace hB := hB.trans hb_111
    clear ho_104
    clear hg_112 hb_111
    go_wp2_with (first | (with_reducible refine stop_store ?_) | (with_reducible refine stop_box ?_) | (with_reducible refine stop_alloc ?_) | (with_reducible refine stop_bslice ?_) | (with_reducible refine stop_append ?_))
    replace hB := hB01.trans (hB.mono hB01.size)
    go_returns
    exact ⟨A_107, c_108, by rw [HZ.out, HZS.out]; rfl, by rw [← HLF.out]; exact Rd.of_own ho_110, by rw [HZ.out, HZS.out]; exact (own_cap ho_110).1, hB⟩
theorem r48_Encode (k : NK) (p : NP) (A : Option Addr) (c : Nat) (w : World) (hl : p.pay.length ≤ 1048576) (hp : RdB w A p.pay) :
    Calls Try.prog 33 #[.agg #[.int .u64 (W64 k.key), .int .i64 k.nid, .int .u64 (W64 k.enc), .int .u64 (W64 k.hide), .int .u64 (W64 k.bea)], .agg (npA p A c)] w (RetO w (encN k p)) := by
  obtain ⟨k1, k2, k3, k4, k5⟩ := k
  obtain ⟨iv, nid, ctl, ttl, seq, src, dst, pay⟩ := p
  obtain ⟨ck, hck⟩ : ∃ x, checkN ⟨iv, nid, ctl, ttl, seq, src, dst, pay⟩ = x := ⟨_, rfl⟩
  by_cases h0 : ck = 0
  · subst h0
    by_cases h1 : nid = k2
    · subst h1
      exact r48_Encode_o k1 k3 k4 k5 iv nid ctl ttl seq src dst A c pay w hl hp hck
    · exact r48_Encode_k k1 k2 k3 k4 k5 iv nid ctl ttl seq src dst A c pay w hl hck h1
  · exact r48_Encode_b k1 k2 k3 k4 k5 iv nid ctl ttl seq src dst A c pay ck w hl hck h0
end Go.Proofs.Ytbkaeoaepmeceaa
