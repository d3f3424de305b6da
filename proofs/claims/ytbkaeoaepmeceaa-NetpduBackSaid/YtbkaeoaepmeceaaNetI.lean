/- The law walk of NetpduBack (layer 48). -/
import Derived.Test.YtbkaeoaepmeceaaNetO
import Derived.Test.YtbkaeoaepmeceaaApp3
namespace Go.Proofs.Ytbkaeoaepmeceaa
set_option maxRecDepth 100000
open Go.ChangeShapes Go.WideShapes Go.ChangeAt Go.RowKit
set_option linter.unusedVariables false
set_option linter.unusedSimpArgs false

set_option maxHeartbeats 1000000 in
theorem nbk_g (k1 : BitVec 64) (k2 : Int) (k3 k4 k5 : BitVec 64) (iv : BitVec 32) (nid : Int) (ctl : Bool) (ttl : Int) (seq : BitVec 32) (src dst : BitVec 16) (A : Option Addr) (c : Nat) (pay : List (BitVec 8)) (at_ : Int) (x : BitVec 8) (w : World) (hl : 100 < pay.length) :
    Calls Try.prog 11 #[.agg #[.int .u64 (W64 k1), .int .i64 k2, .int .u64 (W64 k3), .int .u64 (W64 k4), .int .u64 (W64 k5)], .agg #[.int .u32 (W32 iv), .int .i64 nid, .bool ctl, .int .i64 ttl, .int .u32 (W32 seq), .int .u16 (W16 src), .int .u16 (W16 dst), .slice A pay.length c], .int .i64 at_, .int .u8 (W8 x)] w fun e w' => e = .returned (.bool true) ∧ Below w.heap.size w w' := by
  have i9 : decide ((100 : Int) < ((pay.length : Nat) : Int)) = true := by simp; omega
  clear hl
  go_enter Try.func11, Try.ntmps11
  go_wp2_with (first | (with_reducible refine stop_store ?_) | (with_reducible refine stop_box ?_) | (with_reducible refine stop_alloc ?_) | (with_reducible refine stop_bslice ?_))
  unfold Kept
  refine go_mem (ty := 25) (cs := #[.int .u64 (W64 k1), .int .i64 k2, .int .u64 (W64 k3), .int .u64 (W64 k4), .int .u64 (W64 k5)]) (fun g => .pointer (some ⟨g, 0, none⟩)) rfl (by kernel_rfl) ?_
  intro g_1 w_2 z_6 l_5 hb_3 G_4
  have n_7 : w.heap.size ≤ g_1 := l_5
  have hB := hb_3
  clear hb_3 l_5 z_6
  go_wp2_with (first | (with_reducible refine stop_store ?_) | (with_reducible refine stop_box ?_) | (with_reducible refine stop_alloc ?_) | (with_reducible refine stop_bslice ?_))
  unfold Kept
  refine go_mem (ty := 44) (cs := #[.int .u32 (W32 iv), .int .i64 nid, .bool ctl, .int .i64 ttl, .int .u32 (W32 seq), .int .u16 (W16 src), .int .u16 (W16 dst), .slice A pay.length c]) (fun g => .pointer (some ⟨g, 0, none⟩)) rfl (by kernel_rfl) ?_
  intro g_8 w_9 z_13 l_12 hb_10 G_11
  have n_14 : g_1 < g_8 := Nat.lt_of_lt_of_le G_4.lt l_12
  have n_15 : w.heap.size ≤ g_8 := Nat.le_trans hB.size l_12
  replace G_4 := G_4.to hb_10 G_4.lt
  replace hB := hB.trans (hb_10.mono hB.size)
  clear hb_10 l_12 z_13
  have ld_16 : w_9.cell? ⟨g_8, 7, none⟩ = some (.slice A pay.length c) := G_11.cell 7
  go_wp2_with (first | (with_reducible refine stop_store ?_) | (with_reducible refine stop_box ?_) | (with_reducible refine stop_alloc ?_) | (with_reducible refine stop_bslice ?_))
  refine (lives48 _).mono ?_; rintro e w_17 ⟨rfl, hb_18⟩
  clear ld_16
  replace G_4 := G_4.to hb_18 G_4.lt
  replace G_11 := G_11.to hb_18 G_11.lt
  replace hB := hB.trans (hb_18.mono hB.size)
  clear hb_18
  go_wp2_with (first | (with_reducible refine stop_store ?_) | (with_reducible refine stop_box ?_) | (with_reducible refine stop_alloc ?_) | (with_reducible refine stop_bslice ?_))
  go_returns
  exact ⟨rfl, hB⟩
set_option maxHeartbeats 8000000 in
theorem nbk_k (k1 : BitVec 64) (k2 : Int) (k3 k4 k5 : BitVec 64) (iv : BitVec 32) (nid : Int) (ctl : Bool) (ttl : Int) (seq : BitVec 32) (src dst : BitVec 16) (A : Option Addr) (c : Nat) (pay : List (BitVec 8)) (at_ : Int) (x : BitVec 8) (w : World) (hr : RdB w A pay) (hc : pay.length ≤ c) (hl : pay.length ≤ 100) (henc : encN ⟨k1, k2, k3, k4, k5⟩ ⟨iv, nid, ctl, ttl, seq, src, dst, pay⟩ = ([], 17)) :
    Calls Try.prog 11 #[.agg #[.int .u64 (W64 k1), .int .i64 k2, .int .u64 (W64 k3), .int .u64 (W64 k4), .int .u64 (W64 k5)], .agg #[.int .u32 (W32 iv), .int .i64 nid, .bool ctl, .int .i64 ttl, .int .u32 (W32 seq), .int .u16 (W16 src), .int .u16 (W16 dst), .slice A pay.length c], .int .i64 at_, .int .u8 (W8 x)] w fun e w' => e = .returned (.bool true) ∧ Below w.heap.size w w' := by
  have C0 := Lib.hid (fun W A' c' (h : RdB W A' pay) => show Calls Try.prog 32 #[.agg #[.int .u64 (W64 k1), .int .i64 k2, .int .u64 (W64 k3), .int .u64 (W64 k4), .int .u64 (W64 k5)], .agg #[.int .u32 (W32 iv), .int .i64 nid, .bool ctl, .int .i64 ttl, .int .u32 (W32 seq), .int .u16 (W16 src), .int .u16 (W16 dst), .slice A' pay.length c']] W fun e w' => ∃ A1 c1, e = .returned (.tuple #[.slice A1 0 c1, .int .i64 17]) ∧ RdB w' A1 [] ∧ 0 ≤ c1 ∧ Below W.heap.size W w' from by
    have := net_EncodeA ⟨k1, k2, k3, k4, k5⟩ ⟨iv, nid, ctl, ttl, seq, src, dst, pay⟩ A' c' W h
    rw [henc] at this
    exact this)
  have i9 : decide ((100 : Int) < ((pay.length : Nat) : Int)) = false := by simp; omega
  clear henc hl
  go_enter Try.func11, Try.ntmps11
  have hB := Below.refl w.heap.size w
  go_wp2_with (first | (with_reducible refine stop_store ?_) | (with_reducible refine stop_box ?_) | (with_reducible refine stop_alloc ?_) | (with_reducible refine stop_bslice ?_))
  unfold Kept
  refine go_mem (ty := 25) (cs := #[.int .u64 (W64 k1), .int .i64 k2, .int .u64 (W64 k3), .int .u64 (W64 k4), .int .u64 (W64 k5)]) (fun g => .pointer (some ⟨g, 0, none⟩)) rfl (by kernel_rfl) ?_
  intro g_1 w_2 z_6 l_5 hb_3 G_4
  have n_7 : w.heap.size ≤ g_1 := Nat.le_trans hB.size l_5
  replace hB := hB.trans (hb_3.mono hB.size)
  clear hb_3 l_5 z_6
  go_wp2_with (first | (with_reducible refine stop_store ?_) | (with_reducible refine stop_box ?_) | (with_reducible refine stop_alloc ?_) | (with_reducible refine stop_bslice ?_))
  unfold Kept
  refine go_mem (ty := 44) (cs := #[.int .u32 (W32 iv), .int .i64 nid, .bool ctl, .int .i64 ttl, .int .u32 (W32 seq), .int .u16 (W16 src), .int .u16 (W16 dst), .slice A pay.length c]) (fun g => .pointer (some ⟨g, 0, none⟩)) rfl (by kernel_rfl) ?_
  intro g_8 w_9 z_13 l_12 hb_10 G_11
  have n_14 : g_1 < g_8 := Nat.lt_of_lt_of_le G_4.lt l_12
  have n_15 : w.heap.size ≤ g_8 := Nat.le_trans hB.size l_12
  replace G_4 := G_4.to hb_10 G_4.lt
  replace hB := hB.trans (hb_10.mono hB.size)
  clear hb_10 l_12 z_13
  have ld_16 : w_9.cell? ⟨g_8, 7, none⟩ = some (.slice A pay.length c) := G_11.cell 7
  go_wp2_with (first | (with_reducible refine stop_store ?_) | (with_reducible refine stop_box ?_) | (with_reducible refine stop_alloc ?_) | (with_reducible refine stop_bslice ?_) | ((with_reducible refine wpList_ld 0 [.int .u64 (W64 k1), .int .i64 k2, .int .u64 (W64 k3), .int .u64 (W64 k4), .int .u64 (W64 k5)] G_4 ?_ ?_ Try.underlying25 ?_ ?_ ?_); rfl; rfl; rfl; kernel_rfl) | ((with_reducible refine wpList_ld 0 [.int .u32 (W32 iv), .int .i64 nid, .bool ctl, .int .i64 ttl, .int .u32 (W32 seq), .int .u16 (W16 src), .int .u16 (W16 dst), .slice A pay.length c] G_11 ?_ ?_ Try.underlying44 ?_ ?_ ?_); rfl; rfl; rfl; kernel_rfl) | ((with_reducible refine wpList_ldg 0 [.int .u32 (W32 iv), .int .i64 nid, .bool ctl, .int .i64 ttl, .int .u32 (W32 seq), .int .u16 (W16 src), .int .u16 (W16 dst), .slice A pay.length c] G_11 ?_ ?_ Try.underlying44 ?_ ?_ ?_ ?_); rfl; rfl; rfl; kernel_rfl; rfl))
  refine (C0.out _ A c (Rd.to hr hB)).mono ?_; rintro e w_19 ⟨A3_2, c3_2, rfl, R3_2, l3_2, hb_20⟩
  clear ld_16
  replace G_4 := G_4.to hb_20 G_4.lt
  replace G_11 := G_11.to hb_20 G_11.lt
  replace hB := hB.trans (hb_20.mono hB.size)
  clear hb_20
  go_wp2_with (first | (with_reducible refine stop_store ?_) | (with_reducible refine stop_box ?_) | (with_reducible refine stop_alloc ?_) | (with_reducible refine stop_bslice ?_))
  refine (lives48 _).mono ?_; rintro e w_21 ⟨rfl, hb_22⟩
  replace G_4 := G_4.to hb_22 G_4.lt
  replace G_11 := G_11.to hb_22 G_11.lt
  replace R3_2 := Rd.to R3_2 hb_22
  replace hB := hB.trans (hb_22.mono hB.size)
  clear hb_22
  go_wp2_with (first | (with_reducible refine stop_store ?_) | (with_reducible refine stop_box ?_) | (with_reducible refine stop_alloc ?_) | (with_reducible refine stop_bslice ?_))
  go_returns
  exact ⟨rfl, hB⟩
set_option maxHeartbeats 8000000 in
theorem nbk_c (k1 : BitVec 64) (k2 : Int) (k3 k4 k5 : BitVec 64) (iv : BitVec 32) (nid : Int) (ctl : Bool) (ttl : Int) (seq : BitVec 32) (src dst : BitVec 16) (A : Option Addr) (c : Nat) (pay : List (BitVec 8)) (at_ : Int) (x : BitVec 8) (ck : Int) (w : World) (hr : RdB w A pay) (hc : pay.length ≤ c) (hl : pay.length ≤ 100) (henc : encN ⟨k1, k2, k3, k4, k5⟩ ⟨iv, nid, ctl, ttl, seq, src, dst, pay⟩ = ([], ck)) (hck : checkN ⟨iv, nid, ctl, ttl, seq, src, dst, pay⟩ = ck) (h0 : ck ≠ 0) :
    Calls Try.prog 11 #[.agg #[.int .u64 (W64 k1), .int .i64 k2, .int .u64 (W64 k3), .int .u64 (W64 k4), .int .u64 (W64 k5)], .agg #[.int .u32 (W32 iv), .int .i64 nid, .bool ctl, .int .i64 ttl, .int .u32 (W32 seq), .int .u16 (W16 src), .int .u16 (W16 dst), .slice A pay.length c], .int .i64 at_, .int .u8 (W8 x)] w fun e w' => e = .returned (.bool true) ∧ Below w.heap.size w w' := by
  have C0 := Lib.hid (fun W A' c' (h : RdB W A' pay) => show Calls Try.prog 32 #[.agg #[.int .u64 (W64 k1), .int .i64 k2, .int .u64 (W64 k3), .int .u64 (W64 k4), .int .u64 (W64 k5)], .agg #[.int .u32 (W32 iv), .int .i64 nid, .bool ctl, .int .i64 ttl, .int .u32 (W32 seq), .int .u16 (W16 src), .int .u16 (W16 dst), .slice A' pay.length c']] W fun e w' => ∃ A1 c1, e = .returned (.tuple #[.slice A1 0 c1, .int .i64 ck]) ∧ RdB w' A1 [] ∧ 0 ≤ c1 ∧ Below W.heap.size W w' from by
    have := net_EncodeA ⟨k1, k2, k3, k4, k5⟩ ⟨iv, nid, ctl, ttl, seq, src, dst, pay⟩ A' c' W h
    rw [henc] at this
    exact this)
  have i9 : decide ((100 : Int) < ((pay.length : Nat) : Int)) = false := by simp; omega
  have CK := Lib.hid (fun W => show Calls Try.prog 26 #[.agg #[.int .u32 (W32 iv), .int .i64 nid, .bool ctl, .int .i64 ttl, .int .u32 (W32 seq), .int .u16 (W16 src), .int .u16 (W16 dst), .slice A pay.length c]] W fun e w' => e = .returned (.int .i64 ck) ∧ Below W.heap.size W w' from by have := net_Check ⟨iv, nid, ctl, ttl, seq, src, dst, pay⟩ A c W (by dsimp only; omega); rw [hck] at this; exact this)
  have e9 : ((ck : Int) != 0) = true := by simpa using h0
  have e8 : ((ck : Int) == 0) = false := by simpa using h0
  clear hck h0
  clear henc hl
  go_enter Try.func11, Try.ntmps11
  have hB := Below.refl w.heap.size w
  go_wp2_with (first | (with_reducible refine stop_store ?_) | (with_reducible refine stop_box ?_) | (with_reducible refine stop_alloc ?_) | (with_reducible refine stop_bslice ?_))
  unfold Kept
  refine go_mem (ty := 25) (cs := #[.int .u64 (W64 k1), .int .i64 k2, .int .u64 (W64 k3), .int .u64 (W64 k4), .int .u64 (W64 k5)]) (fun g => .pointer (some ⟨g, 0, none⟩)) rfl (by kernel_rfl) ?_
  intro g_1 w_2 z_6 l_5 hb_3 G_4
  have n_7 : w.heap.size ≤ g_1 := Nat.le_trans hB.size l_5
  replace hB := hB.trans (hb_3.mono hB.size)
  clear hb_3 l_5 z_6
  go_wp2_with (first | (with_reducible refine stop_store ?_) | (with_reducible refine stop_box ?_) | (with_reducible refine stop_alloc ?_) | (with_reducible refine stop_bslice ?_))
  unfold Kept
  refine go_mem (ty := 44) (cs := #[.int .u32 (W32 iv), .int .i64 nid, .bool ctl, .int .i64 ttl, .int .u32 (W32 seq), .int .u16 (W16 src), .int .u16 (W16 dst), .slice A pay.length c]) (fun g => .pointer (some ⟨g, 0, none⟩)) rfl (by kernel_rfl) ?_
  intro g_8 w_9 z_13 l_12 hb_10 G_11
  have n_14 : g_1 < g_8 := Nat.lt_of_lt_of_le G_4.lt l_12
  have n_15 : w.heap.size ≤ g_8 := Nat.le_trans hB.size l_12
  replace G_4 := G_4.to hb_10 G_4.lt
  replace hB := hB.trans (hb_10.mono hB.size)
  clear hb_10 l_12 z_13
  have ld_16 : w_9.cell? ⟨g_8, 7, none⟩ = some (.slice A pay.length c) := G_11.cell 7
  go_wp2_with (first | (with_reducible refine stop_store ?_) | (with_reducible refine stop_box ?_) | (with_reducible refine stop_alloc ?_) | (with_reducible refine stop_bslice ?_) | ((with_reducible refine wpList_ld 0 [.int .u64 (W64 k1), .int .i64 k2, .int .u64 (W64 k3), .int .u64 (W64 k4), .int .u64 (W64 k5)] G_4 ?_ ?_ Try.underlying25 ?_ ?_ ?_); rfl; rfl; rfl; kernel_rfl) | ((with_reducible refine wpList_ld 0 [.int .u32 (W32 iv), .int .i64 nid, .bool ctl, .int .i64 ttl, .int .u32 (W32 seq), .int .u16 (W16 src), .int .u16 (W16 dst), .slice A pay.length c] G_11 ?_ ?_ Try.underlying44 ?_ ?_ ?_); rfl; rfl; rfl; kernel_rfl) | ((with_reducible refine wpList_ldg 0 [.int .u32 (W32 iv), .int .i64 nid, .bool ctl, .int .i64 ttl, .int .u32 (W32 seq), .int .u16 (W16 src), .int .u16 (W16 dst), .slice A pay.length c] G_11 ?_ ?_ Try.underlying44 ?_ ?_ ?_ ?_); rfl; rfl; rfl; kernel_rfl; rfl))
  refine (C0.out _ A c (Rd.to hr hB)).mono ?_; rintro e w_19 ⟨A3_2, c3_2, rfl, R3_2, l3_2, hb_20⟩
  clear ld_16
  replace G_4 := G_4.to hb_20 G_4.lt
  replace G_11 := G_11.to hb_20 G_11.lt
  replace hB := hB.trans (hb_20.mono hB.size)
  clear hb_20
  go_wp2_with (first | (with_reducible refine stop_store ?_) | (with_reducible refine stop_box ?_) | (with_reducible refine stop_alloc ?_) | (with_reducible refine stop_bslice ?_))
  refine (lives48 _).mono ?_; rintro e w_21 ⟨rfl, hb_22⟩
  replace G_4 := G_4.to hb_22 G_4.lt
  replace G_11 := G_11.to hb_22 G_11.lt
  replace R3_2 := Rd.to R3_2 hb_22
  replace hB := hB.trans (hb_22.mono hB.size)
  clear hb_22
  by_cases hc_23 : (ck : Int) = 17
  ·
    subst hc_23
    go_wp2_with (first | (with_reducible refine stop_store ?_) | (with_reducible refine stop_box ?_) | (with_reducible refine stop_alloc ?_) | (with_reducible refine stop_bslice ?_))
    go_returns
    exact ⟨rfl, hB⟩
  ·
    have ec_23 : ((ck : Int) == 17) = false := by simpa using hc_23
    have ec_23n : ((ck : Int) != 17) = true := by simpa using hc_23
    have kc_23 := Lib.hid hc_23
    clear hc_23
    go_wp2_with (first | (with_reducible refine stop_store ?_) | (with_reducible refine stop_box ?_) | (with_reducible refine stop_alloc ?_) | (with_reducible refine stop_bslice ?_) | ((with_reducible refine wpList_ld 0 [.int .u32 (W32 iv), .int .i64 nid, .bool ctl, .int .i64 ttl, .int .u32 (W32 seq), .int .u16 (W16 src), .int .u16 (W16 dst), .slice A pay.length c] G_11 ?_ ?_ Try.underlying44 ?_ ?_ ?_); rfl; rfl; rfl; kernel_rfl) | ((with_reducible refine wpList_ldg 0 [.int .u32 (W32 iv), .int .i64 nid, .bool ctl, .int .i64 ttl, .int .u32 (W32 seq), .int .u16 (W16 src), .int .u16 (W16 dst), .slice A pay.length c] G_11 ?_ ?_ Try.underlying44 ?_ ?_ ?_ ?_); rfl; rfl; rfl; kernel_rfl; rfl))
    refine (CK.out _).mono ?_; rintro e w_25 ⟨rfl, hb_26⟩
    replace G_4 := G_4.to hb_26 G_4.lt
    replace G_11 := G_11.to hb_26 G_11.lt
    replace R3_2 := Rd.to R3_2 hb_26
    replace hB := hB.trans (hb_26.mono hB.size)
    clear hb_26
    go_wp2_with (first | (with_reducible refine stop_store ?_) | (with_reducible refine stop_box ?_) | (with_reducible refine stop_alloc ?_) | (with_reducible refine stop_bslice ?_))
    go_returns
    exact ⟨rfl, hB⟩
set_option maxHeartbeats 8000000 in
theorem nbk_l1 (k1 : BitVec 64) (k2 : Int) (k3 k4 k5 : BitVec 64) (iv : BitVec 32) (nid : Int) (ctl : Bool) (ttl : Int) (seq : BitVec 32) (src dst : BitVec 16) (A : Option Addr) (c : Nat) (pay : List (BitVec 8)) (at_ : Int) (x : BitVec 8) (w : World) (hr : RdB w A pay) (hc : pay.length ≤ c) (hl : pay.length ≤ 100) (L : List (BitVec 8)) (henc : encN ⟨k1, k2, k3, k4, k5⟩ ⟨iv, nid, ctl, ttl, seq, src, dst, pay⟩ = (L, 0)) (hll : L.length = 13 + pay.length) (hd0 : decN ⟨k1, k2, k3, k4, k5⟩ iv L = (⟨iv, nid, ctl, ttl, seq, src, dst, pay⟩, 0)) (h0 : at_ < 0) :
    Calls Try.prog 11 #[.agg #[.int .u64 (W64 k1), .int .i64 k2, .int .u64 (W64 k3), .int .u64 (W64 k4), .int .u64 (W64 k5)], .agg #[.int .u32 (W32 iv), .int .i64 nid, .bool ctl, .int .i64 ttl, .int .u32 (W32 seq), .int .u16 (W16 src), .int .u16 (W16 dst), .slice A pay.length c], .int .i64 at_, .int .u8 (W8 x)] w fun e w' => e = .returned (.bool true) ∧ Below w.heap.size w w' := by
  have hlen : L.length = 13 + pay.length := hll
  have C0 := Lib.hid (fun W A' c' (h : RdB W A' pay) => show Calls Try.prog 32 #[.agg #[.int .u64 (W64 k1), .int .i64 k2, .int .u64 (W64 k3), .int .u64 (W64 k4), .int .u64 (W64 k5)], .agg #[.int .u32 (W32 iv), .int .i64 nid, .bool ctl, .int .i64 ttl, .int .u32 (W32 seq), .int .u16 (W16 src), .int .u16 (W16 dst), .slice A' pay.length c']] W fun e w' => ∃ A1 c1, e = .returned (.tuple #[.slice A1 (13 + pay.length) c1, .int .i64 0]) ∧ RdB w' A1 L ∧ (13 + pay.length) ≤ c1 ∧ Below W.heap.size W w' from by
    have := net_EncodeA ⟨k1, k2, k3, k4, k5⟩ ⟨iv, nid, ctl, ttl, seq, src, dst, pay⟩ A' c' W h
    rw [henc] at this
    unfold RetO at this
    dsimp only at this
    rw [hlen] at this
    exact this)
  have D0 := Lib.hid (fun W B d (h : RdB W B L) (hd : (13 + pay.length) ≤ d) => show Calls Try.prog 34 #[.agg #[.int .u64 (W64 k1), .int .i64 k2, .int .u64 (W64 k3), .int .u64 (W64 k4), .int .u64 (W64 k5)], .int .u32 (W32 iv), .slice B (13 + pay.length) d] W fun e w' => ∃ A1 c1, e = .returned (.tuple #[.agg #[.int .u32 (W32 iv), .int .i64 nid, .bool ctl, .int .i64 ttl, .int .u32 (W32 seq), .int .u16 (W16 src), .int .u16 (W16 dst), .slice A1 pay.length c1], .int .i64 0]) ∧ RdB w' A1 pay ∧ pay.length ≤ c1 ∧ Below W.heap.size W w' from by
    have := net_Decode ⟨k1, k2, k3, k4, k5⟩ iv B d L W h (by rw [hlen]; exact hd)
    rw [hd0, hlen] at this
    exact this)
  have M0 := Lib.hid (fun W A1 c1 A2 c2 (h1 : RdB W A1 pay) (h2 : RdB W A2 pay) => show Calls Try.prog 38 #[.agg #[.int .u32 (W32 iv), .int .i64 nid, .bool ctl, .int .i64 ttl, .int .u32 (W32 seq), .int .u16 (W16 src), .int .u16 (W16 dst), .slice A1 pay.length c1], .agg #[.int .u32 (W32 iv), .int .i64 nid, .bool ctl, .int .i64 ttl, .int .u32 (W32 seq), .int .u16 (W16 src), .int .u16 (W16 dst), .slice A2 pay.length c2]] W fun e w' => e = .returned (.bool true) ∧ Below W.heap.size W w' from by
    have := r48_Same ⟨iv, nid, ctl, ttl, seq, src, dst, pay⟩ ⟨iv, nid, ctl, ttl, seq, src, dst, pay⟩ A1 c1 A2 c2 W h1 h2
    rw [decide_eq_true rfl] at this
    exact this)
  have i9 : decide ((100 : Int) < ((pay.length : Nat) : Int)) = false := by simp; omega
  have e1 : decide (at_ < 0) = true := by simpa using h0
  have b1 : pay.length ≤ 100 := hl
  have HLN := Lib.hid hlen
  clear hlen hll henc hd0
  go_enter Try.func11, Try.ntmps11
  have hB := Below.refl w.heap.size w
  go_wp2_with (first | (with_reducible refine stop_store ?_) | (with_reducible refine stop_box ?_) | (with_reducible refine stop_alloc ?_) | (with_reducible refine stop_bslice ?_))
  unfold Kept
  refine go_mem (ty := 25) (cs := #[.int .u64 (W64 k1), .int .i64 k2, .int .u64 (W64 k3), .int .u64 (W64 k4), .int .u64 (W64 k5)]) (fun g => .pointer (some ⟨g, 0, none⟩)) rfl (by kernel_rfl) ?_
  intro g_1 w_2 z_6 l_5 hb_3 G_4
  have n_7 : w.heap.size ≤ g_1 := Nat.le_trans hB.size l_5
  replace hB := hB.trans (hb_3.mono hB.size)
  clear hb_3 l_5 z_6
  go_wp2_with (first | (with_reducible refine stop_store ?_) | (with_reducible refine stop_box ?_) | (with_reducible refine stop_alloc ?_) | (with_reducible refine stop_bslice ?_))
  unfold Kept
  refine go_mem (ty := 44) (cs := #[.int .u32 (W32 iv), .int .i64 nid, .bool ctl, .int .i64 ttl, .int .u32 (W32 seq), .int .u16 (W16 src), .int .u16 (W16 dst), .slice A pay.length c]) (fun g => .pointer (some ⟨g, 0, none⟩)) rfl (by kernel_rfl) ?_
  intro g_8 w_9 z_13 l_12 hb_10 G_11
  have n_14 : g_1 < g_8 := Nat.lt_of_lt_of_le G_4.lt l_12
  have n_15 : w.heap.size ≤ g_8 := Nat.le_trans hB.size l_12
  replace G_4 := G_4.to hb_10 G_4.lt
  replace hB := hB.trans (hb_10.mono hB.size)
  clear hb_10 l_12 z_13
  have ld_16 : w_9.cell? ⟨g_8, 7, none⟩ = some (.slice A pay.length c) := G_11.cell 7
  go_wp2_with (first | (with_reducible refine stop_store ?_) | (with_reducible refine stop_box ?_) | (with_reducible refine stop_alloc ?_) | (with_reducible refine stop_bslice ?_) | ((with_reducible refine wpList_ld 0 [.int .u64 (W64 k1), .int .i64 k2, .int .u64 (W64 k3), .int .u64 (W64 k4), .int .u64 (W64 k5)] G_4 ?_ ?_ Try.underlying25 ?_ ?_ ?_); rfl; rfl; rfl; kernel_rfl) | ((with_reducible refine wpList_ld 0 [.int .u32 (W32 iv), .int .i64 nid, .bool ctl, .int .i64 ttl, .int .u32 (W32 seq), .int .u16 (W16 src), .int .u16 (W16 dst), .slice A pay.length c] G_11 ?_ ?_ Try.underlying44 ?_ ?_ ?_); rfl; rfl; rfl; kernel_rfl) | ((with_reducible refine wpList_ldg 0 [.int .u32 (W32 iv), .int .i64 nid, .bool ctl, .int .i64 ttl, .int .u32 (W32 seq), .int .u16 (W16 src), .int .u16 (W16 dst), .slice A pay.length c] G_11 ?_ ?_ Try.underlying44 ?_ ?_ ?_ ?_); rfl; rfl; rfl; kernel_rfl; rfl))
  refine (C0.out _ A c (Rd.to hr hB)).mono ?_; rintro e w_19 ⟨A3_2, c3_2, rfl, R3_2, l3_2, hb_20⟩
  clear ld_16
  replace G_4 := G_4.to hb_20 G_4.lt
  replace G_11 := G_11.to hb_20 G_11.lt
  replace hB := hB.trans (hb_20.mono hB.size)
  clear hb_20
  have ld_22 : w_19.cell? ⟨g_8, 0, none⟩ = some (.int .u32 (W32 iv)) := G_11.cell 0
  go_wp2_with (first | (with_reducible refine stop_store ?_) | (with_reducible refine stop_box ?_) | (with_reducible refine stop_alloc ?_) | (with_reducible refine stop_bslice ?_) | ((with_reducible refine wpList_ld 0 [.int .u64 (W64 k1), .int .i64 k2, .int .u64 (W64 k3), .int .u64 (W64 k4), .int .u64 (W64 k5)] G_4 ?_ ?_ Try.underlying25 ?_ ?_ ?_); rfl; rfl; rfl; kernel_rfl))
  refine (D0.out _ A3_2 c3_2 (R3_2) l3_2).mono ?_; rintro e w_23 ⟨A6_4, c6_4, rfl, R6_4, l6_4, hb_24⟩
  clear ld_22
  replace G_4 := G_4.to hb_24 G_4.lt
  replace G_11 := G_11.to hb_24 G_11.lt
  replace R3_2 := Rd.to R3_2 hb_24
  replace hB := hB.trans (hb_24.mono hB.size)
  clear hb_24
  go_wp2_with (first | (with_reducible refine stop_store ?_) | (with_reducible refine stop_box ?_) | (with_reducible refine stop_alloc ?_) | (with_reducible refine stop_bslice ?_))
  unfold Kept
  refine go_mem (ty := 44) (cs := #[.int .u32 0, .int .i64 0, .bool false, .int .i64 0, .int .u32 0, .int .u16 0, .int .u16 0, .slice none 0 0]) (fun g => .pointer (some ⟨g, 0, none⟩)) rfl (by kernel_rfl) ?_
  intro g_25 w_26 z_30 l_29 hb_27 G_28
  have n_31 : g_8 < g_25 := Nat.lt_of_lt_of_le G_11.lt l_29
  have n_32 : w.heap.size ≤ g_25 := Nat.le_trans hB.size l_29
  replace G_4 := G_4.to hb_27 G_4.lt
  replace G_11 := G_11.to hb_27 G_11.lt
  replace R3_2 := Rd.to R3_2 hb_27
  replace R6_4 := Rd.to R6_4 hb_27
  replace hB := hB.trans (hb_27.mono hB.size)
  clear hb_27 l_29 z_30
  go_wp2_with (first | (with_reducible refine stop_store ?_) | (with_reducible refine stop_box ?_) | (with_reducible refine stop_alloc ?_) | (with_reducible refine stop_bslice ?_))
  unfold Kept
  refine wpList_st 0 #[.int .u32 (W32 iv), .int .i64 nid, .bool ctl, .int .i64 ttl, .int .u32 (W32 seq), .int .u16 (W16 src), .int .u16 (W16 dst), .slice A6_4 pay.length c6_4] #[.int .u32 (W32 iv), .int .i64 nid, .bool ctl, .int .i64 ttl, .int .u32 (W32 seq), .int .u16 (W16 src), .int .u16 (W16 dst), .slice A6_4 pay.length c6_4] G_28 rfl rfl (by kernel_rfl) rfl (of_decide_eq_true rfl) rfl ?_
  intro w_33 G_35 hU_34
  replace G_4 := hU_34.blk G_4 (by omega)
  replace G_11 := hU_34.blk G_11 (by omega)
  replace R3_2 := RdB.upd R3_2 G_28 hU_34 (by rfl)
  replace R6_4 := RdB.upd R6_4 G_28 hU_34 (by rfl)
  replace hB := hU_34.below hB (by omega)
  clear G_28 hU_34
  go_wp2_with (first | (with_reducible refine stop_store ?_) | (with_reducible refine stop_box ?_) | (with_reducible refine stop_alloc ?_) | (with_reducible refine stop_bslice ?_) | ((with_reducible refine wpList_ld 0 [.int .u32 (W32 iv), .int .i64 nid, .bool ctl, .int .i64 ttl, .int .u32 (W32 seq), .int .u16 (W16 src), .int .u16 (W16 dst), .slice A pay.length c] G_11 ?_ ?_ Try.underlying44 ?_ ?_ ?_); rfl; rfl; rfl; kernel_rfl) | ((with_reducible refine wpList_ldg 0 [.int .u32 (W32 iv), .int .i64 nid, .bool ctl, .int .i64 ttl, .int .u32 (W32 seq), .int .u16 (W16 src), .int .u16 (W16 dst), .slice A pay.length c] G_11 ?_ ?_ Try.underlying44 ?_ ?_ ?_ ?_); rfl; rfl; rfl; kernel_rfl; rfl) | ((with_reducible refine wpList_ld 0 [.int .u32 (W32 iv), .int .i64 nid, .bool ctl, .int .i64 ttl, .int .u32 (W32 seq), .int .u16 (W16 src), .int .u16 (W16 dst), .slice A6_4 pay.length c6_4] G_35 ?_ ?_ Try.underlying44 ?_ ?_ ?_); rfl; rfl; rfl; kernel_rfl) | ((with_reducible refine wpList_ldg 0 [.int .u32 (W32 iv), .int .i64 nid, .bool ctl, .int .i64 ttl, .int .u32 (W32 seq), .int .u16 (W16 src), .int .u16 (W16 dst), .slice A6_4 pay.length c6_4] G_35 ?_ ?_ Try.underlying44 ?_ ?_ ?_ ?_); rfl; rfl; rfl; kernel_rfl; rfl))
  refine (M0.out _ _ _ _ _ (Rd.to hr hB) (R6_4)).mono ?_; rintro e w_38 ⟨rfl, hb_39⟩
  replace G_4 := G_4.to hb_39 G_4.lt
  replace G_11 := G_11.to hb_39 G_11.lt
  replace G_35 := G_35.to hb_39 G_35.lt
  replace R3_2 := Rd.to R3_2 hb_39
  replace R6_4 := Rd.to R6_4 hb_39
  replace hB := hB.trans (hb_39.mono hB.size)
  clear hb_39
  have ld_40 : w_38.cell? ⟨g_8, 7, none⟩ = some (.slice A pay.length c) := G_11.cell 7
  go_wp2_with (first | (with_reducible refine stop_store ?_) | (with_reducible refine stop_box ?_) | (with_reducible refine stop_alloc ?_) | (with_reducible refine stop_bslice ?_))
  refine (lives48 _).mono ?_; rintro e w_41 ⟨rfl, hb_42⟩
  clear ld_40
  replace G_4 := G_4.to hb_42 G_4.lt
  replace G_11 := G_11.to hb_42 G_11.lt
  replace G_35 := G_35.to hb_42 G_35.lt
  replace R3_2 := Rd.to R3_2 hb_42
  replace R6_4 := Rd.to R6_4 hb_42
  replace hB := hB.trans (hb_42.mono hB.size)
  clear hb_42
  go_wp2_with (first | (with_reducible refine stop_store ?_) | (with_reducible refine stop_box ?_) | (with_reducible refine stop_alloc ?_) | (with_reducible refine stop_bslice ?_))
  go_returns
  exact ⟨rfl, hB⟩
set_option maxHeartbeats 8000000 in
theorem nbk_l2 (k1 : BitVec 64) (k2 : Int) (k3 k4 k5 : BitVec 64) (iv : BitVec 32) (nid : Int) (ctl : Bool) (ttl : Int) (seq : BitVec 32) (src dst : BitVec 16) (A : Option Addr) (c : Nat) (pay : List (BitVec 8)) (at_ : Int) (x : BitVec 8) (w : World) (hr : RdB w A pay) (hc : pay.length ≤ c) (hl : pay.length ≤ 100) (L : List (BitVec 8)) (henc : encN ⟨k1, k2, k3, k4, k5⟩ ⟨iv, nid, ctl, ttl, seq, src, dst, pay⟩ = (L, 0)) (hll : L.length = 13 + pay.length) (hd0 : decN ⟨k1, k2, k3, k4, k5⟩ iv L = (⟨iv, nid, ctl, ttl, seq, src, dst, pay⟩, 0)) (h0 : 0 ≤ at_) (h1 : (13 : Int) + (pay.length : Int) ≤ at_) :
    Calls Try.prog 11 #[.agg #[.int .u64 (W64 k1), .int .i64 k2, .int .u64 (W64 k3), .int .u64 (W64 k4), .int .u64 (W64 k5)], .agg #[.int .u32 (W32 iv), .int .i64 nid, .bool ctl, .int .i64 ttl, .int .u32 (W32 seq), .int .u16 (W16 src), .int .u16 (W16 dst), .slice A pay.length c], .int .i64 at_, .int .u8 (W8 x)] w fun e w' => e = .returned (.bool true) ∧ Below w.heap.size w w' := by
  have hlen : L.length = 13 + pay.length := hll
  have C0 := Lib.hid (fun W A' c' (h : RdB W A' pay) => show Calls Try.prog 32 #[.agg #[.int .u64 (W64 k1), .int .i64 k2, .int .u64 (W64 k3), .int .u64 (W64 k4), .int .u64 (W64 k5)], .agg #[.int .u32 (W32 iv), .int .i64 nid, .bool ctl, .int .i64 ttl, .int .u32 (W32 seq), .int .u16 (W16 src), .int .u16 (W16 dst), .slice A' pay.length c']] W fun e w' => ∃ A1 c1, e = .returned (.tuple #[.slice A1 (13 + pay.length) c1, .int .i64 0]) ∧ RdB w' A1 L ∧ (13 + pay.length) ≤ c1 ∧ Below W.heap.size W w' from by
    have := net_EncodeA ⟨k1, k2, k3, k4, k5⟩ ⟨iv, nid, ctl, ttl, seq, src, dst, pay⟩ A' c' W h
    rw [henc] at this
    unfold RetO at this
    dsimp only at this
    rw [hlen] at this
    exact this)
  have D0 := Lib.hid (fun W B d (h : RdB W B L) (hd : (13 + pay.length) ≤ d) => show Calls Try.prog 34 #[.agg #[.int .u64 (W64 k1), .int .i64 k2, .int .u64 (W64 k3), .int .u64 (W64 k4), .int .u64 (W64 k5)], .int .u32 (W32 iv), .slice B (13 + pay.length) d] W fun e w' => ∃ A1 c1, e = .returned (.tuple #[.agg #[.int .u32 (W32 iv), .int .i64 nid, .bool ctl, .int .i64 ttl, .int .u32 (W32 seq), .int .u16 (W16 src), .int .u16 (W16 dst), .slice A1 pay.length c1], .int .i64 0]) ∧ RdB w' A1 pay ∧ pay.length ≤ c1 ∧ Below W.heap.size W w' from by
    have := net_Decode ⟨k1, k2, k3, k4, k5⟩ iv B d L W h (by rw [hlen]; exact hd)
    rw [hd0, hlen] at this
    exact this)
  have M0 := Lib.hid (fun W A1 c1 A2 c2 (h1 : RdB W A1 pay) (h2 : RdB W A2 pay) => show Calls Try.prog 38 #[.agg #[.int .u32 (W32 iv), .int .i64 nid, .bool ctl, .int .i64 ttl, .int .u32 (W32 seq), .int .u16 (W16 src), .int .u16 (W16 dst), .slice A1 pay.length c1], .agg #[.int .u32 (W32 iv), .int .i64 nid, .bool ctl, .int .i64 ttl, .int .u32 (W32 seq), .int .u16 (W16 src), .int .u16 (W16 dst), .slice A2 pay.length c2]] W fun e w' => e = .returned (.bool true) ∧ Below W.heap.size W w' from by
    have := r48_Same ⟨iv, nid, ctl, ttl, seq, src, dst, pay⟩ ⟨iv, nid, ctl, ttl, seq, src, dst, pay⟩ A1 c1 A2 c2 W h1 h2
    rw [decide_eq_true rfl] at this
    exact this)
  have i9 : decide ((100 : Int) < ((pay.length : Nat) : Int)) = false := by simp; omega
  have e1 : decide (at_ < 0) = false := by simpa using h0
  have e2 : decide ((13 : Int) + (pay.length : Int) ≤ at_) = true := decide_eq_true h1
  have b1 : pay.length ≤ 100 := hl
  have HLN := Lib.hid hlen
  clear hlen hll henc hd0
  go_enter Try.func11, Try.ntmps11
  have hB := Below.refl w.heap.size w
  go_wp2_with (first | (with_reducible refine stop_store ?_) | (with_reducible refine stop_box ?_) | (with_reducible refine stop_alloc ?_) | (with_reducible refine stop_bslice ?_))
  unfold Kept
  refine go_mem (ty := 25) (cs := #[.int .u64 (W64 k1), .int .i64 k2, .int .u64 (W64 k3), .int .u64 (W64 k4), .int .u64 (W64 k5)]) (fun g => .pointer (some ⟨g, 0, none⟩)) rfl (by kernel_rfl) ?_
  intro g_1 w_2 z_6 l_5 hb_3 G_4
  have n_7 : w.heap.size ≤ g_1 := Nat.le_trans hB.size l_5
  replace hB := hB.trans (hb_3.mono hB.size)
  clear hb_3 l_5 z_6
  go_wp2_with (first | (with_reducible refine stop_store ?_) | (with_reducible refine stop_box ?_) | (with_reducible refine stop_alloc ?_) | (with_reducible refine stop_bslice ?_))
  unfold Kept
  refine go_mem (ty := 44) (cs := #[.int .u32 (W32 iv), .int .i64 nid, .bool ctl, .int .i64 ttl, .int .u32 (W32 seq), .int .u16 (W16 src), .int .u16 (W16 dst), .slice A pay.length c]) (fun g => .pointer (some ⟨g, 0, none⟩)) rfl (by kernel_rfl) ?_
  intro g_8 w_9 z_13 l_12 hb_10 G_11
  have n_14 : g_1 < g_8 := Nat.lt_of_lt_of_le G_4.lt l_12
  have n_15 : w.heap.size ≤ g_8 := Nat.le_trans hB.size l_12
  replace G_4 := G_4.to hb_10 G_4.lt
  replace hB := hB.trans (hb_10.mono hB.size)
  clear hb_10 l_12 z_13
  have ld_16 : w_9.cell? ⟨g_8, 7, none⟩ = some (.slice A pay.length c) := G_11.cell 7
  go_wp2_with (first | (with_reducible refine stop_store ?_) | (with_reducible refine stop_box ?_) | (with_reducible refine stop_alloc ?_) | (with_reducible refine stop_bslice ?_) | ((with_reducible refine wpList_ld 0 [.int .u64 (W64 k1), .int .i64 k2, .int .u64 (W64 k3), .int .u64 (W64 k4), .int .u64 (W64 k5)] G_4 ?_ ?_ Try.underlying25 ?_ ?_ ?_); rfl; rfl; rfl; kernel_rfl) | ((with_reducible refine wpList_ld 0 [.int .u32 (W32 iv), .int .i64 nid, .bool ctl, .int .i64 ttl, .int .u32 (W32 seq), .int .u16 (W16 src), .int .u16 (W16 dst), .slice A pay.length c] G_11 ?_ ?_ Try.underlying44 ?_ ?_ ?_); rfl; rfl; rfl; kernel_rfl) | ((with_reducible refine wpList_ldg 0 [.int .u32 (W32 iv), .int .i64 nid, .bool ctl, .int .i64 ttl, .int .u32 (W32 seq), .int .u16 (W16 src), .int .u16 (W16 dst), .slice A pay.length c] G_11 ?_ ?_ Try.underlying44 ?_ ?_ ?_ ?_); rfl; rfl; rfl; kernel_rfl; rfl))
  refine (C0.out _ A c (Rd.to hr hB)).mono ?_; rintro e w_19 ⟨A3_2, c3_2, rfl, R3_2, l3_2, hb_20⟩
  clear ld_16
  replace G_4 := G_4.to hb_20 G_4.lt
  replace G_11 := G_11.to hb_20 G_11.lt
  replace hB := hB.trans (hb_20.mono hB.size)
  clear hb_20
  have ld_22 : w_19.cell? ⟨g_8, 0, none⟩ = some (.int .u32 (W32 iv)) := G_11.cell 0
  go_wp2_with (first | (with_reducible refine stop_store ?_) | (with_reducible refine stop_box ?_) | (with_reducible refine stop_alloc ?_) | (with_reducible refine stop_bslice ?_) | ((with_reducible refine wpList_ld 0 [.int .u64 (W64 k1), .int .i64 k2, .int .u64 (W64 k3), .int .u64 (W64 k4), .int .u64 (W64 k5)] G_4 ?_ ?_ Try.underlying25 ?_ ?_ ?_); rfl; rfl; rfl; kernel_rfl))
  refine (D0.out _ A3_2 c3_2 (R3_2) l3_2).mono ?_; rintro e w_23 ⟨A6_4, c6_4, rfl, R6_4, l6_4, hb_24⟩
  clear ld_22
  replace G_4 := G_4.to hb_24 G_4.lt
  replace G_11 := G_11.to hb_24 G_11.lt
  replace R3_2 := Rd.to R3_2 hb_24
  replace hB := hB.trans (hb_24.mono hB.size)
  clear hb_24
  go_wp2_with (first | (with_reducible refine stop_store ?_) | (with_reducible refine stop_box ?_) | (with_reducible refine stop_alloc ?_) | (with_reducible refine stop_bslice ?_))
  unfold Kept
  refine go_mem (ty := 44) (cs := #[.int .u32 0, .int .i64 0, .bool false, .int .i64 0, .int .u32 0, .int .u16 0, .int .u16 0, .slice none 0 0]) (fun g => .pointer (some ⟨g, 0, none⟩)) rfl (by kernel_rfl) ?_
  intro g_25 w_26 z_30 l_29 hb_27 G_28
  have n_31 : g_8 < g_25 := Nat.lt_of_lt_of_le G_11.lt l_29
  have n_32 : w.heap.size ≤ g_25 := Nat.le_trans hB.size l_29
  replace G_4 := G_4.to hb_27 G_4.lt
  replace G_11 := G_11.to hb_27 G_11.lt
  replace R3_2 := Rd.to R3_2 hb_27
  replace R6_4 := Rd.to R6_4 hb_27
  replace hB := hB.trans (hb_27.mono hB.size)
  clear hb_27 l_29 z_30
  go_wp2_with (first | (with_reducible refine stop_store ?_) | (with_reducible refine stop_box ?_) | (with_reducible refine stop_alloc ?_) | (with_reducible refine stop_bslice ?_))
  unfold Kept
  refine wpList_st 0 #[.int .u32 (W32 iv), .int .i64 nid, .bool ctl, .int .i64 ttl, .int .u32 (W32 seq), .int .u16 (W16 src), .int .u16 (W16 dst), .slice A6_4 pay.length c6_4] #[.int .u32 (W32 iv), .int .i64 nid, .bool ctl, .int .i64 ttl, .int .u32 (W32 seq), .int .u16 (W16 src), .int .u16 (W16 dst), .slice A6_4 pay.length c6_4] G_28 rfl rfl (by kernel_rfl) rfl (of_decide_eq_true rfl) rfl ?_
  intro w_33 G_35 hU_34
  replace G_4 := hU_34.blk G_4 (by omega)
  replace G_11 := hU_34.blk G_11 (by omega)
  replace R3_2 := RdB.upd R3_2 G_28 hU_34 (by rfl)
  replace R6_4 := RdB.upd R6_4 G_28 hU_34 (by rfl)
  replace hB := hU_34.below hB (by omega)
  clear G_28 hU_34
  go_wp2_with (first | (with_reducible refine stop_store ?_) | (with_reducible refine stop_box ?_) | (with_reducible refine stop_alloc ?_) | (with_reducible refine stop_bslice ?_) | ((with_reducible refine wpList_ld 0 [.int .u32 (W32 iv), .int .i64 nid, .bool ctl, .int .i64 ttl, .int .u32 (W32 seq), .int .u16 (W16 src), .int .u16 (W16 dst), .slice A pay.length c] G_11 ?_ ?_ Try.underlying44 ?_ ?_ ?_); rfl; rfl; rfl; kernel_rfl) | ((with_reducible refine wpList_ldg 0 [.int .u32 (W32 iv), .int .i64 nid, .bool ctl, .int .i64 ttl, .int .u32 (W32 seq), .int .u16 (W16 src), .int .u16 (W16 dst), .slice A pay.length c] G_11 ?_ ?_ Try.underlying44 ?_ ?_ ?_ ?_); rfl; rfl; rfl; kernel_rfl; rfl) | ((with_reducible refine wpList_ld 0 [.int .u32 (W32 iv), .int .i64 nid, .bool ctl, .int .i64 ttl, .int .u32 (W32 seq), .int .u16 (W16 src), .int .u16 (W16 dst), .slice A6_4 pay.length c6_4] G_35 ?_ ?_ Try.underlying44 ?_ ?_ ?_); rfl; rfl; rfl; kernel_rfl) | ((with_reducible refine wpList_ldg 0 [.int .u32 (W32 iv), .int .i64 nid, .bool ctl, .int .i64 ttl, .int .u32 (W32 seq), .int .u16 (W16 src), .int .u16 (W16 dst), .slice A6_4 pay.length c6_4] G_35 ?_ ?_ Try.underlying44 ?_ ?_ ?_ ?_); rfl; rfl; rfl; kernel_rfl; rfl))
  refine (M0.out _ _ _ _ _ (Rd.to hr hB) (R6_4)).mono ?_; rintro e w_38 ⟨rfl, hb_39⟩
  replace G_4 := G_4.to hb_39 G_4.lt
  replace G_11 := G_11.to hb_39 G_11.lt
  replace G_35 := G_35.to hb_39 G_35.lt
  replace R3_2 := Rd.to R3_2 hb_39
  replace R6_4 := Rd.to R6_4 hb_39
  replace hB := hB.trans (hb_39.mono hB.size)
  clear hb_39
  have ld_40 : w_38.cell? ⟨g_8, 7, none⟩ = some (.slice A pay.length c) := G_11.cell 7
  go_wp2_with (first | (with_reducible refine stop_store ?_) | (with_reducible refine stop_box ?_) | (with_reducible refine stop_alloc ?_) | (with_reducible refine stop_bslice ?_))
  refine (lives48 _).mono ?_; rintro e w_41 ⟨rfl, hb_42⟩
  clear ld_40
  replace G_4 := G_4.to hb_42 G_4.lt
  replace G_11 := G_11.to hb_42 G_11.lt
  replace G_35 := G_35.to hb_42 G_35.lt
  replace R3_2 := Rd.to R3_2 hb_42
  replace R6_4 := Rd.to R6_4 hb_42
  replace hB := hB.trans (hb_42.mono hB.size)
  clear hb_42
  go_wp2_with (first | (with_reducible refine stop_store ?_) | (with_reducible refine stop_box ?_) | (with_reducible refine stop_alloc ?_) | (with_reducible refine stop_bslice ?_))
  go_returns
  exact ⟨rfl, hB⟩
set_option maxHeartbeats 8000000 in
theorem nbk_l3 (k1 : BitVec 64) (k2 : Int) (k3 k4 k5 : BitVec 64) (iv : BitVec 32) (nid : Int) (ctl : Bool) (ttl : Int) (seq : BitVec 32) (src dst : BitVec 16) (A : Option Addr) (c : Nat) (pay : List (BitVec 8)) (at_ : Int) (w : World) (hr : RdB w A pay) (hc : pay.length ≤ c) (hl : pay.length ≤ 100) (L : List (BitVec 8)) (henc : encN ⟨k1, k2, k3, k4, k5⟩ ⟨iv, nid, ctl, ttl, seq, src, dst, pay⟩ = (L, 0)) (hll : L.length = 13 + pay.length) (hd0 : decN ⟨k1, k2, k3, k4, k5⟩ iv L = (⟨iv, nid, ctl, ttl, seq, src, dst, pay⟩, 0)) (h0 : 0 ≤ at_) (h1 : at_ < (13 : Int) + (pay.length : Int)) :
    Calls Try.prog 11 #[.agg #[.int .u64 (W64 k1), .int .i64 k2, .int .u64 (W64 k3), .int .u64 (W64 k4), .int .u64 (W64 k5)], .agg #[.int .u32 (W32 iv), .int .i64 nid, .bool ctl, .int .i64 ttl, .int .u32 (W32 seq), .int .u16 (W16 src), .int .u16 (W16 dst), .slice A pay.length c], .int .i64 at_, .int .u8 0] w fun e w' => e = .returned (.bool true) ∧ Below w.heap.size w w' := by
  have hlen : L.length = 13 + pay.length := hll
  have C0 := Lib.hid (fun W A' c' (h : RdB W A' pay) => show Calls Try.prog 32 #[.agg #[.int .u64 (W64 k1), .int .i64 k2, .int .u64 (W64 k3), .int .u64 (W64 k4), .int .u64 (W64 k5)], .agg #[.int .u32 (W32 iv), .int .i64 nid, .bool ctl, .int .i64 ttl, .int .u32 (W32 seq), .int .u16 (W16 src), .int .u16 (W16 dst), .slice A' pay.length c']] W fun e w' => ∃ A1 c1, e = .returned (.tuple #[.slice A1 (13 + pay.length) c1, .int .i64 0]) ∧ RdB w' A1 L ∧ (13 + pay.length) ≤ c1 ∧ Below W.heap.size W w' from by
    have := net_EncodeA ⟨k1, k2, k3, k4, k5⟩ ⟨iv, nid, ctl, ttl, seq, src, dst, pay⟩ A' c' W h
    rw [henc] at this
    unfold RetO at this
    dsimp only at this
    rw [hlen] at this
    exact this)
  have D0 := Lib.hid (fun W B d (h : RdB W B L) (hd : (13 + pay.length) ≤ d) => show Calls Try.prog 34 #[.agg #[.int .u64 (W64 k1), .int .i64 k2, .int .u64 (W64 k3), .int .u64 (W64 k4), .int .u64 (W64 k5)], .int .u32 (W32 iv), .slice B (13 + pay.length) d] W fun e w' => ∃ A1 c1, e = .returned (.tuple #[.agg #[.int .u32 (W32 iv), .int .i64 nid, .bool ctl, .int .i64 ttl, .int .u32 (W32 seq), .int .u16 (W16 src), .int .u16 (W16 dst), .slice A1 pay.length c1], .int .i64 0]) ∧ RdB w' A1 pay ∧ pay.length ≤ c1 ∧ Below W.heap.size W w' from by
    have := net_Decode ⟨k1, k2, k3, k4, k5⟩ iv B d L W h (by rw [hlen]; exact hd)
    rw [hd0, hlen] at this
    exact this)
  have M0 := Lib.hid (fun W A1 c1 A2 c2 (h1 : RdB W A1 pay) (h2 : RdB W A2 pay) => show Calls Try.prog 38 #[.agg #[.int .u32 (W32 iv), .int .i64 nid, .bool ctl, .int .i64 ttl, .int .u32 (W32 seq), .int .u16 (W16 src), .int .u16 (W16 dst), .slice A1 pay.length c1], .agg #[.int .u32 (W32 iv), .int .i64 nid, .bool ctl, .int .i64 ttl, .int .u32 (W32 seq), .int .u16 (W16 src), .int .u16 (W16 dst), .slice A2 pay.length c2]] W fun e w' => e = .returned (.bool true) ∧ Below W.heap.size W w' from by
    have := r48_Same ⟨iv, nid, ctl, ttl, seq, src, dst, pay⟩ ⟨iv, nid, ctl, ttl, seq, src, dst, pay⟩ A1 c1 A2 c2 W h1 h2
    rw [decide_eq_true rfl] at this
    exact this)
  have i9 : decide ((100 : Int) < ((pay.length : Nat) : Int)) = false := by simp; omega
  have e1 : decide (at_ < 0) = false := by simpa using h0
  have e2 : decide ((13 : Int) + (pay.length : Int) ≤ at_) = false := decide_eq_false (by omega)
  have b1 : pay.length ≤ 100 := hl
  have HLN := Lib.hid hlen
  clear hlen hll henc hd0
  go_enter Try.func11, Try.ntmps11
  have hB := Below.refl w.heap.size w
  go_wp2_with (first | (with_reducible refine stop_store ?_) | (with_reducible refine stop_box ?_) | (with_reducible refine stop_alloc ?_) | (with_reducible refine stop_bslice ?_))
  unfold Kept
  refine go_mem (ty := 25) (cs := #[.int .u64 (W64 k1), .int .i64 k2, .int .u64 (W64 k3), .int .u64 (W64 k4), .int .u64 (W64 k5)]) (fun g => .pointer (some ⟨g, 0, none⟩)) rfl (by kernel_rfl) ?_
  intro g_1 w_2 z_6 l_5 hb_3 G_4
  have n_7 : w.heap.size ≤ g_1 := Nat.le_trans hB.size l_5
  replace hB := hB.trans (hb_3.mono hB.size)
  clear hb_3 l_5 z_6
  go_wp2_with (first | (with_reducible refine stop_store ?_) | (with_reducible refine stop_box ?_) | (with_reducible refine stop_alloc ?_) | (with_reducible refine stop_bslice ?_))
  unfold Kept
  refine go_mem (ty := 44) (cs := #[.int .u32 (W32 iv), .int .i64 nid, .bool ctl, .int .i64 ttl, .int .u32 (W32 seq), .int .u16 (W16 src), .int .u16 (W16 dst), .slice A pay.length c]) (fun g => .pointer (some ⟨g, 0, none⟩)) rfl (by kernel_rfl) ?_
  intro g_8 w_9 z_13 l_12 hb_10 G_11
  have n_14 : g_1 < g_8 := Nat.lt_of_lt_of_le G_4.lt l_12
  have n_15 : w.heap.size ≤ g_8 := Nat.le_trans hB.size l_12
  replace G_4 := G_4.to hb_10 G_4.lt
  replace hB := hB.trans (hb_10.mono hB.size)
  clear hb_10 l_12 z_13
  have ld_16 : w_9.cell? ⟨g_8, 7, none⟩ = some (.slice A pay.length c) := G_11.cell 7
  go_wp2_with (first | (with_reducible refine stop_store ?_) | (with_reducible refine stop_box ?_) | (with_reducible refine stop_alloc ?_) | (with_reducible refine stop_bslice ?_) | ((with_reducible refine wpList_ld 0 [.int .u64 (W64 k1), .int .i64 k2, .int .u64 (W64 k3), .int .u64 (W64 k4), .int .u64 (W64 k5)] G_4 ?_ ?_ Try.underlying25 ?_ ?_ ?_); rfl; rfl; rfl; kernel_rfl) | ((with_reducible refine wpList_ld 0 [.int .u32 (W32 iv), .int .i64 nid, .bool ctl, .int .i64 ttl, .int .u32 (W32 seq), .int .u16 (W16 src), .int .u16 (W16 dst), .slice A pay.length c] G_11 ?_ ?_ Try.underlying44 ?_ ?_ ?_); rfl; rfl; rfl; kernel_rfl) | ((with_reducible refine wpList_ldg 0 [.int .u32 (W32 iv), .int .i64 nid, .bool ctl, .int .i64 ttl, .int .u32 (W32 seq), .int .u16 (W16 src), .int .u16 (W16 dst), .slice A pay.length c] G_11 ?_ ?_ Try.underlying44 ?_ ?_ ?_ ?_); rfl; rfl; rfl; kernel_rfl; rfl))
  refine (C0.out _ A c (Rd.to hr hB)).mono ?_; rintro e w_19 ⟨A3_2, c3_2, rfl, R3_2, l3_2, hb_20⟩
  clear ld_16
  replace G_4 := G_4.to hb_20 G_4.lt
  replace G_11 := G_11.to hb_20 G_11.lt
  replace hB := hB.trans (hb_20.mono hB.size)
  clear hb_20
  have ld_22 : w_19.cell? ⟨g_8, 0, none⟩ = some (.int .u32 (W32 iv)) := G_11.cell 0
  go_wp2_with (first | (with_reducible refine stop_store ?_) | (with_reducible refine stop_box ?_) | (with_reducible refine stop_alloc ?_) | (with_reducible refine stop_bslice ?_) | ((with_reducible refine wpList_ld 0 [.int .u64 (W64 k1), .int .i64 k2, .int .u64 (W64 k3), .int .u64 (W64 k4), .int .u64 (W64 k5)] G_4 ?_ ?_ Try.underlying25 ?_ ?_ ?_); rfl; rfl; rfl; kernel_rfl))
  refine (D0.out _ A3_2 c3_2 (R3_2) l3_2).mono ?_; rintro e w_23 ⟨A6_4, c6_4, rfl, R6_4, l6_4, hb_24⟩
  clear ld_22
  replace G_4 := G_4.to hb_24 G_4.lt
  replace G_11 := G_11.to hb_24 G_11.lt
  replace R3_2 := Rd.to R3_2 hb_24
  replace hB := hB.trans (hb_24.mono hB.size)
  clear hb_24
  go_wp2_with (first | (with_reducible refine stop_store ?_) | (with_reducible refine stop_box ?_) | (with_reducible refine stop_alloc ?_) | (with_reducible refine stop_bslice ?_))
  unfold Kept
  refine go_mem (ty := 44) (cs := #[.int .u32 0, .int .i64 0, .bool false, .int .i64 0, .int .u32 0, .int .u16 0, .int .u16 0, .slice none 0 0]) (fun g => .pointer (some ⟨g, 0, none⟩)) rfl (by kernel_rfl) ?_
  intro g_25 w_26 z_30 l_29 hb_27 G_28
  have n_31 : g_8 < g_25 := Nat.lt_of_lt_of_le G_11.lt l_29
  have n_32 : w.heap.size ≤ g_25 := Nat.le_trans hB.size l_29
  replace G_4 := G_4.to hb_27 G_4.lt
  replace G_11 := G_11.to hb_27 G_11.lt
  replace R3_2 := Rd.to R3_2 hb_27
  replace R6_4 := Rd.to R6_4 hb_27
  replace hB := hB.trans (hb_27.mono hB.size)
  clear hb_27 l_29 z_30
  go_wp2_with (first | (with_reducible refine stop_store ?_) | (with_reducible refine stop_box ?_) | (with_reducible refine stop_alloc ?_) | (with_reducible refine stop_bslice ?_))
  unfold Kept
  refine wpList_st 0 #[.int .u32 (W32 iv), .int .i64 nid, .bool ctl, .int .i64 ttl, .int .u32 (W32 seq), .int .u16 (W16 src), .int .u16 (W16 dst), .slice A6_4 pay.length c6_4] #[.int .u32 (W32 iv), .int .i64 nid, .bool ctl, .int .i64 ttl, .int .u32 (W32 seq), .int .u16 (W16 src), .int .u16 (W16 dst), .slice A6_4 pay.length c6_4] G_28 rfl rfl (by kernel_rfl) rfl (of_decide_eq_true rfl) rfl ?_
  intro w_33 G_35 hU_34
  replace G_4 := hU_34.blk G_4 (by omega)
  replace G_11 := hU_34.blk G_11 (by omega)
  replace R3_2 := RdB.upd R3_2 G_28 hU_34 (by rfl)
  replace R6_4 := RdB.upd R6_4 G_28 hU_34 (by rfl)
  replace hB := hU_34.below hB (by omega)
  clear G_28 hU_34
  go_wp2_with (first | (with_reducible refine stop_store ?_) | (with_reducible refine stop_box ?_) | (with_reducible refine stop_alloc ?_) | (with_reducible refine stop_bslice ?_) | ((with_reducible refine wpList_ld 0 [.int .u32 (W32 iv), .int .i64 nid, .bool ctl, .int .i64 ttl, .int .u32 (W32 seq), .int .u16 (W16 src), .int .u16 (W16 dst), .slice A pay.length c] G_11 ?_ ?_ Try.underlying44 ?_ ?_ ?_); rfl; rfl; rfl; kernel_rfl) | ((with_reducible refine wpList_ldg 0 [.int .u32 (W32 iv), .int .i64 nid, .bool ctl, .int .i64 ttl, .int .u32 (W32 seq), .int .u16 (W16 src), .int .u16 (W16 dst), .slice A pay.length c] G_11 ?_ ?_ Try.underlying44 ?_ ?_ ?_ ?_); rfl; rfl; rfl; kernel_rfl; rfl) | ((with_reducible refine wpList_ld 0 [.int .u32 (W32 iv), .int .i64 nid, .bool ctl, .int .i64 ttl, .int .u32 (W32 seq), .int .u16 (W16 src), .int .u16 (W16 dst), .slice A6_4 pay.length c6_4] G_35 ?_ ?_ Try.underlying44 ?_ ?_ ?_); rfl; rfl; rfl; kernel_rfl) | ((with_reducible refine wpList_ldg 0 [.int .u32 (W32 iv), .int .i64 nid, .bool ctl, .int .i64 ttl, .int .u32 (W32 seq), .int .u16 (W16 src), .int .u16 (W16 dst), .slice A6_4 pay.length c6_4] G_35 ?_ ?_ Try.underlying44 ?_ ?_ ?_ ?_); rfl; rfl; rfl; kernel_rfl; rfl))
  refine (M0.out _ _ _ _ _ (Rd.to hr hB) (R6_4)).mono ?_; rintro e w_38 ⟨rfl, hb_39⟩
  replace G_4 := G_4.to hb_39 G_4.lt
  replace G_11 := G_11.to hb_39 G_11.lt
  replace G_35 := G_35.to hb_39 G_35.lt
  replace R3_2 := Rd.to R3_2 hb_39
  replace R6_4 := Rd.to R6_4 hb_39
  replace hB := hB.trans (hb_39.mono hB.size)
  clear hb_39
  have ld_40 : w_38.cell? ⟨g_8, 7, none⟩ = some (.slice A pay.length c) := G_11.cell 7
  go_wp2_with (first | (with_reducible refine stop_store ?_) | (with_reducible refine stop_box ?_) | (with_reducible refine stop_alloc ?_) | (with_reducible refine stop_bslice ?_))
  refine (lives48 _).mono ?_; rintro e w_41 ⟨rfl, hb_42⟩
  clear ld_40
  replace G_4 := G_4.to hb_42 G_4.lt
  replace G_11 := G_11.to hb_42 G_11.lt
  replace G_35 := G_35.to hb_42 G_35.lt
  replace R3_2 := Rd.to R3_2 hb_42
  replace R6_4 := Rd.to R6_4 hb_42
  replace hB := hB.trans (hb_42.mono hB.size)
  clear hb_42
  go_wp2_with (first | (with_reducible refine stop_store ?_) | (with_reducible refine stop_box ?_) | (with_reducible refine stop_alloc ?_) | (with_reducible refine stop_bslice ?_))
  go_returns
  exact ⟨rfl, hB⟩
set_option maxHeartbeats 8000000 in
theorem nbk_z (k1 : BitVec 64) (k2 : Int) (k3 k4 k5 : BitVec 64) (iv : BitVec 32) (nid : Int) (ctl : Bool) (ttl : Int) (seq : BitVec 32) (src dst : BitVec 16) (A : Option Addr) (c : Nat) (pay : List (BitVec 8)) (a : Nat) (x y : BitVec 8) (q : NP) (w : World) (hr : RdB w A pay) (hc : pay.length ≤ c) (hl : pay.length ≤ 100) (L : List (BitVec 8)) (henc : encN ⟨k1, k2, k3, k4, k5⟩ ⟨iv, nid, ctl, ttl, seq, src, dst, pay⟩ = (L, 0)) (hll : L.length = 13 + pay.length) (hd0 : decN ⟨k1, k2, k3, k4, k5⟩ iv L = (⟨iv, nid, ctl, ttl, seq, src, dst, pay⟩, 0)) (hy : L[a]? = some y) (ha : a < 13 + pay.length) (hx0 : x ≠ 0#8) (hd1 : decN ⟨k1, k2, k3, k4, k5⟩ iv (L.set a (y ^^^ x)) = (q, 17)) (ha0 : a = 0) :
    Calls Try.prog 11 #[.agg #[.int .u64 (W64 k1), .int .i64 k2, .int .u64 (W64 k3), .int .u64 (W64 k4), .int .u64 (W64 k5)], .agg #[.int .u32 (W32 iv), .int .i64 nid, .bool ctl, .int .i64 ttl, .int .u32 (W32 seq), .int .u16 (W16 src), .int .u16 (W16 dst), .slice A pay.length c], .int .i64 ((a : Int)), .int .u8 (W8 x)] w fun e w' => e = .returned (.bool true) ∧ Below w.heap.size w w' := by
  have hlen : L.length = 13 + pay.length := hll
  have C0 := Lib.hid (fun W A' c' (h : RdB W A' pay) => show Calls Try.prog 32 #[.agg #[.int .u64 (W64 k1), .int .i64 k2, .int .u64 (W64 k3), .int .u64 (W64 k4), .int .u64 (W64 k5)], .agg #[.int .u32 (W32 iv), .int .i64 nid, .bool ctl, .int .i64 ttl, .int .u32 (W32 seq), .int .u16 (W16 src), .int .u16 (W16 dst), .slice A' pay.length c']] W fun e w' => ∃ A1 c1, e = .returned (.tuple #[.slice A1 (13 + pay.length) c1, .int .i64 0]) ∧ RdB w' A1 L ∧ (13 + pay.length) ≤ c1 ∧ Below W.heap.size W w' from by
    have := net_EncodeA ⟨k1, k2, k3, k4, k5⟩ ⟨iv, nid, ctl, ttl, seq, src, dst, pay⟩ A' c' W h
    rw [henc] at this
    unfold RetO at this
    dsimp only at this
    rw [hlen] at this
    exact this)
  have D0 := Lib.hid (fun W B d (h : RdB W B L) (hd : (13 + pay.length) ≤ d) => show Calls Try.prog 34 #[.agg #[.int .u64 (W64 k1), .int .i64 k2, .int .u64 (W64 k3), .int .u64 (W64 k4), .int .u64 (W64 k5)], .int .u32 (W32 iv), .slice B (13 + pay.length) d] W fun e w' => ∃ A1 c1, e = .returned (.tuple #[.agg #[.int .u32 (W32 iv), .int .i64 nid, .bool ctl, .int .i64 ttl, .int .u32 (W32 seq), .int .u16 (W16 src), .int .u16 (W16 dst), .slice A1 pay.length c1], .int .i64 0]) ∧ RdB w' A1 pay ∧ pay.length ≤ c1 ∧ Below W.heap.size W w' from by
    have := net_Decode ⟨k1, k2, k3, k4, k5⟩ iv B d L W h (by rw [hlen]; exact hd)
    rw [hd0, hlen] at this
    exact this)
  have M0 := Lib.hid (fun W A1 c1 A2 c2 (h1 : RdB W A1 pay) (h2 : RdB W A2 pay) => show Calls Try.prog 38 #[.agg #[.int .u32 (W32 iv), .int .i64 nid, .bool ctl, .int .i64 ttl, .int .u32 (W32 seq), .int .u16 (W16 src), .int .u16 (W16 dst), .slice A1 pay.length c1], .agg #[.int .u32 (W32 iv), .int .i64 nid, .bool ctl, .int .i64 ttl, .int .u32 (W32 seq), .int .u16 (W16 src), .int .u16 (W16 dst), .slice A2 pay.length c2]] W fun e w' => e = .returned (.bool true) ∧ Below W.heap.size W w' from by
    have := r48_Same ⟨iv, nid, ctl, ttl, seq, src, dst, pay⟩ ⟨iv, nid, ctl, ttl, seq, src, dst, pay⟩ A1 c1 A2 c2 W h1 h2
    rw [decide_eq_true rfl] at this
    exact this)
  have i9 : decide ((100 : Int) < ((pay.length : Nat) : Int)) = false := by simp; omega
  have hls : (L.set a (y ^^^ x)).length = 13 + pay.length := by rw [List.length_set]; exact hlen
  have D1 := Lib.hid (fun W B d (h : RdB W B (L.set a (y ^^^ x))) (hd : (13 + pay.length) ≤ d) => show Calls Try.prog 34 #[.agg #[.int .u64 (W64 k1), .int .i64 k2, .int .u64 (W64 k3), .int .u64 (W64 k4), .int .u64 (W64 k5)], .int .u32 (W32 iv), .slice B (13 + pay.length) d] W fun e w' => ∃ A1 c1, e = .returned (.tuple #[.agg #[.int .u32 (W32 q.iv), .int .i64 q.nid, .bool q.ctl, .int .i64 q.ttl, .int .u32 (W32 q.seq), .int .u16 (W16 q.src), .int .u16 (W16 q.dst), .slice A1 q.pay.length c1], .int .i64 17]) ∧ RdB w' A1 q.pay ∧ q.pay.length ≤ c1 ∧ Below W.heap.size W w' from by
    have := net_Decode ⟨k1, k2, k3, k4, k5⟩ iv B d (L.set a (y ^^^ x)) W h (by rw [hls]; exact hd)
    rw [hd1, hls] at this
    exact this)
  have e1 : decide ((a : Int) < 0) = false := by simp
  have e2 : decide ((13 : Int) + (pay.length : Int) ≤ (a : Int)) = false := decide_eq_false (by omega)
  have e3 : decide (13 + pay.length ≤ a) = false := decide_eq_false (by omega)
  have e4 : ((W8 x : Int) == 0) = false := by have this : (W8 x == W8 0#8) = false := (by rw [W8_beq]; simpa using hx0); exact this
  have HY := Lib.hid hy
  have HLS := Lib.hid hls
  have ai : (a : Int) < 13 + (pay.length : Int) := by omega
  have e7 : decide ((0 : Int) < (a : Int)) = false := by subst ha0; rfl
  have e6 : decide (0 < a) = false := by subst ha0; rfl
  have b1 : pay.length ≤ 100 := hl
  have HLN := Lib.hid hlen
  clear hlen hll henc hd0
  clear hls hy hx0 hd1
  have HA0 := Lib.hid ha0
  clear ha0
  obtain ⟨i0, hi0, hz0, hz1, hz2⟩ := info_parts info_u8
  go_enter Try.func11, Try.ntmps11
  have hB := Below.refl w.heap.size w
  go_wp2_with (first | (with_reducible refine stop_store ?_) | (with_reducible refine stop_box ?_) | (with_reducible refine stop_alloc ?_) | (with_reducible refine stop_bslice ?_) | (with_reducible refine stop_append ?_))
  unfold Kept
  refine go_mem (ty := 25) (cs := #[.int .u64 (W64 k1), .int .i64 k2, .int .u64 (W64 k3), .int .u64 (W64 k4), .int .u64 (W64 k5)]) (fun g => .pointer (some ⟨g, 0, none⟩)) rfl (by kernel_rfl) ?_
  intro g_1 w_2 z_6 l_5 hb_3 G_4
  have n_7 : w.heap.size ≤ g_1 := Nat.le_trans hB.size l_5
  replace hB := hB.trans (hb_3.mono hB.size)
  clear hb_3 l_5 z_6
  go_wp2_with (first | (with_reducible refine stop_store ?_) | (with_reducible refine stop_box ?_) | (with_reducible refine stop_alloc ?_) | (with_reducible refine stop_bslice ?_) | (with_reducible refine stop_append ?_))
  unfold Kept
  refine go_mem (ty := 44) (cs := #[.int .u32 (W32 iv), .int .i64 nid, .bool ctl, .int .i64 ttl, .int .u32 (W32 seq), .int .u16 (W16 src), .int .u16 (W16 dst), .slice A pay.length c]) (fun g => .pointer (some ⟨g, 0, none⟩)) rfl (by kernel_rfl) ?_
  intro g_8 w_9 z_13 l_12 hb_10 G_11
  have n_14 : g_1 < g_8 := Nat.lt_of_lt_of_le G_4.lt l_12
  have n_15 : w.heap.size ≤ g_8 := Nat.le_trans hB.size l_12
  replace G_4 := G_4.to hb_10 G_4.lt
  replace hB := hB.trans (hb_10.mono hB.size)
  clear hb_10 l_12 z_13
  have ld_16 : w_9.cell? ⟨g_8, 7, none⟩ = some (.slice A pay.length c) := G_11.cell 7
  go_wp2_with (first | (with_reducible refine stop_store ?_) | (with_reducible refine stop_box ?_) | (with_reducible refine stop_alloc ?_) | (with_reducible refine stop_bslice ?_) | (with_reducible refine stop_append ?_) | ((with_reducible refine wpList_ld 0 [.int .u64 (W64 k1), .int .i64 k2, .int .u64 (W64 k3), .int .u64 (W64 k4), .int .u64 (W64 k5)] G_4 ?_ ?_ Try.underlying25 ?_ ?_ ?_); rfl; rfl; rfl; kernel_rfl) | ((with_reducible refine wpList_ld 0 [.int .u32 (W32 iv), .int .i64 nid, .bool ctl, .int .i64 ttl, .int .u32 (W32 seq), .int .u16 (W16 src), .int .u16 (W16 dst), .slice A pay.length c] G_11 ?_ ?_ Try.underlying44 ?_ ?_ ?_); rfl; rfl; rfl; kernel_rfl) | ((with_reducible refine wpList_ldg 0 [.int .u32 (W32 iv), .int .i64 nid, .bool ctl, .int .i64 ttl, .int .u32 (W32 seq), .int .u16 (W16 src), .int .u16 (W16 dst), .slice A pay.length c] G_11 ?_ ?_ Try.underlying44 ?_ ?_ ?_ ?_); rfl; rfl; rfl; kernel_rfl; rfl))
  refine (C0.out _ A c (Rd.to hr hB)).mono ?_; rintro e w_19 ⟨A3_2, c3_2, rfl, R3_2, l3_2, hb_20⟩
  clear ld_16
  replace G_4 := G_4.to hb_20 G_4.lt
  replace G_11 := G_11.to hb_20 G_11.lt
  replace hB := hB.trans (hb_20.mono hB.size)
  clear hb_20
  have ld_22 : w_19.cell? ⟨g_8, 0, none⟩ = some (.int .u32 (W32 iv)) := G_11.cell 0
  go_wp2_with (first | (with_reducible refine stop_store ?_) | (with_reducible refine stop_box ?_) | (with_reducible refine stop_alloc ?_) | (with_reducible refine stop_bslice ?_) | (with_reducible refine stop_append ?_) | ((with_reducible refine wpList_ld 0 [.int .u64 (W64 k1), .int .i64 k2, .int .u64 (W64 k3), .int .u64 (W64 k4), .int .u64 (W64 k5)] G_4 ?_ ?_ Try.underlying25 ?_ ?_ ?_); rfl; rfl; rfl; kernel_rfl))
  refine (D0.out _ A3_2 c3_2 (R3_2) l3_2).mono ?_; rintro e w_23 ⟨A6_4, c6_4, rfl, R6_4, l6_4, hb_24⟩
  clear ld_22
  replace G_4 := G_4.to hb_24 G_4.lt
  replace G_11 := G_11.to hb_24 G_11.lt
  replace R3_2 := Rd.to R3_2 hb_24
  replace hB := hB.trans (hb_24.mono hB.size)
  clear hb_24
  go_wp2_with (first | (with_reducible refine stop_store ?_) | (with_reducible refine stop_box ?_) | (with_reducible refine stop_alloc ?_) | (with_reducible refine stop_bslice ?_) | (with_reducible refine stop_append ?_))
  unfold Kept
  refine go_mem (ty := 44) (cs := #[.int .u32 0, .int .i64 0, .bool false, .int .i64 0, .int .u32 0, .int .u16 0, .int .u16 0, .slice none 0 0]) (fun g => .pointer (some ⟨g, 0, none⟩)) rfl (by kernel_rfl) ?_
  intro g_25 w_26 z_30 l_29 hb_27 G_28
  have n_31 : g_8 < g_25 := Nat.lt_of_lt_of_le G_11.lt l_29
  have n_32 : w.heap.size ≤ g_25 := Nat.le_trans hB.size l_29
  replace G_4 := G_4.to hb_27 G_4.lt
  replace G_11 := G_11.to hb_27 G_11.lt
  replace R3_2 := Rd.to R3_2 hb_27
  replace R6_4 := Rd.to R6_4 hb_27
  replace hB := hB.trans (hb_27.mono hB.size)
  clear hb_27 l_29 z_30
  go_wp2_with (first | (with_reducible refine stop_store ?_) | (with_reducible refine stop_box ?_) | (with_reducible refine stop_alloc ?_) | (with_reducible refine stop_bslice ?_) | (with_reducible refine stop_append ?_))
  unfold Kept
  refine wpList_st 0 #[.int .u32 (W32 iv), .int .i64 nid, .bool ctl, .int .i64 ttl, .int .u32 (W32 seq), .int .u16 (W16 src), .int .u16 (W16 dst), .slice A6_4 pay.length c6_4] #[.int .u32 (W32 iv), .int .i64 nid, .bool ctl, .int .i64 ttl, .int .u32 (W32 seq), .int .u16 (W16 src), .int .u16 (W16 dst), .slice A6_4 pay.length c6_4] G_28 rfl rfl (by kernel_rfl) rfl (of_decide_eq_true rfl) rfl ?_
  intro w_33 G_35 hU_34
  replace G_4 := hU_34.blk G_4 (by omega)
  replace G_11 := hU_34.blk G_11 (by omega)
  replace R3_2 := RdB.upd R3_2 G_28 hU_34 (by rfl)
  replace R6_4 := RdB.upd R6_4 G_28 hU_34 (by rfl)
  replace hB := hU_34.below hB (by omega)
  clear G_28 hU_34
  go_wp2_with (first | (with_reducible refine stop_store ?_) | (with_reducible refine stop_box ?_) | (with_reducible refine stop_alloc ?_) | (with_reducible refine stop_bslice ?_) | (with_reducible refine stop_append ?_) | ((with_reducible refine wpList_ld 0 [.int .u32 (W32 iv), .int .i64 nid, .bool ctl, .int .i64 ttl, .int .u32 (W32 seq), .int .u16 (W16 src), .int .u16 (W16 dst), .slice A pay.length c] G_11 ?_ ?_ Try.underlying44 ?_ ?_ ?_); rfl; rfl; rfl; kernel_rfl) | ((with_reducible refine wpList_ldg 0 [.int .u32 (W32 iv), .int .i64 nid, .bool ctl, .int .i64 ttl, .int .u32 (W32 seq), .int .u16 (W16 src), .int .u16 (W16 dst), .slice A pay.length c] G_11 ?_ ?_ Try.underlying44 ?_ ?_ ?_ ?_); rfl; rfl; rfl; kernel_rfl; rfl) | ((with_reducible refine wpList_ld 0 [.int .u32 (W32 iv), .int .i64 nid, .bool ctl, .int .i64 ttl, .int .u32 (W32 seq), .int .u16 (W16 src), .int .u16 (W16 dst), .slice A6_4 pay.length c6_4] G_35 ?_ ?_ Try.underlying44 ?_ ?_ ?_); rfl; rfl; rfl; kernel_rfl) | ((with_reducible refine wpList_ldg 0 [.int .u32 (W32 iv), .int .i64 nid, .bool ctl, .int .i64 ttl, .int .u32 (W32 seq), .int .u16 (W16 src), .int .u16 (W16 dst), .slice A6_4 pay.length c6_4] G_35 ?_ ?_ Try.underlying44 ?_ ?_ ?_ ?_); rfl; rfl; rfl; kernel_rfl; rfl))
  refine (M0.out _ _ _ _ _ (Rd.to hr hB) (R6_4)).mono ?_; rintro e w_38 ⟨rfl, hb_39⟩
  replace G_4 := G_4.to hb_39 G_4.lt
  replace G_11 := G_11.to hb_39 G_11.lt
  replace G_35 := G_35.to hb_39 G_35.lt
  replace R3_2 := Rd.to R3_2 hb_39
  replace R6_4 := Rd.to R6_4 hb_39
  replace hB := hB.trans (hb_39.mono hB.size)
  clear hb_39
  have ld_40 : w_38.cell? ⟨g_8, 7, none⟩ = some (.slice A pay.length c) := G_11.cell 7
  go_wp2_with (first | (with_reducible refine stop_store ?_) | (with_reducible refine stop_box ?_) | (with_reducible refine stop_alloc ?_) | (with_reducible refine stop_bslice ?_) | (with_reducible refine stop_append ?_))
  unfold Kept
  refine go_mem (ty := 5) (cs := #[]) (fun g => .slice (some ⟨g, 0, none⟩) 0 0) rfl (by kernel_rfl) ?_
  intro g_41 w_42 z_46 l_45 hb_43 G_44
  clear ld_40
  have n_47 : g_25 < g_41 := Nat.lt_of_lt_of_le G_35.lt l_45
  have n_48 : w.heap.size ≤ g_41 := Nat.le_trans hB.size l_45
  replace G_4 := G_4.to hb_43 G_4.lt
  replace G_11 := G_11.to hb_43 G_11.lt
  replace G_35 := G_35.to hb_43 G_35.lt
  replace R3_2 := Rd.to R3_2 hb_43
  replace R6_4 := Rd.to R6_4 hb_43
  replace hB := hB.trans (hb_43.mono hB.size)
  clear hb_43 l_45 z_46
  go_wp2_with (first | (with_reducible refine stop_store ?_) | (with_reducible refine stop_box ?_) | (with_reducible refine stop_alloc ?_) | (with_reducible refine stop_bslice ?_) | (with_reducible refine stop_append ?_))
  unfold Kept
  refine wpList_append_rd _ rfl _ _ 36 rfl w.heap.size 5 i0 _ 1 1 Try.underlying36 hi0 hz0 hz1 hz2 rfl (by omega) (.slice (some ⟨g_41, 0, none⟩) 0 0) 0 (bcells []) rfl (own_of_blk (l := []) G_44 (by omega) (by simp [maxLen])) A3_2 ((13 + pay.length)) c3_2 (bcells L) rfl (R3_2) (by rw [bcells_length, HLN.out, Nat.mul_one]) ((bcells_one _)) (by simp only [maxLen]; omega) (by omega) hB.size ?_
  intro A_49 c_50 w_51 ho_52 hb_53 hg_54
  replace ho_52 : w_51.ownsRow w.heap.size 5 1 (.slice A_49 ((13 + pay.length)) c_50) ((13 + pay.length)) ((bcells L)) := by skip; rw [Nat.zero_add] at ho_52; exact ho_52
  replace G_4 := Blk.own G_4 (own_of_blk (l := []) G_44 (by omega) (by simp [maxLen])) (by decide) hg_54
  replace G_11 := Blk.own G_11 (own_of_blk (l := []) G_44 (by omega) (by simp [maxLen])) (by decide) hg_54
  replace G_35 := Blk.own G_35 (own_of_blk (l := []) G_44 (by omega) (by simp [maxLen])) (by decide) hg_54
  clear R3_2
  clear R6_4
  replace hB := hB.trans hb_53
  clear G_44
  clear hg_54 hb_53
  obtain ⟨go, hAo, RC, cur, hcur⟩ := own_g ho_52 (by omega)
  subst hAo
  have ne_g_1 : g_1 ≠ go := own_ne hcur G_4 (by decide)
  have ne_g_8 : g_8 ≠ go := own_ne hcur G_11 (by decide)
  have ne_g_25 : g_25 ≠ go := own_ne hcur G_35 (by decide)
  clear ho_52 hcur cur
  have hge := RC.ge
  have hcy : w_51.cell? ⟨go, a, none⟩ = some (.int .u8 (W8 y)) := own_cell RC HY.out
  go_wp2_with (first | (with_reducible refine stop_store ?_) | (with_reducible refine stop_box ?_) | (with_reducible refine stop_alloc ?_) | (with_reducible refine stop_bslice ?_) | (with_reducible refine stop_append ?_))
  unfold Kept
  refine wpList_stc RC a (by omega) (y ^^^ x) rfl rfl (by kernel_rfl) ?_
  intro w_55 RC2 hU
  replace G_4 := hU.blk G_4 ne_g_1
  replace G_11 := hU.blk G_11 ne_g_8
  replace G_35 := hU.blk G_35 ne_g_25
  replace hB := hU.below hB hge
  clear hcy RC hU
  have RC := RC2
  clear RC2
  have ld_57 : w_55.cell? ⟨g_8, 0, none⟩ = some (.int .u32 (W32 iv)) := G_11.cell 0
  go_wp2_with (first | (with_reducible refine stop_store ?_) | (with_reducible refine stop_box ?_) | (with_reducible refine stop_alloc ?_) | (with_reducible refine stop_bslice ?_) | (with_reducible refine stop_append ?_) | ((with_reducible refine wpList_ld 0 [.int .u64 (W64 k1), .int .i64 k2, .int .u64 (W64 k3), .int .u64 (W64 k4), .int .u64 (W64 k5)] G_4 ?_ ?_ Try.underlying25 ?_ ?_ ?_); rfl; rfl; rfl; kernel_rfl))
  refine (D1.out _ (some ⟨go, 0, none⟩) c_50 (OwnC.rd RC) RC.room).mono ?_; rintro e w_58 ⟨A13_4, c13_4, rfl, R13_4, l13_4, hb_59⟩
  clear ld_57
  replace G_4 := G_4.to hb_59 G_4.lt
  replace G_11 := G_11.to hb_59 G_11.lt
  replace G_35 := G_35.to hb_59 G_35.lt
  replace RC := OwnC.to RC hb_59
  replace hB := hB.trans (hb_59.mono hB.size)
  clear hb_59
  go_wp2_with (first | (with_reducible refine stop_store ?_) | (with_reducible refine stop_box ?_) | (with_reducible refine stop_alloc ?_) | (with_reducible refine stop_bslice ?_) | (with_reducible refine stop_append ?_))
  unfold Kept
  refine go_mem (ty := 44) (cs := #[.int .u32 0, .int .i64 0, .bool false, .int .i64 0, .int .u32 0, .int .u16 0, .int .u16 0, .slice none 0 0]) (fun g => .pointer (some ⟨g, 0, none⟩)) rfl (by kernel_rfl) ?_
  intro g_60 w_61 z_65 l_64 hb_62 G_63
  have n_66 : g_25 < g_60 := Nat.lt_of_lt_of_le G_35.lt l_64
  have n_67 : w.heap.size ≤ g_60 := Nat.le_trans hB.size l_64
  have n_68 : go < g_60 := Nat.lt_of_lt_of_le RC.lt l_64
  replace G_4 := G_4.to hb_62 G_4.lt
  replace G_11 := G_11.to hb_62 G_11.lt
  replace G_35 := G_35.to hb_62 G_35.lt
  replace RC := OwnC.to RC hb_62
  replace R13_4 := Rd.to R13_4 hb_62
  replace hB := hB.trans (hb_62.mono hB.size)
  clear hb_62 l_64 z_65
  go_wp2_with (first | (with_reducible refine stop_store ?_) | (with_reducible refine stop_box ?_) | (with_reducible refine stop_alloc ?_) | (with_reducible refine stop_bslice ?_) | (with_reducible refine stop_append ?_))
  unfold Kept
  refine wpList_st 0 #[.int .u32 (W32 q.iv), .int .i64 q.nid, .bool q.ctl, .int .i64 q.ttl, .int .u32 (W32 q.seq), .int .u16 (W16 q.src), .int .u16 (W16 q.dst), .slice A13_4 q.pay.length c13_4] #[.int .u32 (W32 q.iv), .int .i64 q.nid, .bool q.ctl, .int .i64 q.ttl, .int .u32 (W32 q.seq), .int .u16 (W16 q.src), .int .u16 (W16 q.dst), .slice A13_4 q.pay.length c13_4] G_63 rfl rfl (by kernel_rfl) rfl (of_decide_eq_true rfl) rfl ?_
  intro w_69 G_71 hU_70
  replace G_4 := hU_70.blk G_4 (by omega)
  replace G_11 := hU_70.blk G_11 (by omega)
  replace G_35 := hU_70.blk G_35 (by omega)
  replace RC := OwnC.upd RC hU_70 (by omega)
  replace R13_4 := RdB.upd R13_4 G_63 hU_70 (by rfl)
  replace hB := hU_70.below hB (by omega)
  clear G_63 hU_70
  go_wp2_with (first | (with_reducible refine stop_store ?_) | (with_reducible refine stop_box ?_) | (with_reducible refine stop_alloc ?_) | (with_reducible refine stop_bslice ?_) | (with_reducible refine stop_append ?_))
  refine (lives48 _).mono ?_; rintro e w_72 ⟨rfl, hb_73⟩
  replace G_4 := G_4.to hb_73 G_4.lt
  replace G_11 := G_11.to hb_73 G_11.lt
  replace G_35 := G_35.to hb_73 G_35.lt
  replace G_71 := G_71.to hb_73 G_71.lt
  replace RC := OwnC.to RC hb_73
  replace R13_4 := Rd.to R13_4 hb_73
  replace hB := hB.trans (hb_73.mono hB.size)
  clear hb_73
  go_wp2_with (first | (with_reducible refine stop_store ?_) | (with_reducible refine stop_box ?_) | (with_reducible refine stop_alloc ?_) | (with_reducible refine stop_bslice ?_) | (with_reducible refine stop_append ?_))
  go_returns
  exact ⟨rfl, hB⟩
set_option maxHeartbeats 8000000 in
theorem nbk_p (k1 : BitVec 64) (k2 : Int) (k3 k4 k5 : BitVec 64) (iv : BitVec 32) (nid : Int) (ctl : Bool) (ttl : Int) (seq : BitVec 32) (src dst : BitVec 16) (A : Option Addr) (c : Nat) (pay : List (BitVec 8)) (a : Nat) (x y : BitVec 8) (q : NP) (en : Int) (w : World) (hr : RdB w A pay) (hc : pay.length ≤ c) (hl : pay.length ≤ 100) (L : List (BitVec 8)) (henc : encN ⟨k1, k2, k3, k4, k5⟩ ⟨iv, nid, ctl, ttl, seq, src, dst, pay⟩ = (L, 0)) (hll : L.length = 13 + pay.length) (hd0 : decN ⟨k1, k2, k3, k4, k5⟩ iv L = (⟨iv, nid, ctl, ttl, seq, src, dst, pay⟩, 0)) (hy : L[a]? = some y) (ha : a < 13 + pay.length) (hx0 : x ≠ 0#8) (hd1 : decN ⟨k1, k2, k3, k4, k5⟩ iv (L.set a (y ^^^ x)) = (q, en)) (hen : en ≠ 0) (hap : 0 < a) :
    Calls Try.prog 11 #[.agg #[.int .u64 (W64 k1), .int .i64 k2, .int .u64 (W64 k3), .int .u64 (W64 k4), .int .u64 (W64 k5)], .agg #[.int .u32 (W32 iv), .int .i64 nid, .bool ctl, .int .i64 ttl, .int .u32 (W32 seq), .int .u16 (W16 src), .int .u16 (W16 dst), .slice A pay.length c], .int .i64 ((a : Int)), .int .u8 (W8 x)] w fun e w' => e = .returned (.bool true) ∧ Below w.heap.size w w' := by
  have hlen : L.length = 13 + pay.length := hll
  have C0 := Lib.hid (fun W A' c' (h : RdB W A' pay) => show Calls Try.prog 32 #[.agg #[.int .u64 (W64 k1), .int .i64 k2, .int .u64 (W64 k3), .int .u64 (W64 k4), .int .u64 (W64 k5)], .agg #[.int .u32 (W32 iv), .int .i64 nid, .bool ctl, .int .i64 ttl, .int .u32 (W32 seq), .int .u16 (W16 src), .int .u16 (W16 dst), .slice A' pay.length c']] W fun e w' => ∃ A1 c1, e = .returned (.tuple #[.slice A1 (13 + pay.length) c1, .int .i64 0]) ∧ RdB w' A1 L ∧ (13 + pay.length) ≤ c1 ∧ Below W.heap.size W w' from by
    have := net_EncodeA ⟨k1, k2, k3, k4, k5⟩ ⟨iv, nid, ctl, ttl, seq, src, dst, pay⟩ A' c' W h
    rw [henc] at this
    unfold RetO at this
    dsimp only at this
    rw [hlen] at this
    exact this)
  have D0 := Lib.hid (fun W B d (h : RdB W B L) (hd : (13 + pay.length) ≤ d) => show Calls Try.prog 34 #[.agg #[.int .u64 (W64 k1), .int .i64 k2, .int .u64 (W64 k3), .int .u64 (W64 k4), .int .u64 (W64 k5)], .int .u32 (W32 iv), .slice B (13 + pay.length) d] W fun e w' => ∃ A1 c1, e = .returned (.tuple #[.agg #[.int .u32 (W32 iv), .int .i64 nid, .bool ctl, .int .i64 ttl, .int .u32 (W32 seq), .int .u16 (W16 src), .int .u16 (W16 dst), .slice A1 pay.length c1], .int .i64 0]) ∧ RdB w' A1 pay ∧ pay.length ≤ c1 ∧ Below W.heap.size W w' from by
    have := net_Decode ⟨k1, k2, k3, k4, k5⟩ iv B d L W h (by rw [hlen]; exact hd)
    rw [hd0, hlen] at this
    exact this)
  have M0 := Lib.hid (fun W A1 c1 A2 c2 (h1 : RdB W A1 pay) (h2 : RdB W A2 pay) => show Calls Try.prog 38 #[.agg #[.int .u32 (W32 iv), .int .i64 nid, .bool ctl, .int .i64 ttl, .int .u32 (W32 seq), .int .u16 (W16 src), .int .u16 (W16 dst), .slice A1 pay.length c1], .agg #[.int .u32 (W32 iv), .int .i64 nid, .bool ctl, .int .i64 ttl, .int .u32 (W32 seq), .int .u16 (W16 src), .int .u16 (W16 dst), .slice A2 pay.length c2]] W fun e w' => e = .returned (.bool true) ∧ Below W.heap.size W w' from by
    have := r48_Same ⟨iv, nid, ctl, ttl, seq, src, dst, pay⟩ ⟨iv, nid, ctl, ttl, seq, src, dst, pay⟩ A1 c1 A2 c2 W h1 h2
    rw [decide_eq_true rfl] at this
    exact this)
  have i9 : decide ((100 : Int) < ((pay.length : Nat) : Int)) = false := by simp; omega
  have hls : (L.set a (y ^^^ x)).length = 13 + pay.length := by rw [List.length_set]; exact hlen
  have D1 := Lib.hid (fun W B d (h : RdB W B (L.set a (y ^^^ x))) (hd : (13 + pay.length) ≤ d) => show Calls Try.prog 34 #[.agg #[.int .u64 (W64 k1), .int .i64 k2, .int .u64 (W64 k3), .int .u64 (W64 k4), .int .u64 (W64 k5)], .int .u32 (W32 iv), .slice B (13 + pay.length) d] W fun e w' => ∃ A1 c1, e = .returned (.tuple #[.agg #[.int .u32 (W32 q.iv), .int .i64 q.nid, .bool q.ctl, .int .i64 q.ttl, .int .u32 (W32 q.seq), .int .u16 (W16 q.src), .int .u16 (W16 q.dst), .slice A1 q.pay.length c1], .int .i64 en]) ∧ RdB w' A1 q.pay ∧ q.pay.length ≤ c1 ∧ Below W.heap.size W w' from by
    have := net_Decode ⟨k1, k2, k3, k4, k5⟩ iv B d (L.set a (y ^^^ x)) W h (by rw [hls]; exact hd)
    rw [hd1, hls] at this
    exact this)
  have e1 : decide ((a : Int) < 0) = false := by simp
  have e2 : decide ((13 : Int) + (pay.length : Int) ≤ (a : Int)) = false := decide_eq_false (by omega)
  have e3 : decide (13 + pay.length ≤ a) = false := decide_eq_false (by omega)
  have e4 : ((W8 x : Int) == 0) = false := by have this : (W8 x == W8 0#8) = false := (by rw [W8_beq]; simpa using hx0); exact this
  have HY := Lib.hid hy
  have HLS := Lib.hid hls
  have ai : (a : Int) < 13 + (pay.length : Int) := by omega
  have e9 : ((en : Int) != 0) = true := by simpa using hen
  have e8 : ((en : Int) == 0) = false := by simpa using hen
  have e7 : decide ((0 : Int) < (a : Int)) = true := by simpa using hap
  have e6 : decide (0 < a) = true := decide_eq_true hap
  have b1 : pay.length ≤ 100 := hl
  have HLN := Lib.hid hlen
  clear hlen hll henc hd0
  clear hls hy hx0 hd1
  clear hen
  obtain ⟨i0, hi0, hz0, hz1, hz2⟩ := info_parts info_u8
  go_enter Try.func11, Try.ntmps11
  have hB := Below.refl w.heap.size w
  go_wp2_with (first | (with_reducible refine stop_store ?_) | (with_reducible refine stop_box ?_) | (with_reducible refine stop_alloc ?_) | (with_reducible refine stop_bslice ?_) | (with_reducible refine stop_append ?_))
  unfold Kept
  refine go_mem (ty := 25) (cs := #[.int .u64 (W64 k1), .int .i64 k2, .int .u64 (W64 k3), .int .u64 (W64 k4), .int .u64 (W64 k5)]) (fun g => .pointer (some ⟨g, 0, none⟩)) rfl (by kernel_rfl) ?_
  intro g_1 w_2 z_6 l_5 hb_3 G_4
  have n_7 : w.heap.size ≤ g_1 := Nat.le_trans hB.size l_5
  replace hB := hB.trans (hb_3.mono hB.size)
  clear hb_3 l_5 z_6
  go_wp2_with (first | (with_reducible refine stop_store ?_) | (with_reducible refine stop_box ?_) | (with_reducible refine stop_alloc ?_) | (with_reducible refine stop_bslice ?_) | (with_reducible refine stop_append ?_))
  unfold Kept
  refine go_mem (ty := 44) (cs := #[.int .u32 (W32 iv), .int .i64 nid, .bool ctl, .int .i64 ttl, .int .u32 (W32 seq), .int .u16 (W16 src), .int .u16 (W16 dst), .slice A pay.length c]) (fun g => .pointer (some ⟨g, 0, none⟩)) rfl (by kernel_rfl) ?_
  intro g_8 w_9 z_13 l_12 hb_10 G_11
  have n_14 : g_1 < g_8 := Nat.lt_of_lt_of_le G_4.lt l_12
  have n_15 : w.heap.size ≤ g_8 := Nat.le_trans hB.size l_12
  replace G_4 := G_4.to hb_10 G_4.lt
  replace hB := hB.trans (hb_10.mono hB.size)
  clear hb_10 l_12 z_13
  have ld_16 : w_9.cell? ⟨g_8, 7, none⟩ = some (.slice A pay.length c) := G_11.cell 7
  go_wp2_with (first | (with_reducible refine stop_store ?_) | (with_reducible refine stop_box ?_) | (with_reducible refine stop_alloc ?_) | (with_reducible refine stop_bslice ?_) | (with_reducible refine stop_append ?_) | ((with_reducible refine wpList_ld 0 [.int .u64 (W64 k1), .int .i64 k2, .int .u64 (W64 k3), .int .u64 (W64 k4), .int .u64 (W64 k5)] G_4 ?_ ?_ Try.underlying25 ?_ ?_ ?_); rfl; rfl; rfl; kernel_rfl) | ((with_reducible refine wpList_ld 0 [.int .u32 (W32 iv), .int .i64 nid, .bool ctl, .int .i64 ttl, .int .u32 (W32 seq), .int .u16 (W16 src), .int .u16 (W16 dst), .slice A pay.length c] G_11 ?_ ?_ Try.underlying44 ?_ ?_ ?_); rfl; rfl; rfl; kernel_rfl) | ((with_reducible refine wpList_ldg 0 [.int .u32 (W32 iv), .int .i64 nid, .bool ctl, .int .i64 ttl, .int .u32 (W32 seq), .int .u16 (W16 src), .int .u16 (W16 dst), .slice A pay.length c] G_11 ?_ ?_ Try.underlying44 ?_ ?_ ?_ ?_); rfl; rfl; rfl; kernel_rfl; rfl))
  refine (C0.out _ A c (Rd.to hr hB)).mono ?_; rintro e w_19 ⟨A3_2, c3_2, rfl, R3_2, l3_2, hb_20⟩
  clear ld_16
  replace G_4 := G_4.to hb_20 G_4.lt
  replace G_11 := G_11.to hb_20 G_11.lt
  replace hB := hB.trans (hb_20.mono hB.size)
  clear hb_20
  have ld_22 : w_19.cell? ⟨g_8, 0, none⟩ = some (.int .u32 (W32 iv)) := G_11.cell 0
  go_wp2_with (first | (with_reducible refine stop_store ?_) | (with_reducible refine stop_box ?_) | (with_reducible refine stop_alloc ?_) | (with_reducible refine stop_bslice ?_) | (with_reducible refine stop_append ?_) | ((with_reducible refine wpList_ld 0 [.int .u64 (W64 k1), .int .i64 k2, .int .u64 (W64 k3), .int .u64 (W64 k4), .int .u64 (W64 k5)] G_4 ?_ ?_ Try.underlying25 ?_ ?_ ?_); rfl; rfl; rfl; kernel_rfl))
  refine (D0.out _ A3_2 c3_2 (R3_2) l3_2).mono ?_; rintro e w_23 ⟨A6_4, c6_4, rfl, R6_4, l6_4, hb_24⟩
  clear ld_22
  replace G_4 := G_4.to hb_24 G_4.lt
  replace G_11 := G_11.to hb_24 G_11.lt
  replace R3_2 := Rd.to R3_2 hb_24
  replace hB := hB.trans (hb_24.mono hB.size)
  clear hb_24
  go_wp2_with (first | (with_reducible refine stop_store ?_) | (with_reducible refine stop_box ?_) | (with_reducible refine stop_alloc ?_) | (with_reducible refine stop_bslice ?_) | (with_reducible refine stop_append ?_))
  unfold Kept
  refine go_mem (ty := 44) (cs := #[.int .u32 0, .int .i64 0, .bool false, .int .i64 0, .int .u32 0, .int .u16 0, .int .u16 0, .slice none 0 0]) (fun g => .pointer (some ⟨g, 0, none⟩)) rfl (by kernel_rfl) ?_
  intro g_25 w_26 z_30 l_29 hb_27 G_28
  have n_31 : g_8 < g_25 := Nat.lt_of_lt_of_le G_11.lt l_29
  have n_32 : w.heap.size ≤ g_25 := Nat.le_trans hB.size l_29
  replace G_4 := G_4.to hb_27 G_4.lt
  replace G_11 := G_11.to hb_27 G_11.lt
  replace R3_2 := Rd.to R3_2 hb_27
  replace R6_4 := Rd.to R6_4 hb_27
  replace hB := hB.trans (hb_27.mono hB.size)
  clear hb_27 l_29 z_30
  go_wp2_with (first | (with_reducible refine stop_store ?_) | (with_reducible refine stop_box ?_) | (with_reducible refine stop_alloc ?_) | (with_reducible refine stop_bslice ?_) | (with_reducible refine stop_append ?_))
  unfold Kept
  refine wpList_st 0 #[.int .u32 (W32 iv), .int .i64 nid, .bool ctl, .int .i64 ttl, .int .u32 (W32 seq), .int .u16 (W16 src), .int .u16 (W16 dst), .slice A6_4 pay.length c6_4] #[.int .u32 (W32 iv), .int .i64 nid, .bool ctl, .int .i64 ttl, .int .u32 (W32 seq), .int .u16 (W16 src), .int .u16 (W16 dst), .slice A6_4 pay.length c6_4] G_28 rfl rfl (by kernel_rfl) rfl (of_decide_eq_true rfl) rfl ?_
  intro w_33 G_35 hU_34
  replace G_4 := hU_34.blk G_4 (by omega)
  replace G_11 := hU_34.blk G_11 (by omega)
  replace R3_2 := RdB.upd R3_2 G_28 hU_34 (by rfl)
  replace R6_4 := RdB.upd R6_4 G_28 hU_34 (by rfl)
  replace hB := hU_34.below hB (by omega)
  clear G_28 hU_34
  go_wp2_with (first | (with_reducible refine stop_store ?_) | (with_reducible refine stop_box ?_) | (with_reducible refine stop_alloc ?_) | (with_reducible refine stop_bslice ?_) | (with_reducible refine stop_append ?_) | ((with_reducible refine wpList_ld 0 [.int .u32 (W32 iv), .int .i64 nid, .bool ctl, .int .i64 ttl, .int .u32 (W32 seq), .int .u16 (W16 src), .int .u16 (W16 dst), .slice A pay.length c] G_11 ?_ ?_ Try.underlying44 ?_ ?_ ?_); rfl; rfl; rfl; kernel_rfl) | ((with_reducible refine wpList_ldg 0 [.int .u32 (W32 iv), .int .i64 nid, .bool ctl, .int .i64 ttl, .int .u32 (W32 seq), .int .u16 (W16 src), .int .u16 (W16 dst), .slice A pay.length c] G_11 ?_ ?_ Try.underlying44 ?_ ?_ ?_ ?_); rfl; rfl; rfl; kernel_rfl; rfl) | ((with_reducible refine wpList_ld 0 [.int .u32 (W32 iv), .int .i64 nid, .bool ctl, .int .i64 ttl, .int .u32 (W32 seq), .int .u16 (W16 src), .int .u16 (W16 dst), .slice A6_4 pay.length c6_4] G_35 ?_ ?_ Try.underlying44 ?_ ?_ ?_); rfl; rfl; rfl; kernel_rfl) | ((with_reducible refine wpList_ldg 0 [.int .u32 (W32 iv), .int .i64 nid, .bool ctl, .int .i64 ttl, .int .u32 (W32 seq), .int .u16 (W16 src), .int .u16 (W16 dst), .slice A6_4 pay.length c6_4] G_35 ?_ ?_ Try.underlying44 ?_ ?_ ?_ ?_); rfl; rfl; rfl; kernel_rfl; rfl))
  refine (M0.out _ _ _ _ _ (Rd.to hr hB) (R6_4)).mono ?_; rintro e w_38 ⟨rfl, hb_39⟩
  replace G_4 := G_4.to hb_39 G_4.lt
  replace G_11 := G_11.to hb_39 G_11.lt
  replace G_35 := G_35.to hb_39 G_35.lt
  replace R3_2 := Rd.to R3_2 hb_39
  replace R6_4 := Rd.to R6_4 hb_39
  replace hB := hB.trans (hb_39.mono hB.size)
  clear hb_39
  have ld_40 : w_38.cell? ⟨g_8, 7, none⟩ = some (.slice A pay.length c) := G_11.cell 7
  go_wp2_with (first | (with_reducible refine stop_store ?_) | (with_reducible refine stop_box ?_) | (with_reducible refine stop_alloc ?_) | (with_reducible refine stop_bslice ?_) | (with_reducible refine stop_append ?_))
  unfold Kept
  refine go_mem (ty := 5) (cs := #[]) (fun g => .slice (some ⟨g, 0, none⟩) 0 0) rfl (by kernel_rfl) ?_
  intro g_41 w_42 z_46 l_45 hb_43 G_44
  clear ld_40
  have n_47 : g_25 < g_41 := Nat.lt_of_lt_of_le G_35.lt l_45
  have n_48 : w.heap.size ≤ g_41 := Nat.le_trans hB.size l_45
  replace G_4 := G_4.to hb_43 G_4.lt
  replace G_11 := G_11.to hb_43 G_11.lt
  replace G_35 := G_35.to hb_43 G_35.lt
  replace R3_2 := Rd.to R3_2 hb_43
  replace R6_4 := Rd.to R6_4 hb_43
  replace hB := hB.trans (hb_43.mono hB.size)
  clear hb_43 l_45 z_46
  go_wp2_with (first | (with_reducible refine stop_store ?_) | (with_reducible refine stop_box ?_) | (with_reducible refine stop_alloc ?_) | (with_reducible refine stop_bslice ?_) | (with_reducible refine stop_append ?_))
  unfold Kept
  refine wpList_append_rd _ rfl _ _ 36 rfl w.heap.size 5 i0 _ 1 1 Try.underlying36 hi0 hz0 hz1 hz2 rfl (by omega) (.slice (some ⟨g_41, 0, none⟩) 0 0) 0 (bcells []) rfl (own_of_blk (l := []) G_44 (by omega) (by simp [maxLen])) A3_2 ((13 + pay.length)) c3_2 (bcells L) rfl (R3_2) (by rw [bcells_length, HLN.out, Nat.mul_one]) ((bcells_one _)) (by simp only [maxLen]; omega) (by omega) hB.size ?_
  intro A_49 c_50 w_51 ho_52 hb_53 hg_54
  replace ho_52 : w_51.ownsRow w.heap.size 5 1 (.slice A_49 ((13 + pay.length)) c_50) ((13 + pay.length)) ((bcells L)) := by skip; rw [Nat.zero_add] at ho_52; exact ho_52
  replace G_4 := Blk.own G_4 (own_of_blk (l := []) G_44 (by omega) (by simp [maxLen])) (by decide) hg_54
  replace G_11 := Blk.own G_11 (own_of_blk (l := []) G_44 (by omega) (by simp [maxLen])) (by decide) hg_54
  replace G_35 := Blk.own G_35 (own_of_blk (l := []) G_44 (by omega) (by simp [maxLen])) (by decide) hg_54
  clear R3_2
  clear R6_4
  replace hB := hB.trans hb_53
  clear G_44
  clear hg_54 hb_53
  obtain ⟨go, hAo, RC, cur, hcur⟩ := own_g ho_52 (by omega)
  subst hAo
  have ne_g_1 : g_1 ≠ go := own_ne hcur G_4 (by decide)
  have ne_g_8 : g_8 ≠ go := own_ne hcur G_11 (by decide)
  have ne_g_25 : g_25 ≠ go := own_ne hcur G_35 (by decide)
  clear ho_52 hcur cur
  have hge := RC.ge
  have hcy : w_51.cell? ⟨go, a, none⟩ = some (.int .u8 (W8 y)) := own_cell RC HY.out
  go_wp2_with (first | (with_reducible refine stop_store ?_) | (with_reducible refine stop_box ?_) | (with_reducible refine stop_alloc ?_) | (with_reducible refine stop_bslice ?_) | (with_reducible refine stop_append ?_))
  unfold Kept
  refine wpList_stc RC a (by omega) (y ^^^ x) rfl rfl (by kernel_rfl) ?_
  intro w_55 RC2 hU
  replace G_4 := hU.blk G_4 ne_g_1
  replace G_11 := hU.blk G_11 ne_g_8
  replace G_35 := hU.blk G_35 ne_g_25
  replace hB := hU.below hB hge
  clear hcy RC hU
  have RC := RC2
  clear RC2
  have ld_57 : w_55.cell? ⟨g_8, 0, none⟩ = some (.int .u32 (W32 iv)) := G_11.cell 0
  go_wp2_with (first | (with_reducible refine stop_store ?_) | (with_reducible refine stop_box ?_) | (with_reducible refine stop_alloc ?_) | (with_reducible refine stop_bslice ?_) | (with_reducible refine stop_append ?_) | ((with_reducible refine wpList_ld 0 [.int .u64 (W64 k1), .int .i64 k2, .int .u64 (W64 k3), .int .u64 (W64 k4), .int .u64 (W64 k5)] G_4 ?_ ?_ Try.underlying25 ?_ ?_ ?_); rfl; rfl; rfl; kernel_rfl))
  refine (D1.out _ (some ⟨go, 0, none⟩) c_50 (OwnC.rd RC) RC.room).mono ?_; rintro e w_58 ⟨A13_4, c13_4, rfl, R13_4, l13_4, hb_59⟩
  clear ld_57
  replace G_4 := G_4.to hb_59 G_4.lt
  replace G_11 := G_11.to hb_59 G_11.lt
  replace G_35 := G_35.to hb_59 G_35.lt
  replace RC := OwnC.to RC hb_59
  replace hB := hB.trans (hb_59.mono hB.size)
  clear hb_59
  go_wp2_with (first | (with_reducible refine stop_store ?_) | (with_reducible refine stop_box ?_) | (with_reducible refine stop_alloc ?_) | (with_reducible refine stop_bslice ?_) | (with_reducible refine stop_append ?_))
  unfold Kept
  refine go_mem (ty := 44) (cs := #[.int .u32 0, .int .i64 0, .bool false, .int .i64 0, .int .u32 0, .int .u16 0, .int .u16 0, .slice none 0 0]) (fun g => .pointer (some ⟨g, 0, none⟩)) rfl (by kernel_rfl) ?_
  intro g_60 w_61 z_65 l_64 hb_62 G_63
  have n_66 : g_25 < g_60 := Nat.lt_of_lt_of_le G_35.lt l_64
  have n_67 : w.heap.size ≤ g_60 := Nat.le_trans hB.size l_64
  have n_68 : go < g_60 := Nat.lt_of_lt_of_le RC.lt l_64
  replace G_4 := G_4.to hb_62 G_4.lt
  replace G_11 := G_11.to hb_62 G_11.lt
  replace G_35 := G_35.to hb_62 G_35.lt
  replace RC := OwnC.to RC hb_62
  replace R13_4 := Rd.to R13_4 hb_62
  replace hB := hB.trans (hb_62.mono hB.size)
  clear hb_62 l_64 z_65
  go_wp2_with (first | (with_reducible refine stop_store ?_) | (with_reducible refine stop_box ?_) | (with_reducible refine stop_alloc ?_) | (with_reducible refine stop_bslice ?_) | (with_reducible refine stop_append ?_))
  unfold Kept
  refine wpList_st 0 #[.int .u32 (W32 q.iv), .int .i64 q.nid, .bool q.ctl, .int .i64 q.ttl, .int .u32 (W32 q.seq), .int .u16 (W16 q.src), .int .u16 (W16 q.dst), .slice A13_4 q.pay.length c13_4] #[.int .u32 (W32 q.iv), .int .i64 q.nid, .bool q.ctl, .int .i64 q.ttl, .int .u32 (W32 q.seq), .int .u16 (W16 q.src), .int .u16 (W16 q.dst), .slice A13_4 q.pay.length c13_4] G_63 rfl rfl (by kernel_rfl) rfl (of_decide_eq_true rfl) rfl ?_
  intro w_69 G_71 hU_70
  replace G_4 := hU_70.blk G_4 (by omega)
  replace G_11 := hU_70.blk G_11 (by omega)
  replace G_35 := hU_70.blk G_35 (by omega)
  replace RC := OwnC.upd RC hU_70 (by omega)
  replace R13_4 := RdB.upd R13_4 G_63 hU_70 (by rfl)
  replace hB := hU_70.below hB (by omega)
  clear G_63 hU_70
  go_wp2_with (first | (with_reducible refine stop_store ?_) | (with_reducible refine stop_box ?_) | (with_reducible refine stop_alloc ?_) | (with_reducible refine stop_bslice ?_) | (with_reducible refine stop_append ?_))
  refine (lives48 _).mono ?_; rintro e w_72 ⟨rfl, hb_73⟩
  replace G_4 := G_4.to hb_73 G_4.lt
  replace G_11 := G_11.to hb_73 G_11.lt
  replace G_35 := G_35.to hb_73 G_35.lt
  replace G_71 := G_71.to hb_73 G_71.lt
  replace RC := OwnC.to RC hb_73
  replace R13_4 := Rd.to R13_4 hb_73
  replace hB := hB.trans (hb_73.mono hB.size)
  clear hb_73
  go_wp2_with (first | (with_reducible refine stop_store ?_) | (with_reducible refine stop_box ?_) | (with_reducible refine stop_alloc ?_) | (with_reducible refine stop_bslice ?_) | (with_reducible refine stop_append ?_))
  go_returns
  exact ⟨rfl, hB⟩
set_option maxHeartbeats 8000000 in
theorem nbk_o (k1 : BitVec 64) (k2 : Int) (k3 k4 k5 : BitVec 64) (iv : BitVec 32) (nid : Int) (ctl : Bool) (ttl : Int) (seq : BitVec 32) (src dst : BitVec 16) (A : Option Addr) (c : Nat) (pay : List (BitVec 8)) (a : Nat) (x y : BitVec 8) (q : NP) (w : World) (hr : RdB w A pay) (hc : pay.length ≤ c) (hl : pay.length ≤ 100) (L : List (BitVec 8)) (henc : encN ⟨k1, k2, k3, k4, k5⟩ ⟨iv, nid, ctl, ttl, seq, src, dst, pay⟩ = (L, 0)) (hll : L.length = 13 + pay.length) (hd0 : decN ⟨k1, k2, k3, k4, k5⟩ iv L = (⟨iv, nid, ctl, ttl, seq, src, dst, pay⟩, 0)) (hy : L[a]? = some y) (ha : a < 13 + pay.length) (hx0 : x ≠ 0#8) (hd1 : decN ⟨k1, k2, k3, k4, k5⟩ iv (L.set a (y ^^^ x)) = (q, 0)) (hap : 0 < a) (hq1 : encN ⟨k1, k2, k3, k4, k5⟩ q = ((L.set a (y ^^^ x)), 0)) (hq2 : q ≠ ⟨iv, nid, ctl, ttl, seq, src, dst, pay⟩) :
    Calls Try.prog 11 #[.agg #[.int .u64 (W64 k1), .int .i64 k2, .int .u64 (W64 k3), .int .u64 (W64 k4), .int .u64 (W64 k5)], .agg #[.int .u32 (W32 iv), .int .i64 nid, .bool ctl, .int .i64 ttl, .int .u32 (W32 seq), .int .u16 (W16 src), .int .u16 (W16 dst), .slice A pay.length c], .int .i64 ((a : Int)), .int .u8 (W8 x)] w fun e w' => e = .returned (.bool true) ∧ Below w.heap.size w w' := by
  have hlen : L.length = 13 + pay.length := hll
  have C0 := Lib.hid (fun W A' c' (h : RdB W A' pay) => show Calls Try.prog 32 #[.agg #[.int .u64 (W64 k1), .int .i64 k2, .int .u64 (W64 k3), .int .u64 (W64 k4), .int .u64 (W64 k5)], .agg #[.int .u32 (W32 iv), .int .i64 nid, .bool ctl, .int .i64 ttl, .int .u32 (W32 seq), .int .u16 (W16 src), .int .u16 (W16 dst), .slice A' pay.length c']] W fun e w' => ∃ A1 c1, e = .returned (.tuple #[.slice A1 (13 + pay.length) c1, .int .i64 0]) ∧ RdB w' A1 L ∧ (13 + pay.length) ≤ c1 ∧ Below W.heap.size W w' from by
    have := net_EncodeA ⟨k1, k2, k3, k4, k5⟩ ⟨iv, nid, ctl, ttl, seq, src, dst, pay⟩ A' c' W h
    rw [henc] at this
    unfold RetO at this
    dsimp only at this
    rw [hlen] at this
    exact this)
  have D0 := Lib.hid (fun W B d (h : RdB W B L) (hd : (13 + pay.length) ≤ d) => show Calls Try.prog 34 #[.agg #[.int .u64 (W64 k1), .int .i64 k2, .int .u64 (W64 k3), .int .u64 (W64 k4), .int .u64 (W64 k5)], .int .u32 (W32 iv), .slice B (13 + pay.length) d] W fun e w' => ∃ A1 c1, e = .returned (.tuple #[.agg #[.int .u32 (W32 iv), .int .i64 nid, .bool ctl, .int .i64 ttl, .int .u32 (W32 seq), .int .u16 (W16 src), .int .u16 (W16 dst), .slice A1 pay.length c1], .int .i64 0]) ∧ RdB w' A1 pay ∧ pay.length ≤ c1 ∧ Below W.heap.size W w' from by
    have := net_Decode ⟨k1, k2, k3, k4, k5⟩ iv B d L W h (by rw [hlen]; exact hd)
    rw [hd0, hlen] at this
    exact this)
  have M0 := Lib.hid (fun W A1 c1 A2 c2 (h1 : RdB W A1 pay) (h2 : RdB W A2 pay) => show Calls Try.prog 38 #[.agg #[.int .u32 (W32 iv), .int .i64 nid, .bool ctl, .int .i64 ttl, .int .u32 (W32 seq), .int .u16 (W16 src), .int .u16 (W16 dst), .slice A1 pay.length c1], .agg #[.int .u32 (W32 iv), .int .i64 nid, .bool ctl, .int .i64 ttl, .int .u32 (W32 seq), .int .u16 (W16 src), .int .u16 (W16 dst), .slice A2 pay.length c2]] W fun e w' => e = .returned (.bool true) ∧ Below W.heap.size W w' from by
    have := r48_Same ⟨iv, nid, ctl, ttl, seq, src, dst, pay⟩ ⟨iv, nid, ctl, ttl, seq, src, dst, pay⟩ A1 c1 A2 c2 W h1 h2
    rw [decide_eq_true rfl] at this
    exact this)
  have i9 : decide ((100 : Int) < ((pay.length : Nat) : Int)) = false := by simp; omega
  have hls : (L.set a (y ^^^ x)).length = 13 + pay.length := by rw [List.length_set]; exact hlen
  have D1 := Lib.hid (fun W B d (h : RdB W B (L.set a (y ^^^ x))) (hd : (13 + pay.length) ≤ d) => show Calls Try.prog 34 #[.agg #[.int .u64 (W64 k1), .int .i64 k2, .int .u64 (W64 k3), .int .u64 (W64 k4), .int .u64 (W64 k5)], .int .u32 (W32 iv), .slice B (13 + pay.length) d] W fun e w' => ∃ A1 c1, e = .returned (.tuple #[.agg #[.int .u32 (W32 q.iv), .int .i64 q.nid, .bool q.ctl, .int .i64 q.ttl, .int .u32 (W32 q.seq), .int .u16 (W16 q.src), .int .u16 (W16 q.dst), .slice A1 q.pay.length c1], .int .i64 0]) ∧ RdB w' A1 q.pay ∧ q.pay.length ≤ c1 ∧ Below W.heap.size W w' from by
    have := net_Decode ⟨k1, k2, k3, k4, k5⟩ iv B d (L.set a (y ^^^ x)) W h (by rw [hls]; exact hd)
    rw [hd1, hls] at this
    exact this)
  have e1 : decide ((a : Int) < 0) = false := by simp
  have e2 : decide ((13 : Int) + (pay.length : Int) ≤ (a : Int)) = false := decide_eq_false (by omega)
  have e3 : decide (13 + pay.length ≤ a) = false := decide_eq_false (by omega)
  have e4 : ((W8 x : Int) == 0) = false := by have this : (W8 x == W8 0#8) = false := (by rw [W8_beq]; simpa using hx0); exact this
  have HY := Lib.hid hy
  have HLS := Lib.hid hls
  have ai : (a : Int) < 13 + (pay.length : Int) := by omega
  have e7 : decide ((0 : Int) < (a : Int)) = true := by simpa using hap
  have e6 : decide (0 < a) = true := decide_eq_true hap
  have C1 := Lib.hid (fun W A' c' (h : RdB W A' q.pay) => show Calls Try.prog 32 #[.agg #[.int .u64 (W64 k1), .int .i64 k2, .int .u64 (W64 k3), .int .u64 (W64 k4), .int .u64 (W64 k5)], .agg #[.int .u32 (W32 q.iv), .int .i64 q.nid, .bool q.ctl, .int .i64 q.ttl, .int .u32 (W32 q.seq), .int .u16 (W16 q.src), .int .u16 (W16 q.dst), .slice A' q.pay.length c']] W fun e w' => ∃ A1 c1, e = .returned (.tuple #[.slice A1 (13 + pay.length) c1, .int .i64 0]) ∧ RdB w' A1 (L.set a (y ^^^ x)) ∧ (13 + pay.length) ≤ c1 ∧ Below W.heap.size W w' from by
    have := net_EncodeA ⟨k1, k2, k3, k4, k5⟩ q A' c' W h
    rw [hq1] at this
    unfold RetO at this
    dsimp only at this
    rw [hls] at this
    exact this)
  have M1 := Lib.hid (fun W A1 c1 A2 c2 (h1 : RdB W A1 q.pay) (h2 : RdB W A2 pay) => show Calls Try.prog 38 #[.agg #[.int .u32 (W32 q.iv), .int .i64 q.nid, .bool q.ctl, .int .i64 q.ttl, .int .u32 (W32 q.seq), .int .u16 (W16 q.src), .int .u16 (W16 q.dst), .slice A1 q.pay.length c1], .agg #[.int .u32 (W32 iv), .int .i64 nid, .bool ctl, .int .i64 ttl, .int .u32 (W32 seq), .int .u16 (W16 src), .int .u16 (W16 dst), .slice A2 pay.length c2]] W fun e w' => e = .returned (.bool false) ∧ Below W.heap.size W w' from by
    have := r48_Same q ⟨iv, nid, ctl, ttl, seq, src, dst, pay⟩ A1 c1 A2 c2 W h1 h2
    rw [decide_eq_false hq2] at this
    exact this)
  have b1 : pay.length ≤ 100 := hl
  have HLN := Lib.hid hlen
  clear hlen hll henc hd0
  clear hls hy hx0 hd1 hq1 hq2
  obtain ⟨i0, hi0, hz0, hz1, hz2⟩ := info_parts info_u8
  go_enter Try.func11, Try.ntmps11
  have hB := Below.refl w.heap.size w
  go_wp2_with (first | (with_reducible refine stop_store ?_) | (with_reducible refine stop_box ?_) | (with_reducible refine stop_alloc ?_) | (with_reducible refine stop_bslice ?_) | (with_reducible refine stop_append ?_))
  unfold Kept
  refine go_mem (ty := 25) (cs := #[.int .u64 (W64 k1), .int .i64 k2, .int .u64 (W64 k3), .int .u64 (W64 k4), .int .u64 (W64 k5)]) (fun g => .pointer (some ⟨g, 0, none⟩)) rfl (by kernel_rfl) ?_
  intro g_1 w_2 z_6 l_5 hb_3 G_4
  have n_7 : w.heap.size ≤ g_1 := Nat.le_trans hB.size l_5
  replace hB := hB.trans (hb_3.mono hB.size)
  clear hb_3 l_5 z_6
  go_wp2_with (first | (with_reducible refine stop_store ?_) | (with_reducible refine stop_box ?_) | (with_reducible refine stop_alloc ?_) | (with_reducible refine stop_bslice ?_) | (with_reducible refine stop_append ?_))
  unfold Kept
  refine go_mem (ty := 44) (cs := #[.int .u32 (W32 iv), .int .i64 nid, .bool ctl, .int .i64 ttl, .int .u32 (W32 seq), .int .u16 (W16 src), .int .u16 (W16 dst), .slice A pay.length c]) (fun g => .pointer (some ⟨g, 0, none⟩)) rfl (by kernel_rfl) ?_
  intro g_8 w_9 z_13 l_12 hb_10 G_11
  have n_14 : g_1 < g_8 := Nat.lt_of_lt_of_le G_4.lt l_12
  have n_15 : w.heap.size ≤ g_8 := Nat.le_trans hB.size l_12
  replace G_4 := G_4.to hb_10 G_4.lt
  replace hB := hB.trans (hb_10.mono hB.size)
  clear hb_10 l_12 z_13
  have ld_16 : w_9.cell? ⟨g_8, 7, none⟩ = some (.slice A pay.length c) := G_11.cell 7
  go_wp2_with (first | (with_reducible refine stop_store ?_) | (with_reducible refine stop_box ?_) | (with_reducible refine stop_alloc ?_) | (with_reducible refine stop_bslice ?_) | (with_reducible refine stop_append ?_) | ((with_reducible refine wpList_ld 0 [.int .u64 (W64 k1), .int .i64 k2, .int .u64 (W64 k3), .int .u64 (W64 k4), .int .u64 (W64 k5)] G_4 ?_ ?_ Try.underlying25 ?_ ?_ ?_); rfl; rfl; rfl; kernel_rfl) | ((with_reducible refine wpList_ld 0 [.int .u32 (W32 iv), .int .i64 nid, .bool ctl, .int .i64 ttl, .int .u32 (W32 seq), .int .u16 (W16 src), .int .u16 (W16 dst), .slice A pay.length c] G_11 ?_ ?_ Try.underlying44 ?_ ?_ ?_); rfl; rfl; rfl; kernel_rfl) | ((with_reducible refine wpList_ldg 0 [.int .u32 (W32 iv), .int .i64 nid, .bool ctl, .int .i64 ttl, .int .u32 (W32 seq), .int .u16 (W16 src), .int .u16 (W16 dst), .slice A pay.length c] G_11 ?_ ?_ Try.underlying44 ?_ ?_ ?_ ?_); rfl; rfl; rfl; kernel_rfl; rfl))
  refine (C0.out _ A c (Rd.to hr hB)).mono ?_; rintro e w_19 ⟨A3_2, c3_2, rfl, R3_2, l3_2, hb_20⟩
  clear ld_16
  replace G_4 := G_4.to hb_20 G_4.lt
  replace G_11 := G_11.to hb_20 G_11.lt
  replace hB := hB.trans (hb_20.mono hB.size)
  clear hb_20
  have ld_22 : w_19.cell? ⟨g_8, 0, none⟩ = some (.int .u32 (W32 iv)) := G_11.cell 0
  go_wp2_with (first | (with_reducible refine stop_store ?_) | (with_reducible refine stop_box ?_) | (with_reducible refine stop_alloc ?_) | (with_reducible refine stop_bslice ?_) | (with_reducible refine stop_append ?_) | ((with_reducible refine wpList_ld 0 [.int .u64 (W64 k1), .int .i64 k2, .int .u64 (W64 k3), .int .u64 (W64 k4), .int .u64 (W64 k5)] G_4 ?_ ?_ Try.underlying25 ?_ ?_ ?_); rfl; rfl; rfl; kernel_rfl))
  refine (D0.out _ A3_2 c3_2 (R3_2) l3_2).mono ?_; rintro e w_23 ⟨A6_4, c6_4, rfl, R6_4, l6_4, hb_24⟩
  clear ld_22
  replace G_4 := G_4.to hb_24 G_4.lt
  replace G_11 := G_11.to hb_24 G_11.lt
  replace R3_2 := Rd.to R3_2 hb_24
  replace hB := hB.trans (hb_24.mono hB.size)
  clear hb_24
  go_wp2_with (first | (with_reducible refine stop_store ?_) | (with_reducible refine stop_box ?_) | (with_reducible refine stop_alloc ?_) | (with_reducible refine stop_bslice ?_) | (with_reducible refine stop_append ?_))
  unfold Kept
  refine go_mem (ty := 44) (cs := #[.int .u32 0, .int .i64 0, .bool false, .int .i64 0, .int .u32 0, .int .u16 0, .int .u16 0, .slice none 0 0]) (fun g => .pointer (some ⟨g, 0, none⟩)) rfl (by kernel_rfl) ?_
  intro g_25 w_26 z_30 l_29 hb_27 G_28
  have n_31 : g_8 < g_25 := Nat.lt_of_lt_of_le G_11.lt l_29
  have n_32 : w.heap.size ≤ g_25 := Nat.le_trans hB.size l_29
  replace G_4 := G_4.to hb_27 G_4.lt
  replace G_11 := G_11.to hb_27 G_11.lt
  replace R3_2 := Rd.to R3_2 hb_27
  replace R6_4 := Rd.to R6_4 hb_27
  replace hB := hB.trans (hb_27.mono hB.size)
  clear hb_27 l_29 z_30
  go_wp2_with (first | (with_reducible refine stop_store ?_) | (with_reducible refine stop_box ?_) | (with_reducible refine stop_alloc ?_) | (with_reducible refine stop_bslice ?_) | (with_reducible refine stop_append ?_))
  unfold Kept
  refine wpList_st 0 #[.int .u32 (W32 iv), .int .i64 nid, .bool ctl, .int .i64 ttl, .int .u32 (W32 seq), .int .u16 (W16 src), .int .u16 (W16 dst), .slice A6_4 pay.length c6_4] #[.int .u32 (W32 iv), .int .i64 nid, .bool ctl, .int .i64 ttl, .int .u32 (W32 seq), .int .u16 (W16 src), .int .u16 (W16 dst), .slice A6_4 pay.length c6_4] G_28 rfl rfl (by kernel_rfl) rfl (of_decide_eq_true rfl) rfl ?_
  intro w_33 G_35 hU_34
  replace G_4 := hU_34.blk G_4 (by omega)
  replace G_11 := hU_34.blk G_11 (by omega)
  replace R3_2 := RdB.upd R3_2 G_28 hU_34 (by rfl)
  replace R6_4 := RdB.upd R6_4 G_28 hU_34 (by rfl)
  replace hB := hU_34.below hB (by omega)
  clear G_28 hU_34
  go_wp2_with (first | (with_reducible refine stop_store ?_) | (with_reducible refine stop_box ?_) | (with_reducible refine stop_alloc ?_) | (with_reducible refine stop_bslice ?_) | (with_reducible refine stop_append ?_) | ((with_reducible refine wpList_ld 0 [.int .u32 (W32 iv), .int .i64 nid, .bool ctl, .int .i64 ttl, .int .u32 (W32 seq), .int .u16 (W16 src), .int .u16 (W16 dst), .slice A pay.length c] G_11 ?_ ?_ Try.underlying44 ?_ ?_ ?_); rfl; rfl; rfl; kernel_rfl) | ((with_reducible refine wpList_ldg 0 [.int .u32 (W32 iv), .int .i64 nid, .bool ctl, .int .i64 ttl, .int .u32 (W32 seq), .int .u16 (W16 src), .int .u16 (W16 dst), .slice A pay.length c] G_11 ?_ ?_ Try.underlying44 ?_ ?_ ?_ ?_); rfl; rfl; rfl; kernel_rfl; rfl) | ((with_reducible refine wpList_ld 0 [.int .u32 (W32 iv), .int .i64 nid, .bool ctl, .int .i64 ttl, .int .u32 (W32 seq), .int .u16 (W16 src), .int .u16 (W16 dst), .slice A6_4 pay.length c6_4] G_35 ?_ ?_ Try.underlying44 ?_ ?_ ?_); rfl; rfl; rfl; kernel_rfl) | ((with_reducible refine wpList_ldg 0 [.int .u32 (W32 iv), .int .i64 nid, .bool ctl, .int .i64 ttl, .int .u32 (W32 seq), .int .u16 (W16 src), .int .u16 (W16 dst), .slice A6_4 pay.length c6_4] G_35 ?_ ?_ Try.underlying44 ?_ ?_ ?_ ?_); rfl; rfl; rfl; kernel_rfl; rfl))
  refine (M0.out _ _ _ _ _ (Rd.to hr hB) (R6_4)).mono ?_; rintro e w_38 ⟨rfl, hb_39⟩
  replace G_4 := G_4.to hb_39 G_4.lt
  replace G_11 := G_11.to hb_39 G_11.lt
  replace G_35 := G_35.to hb_39 G_35.lt
  replace R3_2 := Rd.to R3_2 hb_39
  replace R6_4 := Rd.to R6_4 hb_39
  replace hB := hB.trans (hb_39.mono hB.size)
  clear hb_39
  have ld_40 : w_38.cell? ⟨g_8, 7, none⟩ = some (.slice A pay.length c) := G_11.cell 7
  go_wp2_with (first | (with_reducible refine stop_store ?_) | (with_reducible refine stop_box ?_) | (with_reducible refine stop_alloc ?_) | (with_reducible refine stop_bslice ?_) | (with_reducible refine stop_append ?_))
  unfold Kept
  refine go_mem (ty := 5) (cs := #[]) (fun g => .slice (some ⟨g, 0, none⟩) 0 0) rfl (by kernel_rfl) ?_
  intro g_41 w_42 z_46 l_45 hb_43 G_44
  clear ld_40
  have n_47 : g_25 < g_41 := Nat.lt_of_lt_of_le G_35.lt l_45
  have n_48 : w.heap.size ≤ g_41 := Nat.le_trans hB.size l_45
  replace G_4 := G_4.to hb_43 G_4.lt
  replace G_11 := G_11.to hb_43 G_11.lt
  replace G_35 := G_35.to hb_43 G_35.lt
  replace R3_2 := Rd.to R3_2 hb_43
  replace R6_4 := Rd.to R6_4 hb_43
  replace hB := hB.trans (hb_43.mono hB.size)
  clear hb_43 l_45 z_46
  go_wp2_with (first | (with_reducible refine stop_store ?_) | (with_reducible refine stop_box ?_) | (with_reducible refine stop_alloc ?_) | (with_reducible refine stop_bslice ?_) | (with_reducible refine stop_append ?_))
  unfold Kept
  refine wpList_append_rd _ rfl _ _ 36 rfl w.heap.size 5 i0 _ 1 1 Try.underlying36 hi0 hz0 hz1 hz2 rfl (by omega) (.slice (some ⟨g_41, 0, none⟩) 0 0) 0 (bcells []) rfl (own_of_blk (l := []) G_44 (by omega) (by simp [maxLen])) A3_2 ((13 + pay.length)) c3_2 (bcells L) rfl (R3_2) (by rw [bcells_length, HLN.out, Nat.mul_one]) ((bcells_one _)) (by simp only [maxLen]; omega) (by omega) hB.size ?_
  intro A_49 c_50 w_51 ho_52 hb_53 hg_54
  replace ho_52 : w_51.ownsRow w.heap.size 5 1 (.slice A_49 ((13 + pay.length)) c_50) ((13 + pay.length)) ((bcells L)) := by skip; rw [Nat.zero_add] at ho_52; exact ho_52
  replace G_4 := Blk.own G_4 (own_of_blk (l := []) G_44 (by omega) (by simp [maxLen])) (by decide) hg_54
  replace G_11 := Blk.own G_11 (own_of_blk (l := []) G_44 (by omega) (by simp [maxLen])) (by decide) hg_54
  replace G_35 := Blk.own G_35 (own_of_blk (l := []) G_44 (by omega) (by simp [maxLen])) (by decide) hg_54
  clear R3_2
  clear R6_4
  replace hB := hB.trans hb_53
  clear G_44
  clear hg_54 hb_53
  obtain ⟨go, hAo, RC, cur, hcur⟩ := own_g ho_52 (by omega)
  subst hAo
  have ne_g_1 : g_1 ≠ go := own_ne hcur G_4 (by decide)
  have ne_g_8 : g_8 ≠ go := own_ne hcur G_11 (by decide)
  have ne_g_25 : g_25 ≠ go := own_ne hcur G_35 (by decide)
  clear ho_52 hcur cur
  have hge := RC.ge
  have hcy : w_51.cell? ⟨go, a, none⟩ = some (.int .u8 (W8 y)) := own_cell RC HY.out
  go_wp2_with (first | (with_reducible refine stop_store ?_) | (with_reducible refine stop_box ?_) | (with_reducible refine stop_alloc ?_) | (with_reducible refine stop_bslice ?_) | (with_reducible refine stop_append ?_))
  unfold Kept
  refine wpList_stc RC a (by omega) (y ^^^ x) rfl rfl (by kernel_rfl) ?_
  intro w_55 RC2 hU
  replace G_4 := hU.blk G_4 ne_g_1
  replace G_11 := hU.blk G_11 ne_g_8
  replace G_35 := hU.blk G_35 ne_g_25
  replace hB := hU.below hB hge
  clear hcy RC hU
  have RC := RC2
  clear RC2
  have ld_57 : w_55.cell? ⟨g_8, 0, none⟩ = some (.int .u32 (W32 iv)) := G_11.cell 0
  go_wp2_with (first | (with_reducible refine stop_store ?_) | (with_reducible refine stop_box ?_) | (with_reducible refine stop_alloc ?_) | (with_reducible refine stop_bslice ?_) | (with_reducible refine stop_append ?_) | ((with_reducible refine wpList_ld 0 [.int .u64 (W64 k1), .int .i64 k2, .int .u64 (W64 k3), .int .u64 (W64 k4), .int .u64 (W64 k5)] G_4 ?_ ?_ Try.underlying25 ?_ ?_ ?_); rfl; rfl; rfl; kernel_rfl))
  refine (D1.out _ (some ⟨go, 0, none⟩) c_50 (OwnC.rd RC) RC.room).mono ?_; rintro e w_58 ⟨A13_4, c13_4, rfl, R13_4, l13_4, hb_59⟩
  clear ld_57
  replace G_4 := G_4.to hb_59 G_4.lt
  replace G_11 := G_11.to hb_59 G_11.lt
  replace G_35 := G_35.to hb_59 G_35.lt
  replace RC := OwnC.to RC hb_59
  replace hB := hB.trans (hb_59.mono hB.size)
  clear hb_59
  go_wp2_with (first | (with_reducible refine stop_store ?_) | (with_reducible refine stop_box ?_) | (with_reducible refine stop_alloc ?_) | (with_reducible refine stop_bslice ?_) | (with_reducible refine stop_append ?_))
  unfold Kept
  refine go_mem (ty := 44) (cs := #[.int .u32 0, .int .i64 0, .bool false, .int .i64 0, .int .u32 0, .int .u16 0, .int .u16 0, .slice none 0 0]) (fun g => .pointer (some ⟨g, 0, none⟩)) rfl (by kernel_rfl) ?_
  intro g_60 w_61 z_65 l_64 hb_62 G_63
  have n_66 : g_25 < g_60 := Nat.lt_of_lt_of_le G_35.lt l_64
  have n_67 : w.heap.size ≤ g_60 := Nat.le_trans hB.size l_64
  have n_68 : go < g_60 := Nat.lt_of_lt_of_le RC.lt l_64
  replace G_4 := G_4.to hb_62 G_4.lt
  replace G_11 := G_11.to hb_62 G_11.lt
  replace G_35 := G_35.to hb_62 G_35.lt
  replace RC := OwnC.to RC hb_62
  replace R13_4 := Rd.to R13_4 hb_62
  replace hB := hB.trans (hb_62.mono hB.size)
  clear hb_62 l_64 z_65
  go_wp2_with (first | (with_reducible refine stop_store ?_) | (with_reducible refine stop_box ?_) | (with_reducible refine stop_alloc ?_) | (with_reducible refine stop_bslice ?_) | (with_reducible refine stop_append ?_))
  unfold Kept
  refine wpList_st 0 #[.int .u32 (W32 q.iv), .int .i64 q.nid, .bool q.ctl, .int .i64 q.ttl, .int .u32 (W32 q.seq), .int .u16 (W16 q.src), .int .u16 (W16 q.dst), .slice A13_4 q.pay.length c13_4] #[.int .u32 (W32 q.iv), .int .i64 q.nid, .bool q.ctl, .int .i64 q.ttl, .int .u32 (W32 q.seq), .int .u16 (W16 q.src), .int .u16 (W16 q.dst), .slice A13_4 q.pay.length c13_4] G_63 rfl rfl (by kernel_rfl) rfl (of_decide_eq_true rfl) rfl ?_
  intro w_69 G_71 hU_70
  replace G_4 := hU_70.blk G_4 (by omega)
  replace G_11 := hU_70.blk G_11 (by omega)
  replace G_35 := hU_70.blk G_35 (by omega)
  replace RC := OwnC.upd RC hU_70 (by omega)
  replace R13_4 := RdB.upd R13_4 G_63 hU_70 (by rfl)
  replace hB := hU_70.below hB (by omega)
  clear G_63 hU_70
  go_wp2_with (first | (with_reducible refine stop_store ?_) | (with_reducible refine stop_box ?_) | (with_reducible refine stop_alloc ?_) | (with_reducible refine stop_bslice ?_) | (with_reducible refine stop_append ?_) | ((with_reducible refine wpList_ld 0 [.int .u64 (W64 k1), .int .i64 k2, .int .u64 (W64 k3), .int .u64 (W64 k4), .int .u64 (W64 k5)] G_4 ?_ ?_ Try.underlying25 ?_ ?_ ?_); rfl; rfl; rfl; kernel_rfl) | ((with_reducible refine wpList_ld 0 [.int .u32 (W32 q.iv), .int .i64 q.nid, .bool q.ctl, .int .i64 q.ttl, .int .u32 (W32 q.seq), .int .u16 (W16 q.src), .int .u16 (W16 q.dst), .slice A13_4 q.pay.length c13_4] G_71 ?_ ?_ Try.underlying44 ?_ ?_ ?_); rfl; rfl; rfl; kernel_rfl) | ((with_reducible refine wpList_ldg 0 [.int .u32 (W32 q.iv), .int .i64 q.nid, .bool q.ctl, .int .i64 q.ttl, .int .u32 (W32 q.seq), .int .u16 (W16 q.src), .int .u16 (W16 q.dst), .slice A13_4 q.pay.length c13_4] G_71 ?_ ?_ Try.underlying44 ?_ ?_ ?_ ?_); rfl; rfl; rfl; kernel_rfl; rfl))
  refine (C1.out _ A13_4 c13_4 (R13_4)).mono ?_; rintro e w_74 ⟨A16_2, c16_2, rfl, R16_2, l16_2, hb_75⟩
  replace G_4 := G_4.to hb_75 G_4.lt
  replace G_11 := G_11.to hb_75 G_11.lt
  replace G_35 := G_35.to hb_75 G_35.lt
  replace G_71 := G_71.to hb_75 G_71.lt
  replace RC := OwnC.to RC hb_75
  replace R13_4 := Rd.to R13_4 hb_75
  replace hB := hB.trans (hb_75.mono hB.size)
  clear hb_75
  go_wp2_with (first | (with_reducible refine stop_store ?_) | (with_reducible refine stop_box ?_) | (with_reducible refine stop_alloc ?_) | (with_reducible refine stop_bslice ?_) | (with_reducible refine stop_append ?_))
  refine (lives48 _).mono ?_; rintro e w_76 ⟨rfl, hb_77⟩
  replace G_4 := G_4.to hb_77 G_4.lt
  replace G_11 := G_11.to hb_77 G_11.lt
  replace G_35 := G_35.to hb_77 G_35.lt
  replace G_71 := G_71.to hb_77 G_71.lt
  replace RC := OwnC.to RC hb_77
  replace R13_4 := Rd.to R13_4 hb_77
  replace R16_2 := Rd.to R16_2 hb_77
  replace hB := hB.trans (hb_77.mono hB.size)
  clear hb_77
  go_wp2_with (first | (with_reducible refine stop_store ?_) | (with_reducible refine stop_box ?_) | (with_reducible refine stop_alloc ?_) | (with_reducible refine stop_bslice ?_) | (with_reducible refine stop_append ?_))
  refine (same_t rfl (R16_2) (OwnC.rd RC) (HLS.out) (RC.len)).mono ?_; rintro e w_78 ⟨rfl, rfl⟩
  go_wp2_with (first | (with_reducible refine stop_store ?_) | (with_reducible refine stop_box ?_) | (with_reducible refine stop_alloc ?_) | (with_reducible refine stop_bslice ?_) | (with_reducible refine stop_append ?_) | ((with_reducible refine wpList_ld 0 [.int .u32 (W32 q.iv), .int .i64 q.nid, .bool q.ctl, .int .i64 q.ttl, .int .u32 (W32 q.seq), .int .u16 (W16 q.src), .int .u16 (W16 q.dst), .slice A13_4 q.pay.length c13_4] G_71 ?_ ?_ Try.underlying44 ?_ ?_ ?_); rfl; rfl; rfl; kernel_rfl) | ((with_reducible refine wpList_ldg 0 [.int .u32 (W32 q.iv), .int .i64 q.nid, .bool q.ctl, .int .i64 q.ttl, .int .u32 (W32 q.seq), .int .u16 (W16 q.src), .int .u16 (W16 q.dst), .slice A13_4 q.pay.length c13_4] G_71 ?_ ?_ Try.underlying44 ?_ ?_ ?_ ?_); rfl; rfl; rfl; kernel_rfl; rfl) | ((with_reducible refine wpList_ld 0 [.int .u32 (W32 iv), .int .i64 nid, .bool ctl, .int .i64 ttl, .int .u32 (W32 seq), .int .u16 (W16 src), .int .u16 (W16 dst), .slice A pay.length c] G_11 ?_ ?_ Try.underlying44 ?_ ?_ ?_); rfl; rfl; rfl; kernel_rfl) | ((with_reducible refine wpList_ldg 0 [.int .u32 (W32 iv), .int .i64 nid, .bool ctl, .int .i64 ttl, .int .u32 (W32 seq), .int .u16 (W16 src), .int .u16 (W16 dst), .slice A pay.length c] G_11 ?_ ?_ Try.underlying44 ?_ ?_ ?_ ?_); rfl; rfl; rfl; kernel_rfl; rfl))
  refine (M1.out _ _ _ _ _ (R13_4) (Rd.to hr hB)).mono ?_; rintro e w_82 ⟨rfl, hb_83⟩
  replace G_4 := G_4.to hb_83 G_4.lt
  replace G_11 := G_11.to hb_83 G_11.lt
  replace G_35 := G_35.to hb_83 G_35.lt
  replace G_71 := G_71.to hb_83 G_71.lt
  replace RC := OwnC.to RC hb_83
  replace R13_4 := Rd.to R13_4 hb_83
  replace R16_2 := Rd.to R16_2 hb_83
  replace hB := hB.trans (hb_83.mono hB.size)
  clear hb_83
  go_wp2_with (first | (with_reducible refine stop_store ?_) | (with_reducible refine stop_box ?_) | (with_reducible refine stop_alloc ?_) | (with_reducible refine stop_bslice ?_) | (with_reducible refine stop_append ?_))
  go_returns
  exact ⟨rfl, hB⟩
theorem law_NetpduBack (k1 : BitVec 64) (k2 : Int) (wk2 : (Lit.int .i64 k2).wf = true) (k3 k4 k5 : BitVec 64) (iv : BitVec 32) (nid : Int) (wnid : (Lit.int .i64 nid).wf = true) (ctl : Bool) (ttl : Int) (wttl : (Lit.int .i64 ttl).wf = true) (seq : BitVec 32) (src dst : BitVec 16) (A : Option Addr) (c : Nat) (pay : List (BitVec 8)) (at_ : Int) (wat : (Lit.int .i64 at_).wf = true) (x : BitVec 8) (w : World) (hr : RdB w A pay) (hc : pay.length ≤ c) :
    Calls Try.prog 11 #[.agg #[.int .u64 (W64 k1), .int .i64 k2, .int .u64 (W64 k3), .int .u64 (W64 k4), .int .u64 (W64 k5)], .agg #[.int .u32 (W32 iv), .int .i64 nid, .bool ctl, .int .i64 ttl, .int .u32 (W32 seq), .int .u16 (W16 src), .int .u16 (W16 dst), .slice A pay.length c], .int .i64 at_, .int .u8 (W8 x)] w fun e w' => e = .returned (.bool true) ∧ Below w.heap.size w w' := by
  rcases Nat.lt_or_ge 100 pay.length with h | hl
  · exact nbk_g k1 k2 k3 k4 k5 iv nid ctl ttl seq src dst A c pay at_ x w h
  obtain ⟨ck, hck⟩ : ∃ z, checkN ⟨iv, nid, ctl, ttl, seq, src, dst, pay⟩ = z := ⟨_, rfl⟩
  by_cases h0 : ck = 0
  · subst h0
    by_cases hk : nid = k2
    · have henc : encN ⟨k1, k2, k3, k4, k5⟩ ⟨iv, nid, ctl, ttl, seq, src, dst, pay⟩ = (encB ⟨k1, k2, k3, k4, k5⟩ ⟨iv, nid, ctl, ttl, seq, src, dst, pay⟩, 0) := by unfold encN; rw [hck, if_neg (by decide), if_neg (by simp [hk])]
      have hll := encB_length ⟨k1, k2, k3, k4, k5⟩ ⟨iv, nid, ctl, ttl, seq, src, dst, pay⟩
      have hd0 := dec_enc ⟨k1, k2, k3, k4, k5⟩ ⟨iv, nid, ctl, ttl, seq, src, dst, pay⟩ hck hk
      have hhead := dec_head ⟨k1, k2, k3, k4, k5⟩ ⟨iv, nid, ctl, ttl, seq, src, dst, pay⟩ hck hk
      have hhd := (encB_drop ⟨k1, k2, k3, k4, k5⟩ ⟨iv, nid, ctl, ttl, seq, src, dst, pay⟩).2.2
      generalize encB ⟨k1, k2, k3, k4, k5⟩ ⟨iv, nid, ctl, ttl, seq, src, dst, pay⟩ = L at *
      dsimp only at hll hd0 hhead hhd
      by_cases a0 : at_ < 0
      · exact nbk_l1 k1 k2 k3 k4 k5 iv nid ctl ttl seq src dst A c pay at_ x w hr hc hl L henc hll hd0 a0
      by_cases a1 : (13 : Int) + (pay.length : Int) ≤ at_
      · exact nbk_l2 k1 k2 k3 k4 k5 iv nid ctl ttl seq src dst A c pay at_ x w hr hc hl L henc hll hd0 (by omega) a1
      by_cases hx0 : x = 0#8
      · subst hx0
        exact nbk_l3 k1 k2 k3 k4 k5 iv nid ctl ttl seq src dst A c pay at_ w hr hc hl L henc hll hd0 (by omega) (by omega)
      obtain ⟨a, rfl⟩ := Int.eq_ofNat_of_zero_le (show 0 ≤ at_ by omega)
      have ha : a < 13 + pay.length := by omega
      obtain ⟨y, hy⟩ : ∃ y, L[a]? = some y := ⟨L[a]'(by omega), List.getElem?_eq_getElem _⟩
      obtain ⟨⟨q, en⟩, hd1⟩ : ∃ z, decN ⟨k1, k2, k3, k4, k5⟩ iv (L.set a (y ^^^ x)) = z := ⟨_, rfl⟩
      have hz : a = 0 → en = 17 := by
        rintro rfl
        have hyh : y = headN iv nid := by
          rcases L with _ | ⟨b, L⟩
          · simp at hy
          · rw [← hhd]; simpa using hy.symm
        have := hhead x hx0
        rw [← hyh, hd1] at this
        exact this
      by_cases ha0 : a = 0
      · have := hz ha0
        subst this
        exact nbk_z k1 k2 k3 k4 k5 iv nid ctl ttl seq src dst A c pay a x y q w hr hc hl L henc hll hd0 hy ha hx0 hd1 ha0
      by_cases hen : en = 0
      · subst hen
        obtain ⟨hq1, _, _, _⟩ := enc_dec ⟨k1, k2, k3, k4, k5⟩ iv _ q hd1
        refine nbk_o k1 k2 k3 k4 k5 iv nid ctl ttl seq src dst A c pay a x y q w hr hc hl L henc hll hd0 hy ha hx0 hd1 (by omega) hq1 ?_
        rintro rfl
        rw [henc] at hq1
        injection hq1 with hs _
        have h2 : L[a]? = some (y ^^^ x) := by rw [hs, List.getElem?_set]; simp; omega
        rw [hy] at h2
        injection h2 with h2
        apply hx0
        have := congrArg (fun z => y ^^^ z) h2
        simp only [BitVec.xor_self, ← BitVec.xor_assoc, BitVec.zero_xor] at this
        exact this.symm
      · exact nbk_p k1 k2 k3 k4 k5 iv nid ctl ttl seq src dst A c pay a x y q en w hr hc hl L henc hll hd0 hy ha hx0 hd1 hen (by omega)
    · exact nbk_k k1 k2 k3 k4 k5 iv nid ctl ttl seq src dst A c pay at_ x w hr hc hl (by unfold encN; rw [hck, if_neg (by decide), if_pos hk])
  · exact nbk_c k1 k2 k3 k4 k5 iv nid ctl ttl seq src dst A c pay at_ x ck w hr hc hl (by unfold encN; rw [hck, if_pos h0]) hck h0
end Go.Proofs.Ytbkaeoaepmeceaa
