/- The law walk of NetpduOthers (layer 48). -/
import Derived.Test.YtbkaeoaepmeceaaNetH
namespace Go.Proofs.Ytbkaeoaepmeceaa
set_option maxRecDepth 100000
open Go.ChangeShapes Go.WideShapes Go.ChangeAt Go.RowKit
set_option linter.unusedVariables false
set_option linter.unusedSimpArgs false

set_option maxHeartbeats 4000000 in
theorem noth_g (k1 : BitVec 64) (k2 : Int) (k3 k4 k5 : BitVec 64) (l1 : BitVec 64) (l2 : Int) (l3 l4 l5 : BitVec 64) (iv : BitVec 32) (nid : Int) (ctl : Bool) (ttl : Int) (seq : BitVec 32) (src dst : BitVec 16) (A : Option Addr) (c : Nat) (pay : List (BitVec 8)) (jv : BitVec 32) (w : World) (hr : RdB w A pay) (hc : pay.length ≤ c) (hl : 100 < pay.length) :
    Calls Try.prog 13 #[.agg #[.int .u64 (W64 k1), .int .i64 k2, .int .u64 (W64 k3), .int .u64 (W64 k4), .int .u64 (W64 k5)], .agg #[.int .u64 (W64 l1), .int .i64 l2, .int .u64 (W64 l3), .int .u64 (W64 l4), .int .u64 (W64 l5)], .agg #[.int .u32 (W32 iv), .int .i64 nid, .bool ctl, .int .i64 ttl, .int .u32 (W32 seq), .int .u16 (W16 src), .int .u16 (W16 dst), .slice A pay.length c], .int .u32 (W32 jv)] w fun e w' => e = .returned (.bool true) ∧ Below w.heap.size w w' := by
  obtain ⟨⟨L, en⟩, henc⟩ : ∃ x, encN ⟨k1, k2, k3, k4, k5⟩ ⟨iv, nid, ctl, ttl, seq, src, dst, pay⟩ = x := ⟨_, rfl⟩
  have C0 := Lib.hid (fun W A' c' (h : RdB W A' pay) => show Calls Try.prog 32 #[.agg #[.int .u64 (W64 k1), .int .i64 k2, .int .u64 (W64 k3), .int .u64 (W64 k4), .int .u64 (W64 k5)], .agg #[.int .u32 (W32 iv), .int .i64 nid, .bool ctl, .int .i64 ttl, .int .u32 (W32 seq), .int .u16 (W16 src), .int .u16 (W16 dst), .slice A' pay.length c']] W fun e w' => ∃ A1 c1, e = .returned (.tuple #[.slice A1 L.length c1, .int .i64 en]) ∧ RdB w' A1 L ∧ L.length ≤ c1 ∧ Below W.heap.size W w' from by
    have := net_EncodeA ⟨k1, k2, k3, k4, k5⟩ ⟨iv, nid, ctl, ttl, seq, src, dst, pay⟩ A' c' W h
    rw [henc] at this
    exact this)
  have i9 : decide ((100 : Int) < ((pay.length : Nat) : Int)) = true := by simp; omega
  clear hl henc
  go_enter Try.func13, Try.ntmps13
  have hB := Below.refl w.heap.size w
  go_wp2_with (first | (with_reducible refine stop_store ?_) | (with_reducible refine stop_box ?_) | (with_reducible refine stop_alloc ?_) | (with_reducible refine stop_bslice ?_))
  unfold Kept
  refine go_mem (ty := 25) (cs := #[.int .u64 (W64 k1), .int .i64 k2, .int .u64 (W64 k3), .int .u64 (W64 k4), .int .u64 (W64 k5)]) (fun g => .pointer (some ⟨g, 0, none⟩)) rfl (by kernel_rfl) ?_
  intro g_1 w_2 z_6 l_5 hb_3 G_4
  have n_7 : w.heap.size ≤ g_1 := Nat.le_trans hB.size l_5
  replace hB := hB.trans (hb_3.mono hB.size)
  clear hb_3 l_5 z_6
  go_wp2_with (first | (with_reducible refine stop_store ?_) | (with_reducible refine stop_box ?_) | (with_reducible refine stop_alloc ?_) | (with_reducible refine stop_bslice ?_))
  unfold Kept
  refine go_mem (ty := 25) (cs := #[.int .u64 (W64 l1), .int .i64 l2, .int .u64 (W64 l3), .int .u64 (W64 l4), .int .u64 (W64 l5)]) (fun g => .pointer (some ⟨g, 0, none⟩)) rfl (by kernel_rfl) ?_
  intro g_8 w_9 z_13 l_12 hb_10 G_11
  have n_14 : g_1 < g_8 := Nat.lt_of_lt_of_le G_4.lt l_12
  have n_15 : w.heap.size ≤ g_8 := Nat.le_trans hB.size l_12
  replace G_4 := G_4.to hb_10 G_4.lt
  replace hB := hB.trans (hb_10.mono hB.size)
  clear hb_10 l_12 z_13
  go_wp2_with (first | (with_reducible refine stop_store ?_) | (with_reducible refine stop_box ?_) | (with_reducible refine stop_alloc ?_) | (with_reducible refine stop_bslice ?_))
  unfold Kept
  refine go_mem (ty := 44) (cs := #[.int .u32 (W32 iv), .int .i64 nid, .bool ctl, .int .i64 ttl, .int .u32 (W32 seq), .int .u16 (W16 src), .int .u16 (W16 dst), .slice A pay.length c]) (fun g => .pointer (some ⟨g, 0, none⟩)) rfl (by kernel_rfl) ?_
  intro g_16 w_17 z_21 l_20 hb_18 G_19
  have n_22 : g_8 < g_16 := Nat.lt_of_lt_of_le G_11.lt l_20
  have n_23 : w.heap.size ≤ g_16 := Nat.le_trans hB.size l_20
  replace G_4 := G_4.to hb_18 G_4.lt
  replace G_11 := G_11.to hb_18 G_11.lt
  replace hB := hB.trans (hb_18.mono hB.size)
  clear hb_18 l_20 z_21
  go_wp2_with (first | (with_reducible refine stop_store ?_) | (with_reducible refine stop_box ?_) | (with_reducible refine stop_alloc ?_) | (with_reducible refine stop_bslice ?_) | ((with_reducible refine wpList_ld 0 [.int .u64 (W64 k1), .int .i64 k2, .int .u64 (W64 k3), .int .u64 (W64 k4), .int .u64 (W64 k5)] G_4 ?_ ?_ Try.underlying25 ?_ ?_ ?_); rfl; rfl; rfl; kernel_rfl) | ((with_reducible refine wpList_ld 0 [.int .u32 (W32 iv), .int .i64 nid, .bool ctl, .int .i64 ttl, .int .u32 (W32 seq), .int .u16 (W16 src), .int .u16 (W16 dst), .slice A pay.length c] G_19 ?_ ?_ Try.underlying44 ?_ ?_ ?_); rfl; rfl; rfl; kernel_rfl))
  refine (C0.out _ A c (Rd.to hr hB)).mono ?_; rintro e w_26 ⟨A1_2, c1_2, rfl, R1_2, l1_2, hb_27⟩
  replace G_4 := G_4.to hb_27 G_4.lt
  replace G_11 := G_11.to hb_27 G_11.lt
  replace G_19 := G_19.to hb_27 G_19.lt
  replace hB := hB.trans (hb_27.mono hB.size)
  clear hb_27
  have ld_28 : w_26.cell? ⟨g_16, 7, none⟩ = some (.slice A pay.length c) := G_19.cell 7
  go_wp2_with (first | (with_reducible refine stop_store ?_) | (with_reducible refine stop_box ?_) | (with_reducible refine stop_alloc ?_) | (with_reducible refine stop_bslice ?_))
  refine (lives48 _).mono ?_; rintro e w_29 ⟨rfl, hb_30⟩
  clear ld_28
  replace G_4 := G_4.to hb_30 G_4.lt
  replace G_11 := G_11.to hb_30 G_11.lt
  replace G_19 := G_19.to hb_30 G_19.lt
  replace R1_2 := Rd.to R1_2 hb_30
  replace hB := hB.trans (hb_30.mono hB.size)
  clear hb_30
  go_wp2_with (first | (with_reducible refine stop_store ?_) | (with_reducible refine stop_box ?_) | (with_reducible refine stop_alloc ?_) | (with_reducible refine stop_bslice ?_))
  go_returns
  exact ⟨rfl, hB⟩
set_option maxHeartbeats 4000000 in
theorem noth_e (k1 : BitVec 64) (k2 : Int) (k3 k4 k5 : BitVec 64) (l1 : BitVec 64) (l2 : Int) (l3 l4 l5 : BitVec 64) (iv : BitVec 32) (nid : Int) (ctl : Bool) (ttl : Int) (seq : BitVec 32) (src dst : BitVec 16) (A : Option Addr) (c : Nat) (pay : List (BitVec 8)) (jv : BitVec 32) (L : List (BitVec 8)) (en : Int) (w : World) (hr : RdB w A pay) (hc : pay.length ≤ c) (hl : pay.length ≤ 100) (henc : encN ⟨k1, k2, k3, k4, k5⟩ ⟨iv, nid, ctl, ttl, seq, src, dst, pay⟩ = (L, en)) (he : en ≠ 0) :
    Calls Try.prog 13 #[.agg #[.int .u64 (W64 k1), .int .i64 k2, .int .u64 (W64 k3), .int .u64 (W64 k4), .int .u64 (W64 k5)], .agg #[.int .u64 (W64 l1), .int .i64 l2, .int .u64 (W64 l3), .int .u64 (W64 l4), .int .u64 (W64 l5)], .agg #[.int .u32 (W32 iv), .int .i64 nid, .bool ctl, .int .i64 ttl, .int .u32 (W32 seq), .int .u16 (W16 src), .int .u16 (W16 dst), .slice A pay.length c], .int .u32 (W32 jv)] w fun e w' => e = .returned (.bool true) ∧ Below w.heap.size w w' := by
  have C0 := Lib.hid (fun W A' c' (h : RdB W A' pay) => show Calls Try.prog 32 #[.agg #[.int .u64 (W64 k1), .int .i64 k2, .int .u64 (W64 k3), .int .u64 (W64 k4), .int .u64 (W64 k5)], .agg #[.int .u32 (W32 iv), .int .i64 nid, .bool ctl, .int .i64 ttl, .int .u32 (W32 seq), .int .u16 (W16 src), .int .u16 (W16 dst), .slice A' pay.length c']] W fun e w' => ∃ A1 c1, e = .returned (.tuple #[.slice A1 L.length c1, .int .i64 en]) ∧ RdB w' A1 L ∧ L.length ≤ c1 ∧ Below W.heap.size W w' from by
    have := net_EncodeA ⟨k1, k2, k3, k4, k5⟩ ⟨iv, nid, ctl, ttl, seq, src, dst, pay⟩ A' c' W h
    rw [henc] at this
    exact this)
  have i9 : decide ((100 : Int) < ((pay.length : Nat) : Int)) = false := by simp; omega
  have e9 : ((en : Int) != 0) = true := by simpa using he
  clear hl henc he
  go_enter Try.func13, Try.ntmps13
  have hB := Below.refl w.heap.size w
  go_wp2_with (first | (with_reducible refine stop_store ?_) | (with_reducible refine stop_box ?_) | (with_reducible refine stop_alloc ?_) | (with_reducible refine stop_bslice ?_))
  unfold Kept
  refine go_mem (ty := 25) (cs := #[.int .u64 (W64 k1), .int .i64 k2, .int .u64 (W64 k3), .int .u64 (W64 k4), .int .u64 (W64 k5)]) (fun g => .pointer (some ⟨g, 0, none⟩)) rfl (by kernel_rfl) ?_
  intro g_1 w_2 z_6 l_5 hb_3 G_4
  have n_7 : w.heap.size ≤ g_1 := Nat.le_trans hB.size l_5
  replace hB := hB.trans (hb_3.mono hB.size)
  clear hb_3 l_5 z_6
  go_wp2_with (first | (with_reducible refine stop_store ?_) | (with_reducible refine stop_box ?_) | (with_reducible refine stop_alloc ?_) | (with_reducible refine stop_bslice ?_))
  unfold Kept
  refine go_mem (ty := 25) (cs := #[.int .u64 (W64 l1), .int .i64 l2, .int .u64 (W64 l3), .int .u64 (W64 l4), .int .u64 (W64 l5)]) (fun g => .pointer (some ⟨g, 0, none⟩)) rfl (by kernel_rfl) ?_
  intro g_8 w_9 z_13 l_12 hb_10 G_11
  have n_14 : g_1 < g_8 := Nat.lt_of_lt_of_le G_4.lt l_12
  have n_15 : w.heap.size ≤ g_8 := Nat.le_trans hB.size l_12
  replace G_4 := G_4.to hb_10 G_4.lt
  replace hB := hB.trans (hb_10.mono hB.size)
  clear hb_10 l_12 z_13
  go_wp2_with (first | (with_reducible refine stop_store ?_) | (with_reducible refine stop_box ?_) | (with_reducible refine stop_alloc ?_) | (with_reducible refine stop_bslice ?_))
  unfold Kept
  refine go_mem (ty := 44) (cs := #[.int .u32 (W32 iv), .int .i64 nid, .bool ctl, .int .i64 ttl, .int .u32 (W32 seq), .int .u16 (W16 src), .int .u16 (W16 dst), .slice A pay.length c]) (fun g => .pointer (some ⟨g, 0, none⟩)) rfl (by kernel_rfl) ?_
  intro g_16 w_17 z_21 l_20 hb_18 G_19
  have n_22 : g_8 < g_16 := Nat.lt_of_lt_of_le G_11.lt l_20
  have n_23 : w.heap.size ≤ g_16 := Nat.le_trans hB.size l_20
  replace G_4 := G_4.to hb_18 G_4.lt
  replace G_11 := G_11.to hb_18 G_11.lt
  replace hB := hB.trans (hb_18.mono hB.size)
  clear hb_18 l_20 z_21
  go_wp2_with (first | (with_reducible refine stop_store ?_) | (with_reducible refine stop_box ?_) | (with_reducible refine stop_alloc ?_) | (with_reducible refine stop_bslice ?_) | ((with_reducible refine wpList_ld 0 [.int .u64 (W64 k1), .int .i64 k2, .int .u64 (W64 k3), .int .u64 (W64 k4), .int .u64 (W64 k5)] G_4 ?_ ?_ Try.underlying25 ?_ ?_ ?_); rfl; rfl; rfl; kernel_rfl) | ((with_reducible refine wpList_ld 0 [.int .u32 (W32 iv), .int .i64 nid, .bool ctl, .int .i64 ttl, .int .u32 (W32 seq), .int .u16 (W16 src), .int .u16 (W16 dst), .slice A pay.length c] G_19 ?_ ?_ Try.underlying44 ?_ ?_ ?_); rfl; rfl; rfl; kernel_rfl))
  refine (C0.out _ A c (Rd.to hr hB)).mono ?_; rintro e w_26 ⟨A1_2, c1_2, rfl, R1_2, l1_2, hb_27⟩
  replace G_4 := G_4.to hb_27 G_4.lt
  replace G_11 := G_11.to hb_27 G_11.lt
  replace G_19 := G_19.to hb_27 G_19.lt
  replace hB := hB.trans (hb_27.mono hB.size)
  clear hb_27
  have ld_28 : w_26.cell? ⟨g_16, 7, none⟩ = some (.slice A pay.length c) := G_19.cell 7
  go_wp2_with (first | (with_reducible refine stop_store ?_) | (with_reducible refine stop_box ?_) | (with_reducible refine stop_alloc ?_) | (with_reducible refine stop_bslice ?_))
  refine (lives48 _).mono ?_; rintro e w_29 ⟨rfl, hb_30⟩
  clear ld_28
  replace G_4 := G_4.to hb_30 G_4.lt
  replace G_11 := G_11.to hb_30 G_11.lt
  replace G_19 := G_19.to hb_30 G_19.lt
  replace R1_2 := Rd.to R1_2 hb_30
  replace hB := hB.trans (hb_30.mono hB.size)
  clear hb_30
  go_wp2_with (first | (with_reducible refine stop_store ?_) | (with_reducible refine stop_box ?_) | (with_reducible refine stop_alloc ?_) | (with_reducible refine stop_bslice ?_))
  go_returns
  exact ⟨rfl, hB⟩
set_option maxHeartbeats 4000000 in
theorem noth_s (k1 : BitVec 64) (k2 : Int) (k3 k4 k5 : BitVec 64) (l1 : BitVec 64) (l3 l4 l5 : BitVec 64) (iv : BitVec 32) (nid : Int) (ctl : Bool) (ttl : Int) (seq : BitVec 32) (src dst : BitVec 16) (A : Option Addr) (c : Nat) (pay : List (BitVec 8)) (jv : BitVec 32) (L : List (BitVec 8)) (w : World) (hr : RdB w A pay) (hc : pay.length ≤ c) (hl : pay.length ≤ 100) (henc : encN ⟨k1, k2, k3, k4, k5⟩ ⟨iv, nid, ctl, ttl, seq, src, dst, pay⟩ = (L, 0)) (hb : jv % 2#32 = iv % 2#32) :
    Calls Try.prog 13 #[.agg #[.int .u64 (W64 k1), .int .i64 k2, .int .u64 (W64 k3), .int .u64 (W64 k4), .int .u64 (W64 k5)], .agg #[.int .u64 (W64 l1), .int .i64 k2, .int .u64 (W64 l3), .int .u64 (W64 l4), .int .u64 (W64 l5)], .agg #[.int .u32 (W32 iv), .int .i64 nid, .bool ctl, .int .i64 ttl, .int .u32 (W32 seq), .int .u16 (W16 src), .int .u16 (W16 dst), .slice A pay.length c], .int .u32 (W32 jv)] w fun e w' => e = .returned (.bool true) ∧ Below w.heap.size w w' := by
  have C0 := Lib.hid (fun W A' c' (h : RdB W A' pay) => show Calls Try.prog 32 #[.agg #[.int .u64 (W64 k1), .int .i64 k2, .int .u64 (W64 k3), .int .u64 (W64 k4), .int .u64 (W64 k5)], .agg #[.int .u32 (W32 iv), .int .i64 nid, .bool ctl, .int .i64 ttl, .int .u32 (W32 seq), .int .u16 (W16 src), .int .u16 (W16 dst), .slice A' pay.length c']] W fun e w' => ∃ A1 c1, e = .returned (.tuple #[.slice A1 L.length c1, .int .i64 0]) ∧ RdB w' A1 L ∧ L.length ≤ c1 ∧ Below W.heap.size W w' from by
    have := net_EncodeA ⟨k1, k2, k3, k4, k5⟩ ⟨iv, nid, ctl, ttl, seq, src, dst, pay⟩ A' c' W h
    rw [henc] at this
    exact this)
  have i9 : decide ((100 : Int) < ((pay.length : Nat) : Int)) = false := by simp; omega
  have e9 : ((W32 (jv % 2#32) : Int) == W32 (iv % 2#32)) = true := by rw [hb]; simp
  clear hl henc hb
  go_enter Try.func13, Try.ntmps13
  have hB := Below.refl w.heap.size w
  go_wp2_with (first | (with_reducible refine stop_store ?_) | (with_reducible refine stop_box ?_) | (with_reducible refine stop_alloc ?_) | (with_reducible refine stop_bslice ?_))
  unfold Kept
  refine go_mem (ty := 25) (cs := #[.int .u64 (W64 k1), .int .i64 k2, .int .u64 (W64 k3), .int .u64 (W64 k4), .int .u64 (W64 k5)]) (fun g => .pointer (some ⟨g, 0, none⟩)) rfl (by kernel_rfl) ?_
  intro g_1 w_2 z_6 l_5 hb_3 G_4
  have n_7 : w.heap.size ≤ g_1 := Nat.le_trans hB.size l_5
  replace hB := hB.trans (hb_3.mono hB.size)
  clear hb_3 l_5 z_6
  go_wp2_with (first | (with_reducible refine stop_store ?_) | (with_reducible refine stop_box ?_) | (with_reducible refine stop_alloc ?_) | (with_reducible refine stop_bslice ?_))
  unfold Kept
  refine go_mem (ty := 25) (cs := #[.int .u64 (W64 l1), .int .i64 k2, .int .u64 (W64 l3), .int .u64 (W64 l4), .int .u64 (W64 l5)]) (fun g => .pointer (some ⟨g, 0, none⟩)) rfl (by kernel_rfl) ?_
  intro g_8 w_9 z_13 l_12 hb_10 G_11
  have n_14 : g_1 < g_8 := Nat.lt_of_lt_of_le G_4.lt l_12
  have n_15 : w.heap.size ≤ g_8 := Nat.le_trans hB.size l_12
  replace G_4 := G_4.to hb_10 G_4.lt
  replace hB := hB.trans (hb_10.mono hB.size)
  clear hb_10 l_12 z_13
  go_wp2_with (first | (with_reducible refine stop_store ?_) | (with_reducible refine stop_box ?_) | (with_reducible refine stop_alloc ?_) | (with_reducible refine stop_bslice ?_))
  unfold Kept
  refine go_mem (ty := 44) (cs := #[.int .u32 (W32 iv), .int .i64 nid, .bool ctl, .int .i64 ttl, .int .u32 (W32 seq), .int .u16 (W16 src), .int .u16 (W16 dst), .slice A pay.length c]) (fun g => .pointer (some ⟨g, 0, none⟩)) rfl (by kernel_rfl) ?_
  intro g_16 w_17 z_21 l_20 hb_18 G_19
  have n_22 : g_8 < g_16 := Nat.lt_of_lt_of_le G_11.lt l_20
  have n_23 : w.heap.size ≤ g_16 := Nat.le_trans hB.size l_20
  replace G_4 := G_4.to hb_18 G_4.lt
  replace G_11 := G_11.to hb_18 G_11.lt
  replace hB := hB.trans (hb_18.mono hB.size)
  clear hb_18 l_20 z_21
  go_wp2_with (first | (with_reducible refine stop_store ?_) | (with_reducible refine stop_box ?_) | (with_reducible refine stop_alloc ?_) | (with_reducible refine stop_bslice ?_) | ((with_reducible refine wpList_ld 0 [.int .u64 (W64 k1), .int .i64 k2, .int .u64 (W64 k3), .int .u64 (W64 k4), .int .u64 (W64 k5)] G_4 ?_ ?_ Try.underlying25 ?_ ?_ ?_); rfl; rfl; rfl; kernel_rfl) | ((with_reducible refine wpList_ld 0 [.int .u32 (W32 iv), .int .i64 nid, .bool ctl, .int .i64 ttl, .int .u32 (W32 seq), .int .u16 (W16 src), .int .u16 (W16 dst), .slice A pay.length c] G_19 ?_ ?_ Try.underlying44 ?_ ?_ ?_); rfl; rfl; rfl; kernel_rfl))
  refine (C0.out _ A c (Rd.to hr hB)).mono ?_; rintro e w_26 ⟨A1_2, c1_2, rfl, R1_2, l1_2, hb_27⟩
  replace G_4 := G_4.to hb_27 G_4.lt
  replace G_11 := G_11.to hb_27 G_11.lt
  replace G_19 := G_19.to hb_27 G_19.lt
  replace hB := hB.trans (hb_27.mono hB.size)
  clear hb_27
  have ld_28 : w_26.cell? ⟨g_16, 7, none⟩ = some (.slice A pay.length c) := G_19.cell 7
  have ld_29 : w_26.cell? ⟨g_8, 1, none⟩ = some (.int .i64 k2) := G_11.cell 1
  have ld_30 : w_26.cell? ⟨g_1, 1, none⟩ = some (.int .i64 k2) := G_4.cell 1
  have ld_31 : w_26.cell? ⟨g_16, 0, none⟩ = some (.int .u32 (W32 iv)) := G_19.cell 0
  go_wp2_with (first | (with_reducible refine stop_store ?_) | (with_reducible refine stop_box ?_) | (with_reducible refine stop_alloc ?_) | (with_reducible refine stop_bslice ?_))
  refine (lives48 _).mono ?_; rintro e w_32 ⟨rfl, hb_33⟩
  clear ld_28 ld_29 ld_30 ld_31
  replace G_4 := G_4.to hb_33 G_4.lt
  replace G_11 := G_11.to hb_33 G_11.lt
  replace G_19 := G_19.to hb_33 G_19.lt
  replace R1_2 := Rd.to R1_2 hb_33
  replace hB := hB.trans (hb_33.mono hB.size)
  clear hb_33
  go_wp2_with (first | (with_reducible refine stop_store ?_) | (with_reducible refine stop_box ?_) | (with_reducible refine stop_alloc ?_) | (with_reducible refine stop_bslice ?_))
  go_returns
  exact ⟨rfl, hB⟩
set_option maxHeartbeats 4000000 in
theorem noth_n (k1 : BitVec 64) (k2 : Int) (k3 k4 k5 : BitVec 64) (l1 : BitVec 64) (l2 : Int) (l3 l4 l5 : BitVec 64) (iv : BitVec 32) (nid : Int) (ctl : Bool) (ttl : Int) (seq : BitVec 32) (src dst : BitVec 16) (A : Option Addr) (c : Nat) (pay : List (BitVec 8)) (jv : BitVec 32) (L : List (BitVec 8)) (w : World) (hr : RdB w A pay) (hc : pay.length ≤ c) (hl : pay.length ≤ 100) (henc : encN ⟨k1, k2, k3, k4, k5⟩ ⟨iv, nid, ctl, ttl, seq, src, dst, pay⟩ = (L, 0)) (hn : l2 ≠ k2) (hdec : decN ⟨l1, l2, l3, l4, l5⟩ jv L = (np0, 17)) :
    Calls Try.prog 13 #[.agg #[.int .u64 (W64 k1), .int .i64 k2, .int .u64 (W64 k3), .int .u64 (W64 k4), .int .u64 (W64 k5)], .agg #[.int .u64 (W64 l1), .int .i64 l2, .int .u64 (W64 l3), .int .u64 (W64 l4), .int .u64 (W64 l5)], .agg #[.int .u32 (W32 iv), .int .i64 nid, .bool ctl, .int .i64 ttl, .int .u32 (W32 seq), .int .u16 (W16 src), .int .u16 (W16 dst), .slice A pay.length c], .int .u32 (W32 jv)] w fun e w' => e = .returned (.bool true) ∧ Below w.heap.size w w' := by
  have C0 := Lib.hid (fun W A' c' (h : RdB W A' pay) => show Calls Try.prog 32 #[.agg #[.int .u64 (W64 k1), .int .i64 k2, .int .u64 (W64 k3), .int .u64 (W64 k4), .int .u64 (W64 k5)], .agg #[.int .u32 (W32 iv), .int .i64 nid, .bool ctl, .int .i64 ttl, .int .u32 (W32 seq), .int .u16 (W16 src), .int .u16 (W16 dst), .slice A' pay.length c']] W fun e w' => ∃ A1 c1, e = .returned (.tuple #[.slice A1 L.length c1, .int .i64 0]) ∧ RdB w' A1 L ∧ L.length ≤ c1 ∧ Below W.heap.size W w' from by
    have := net_EncodeA ⟨k1, k2, k3, k4, k5⟩ ⟨iv, nid, ctl, ttl, seq, src, dst, pay⟩ A' c' W h
    rw [henc] at this
    exact this)
  have CD := Lib.hid (fun W B d (h : RdB W B L) (hd : L.length ≤ d) => show Calls Try.prog 34 #[.agg #[.int .u64 (W64 l1), .int .i64 l2, .int .u64 (W64 l3), .int .u64 (W64 l4), .int .u64 (W64 l5)], .int .u32 (W32 jv), .slice B L.length d] W fun e w' => ∃ A1 c1, e = .returned (.tuple #[.agg #[.int .u32 0, .int .i64 0, .bool false, .int .i64 0, .int .u32 0, .int .u16 0, .int .u16 0, .slice A1 0 c1], .int .i64 17]) ∧ RdB w' A1 [] ∧ 0 ≤ c1 ∧ Below W.heap.size W w' from by
    have := net_Decode ⟨l1, l2, l3, l4, l5⟩ jv B d L W h hd
    rw [hdec] at this
    exact this)
  have i9 : decide ((100 : Int) < ((pay.length : Nat) : Int)) = false := by simp; omega
  have e9 : ((l2 : Int) == k2) = false := by simpa using hn
  clear hl henc hn hdec
  go_enter Try.func13, Try.ntmps13
  have hB := Below.refl w.heap.size w
  go_wp2_with (first | (with_reducible refine stop_store ?_) | (with_reducible refine stop_box ?_) | (with_reducible refine stop_alloc ?_) | (with_reducible refine stop_bslice ?_))
  unfold Kept
  refine go_mem (ty := 25) (cs := #[.int .u64 (W64 k1), .int .i64 k2, .int .u64 (W64 k3), .int .u64 (W64 k4), .int .u64 (W64 k5)]) (fun g => .pointer (some ⟨g, 0, none⟩)) rfl (by kernel_rfl) ?_
  intro g_1 w_2 z_6 l_5 hb_3 G_4
  have n_7 : w.heap.size ≤ g_1 := Nat.le_trans hB.size l_5
  replace hB := hB.trans (hb_3.mono hB.size)
  clear hb_3 l_5 z_6
  go_wp2_with (first | (with_reducible refine stop_store ?_) | (with_reducible refine stop_box ?_) | (with_reducible refine stop_alloc ?_) | (with_reducible refine stop_bslice ?_))
  unfold Kept
  refine go_mem (ty := 25) (cs := #[.int .u64 (W64 l1), .int .i64 l2, .int .u64 (W64 l3), .int .u64 (W64 l4), .int .u64 (W64 l5)]) (fun g => .pointer (some ⟨g, 0, none⟩)) rfl (by kernel_rfl) ?_
  intro g_8 w_9 z_13 l_12 hb_10 G_11
  have n_14 : g_1 < g_8 := Nat.lt_of_lt_of_le G_4.lt l_12
  have n_15 : w.heap.size ≤ g_8 := Nat.le_trans hB.size l_12
  replace G_4 := G_4.to hb_10 G_4.lt
  replace hB := hB.trans (hb_10.mono hB.size)
  clear hb_10 l_12 z_13
  go_wp2_with (first | (with_reducible refine stop_store ?_) | (with_reducible refine stop_box ?_) | (with_reducible refine stop_alloc ?_) | (with_reducible refine stop_bslice ?_))
  unfold Kept
  refine go_mem (ty := 44) (cs := #[.int .u32 (W32 iv), .int .i64 nid, .bool ctl, .int .i64 ttl, .int .u32 (W32 seq), .int .u16 (W16 src), .int .u16 (W16 dst), .slice A pay.length c]) (fun g => .pointer (some ⟨g, 0, none⟩)) rfl (by kernel_rfl) ?_
  intro g_16 w_17 z_21 l_20 hb_18 G_19
  have n_22 : g_8 < g_16 := Nat.lt_of_lt_of_le G_11.lt l_20
  have n_23 : w.heap.size ≤ g_16 := Nat.le_trans hB.size l_20
  replace G_4 := G_4.to hb_18 G_4.lt
  replace G_11 := G_11.to hb_18 G_11.lt
  replace hB := hB.trans (hb_18.mono hB.size)
  clear hb_18 l_20 z_21
  go_wp2_with (first | (with_reducible refine stop_store ?_) | (with_reducible refine stop_box ?_) | (with_reducible refine stop_alloc ?_) | (with_reducible refine stop_bslice ?_) | ((with_reducible refine wpList_ld 0 [.int .u64 (W64 k1), .int .i64 k2, .int .u64 (W64 k3), .int .u64 (W64 k4), .int .u64 (W64 k5)] G_4 ?_ ?_ Try.underlying25 ?_ ?_ ?_); rfl; rfl; rfl; kernel_rfl) | ((with_reducible refine wpList_ld 0 [.int .u32 (W32 iv), .int .i64 nid, .bool ctl, .int .i64 ttl, .int .u32 (W32 seq), .int .u16 (W16 src), .int .u16 (W16 dst), .slice A pay.length c] G_19 ?_ ?_ Try.underlying44 ?_ ?_ ?_); rfl; rfl; rfl; kernel_rfl))
  refine (C0.out _ A c (Rd.to hr hB)).mono ?_; rintro e w_26 ⟨A1_2, c1_2, rfl, R1_2, l1_2, hb_27⟩
  replace G_4 := G_4.to hb_27 G_4.lt
  replace G_11 := G_11.to hb_27 G_11.lt
  replace G_19 := G_19.to hb_27 G_19.lt
  replace hB := hB.trans (hb_27.mono hB.size)
  clear hb_27
  have ld_28 : w_26.cell? ⟨g_16, 7, none⟩ = some (.slice A pay.length c) := G_19.cell 7
  have ld_29 : w_26.cell? ⟨g_8, 1, none⟩ = some (.int .i64 l2) := G_11.cell 1
  have ld_30 : w_26.cell? ⟨g_1, 1, none⟩ = some (.int .i64 k2) := G_4.cell 1
  go_wp2_with (first | (with_reducible refine stop_store ?_) | (with_reducible refine stop_box ?_) | (with_reducible refine stop_alloc ?_) | (with_reducible refine stop_bslice ?_) | ((with_reducible refine wpList_ld 0 [.int .u64 (W64 l1), .int .i64 l2, .int .u64 (W64 l3), .int .u64 (W64 l4), .int .u64 (W64 l5)] G_11 ?_ ?_ Try.underlying25 ?_ ?_ ?_); rfl; rfl; rfl; kernel_rfl))
  refine (CD.out _ A1_2 c1_2 (R1_2) l1_2).mono ?_; rintro e w_32 ⟨A1, c1, rfl, R1, l1_, hb_33⟩
  clear ld_28 ld_29 ld_30
  replace G_4 := G_4.to hb_33 G_4.lt
  replace G_11 := G_11.to hb_33 G_11.lt
  replace G_19 := G_19.to hb_33 G_19.lt
  replace R1_2 := Rd.to R1_2 hb_33
  replace hB := hB.trans (hb_33.mono hB.size)
  clear hb_33
  go_wp2_with (first | (with_reducible refine stop_store ?_) | (with_reducible refine stop_box ?_) | (with_reducible refine stop_alloc ?_) | (with_reducible refine stop_bslice ?_))
  unfold Kept
  refine go_mem (ty := 44) (cs := #[.int .u32 0, .int .i64 0, .bool false, .int .i64 0, .int .u32 0, .int .u16 0, .int .u16 0, .slice none 0 0]) (fun g => .pointer (some ⟨g, 0, none⟩)) rfl (by kernel_rfl) ?_
  intro g_34 w_35 z_39 l_38 hb_36 G_37
  have n_40 : g_16 < g_34 := Nat.lt_of_lt_of_le G_19.lt l_38
  have n_41 : w.heap.size ≤ g_34 := Nat.le_trans hB.size l_38
  replace G_4 := G_4.to hb_36 G_4.lt
  replace G_11 := G_11.to hb_36 G_11.lt
  replace G_19 := G_19.to hb_36 G_19.lt
  replace R1_2 := Rd.to R1_2 hb_36
  replace R1 := Rd.to R1 hb_36
  replace hB := hB.trans (hb_36.mono hB.size)
  clear hb_36 l_38 z_39
  go_wp2_with (first | (with_reducible refine stop_store ?_) | (with_reducible refine stop_box ?_) | (with_reducible refine stop_alloc ?_) | (with_reducible refine stop_bslice ?_))
  unfold Kept
  refine wpList_st 0 #[.int .u32 0, .int .i64 0, .bool false, .int .i64 0, .int .u32 0, .int .u16 0, .int .u16 0, .slice A1 0 c1] #[.int .u32 0, .int .i64 0, .bool false, .int .i64 0, .int .u32 0, .int .u16 0, .int .u16 0, .slice A1 0 c1] G_37 rfl rfl (by kernel_rfl) rfl (of_decide_eq_true rfl) rfl ?_
  intro w_42 G_44 hU_43
  replace G_4 := hU_43.blk G_4 (by omega)
  replace G_11 := hU_43.blk G_11 (by omega)
  replace G_19 := hU_43.blk G_19 (by omega)
  replace R1_2 := RdB.upd R1_2 G_37 hU_43 (by rfl)
  replace R1 := RdB.upd R1 G_37 hU_43 (by rfl)
  replace hB := hU_43.below hB (by omega)
  clear G_37 hU_43
  go_wp2_with (first | (with_reducible refine stop_store ?_) | (with_reducible refine stop_box ?_) | (with_reducible refine stop_alloc ?_) | (with_reducible refine stop_bslice ?_))
  refine (lives48 _).mono ?_; rintro e w_45 ⟨rfl, hb_46⟩
  replace G_4 := G_4.to hb_46 G_4.lt
  replace G_11 := G_11.to hb_46 G_11.lt
  replace G_19 := G_19.to hb_46 G_19.lt
  replace G_44 := G_44.to hb_46 G_44.lt
  replace R1_2 := Rd.to R1_2 hb_46
  replace R1 := Rd.to R1 hb_46
  replace hB := hB.trans (hb_46.mono hB.size)
  clear hb_46
  go_wp2_with (first | (with_reducible refine stop_store ?_) | (with_reducible refine stop_box ?_) | (with_reducible refine stop_alloc ?_) | (with_reducible refine stop_bslice ?_))
  go_returns
  exact ⟨rfl, hB⟩
set_option maxHeartbeats 4000000 in
theorem noth_b (k1 : BitVec 64) (k2 : Int) (k3 k4 k5 : BitVec 64) (l1 : BitVec 64) (l3 l4 l5 : BitVec 64) (iv : BitVec 32) (nid : Int) (ctl : Bool) (ttl : Int) (seq : BitVec 32) (src dst : BitVec 16) (A : Option Addr) (c : Nat) (pay : List (BitVec 8)) (jv : BitVec 32) (L : List (BitVec 8)) (w : World) (hr : RdB w A pay) (hc : pay.length ≤ c) (hl : pay.length ≤ 100) (henc : encN ⟨k1, k2, k3, k4, k5⟩ ⟨iv, nid, ctl, ttl, seq, src, dst, pay⟩ = (L, 0)) (hb : jv % 2#32 ≠ iv % 2#32) (hdec : decN ⟨l1, k2, l3, l4, l5⟩ jv L = (np0, 17)) :
    Calls Try.prog 13 #[.agg #[.int .u64 (W64 k1), .int .i64 k2, .int .u64 (W64 k3), .int .u64 (W64 k4), .int .u64 (W64 k5)], .agg #[.int .u64 (W64 l1), .int .i64 k2, .int .u64 (W64 l3), .int .u64 (W64 l4), .int .u64 (W64 l5)], .agg #[.int .u32 (W32 iv), .int .i64 nid, .bool ctl, .int .i64 ttl, .int .u32 (W32 seq), .int .u16 (W16 src), .int .u16 (W16 dst), .slice A pay.length c], .int .u32 (W32 jv)] w fun e w' => e = .returned (.bool true) ∧ Below w.heap.size w w' := by
  have C0 := Lib.hid (fun W A' c' (h : RdB W A' pay) => show Calls Try.prog 32 #[.agg #[.int .u64 (W64 k1), .int .i64 k2, .int .u64 (W64 k3), .int .u64 (W64 k4), .int .u64 (W64 k5)], .agg #[.int .u32 (W32 iv), .int .i64 nid, .bool ctl, .int .i64 ttl, .int .u32 (W32 seq), .int .u16 (W16 src), .int .u16 (W16 dst), .slice A' pay.length c']] W fun e w' => ∃ A1 c1, e = .returned (.tuple #[.slice A1 L.length c1, .int .i64 0]) ∧ RdB w' A1 L ∧ L.length ≤ c1 ∧ Below W.heap.size W w' from by
    have := net_EncodeA ⟨k1, k2, k3, k4, k5⟩ ⟨iv, nid, ctl, ttl, seq, src, dst, pay⟩ A' c' W h
    rw [henc] at this
    exact this)
  have CD := Lib.hid (fun W B d (h : RdB W B L) (hd : L.length ≤ d) => show Calls Try.prog 34 #[.agg #[.int .u64 (W64 l1), .int .i64 k2, .int .u64 (W64 l3), .int .u64 (W64 l4), .int .u64 (W64 l5)], .int .u32 (W32 jv), .slice B L.length d] W fun e w' => ∃ A1 c1, e = .returned (.tuple #[.agg #[.int .u32 0, .int .i64 0, .bool false, .int .i64 0, .int .u32 0, .int .u16 0, .int .u16 0, .slice A1 0 c1], .int .i64 17]) ∧ RdB w' A1 [] ∧ 0 ≤ c1 ∧ Below W.heap.size W w' from by
    have := net_Decode ⟨l1, k2, l3, l4, l5⟩ jv B d L W h hd
    rw [hdec] at this
    exact this)
  have i9 : decide ((100 : Int) < ((pay.length : Nat) : Int)) = false := by simp; omega
  have e9 : ((W32 (jv % 2#32) : Int) == W32 (iv % 2#32)) = false := by rw [W32_beq]; simpa using hb
  clear hl henc hb hdec
  go_enter Try.func13, Try.ntmps13
  have hB := Below.refl w.heap.size w
  go_wp2_with (first | (with_reducible refine stop_store ?_) | (with_reducible refine stop_box ?_) | (with_reducible refine stop_alloc ?_) | (with_reducible refine stop_bslice ?_))
  unfold Kept
  refine go_mem (ty := 25) (cs := #[.int .u64 (W64 k1), .int .i64 k2, .int .u64 (W64 k3), .int .u64 (W64 k4), .int .u64 (W64 k5)]) (fun g => .pointer (some ⟨g, 0, none⟩)) rfl (by kernel_rfl) ?_
  intro g_1 w_2 z_6 l_5 hb_3 G_4
  have n_7 : w.heap.size ≤ g_1 := Nat.le_trans hB.size l_5
  replace hB := hB.trans (hb_3.mono hB.size)
  clear hb_3 l_5 z_6
  go_wp2_with (first | (with_reducible refine stop_store ?_) | (with_reducible refine stop_box ?_) | (with_reducible refine stop_alloc ?_) | (with_reducible refine stop_bslice ?_))
  unfold Kept
  refine go_mem (ty := 25) (cs := #[.int .u64 (W64 l1), .int .i64 k2, .int .u64 (W64 l3), .int .u64 (W64 l4), .int .u64 (W64 l5)]) (fun g => .pointer (some ⟨g, 0, none⟩)) rfl (by kernel_rfl) ?_
  intro g_8 w_9 z_13 l_12 hb_10 G_11
  have n_14 : g_1 < g_8 := Nat.lt_of_lt_of_le G_4.lt l_12
  have n_15 : w.heap.size ≤ g_8 := Nat.le_trans hB.size l_12
  replace G_4 := G_4.to hb_10 G_4.lt
  replace hB := hB.trans (hb_10.mono hB.size)
  clear hb_10 l_12 z_13
  go_wp2_with (first | (with_reducible refine stop_store ?_) | (with_reducible refine stop_box ?_) | (with_reducible refine stop_alloc ?_) | (with_reducible refine stop_bslice ?_))
  unfold Kept
  refine go_mem (ty := 44) (cs := #[.int .u32 (W32 iv), .int .i64 nid, .bool ctl, .int .i64 ttl, .int .u32 (W32 seq), .int .u16 (W16 src), .int .u16 (W16 dst), .slice A pay.length c]) (fun g => .pointer (some ⟨g, 0, none⟩)) rfl (by kernel_rfl) ?_
  intro g_16 w_17 z_21 l_20 hb_18 G_19
  have n_22 : g_8 < g_16 := Nat.lt_of_lt_of_le G_11.lt l_20
  have n_23 : w.heap.size ≤ g_16 := Nat.le_trans hB.size l_20
  replace G_4 := G_4.to hb_18 G_4.lt
  replace G_11 := G_11.to hb_18 G_11.lt
  replace hB := hB.trans (hb_18.mono hB.size)
  clear hb_18 l_20 z_21
  go_wp2_with (first | (with_reducible refine stop_store ?_) | (with_reducible refine stop_box ?_) | (with_reducible refine stop_alloc ?_) | (with_reducible refine stop_bslice ?_) | ((with_reducible refine wpList_ld 0 [.int .u64 (W64 k1), .int .i64 k2, .int .u64 (W64 k3), .int .u64 (W64 k4), .int .u64 (W64 k5)] G_4 ?_ ?_ Try.underlying25 ?_ ?_ ?_); rfl; rfl; rfl; kernel_rfl) | ((with_reducible refine wpList_ld 0 [.int .u32 (W32 iv), .int .i64 nid, .bool ctl, .int .i64 ttl, .int .u32 (W32 seq), .int .u16 (W16 src), .int .u16 (W16 dst), .slice A pay.length c] G_19 ?_ ?_ Try.underlying44 ?_ ?_ ?_); rfl; rfl; rfl; kernel_rfl))
  refine (C0.out _ A c (Rd.to hr hB)).mono ?_; rintro e w_26 ⟨A1_2, c1_2, rfl, R1_2, l1_2, hb_27⟩
  replace G_4 := G_4.to hb_27 G_4.lt
  replace G_11 := G_11.to hb_27 G_11.lt
  replace G_19 := G_19.to hb_27 G_19.lt
  replace hB := hB.trans (hb_27.mono hB.size)
  clear hb_27
  have ld_28 : w_26.cell? ⟨g_16, 7, none⟩ = some (.slice A pay.length c) := G_19.cell 7
  have ld_29 : w_26.cell? ⟨g_8, 1, none⟩ = some (.int .i64 k2) := G_11.cell 1
  have ld_30 : w_26.cell? ⟨g_1, 1, none⟩ = some (.int .i64 k2) := G_4.cell 1
  have ld_31 : w_26.cell? ⟨g_16, 0, none⟩ = some (.int .u32 (W32 iv)) := G_19.cell 0
  go_wp2_with (first | (with_reducible refine stop_store ?_) | (with_reducible refine stop_box ?_) | (with_reducible refine stop_alloc ?_) | (with_reducible refine stop_bslice ?_) | ((with_reducible refine wpList_ld 0 [.int .u64 (W64 l1), .int .i64 k2, .int .u64 (W64 l3), .int .u64 (W64 l4), .int .u64 (W64 l5)] G_11 ?_ ?_ Try.underlying25 ?_ ?_ ?_); rfl; rfl; rfl; kernel_rfl))
  refine (CD.out _ A1_2 c1_2 (R1_2) l1_2).mono ?_; rintro e w_33 ⟨A1, c1, rfl, R1, l1_, hb_34⟩
  clear ld_28 ld_29 ld_30 ld_31
  replace G_4 := G_4.to hb_34 G_4.lt
  replace G_11 := G_11.to hb_34 G_11.lt
  replace G_19 := G_19.to hb_34 G_19.lt
  replace R1_2 := Rd.to R1_2 hb_34
  replace hB := hB.trans (hb_34.mono hB.size)
  clear hb_34
  go_wp2_with (first | (with_reducible refine stop_store ?_) | (with_reducible refine stop_box ?_) | (with_reducible refine stop_alloc ?_) | (with_reducible refine stop_bslice ?_))
  unfold Kept
  refine go_mem (ty := 44) (cs := #[.int .u32 0, .int .i64 0, .bool false, .int .i64 0, .int .u32 0, .int .u16 0, .int .u16 0, .slice none 0 0]) (fun g => .pointer (some ⟨g, 0, none⟩)) rfl (by kernel_rfl) ?_
  intro g_35 w_36 z_40 l_39 hb_37 G_38
  have n_41 : g_16 < g_35 := Nat.lt_of_lt_of_le G_19.lt l_39
  have n_42 : w.heap.size ≤ g_35 := Nat.le_trans hB.size l_39
  replace G_4 := G_4.to hb_37 G_4.lt
  replace G_11 := G_11.to hb_37 G_11.lt
  replace G_19 := G_19.to hb_37 G_19.lt
  replace R1_2 := Rd.to R1_2 hb_37
  replace R1 := Rd.to R1 hb_37
  replace hB := hB.trans (hb_37.mono hB.size)
  clear hb_37 l_39 z_40
  go_wp2_with (first | (with_reducible refine stop_store ?_) | (with_reducible refine stop_box ?_) | (with_reducible refine stop_alloc ?_) | (with_reducible refine stop_bslice ?_))
  unfold Kept
  refine wpList_st 0 #[.int .u32 0, .int .i64 0, .bool false, .int .i64 0, .int .u32 0, .int .u16 0, .int .u16 0, .slice A1 0 c1] #[.int .u32 0, .int .i64 0, .bool false, .int .i64 0, .int .u32 0, .int .u16 0, .int .u16 0, .slice A1 0 c1] G_38 rfl rfl (by kernel_rfl) rfl (of_decide_eq_true rfl) rfl ?_
  intro w_43 G_45 hU_44
  replace G_4 := hU_44.blk G_4 (by omega)
  replace G_11 := hU_44.blk G_11 (by omega)
  replace G_19 := hU_44.blk G_19 (by omega)
  replace R1_2 := RdB.upd R1_2 G_38 hU_44 (by rfl)
  replace R1 := RdB.upd R1 G_38 hU_44 (by rfl)
  replace hB := hU_44.below hB (by omega)
  clear G_38 hU_44
  go_wp2_with (first | (with_reducible refine stop_store ?_) | (with_reducible refine stop_box ?_) | (with_reducible refine stop_alloc ?_) | (with_reducible refine stop_bslice ?_))
  refine (lives48 _).mono ?_; rintro e w_46 ⟨rfl, hb_47⟩
  replace G_4 := G_4.to hb_47 G_4.lt
  replace G_11 := G_11.to hb_47 G_11.lt
  replace G_19 := G_19.to hb_47 G_19.lt
  replace G_45 := G_45.to hb_47 G_45.lt
  replace R1_2 := Rd.to R1_2 hb_47
  replace R1 := Rd.to R1 hb_47
  replace hB := hB.trans (hb_47.mono hB.size)
  clear hb_47
  go_wp2_with (first | (with_reducible refine stop_store ?_) | (with_reducible refine stop_box ?_) | (with_reducible refine stop_alloc ?_) | (with_reducible refine stop_bslice ?_))
  go_returns
  exact ⟨rfl, hB⟩
theorem enc_okN {k : NK} {p : NP} {L : List (BitVec 8)} (h : encN k p = (L, 0)) : checkN p = 0 ∧ p.nid = k.nid ∧ L = encB k p := by
  unfold encN at h
  by_cases h1 : checkN p = 0
  · rw [h1, if_neg (by decide)] at h
    by_cases h2 : p.nid = k.nid
    · rw [if_neg (by simp [h2])] at h
      injection h with h3 _
      exact ⟨h1, h2, h3.symm⟩
    · rw [if_pos h2] at h
      injection h with _ h4
      exact absurd h4 (by decide)
  · rw [if_pos h1] at h
    injection h with _ h4
    exact absurd h4 h1
theorem other17 {k l : NK} {p : NP} {L : List (BitVec 8)} (jv : BitVec 32) (h : encN k p = (L, 0)) (hn : l.nid ≠ k.nid ∨ jv % 2#32 ≠ p.iv % 2#32) : decN l jv L = (np0, 17) := by
  obtain ⟨h1, h2, rfl⟩ := enc_okN h
  have h17 := dec_other k l p jv h1 h2 (hn.imp id (fun h e => h (by rw [mod2, mod2, e])))
  have h0 := dec_err l jv (encB k p) (by rw [h17]; decide)
  exact Prod.ext h0 h17
theorem law_NetpduOthers (k1 : BitVec 64) (k2 : Int) (wk2 : (Lit.int .i64 k2).wf = true) (k3 k4 k5 : BitVec 64) (l1 : BitVec 64) (l2 : Int) (wl2 : (Lit.int .i64 l2).wf = true) (l3 l4 l5 : BitVec 64) (iv : BitVec 32) (nid : Int) (wnid : (Lit.int .i64 nid).wf = true) (ctl : Bool) (ttl : Int) (wttl : (Lit.int .i64 ttl).wf = true) (seq : BitVec 32) (src dst : BitVec 16) (A : Option Addr) (c : Nat) (pay : List (BitVec 8)) (jv : BitVec 32) (w : World) (hr : RdB w A pay) (hc : pay.length ≤ c) :
    Calls Try.prog 13 #[.agg #[.int .u64 (W64 k1), .int .i64 k2, .int .u64 (W64 k3), .int .u64 (W64 k4), .int .u64 (W64 k5)], .agg #[.int .u64 (W64 l1), .int .i64 l2, .int .u64 (W64 l3), .int .u64 (W64 l4), .int .u64 (W64 l5)], .agg #[.int .u32 (W32 iv), .int .i64 nid, .bool ctl, .int .i64 ttl, .int .u32 (W32 seq), .int .u16 (W16 src), .int .u16 (W16 dst), .slice A pay.length c], .int .u32 (W32 jv)] w fun e w' => e = .returned (.bool true) ∧ Below w.heap.size w w' := by
  rcases Nat.lt_or_ge 100 pay.length with h | h
  · exact noth_g k1 k2 k3 k4 k5 l1 l2 l3 l4 l5 iv nid ctl ttl seq src dst A c pay jv w hr hc h
  obtain ⟨⟨L, en⟩, henc⟩ : ∃ x, encN ⟨k1, k2, k3, k4, k5⟩ ⟨iv, nid, ctl, ttl, seq, src, dst, pay⟩ = x := ⟨_, rfl⟩
  by_cases he : en = 0
  · subst he
    by_cases hn : l2 = k2
    · subst hn
      by_cases hb : jv % 2#32 = iv % 2#32
      · exact noth_s k1 l2 k3 k4 k5 l1 l3 l4 l5 iv nid ctl ttl seq src dst A c pay jv L w hr hc h henc hb
      · exact noth_b k1 l2 k3 k4 k5 l1 l3 l4 l5 iv nid ctl ttl seq src dst A c pay jv L w hr hc h henc hb (other17 jv henc (.inr hb))
    · exact noth_n k1 k2 k3 k4 k5 l1 l2 l3 l4 l5 iv nid ctl ttl seq src dst A c pay jv L w hr hc h henc hn (other17 (l := ⟨l1, l2, l3, l4, l5⟩) jv henc (.inl hn))
  · exact noth_e k1 k2 k3 k4 k5 l1 l2 l3 l4 l5 iv nid ctl ttl seq src dst A c pay jv L en w hr hc h henc he
end Go.Proofs.Ytbkaeoaepmeceaa
