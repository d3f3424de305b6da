/- The walk of EncryptOpens. -/
import Derived.Test.YtmehemojopfihaaEncX
import Derived.Test.YtmehemojopfihaaEncF
import Derived.Test.YtmehemojopfihaaEncF2
namespace Go.Proofs.Ytmehemojopfihaa
set_option maxRecDepth 100000
open Go.ChangeShapes Go.WideShapes Go.ChangeAt Go.RowKit
set_option linter.unusedVariables false
set_option linter.unusedSimpArgs false

set_option maxHeartbeats 4000000 in
theorem law_EncryptOpens_s (role : Int) (wrole : (Lit.int .i64 role).wf = true) (key salt : BitVec 64) (txon rxon : Bool) (tx rx : BitVec 64) (sn : Int) (wsn : (Lit.int .i64 sn).wf = true) (ne : Int) (wne : (Lit.int .i64 ne).wf = true) (md : Int) (wmd : (Lit.int .i64 md).wf = true) (ll : Int) (wll : (Lit.int .i64 ll).wf = true) (A : Option Addr) (c : Nat) (pay : List (BitVec 8)) (w : World) (hr : RdB w A pay) (hc : pay.length ≤ c) (hl : pay.length ≤ 1000) :
    Calls Try.prog 11 #[.agg #[.int .i64 role, .int .u64 (W64 key), .int .u64 (W64 salt), .bool txon, .bool rxon, .int .u64 (W64 tx), .int .u64 (W64 rx)], .agg #[.int .i64 sn, .int .i64 ne, .int .i64 md, .int .i64 ll, .slice A pay.length c]] w fun e w' => e = .returned (.bool true) ∧ Below w.heap.size w w' := by
  obtain ⟨⟨⟨s1, s2, s3, s4, s5⟩, en⟩, hs⟩ : ∃ r, openS ⟨role, key, salt, txon, rxon, tx, rx⟩ ⟨sn, ne, md, ll, pay⟩ = r := ⟨_, rfl⟩
  obtain ⟨m, hm⟩ : ∃ m, s5.length = m := ⟨_, rfl⟩
  have C1 := Lib.hid (fun (W : World) (h : RdB W A pay) => show Calls Try.prog 50 #[.agg #[.int .i64 role, .int .u64 (W64 key), .int .u64 (W64 salt), .bool txon, .bool rxon, .int .u64 (W64 tx), .int .u64 (W64 rx)], .agg #[.int .i64 sn, .int .i64 ne, .int .i64 md, .int .i64 ll, .slice A pay.length c]] W fun e w' => ∃ A' c', e = .returned (.tuple #[.agg #[.int .i64 s1, .int .i64 s2, .int .i64 s3, .int .i64 s4, .slice A' m c'], .int .i64 en]) ∧ RdB w' A' s5 ∧ m ≤ c' ∧ Below W.heap.size W w' from by
    have := enc_Open ⟨role, key, salt, txon, rxon, tx, rx⟩ ⟨sn, ne, md, ll, pay⟩ A c W h hl hc
    rw [hs] at this
    unfold RetP pduA at this
    dsimp only at this
    rw [hm] at this
    exact this)
  have C2 := Lib.hid (fun (W : World) (h : RdB W A pay) => show Calls Try.prog 51 #[.agg #[.int .i64 role, .int .u64 (W64 key), .int .u64 (W64 salt), .bool txon, .bool rxon, .int .u64 (W64 tx), .int .u64 (W64 rx)], .agg #[.int .i64 sn, .int .i64 ne, .int .i64 md, .int .i64 ll, .slice A pay.length c]] W fun e w' => ∃ A' c', e = .returned (.tuple #[.agg #[.int .i64 s1, .int .i64 s2, .int .i64 s3, .int .i64 s4, .slice A' m c'], .int .i64 en]) ∧ RdB w' A' s5 ∧ m ≤ c' ∧ Below W.heap.size W w' from by
    have := r29_Open ⟨role, key, salt, txon, rxon, tx, rx⟩ ⟨sn, ne, md, ll, pay⟩ A c W h hl hc
    rw [hs] at this
    unfold RetP pduA at this
    dsimp only at this
    rw [hm] at this
    exact this)
  have CM := Lib.hid (fun (W : World) A1 A2 c1 c2 (h : RdB W A1 s5) (h2 : RdB W A2 s5) => show Calls Try.prog 34 #[.agg #[.int .i64 s1, .int .i64 s2, .int .i64 s3, .int .i64 s4, .slice A1 m c1], .agg #[.int .i64 s1, .int .i64 s2, .int .i64 s3, .int .i64 s4, .slice A2 m c2]] W fun e w' => e = .returned (.bool true) ∧ Below W.heap.size W w' from by
    have := r23_SamePDU ⟨s1, s2, s3, s4, s5⟩ ⟨s1, s2, s3, s4, s5⟩ A1 A2 c1 c2 W h h2
    rw [(samePS_iff _ _).2 rfl] at this
    unfold pduA at this
    dsimp only at this
    rw [hm] at this
    exact this)
  have i0 : decide ((1000 : Int) < ((pay.length : Nat) : Int)) = false := by simp; omega
  have HL := Lib.hid hl
  have HC := Lib.hid hc
  clear hl hc hs hm
  go_enter Try.func11, Try.ntmps11
  go_wp2_with (first | (with_reducible refine stop_store ?_) | (with_reducible refine stop_box ?_) | (with_reducible refine stop_alloc ?_) | (with_reducible refine stop_bslice ?_))
  unfold Kept
  refine go_mem (ty := 40) (cs := #[.int .i64 role, .int .u64 (W64 key), .int .u64 (W64 salt), .bool txon, .bool rxon, .int .u64 (W64 tx), .int .u64 (W64 rx)]) (fun g => .pointer (some ⟨g, 0, none⟩)) rfl (by kernel_rfl) ?_
  intro g1 w2 z6 l5 hb3 G4
  have n7 : w.heap.size ≤ g1 := l5
  replace hr := Rd.to hr hb3
  have hB := hb3
  clear hb3 l5 z6
  go_wp2_with (first | (with_reducible refine stop_store ?_) | (with_reducible refine stop_box ?_) | (with_reducible refine stop_alloc ?_) | (with_reducible refine stop_bslice ?_))
  unfold Kept
  refine go_mem (ty := 49) (cs := #[.int .i64 sn, .int .i64 ne, .int .i64 md, .int .i64 ll, .slice A pay.length c]) (fun g => .pointer (some ⟨g, 0, none⟩)) rfl (by kernel_rfl) ?_
  intro g8 w9 z13 l12 hb10 G11
  have n14 : g1 < g8 := Nat.lt_of_lt_of_le G4.lt l12
  have n15 : w.heap.size ≤ g8 := Nat.le_trans hB.size l12
  replace G4 := G4.to hb10 G4.lt
  replace hr := Rd.to hr hb10
  replace hB := hB.trans (hb10.mono hB.size)
  clear hb10 l12 z13
  have ld16 : w9.cell? ⟨g8, 4, none⟩ = some (.slice A pay.length c) := G11.cell 4
  go_wp2_with (first | (with_reducible refine stop_store ?_) | (with_reducible refine stop_box ?_) | (with_reducible refine stop_alloc ?_) | (with_reducible refine stop_bslice ?_) | ((with_reducible refine wpList_ld 0 [.int .i64 role, .int .u64 (W64 key), .int .u64 (W64 salt), .bool txon, .bool rxon, .int .u64 (W64 tx), .int .u64 (W64 rx)] G4 ?_ ?_ Try.underlying40 ?_ ?_ ?_); rfl; rfl; rfl; kernel_rfl) | ((with_reducible refine wpList_ld 0 [.int .i64 sn, .int .i64 ne, .int .i64 md, .int .i64 ll, .slice A pay.length c] G11 ?_ ?_ Try.underlying49 ?_ ?_ ?_); rfl; rfl; rfl; kernel_rfl) | ((with_reducible refine wpList_ldg 0 [.int .i64 sn, .int .i64 ne, .int .i64 md, .int .i64 ll, .slice A pay.length c] G11 ?_ ?_ Try.underlying49 ?_ ?_ ?_ ?_); rfl; rfl; rfl; kernel_rfl; rfl))
  refine (C1.out _ hr).mono ?_; rintro e w19 ⟨A3_2, c3_2, rfl, R3_2, q3_2, hb20⟩
  clear ld16
  replace G4 := G4.to hb20 G4.lt
  replace G11 := G11.to hb20 G11.lt
  replace hr := Rd.to hr hb20
  replace hB := hB.trans (hb20.mono hB.size)
  clear hb20
  go_wp2_with (first | (with_reducible refine stop_store ?_) | (with_reducible refine stop_box ?_) | (with_reducible refine stop_alloc ?_) | (with_reducible refine stop_bslice ?_))
  unfold Kept
  refine go_mem (ty := 49) (cs := #[.int .i64 0, .int .i64 0, .int .i64 0, .int .i64 0, .slice none 0 0]) (fun g => .pointer (some ⟨g, 0, none⟩)) rfl (by kernel_rfl) ?_
  intro g21 w22 z26 l25 hb23 G24
  have n27 : g8 < g21 := Nat.lt_of_lt_of_le G11.lt l25
  have n28 : w.heap.size ≤ g21 := Nat.le_trans hB.size l25
  replace G4 := G4.to hb23 G4.lt
  replace G11 := G11.to hb23 G11.lt
  replace hr := Rd.to hr hb23
  replace R3_2 := Rd.to R3_2 hb23
  replace hB := hB.trans (hb23.mono hB.size)
  clear hb23 l25 z26
  go_wp2_with (first | (with_reducible refine stop_store ?_) | (with_reducible refine stop_box ?_) | (with_reducible refine stop_alloc ?_) | (with_reducible refine stop_bslice ?_))
  unfold Kept
  refine wpList_st 0 #[.int .i64 s1, .int .i64 s2, .int .i64 s3, .int .i64 s4, .slice A3_2 m c3_2] #[.int .i64 s1, .int .i64 s2, .int .i64 s3, .int .i64 s4, .slice A3_2 m c3_2] G24 rfl rfl (by kernel_rfl) rfl (of_decide_eq_true rfl) rfl ?_
  intro w29 G31 hU30
  replace G4 := hU30.blk G4 (by omega)
  replace G11 := hU30.blk G11 (by omega)
  replace hr := RdB.upd hr G24 hU30 (by rfl)
  replace R3_2 := RdB.upd R3_2 G24 hU30 (by rfl)
  replace hB := hU30.below hB (by omega)
  clear G24 hU30
  go_wp2_with (first | (with_reducible refine stop_store ?_) | (with_reducible refine stop_box ?_) | (with_reducible refine stop_alloc ?_) | (with_reducible refine stop_bslice ?_) | ((with_reducible refine wpList_ld 0 [.int .i64 role, .int .u64 (W64 key), .int .u64 (W64 salt), .bool txon, .bool rxon, .int .u64 (W64 tx), .int .u64 (W64 rx)] G4 ?_ ?_ Try.underlying40 ?_ ?_ ?_); rfl; rfl; rfl; kernel_rfl) | ((with_reducible refine wpList_ld 0 [.int .i64 sn, .int .i64 ne, .int .i64 md, .int .i64 ll, .slice A pay.length c] G11 ?_ ?_ Try.underlying49 ?_ ?_ ?_); rfl; rfl; rfl; kernel_rfl) | ((with_reducible refine wpList_ldg 0 [.int .i64 sn, .int .i64 ne, .int .i64 md, .int .i64 ll, .slice A pay.length c] G11 ?_ ?_ Try.underlying49 ?_ ?_ ?_ ?_); rfl; rfl; rfl; kernel_rfl; rfl))
  refine (C2.out _ hr).mono ?_; rintro e w34 ⟨A4_2, c4_2, rfl, R4_2, q4_2, hb35⟩
  replace G4 := G4.to hb35 G4.lt
  replace G11 := G11.to hb35 G11.lt
  replace G31 := G31.to hb35 G31.lt
  replace hr := Rd.to hr hb35
  replace R3_2 := Rd.to R3_2 hb35
  replace hB := hB.trans (hb35.mono hB.size)
  clear hb35
  go_wp2_with (first | (with_reducible refine stop_store ?_) | (with_reducible refine stop_box ?_) | (with_reducible refine stop_alloc ?_) | (with_reducible refine stop_bslice ?_))
  unfold Kept
  refine go_mem (ty := 49) (cs := #[.int .i64 0, .int .i64 0, .int .i64 0, .int .i64 0, .slice none 0 0]) (fun g => .pointer (some ⟨g, 0, none⟩)) rfl (by kernel_rfl) ?_
  intro g36 w37 z41 l40 hb38 G39
  have n42 : g21 < g36 := Nat.lt_of_lt_of_le G31.lt l40
  have n43 : w.heap.size ≤ g36 := Nat.le_trans hB.size l40
  replace G4 := G4.to hb38 G4.lt
  replace G11 := G11.to hb38 G11.lt
  replace G31 := G31.to hb38 G31.lt
  replace hr := Rd.to hr hb38
  replace R3_2 := Rd.to R3_2 hb38
  replace R4_2 := Rd.to R4_2 hb38
  replace hB := hB.trans (hb38.mono hB.size)
  clear hb38 l40 z41
  go_wp2_with (first | (with_reducible refine stop_store ?_) | (with_reducible refine stop_box ?_) | (with_reducible refine stop_alloc ?_) | (with_reducible refine stop_bslice ?_))
  unfold Kept
  refine wpList_st 0 #[.int .i64 s1, .int .i64 s2, .int .i64 s3, .int .i64 s4, .slice A4_2 m c4_2] #[.int .i64 s1, .int .i64 s2, .int .i64 s3, .int .i64 s4, .slice A4_2 m c4_2] G39 rfl rfl (by kernel_rfl) rfl (of_decide_eq_true rfl) rfl ?_
  intro w44 G46 hU45
  replace G4 := hU45.blk G4 (by omega)
  replace G11 := hU45.blk G11 (by omega)
  replace G31 := hU45.blk G31 (by omega)
  replace hr := RdB.upd hr G39 hU45 (by rfl)
  replace R3_2 := RdB.upd R3_2 G39 hU45 (by rfl)
  replace R4_2 := RdB.upd R4_2 G39 hU45 (by rfl)
  replace hB := hU45.below hB (by omega)
  clear G39 hU45
  go_wp2_with (first | (with_reducible refine stop_store ?_) | (with_reducible refine stop_box ?_) | (with_reducible refine stop_alloc ?_) | (with_reducible refine stop_bslice ?_) | ((with_reducible refine wpList_ld 0 [.int .i64 s1, .int .i64 s2, .int .i64 s3, .int .i64 s4, .slice A3_2 m c3_2] G31 ?_ ?_ Try.underlying49 ?_ ?_ ?_); rfl; rfl; rfl; kernel_rfl) | ((with_reducible refine wpList_ldg 0 [.int .i64 s1, .int .i64 s2, .int .i64 s3, .int .i64 s4, .slice A3_2 m c3_2] G31 ?_ ?_ Try.underlying49 ?_ ?_ ?_ ?_); rfl; rfl; rfl; kernel_rfl; rfl) | ((with_reducible refine wpList_ld 0 [.int .i64 s1, .int .i64 s2, .int .i64 s3, .int .i64 s4, .slice A4_2 m c4_2] G46 ?_ ?_ Try.underlying49 ?_ ?_ ?_); rfl; rfl; rfl; kernel_rfl) | ((with_reducible refine wpList_ldg 0 [.int .i64 s1, .int .i64 s2, .int .i64 s3, .int .i64 s4, .slice A4_2 m c4_2] G46 ?_ ?_ Try.underlying49 ?_ ?_ ?_ ?_); rfl; rfl; rfl; kernel_rfl; rfl))
  refine (CM.out _ _ _ _ _ R3_2 R4_2).mono ?_; rintro e w49 ⟨rfl, hb50⟩
  replace G4 := G4.to hb50 G4.lt
  replace G11 := G11.to hb50 G11.lt
  replace G31 := G31.to hb50 G31.lt
  replace G46 := G46.to hb50 G46.lt
  replace hr := Rd.to hr hb50
  replace R3_2 := Rd.to R3_2 hb50
  replace R4_2 := Rd.to R4_2 hb50
  replace hB := hB.trans (hb50.mono hB.size)
  clear hb50
  go_wp2_with (first | (with_reducible refine stop_store ?_) | (with_reducible refine stop_box ?_) | (with_reducible refine stop_alloc ?_) | (with_reducible refine stop_bslice ?_))
  refine (ex29 _).mono ?_; rintro e w51 ⟨rfl, hb52⟩
  replace G4 := G4.to hb52 G4.lt
  replace G11 := G11.to hb52 G11.lt
  replace G31 := G31.to hb52 G31.lt
  replace G46 := G46.to hb52 G46.lt
  replace hr := Rd.to hr hb52
  replace R3_2 := Rd.to R3_2 hb52
  replace R4_2 := Rd.to R4_2 hb52
  replace hB := hB.trans (hb52.mono hB.size)
  clear hb52
  go_wp2_with (first | (with_reducible refine stop_store ?_) | (with_reducible refine stop_box ?_) | (with_reducible refine stop_alloc ?_) | (with_reducible refine stop_bslice ?_))
  go_returns
  exact ⟨rfl, hB⟩
set_option maxHeartbeats 4000000 in
theorem law_EncryptOpens_b (role : Int) (wrole : (Lit.int .i64 role).wf = true) (key salt : BitVec 64) (txon rxon : Bool) (tx rx : BitVec 64) (sn : Int) (wsn : (Lit.int .i64 sn).wf = true) (ne : Int) (wne : (Lit.int .i64 ne).wf = true) (md : Int) (wmd : (Lit.int .i64 md).wf = true) (ll : Int) (wll : (Lit.int .i64 ll).wf = true) (A : Option Addr) (c : Nat) (pay : List (BitVec 8)) (w : World) (hr : RdB w A pay) (hc : pay.length ≤ c) (hl : 1000 < pay.length) :
    Calls Try.prog 11 #[.agg #[.int .i64 role, .int .u64 (W64 key), .int .u64 (W64 salt), .bool txon, .bool rxon, .int .u64 (W64 tx), .int .u64 (W64 rx)], .agg #[.int .i64 sn, .int .i64 ne, .int .i64 md, .int .i64 ll, .slice A pay.length c]] w fun e w' => e = .returned (.bool true) ∧ Below w.heap.size w w' := by
  have i0 : decide ((1000 : Int) < ((pay.length : Nat) : Int)) = true := by simp; omega
  have HL := Lib.hid hl
  have HC := Lib.hid hc
  clear hl hc
  go_enter Try.func11, Try.ntmps11
  go_wp2_with (first | (with_reducible refine stop_store ?_) | (with_reducible refine stop_box ?_) | (with_reducible refine stop_alloc ?_) | (with_reducible refine stop_bslice ?_))
  unfold Kept
  refine go_mem (ty := 40) (cs := #[.int .i64 role, .int .u64 (W64 key), .int .u64 (W64 salt), .bool txon, .bool rxon, .int .u64 (W64 tx), .int .u64 (W64 rx)]) (fun g => .pointer (some ⟨g, 0, none⟩)) rfl (by kernel_rfl) ?_
  intro g1 w2 z6 l5 hb3 G4
  have n7 : w.heap.size ≤ g1 := l5
  replace hr := Rd.to hr hb3
  have hB := hb3
  clear hb3 l5 z6
  go_wp2_with (first | (with_reducible refine stop_store ?_) | (with_reducible refine stop_box ?_) | (with_reducible refine stop_alloc ?_) | (with_reducible refine stop_bslice ?_))
  unfold Kept
  refine go_mem (ty := 49) (cs := #[.int .i64 sn, .int .i64 ne, .int .i64 md, .int .i64 ll, .slice A pay.length c]) (fun g => .pointer (some ⟨g, 0, none⟩)) rfl (by kernel_rfl) ?_
  intro g8 w9 z13 l12 hb10 G11
  have n14 : g1 < g8 := Nat.lt_of_lt_of_le G4.lt l12
  have n15 : w.heap.size ≤ g8 := Nat.le_trans hB.size l12
  replace G4 := G4.to hb10 G4.lt
  replace hr := Rd.to hr hb10
  replace hB := hB.trans (hb10.mono hB.size)
  clear hb10 l12 z13
  have ld16 : w9.cell? ⟨g8, 4, none⟩ = some (.slice A pay.length c) := G11.cell 4
  go_wp2_with (first | (with_reducible refine stop_store ?_) | (with_reducible refine stop_box ?_) | (with_reducible refine stop_alloc ?_) | (with_reducible refine stop_bslice ?_))
  refine (ex29 _).mono ?_; rintro e w17 ⟨rfl, hb18⟩
  clear ld16
  replace G4 := G4.to hb18 G4.lt
  replace G11 := G11.to hb18 G11.lt
  replace hr := Rd.to hr hb18
  replace hB := hB.trans (hb18.mono hB.size)
  clear hb18
  go_wp2_with (first | (with_reducible refine stop_store ?_) | (with_reducible refine stop_box ?_) | (with_reducible refine stop_alloc ?_) | (with_reducible refine stop_bslice ?_))
  go_returns
  exact ⟨rfl, hB⟩
theorem law_EncryptOpens (role : Int) (wrole : (Lit.int .i64 role).wf = true) (key salt : BitVec 64) (txon rxon : Bool) (tx rx : BitVec 64) (sn : Int) (wsn : (Lit.int .i64 sn).wf = true) (ne : Int) (wne : (Lit.int .i64 ne).wf = true) (md : Int) (wmd : (Lit.int .i64 md).wf = true) (ll : Int) (wll : (Lit.int .i64 ll).wf = true) (A : Option Addr) (c : Nat) (pay : List (BitVec 8)) (w : World) (hr : RdB w A pay) (hc : pay.length ≤ c) :
    Calls Try.prog 11 #[.agg #[.int .i64 role, .int .u64 (W64 key), .int .u64 (W64 salt), .bool txon, .bool rxon, .int .u64 (W64 tx), .int .u64 (W64 rx)], .agg #[.int .i64 sn, .int .i64 ne, .int .i64 md, .int .i64 ll, .slice A pay.length c]] w fun e w' => e = .returned (.bool true) ∧ Below w.heap.size w w' := by
  rcases Nat.lt_or_ge 1000 pay.length with h | h
  · exact law_EncryptOpens_b role wrole key salt txon rxon tx rx sn wsn ne wne md wmd ll wll A c pay w hr hc h
  · exact law_EncryptOpens_s role wrole key salt txon rxon tx rx sn wsn ne wne md wmd ll wll A c pay w hr hc h
end Go.Proofs.Ytmehemojopfihaa
