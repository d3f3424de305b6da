/- Contracts of layer 29 (encrypt): Seal of the reference. -/
import Derived.Test.YtmehemojopfihaaEncD
namespace Go.Proofs.Ytmehemojopfihaa
set_option maxRecDepth 100000
open Go.ChangeShapes Go.WideShapes Go.ChangeAt Go.RowKit
set_option linter.unusedVariables false
set_option linter.unusedSimpArgs false
set_option maxHeartbeats 4000000 in
theorem r29_Seal (s : Ses) (q : Pdu) (A : Option Addr) (c : Nat) (w : World) (hr : RdB w A q.pay) (hl : q.pay.length ≤ 1000) (hc : q.pay.length ≤ c) :
    Calls Try.prog 33 #[.agg (seA s), .agg (pduA q A c)] w (RetP w (sealS s q)) := by
  have B := box3 w 40 (seA s) 49 (pduA q A c) 49 #[.int .i64 0, .int .i64 0, .int .i64 0, .int .i64 0, .slice none 0 0]
  have C := Lib.hid (fun W => r23_Check q A c W)
  have K := Lib.hid (fun W => r23_Blank q A c W)
  obtain ⟨r, hs⟩ : ∃ r, sealS s q = r := ⟨_, rfl⟩
  rw [hs]
  have HS := Lib.hid hs
  clear hs
  obtain ⟨k, hk⟩ : ∃ k, checkS q = k := ⟨_, rfl⟩
  obtain ⟨b, hb⟩ : ∃ b, blankS q = b := ⟨_, rfl⟩
  rw [hk] at C
  rw [hb] at K
  have HK := Lib.hid hk
  have HB := Lib.hid hb
  clear hk hb
  obtain ⟨ro, ke, sa, to, rn, tx, rx⟩ := s
  obtain ⟨sn, ne, md, ll, pay⟩ := q
  unfold seA pduA at B
  unfold pduA at C
  unfold pakA at K
  unfold seA pduA
  dsimp only at B C K hr hl hc ⊢
  obtain ⟨n, hn⟩ : ∃ n, pay.length = n := ⟨_, rfl⟩
  rw [hn] at B C K hl hc ⊢
  have HN := Lib.hid hn
  clear hn
  by_cases h0 : k = 0
  case neg =>
    have e0 : (k != 0) = true := by simpa using h0
    have er : r = (nilP, k) := by rw [← HS.out]; unfold sealS; rw [HK.out, if_pos h0]
    subst er
    have hkk := Lib.hid h0
    clear h0
    go_enter Try.func33, Try.ntmps33
    go_wp2_with fail
    refine (C.out _).mono ?_; rintro e w1 ⟨rfl, hb1⟩
    have G1 := B.2.1.to hb1 B.2.1.lt
    have G2 := B.2.2.1.to hb1 B.2.2.1.lt
    have G3 := B.2.2.2.to hb1 B.2.2.2.lt
    have hB := B.1.trans (hb1.mono B.1.size)
    have hr1 := Rd.to hr hB
    have hfl : w1.cell? ⟨w.heap.size, 3, none⟩ = some (.bool to) := G1.cell 3
    have hp3 : w1.cell? ⟨w.heap.size + 1, 3, none⟩ = some (.int .i64 ll) := G2.cell 3
    have hp4 : w1.cell? ⟨w.heap.size + 1, 4, none⟩ = some (.slice A n c) := G2.cell 4
    clear B hb1
    go_wp2_with (first | ((with_reducible refine wpList_st 0 #[.int .i64 0, .int .i64 0, .int .i64 0, .int .i64 0, .slice none 0 0] #[.int .i64 0, .int .i64 0, .int .i64 0, .int .i64 0, .slice none 0 0] G3 ?_ ?_ ?_ ?_ ?_ ?_ ?_); rfl; rfl; kernel_rfl; rfl; exact of_decide_eq_true rfl; rfl; intro w4 hB4 hU4; have hb04 := hU4.below hB (by omega)))
    refine bodyPost_ret (results_ct rfl rfl (load_blk hB4 Try.underlying49 rfl (by kernel_rfl))) rfl ?_
    exact ⟨none, 0, rfl, Rd.nil _ _, Nat.le_refl _, hb04⟩
  subst h0
  cases to
  case false =>
    have er : r = (⟨sn, ne, md, ll, pay⟩, 0) := by rw [← HS.out]; unfold sealS; rw [HK.out]; rfl
    go_enter Try.func33, Try.ntmps33
    go_wp2_with fail
    refine (C.out _).mono ?_; rintro e w1 ⟨rfl, hb1⟩
    have G1 := B.2.1.to hb1 B.2.1.lt
    have G2 := B.2.2.1.to hb1 B.2.2.1.lt
    have G3 := B.2.2.2.to hb1 B.2.2.2.lt
    have hB := B.1.trans (hb1.mono B.1.size)
    have hr1 := Rd.to hr hB
    have hfl : w1.cell? ⟨w.heap.size, 3, none⟩ = some (.bool false) := G1.cell 3
    have hp3 : w1.cell? ⟨w.heap.size + 1, 3, none⟩ = some (.int .i64 ll) := G2.cell 3
    have hp4 : w1.cell? ⟨w.heap.size + 1, 4, none⟩ = some (.slice A n c) := G2.cell 4
    clear B hb1
    have p0 : w1.cell? ⟨w.heap.size + 1, 0, none⟩ = some (.int .i64 sn) := G2.cell 0
    have p1 : w1.cell? ⟨w.heap.size + 1, 1, none⟩ = some (.int .i64 ne) := G2.cell 1
    have p2 : w1.cell? ⟨w.heap.size + 1, 2, none⟩ = some (.int .i64 md) := G2.cell 2
    have p3 : w1.cell? ⟨w.heap.size + 1, 3, none⟩ = some (.int .i64 ll) := G2.cell 3
    have p4 : w1.cell? ⟨w.heap.size + 1, 4, none⟩ = some (.slice A n c) := G2.cell 4
    go_wp2_with (first | ((with_reducible refine wpList_st 0 #[.int .i64 sn, .int .i64 ne, .int .i64 md, .int .i64 ll, .slice A n c] #[.int .i64 sn, .int .i64 ne, .int .i64 md, .int .i64 ll, .slice A n c] G3 ?_ ?_ ?_ ?_ ?_ ?_ ?_); rfl; rfl; kernel_rfl; rfl; exact of_decide_eq_true rfl; rfl; intro w4 hB4 hU4; have hb04 := hU4.below hB (by omega)))
    refine bodyPost_ret (results_ct rfl rfl (load_blk hB4 Try.underlying49 rfl (by kernel_rfl))) rfl ?_
    rw [er]
    have hn := HN.out
    subst hn
    exact ⟨A, c, rfl, Rd.to hr hb04, hc, hb04⟩
  cases b
  case true =>
    have er : r = (⟨sn, ne, md, ll, pay⟩, 0) := by rw [← HS.out]; unfold sealS; rw [HK.out, HB.out]; rfl
    go_enter Try.func33, Try.ntmps33
    go_wp2_with fail
    refine (C.out _).mono ?_; rintro e w1 ⟨rfl, hb1⟩
    have G1 := B.2.1.to hb1 B.2.1.lt
    have G2 := B.2.2.1.to hb1 B.2.2.1.lt
    have G3 := B.2.2.2.to hb1 B.2.2.2.lt
    have hB := B.1.trans (hb1.mono B.1.size)
    have hr1 := Rd.to hr hB
    have hfl : w1.cell? ⟨w.heap.size, 3, none⟩ = some (.bool true) := G1.cell 3
    have hp3 : w1.cell? ⟨w.heap.size + 1, 3, none⟩ = some (.int .i64 ll) := G2.cell 3
    have hp4 : w1.cell? ⟨w.heap.size + 1, 4, none⟩ = some (.slice A n c) := G2.cell 4
    clear B hb1
    go_wp2_with fail
    refine (K.out _).mono ?_; rintro e w2 ⟨rfl, hb2⟩
    replace hr1 := Rd.to hr1 hb2
    replace hB := hB.trans (hb2.mono hB.size)
    replace G3 := G3.to hb2 G3.lt
    replace G2 := G2.to hb2 G2.lt
    replace G1 := G1.to hb2 G1.lt
    clear hfl hp3 hp4 hb2
    have hp3 : w2.cell? ⟨w.heap.size + 1, 3, none⟩ = some (.int .i64 ll) := G2.cell 3
    have hp4 : w2.cell? ⟨w.heap.size + 1, 4, none⟩ = some (.slice A n c) := G2.cell 4
    have p0 : w2.cell? ⟨w.heap.size + 1, 0, none⟩ = some (.int .i64 sn) := G2.cell 0
    have p1 : w2.cell? ⟨w.heap.size + 1, 1, none⟩ = some (.int .i64 ne) := G2.cell 1
    have p2 : w2.cell? ⟨w.heap.size + 1, 2, none⟩ = some (.int .i64 md) := G2.cell 2
    have p3 : w2.cell? ⟨w.heap.size + 1, 3, none⟩ = some (.int .i64 ll) := G2.cell 3
    have p4 : w2.cell? ⟨w.heap.size + 1, 4, none⟩ = some (.slice A n c) := G2.cell 4
    go_wp2_with (first | ((with_reducible refine wpList_st 0 #[.int .i64 sn, .int .i64 ne, .int .i64 md, .int .i64 ll, .slice A n c] #[.int .i64 sn, .int .i64 ne, .int .i64 md, .int .i64 ll, .slice A n c] G3 ?_ ?_ ?_ ?_ ?_ ?_ ?_); rfl; rfl; kernel_rfl; rfl; exact of_decide_eq_true rfl; rfl; intro w4 hB4 hU4; have hb04 := hU4.below hB (by omega)))
    refine bodyPost_ret (results_ct rfl rfl (load_blk hB4 Try.underlying49 rfl (by kernel_rfl))) rfl ?_
    rw [er]
    have hn := HN.out
    subst hn
    exact ⟨A, c, rfl, Rd.to hr hb04, hc, hb04⟩
  by_cases h5 : 251 < n
  · have e5 : decide ((251 : Int) < ((n : Nat) : Int)) = true := by simp; omega
    have er : r = (nilP, 4) := by rw [← HS.out]; unfold sealS; rw [HK.out, HB.out, if_neg (by simp), if_neg (by simp), if_pos (by rw [← HN.out] at h5; exact h5)]
    subst er
    have h55 := Lib.hid h5
    clear h5
    go_enter Try.func33, Try.ntmps33
    go_wp2_with fail
    refine (C.out _).mono ?_; rintro e w1 ⟨rfl, hb1⟩
    have G1 := B.2.1.to hb1 B.2.1.lt
    have G2 := B.2.2.1.to hb1 B.2.2.1.lt
    have G3 := B.2.2.2.to hb1 B.2.2.2.lt
    have hB := B.1.trans (hb1.mono B.1.size)
    have hr1 := Rd.to hr hB
    have hfl : w1.cell? ⟨w.heap.size, 3, none⟩ = some (.bool true) := G1.cell 3
    have hp3 : w1.cell? ⟨w.heap.size + 1, 3, none⟩ = some (.int .i64 ll) := G2.cell 3
    have hp4 : w1.cell? ⟨w.heap.size + 1, 4, none⟩ = some (.slice A n c) := G2.cell 4
    clear B hb1
    go_wp2_with fail
    refine (K.out _).mono ?_; rintro e w2 ⟨rfl, hb2⟩
    replace hr1 := Rd.to hr1 hb2
    replace hB := hB.trans (hb2.mono hB.size)
    replace G3 := G3.to hb2 G3.lt
    replace G2 := G2.to hb2 G2.lt
    replace G1 := G1.to hb2 G1.lt
    clear hfl hp3 hp4 hb2
    have hp3 : w2.cell? ⟨w.heap.size + 1, 3, none⟩ = some (.int .i64 ll) := G2.cell 3
    have hp4 : w2.cell? ⟨w.heap.size + 1, 4, none⟩ = some (.slice A n c) := G2.cell 4
    go_wp2_with (first | ((with_reducible refine wpList_st 0 #[.int .i64 0, .int .i64 0, .int .i64 0, .int .i64 0, .slice none 0 0] #[.int .i64 0, .int .i64 0, .int .i64 0, .int .i64 0, .slice none 0 0] G3 ?_ ?_ ?_ ?_ ?_ ?_ ?_); rfl; rfl; kernel_rfl; rfl; exact of_decide_eq_true rfl; rfl; intro w4 hB4 hU4; have hb04 := hU4.below hB (by omega)))
    refine bodyPost_ret (results_ct rfl rfl (load_blk hB4 Try.underlying49 rfl (by kernel_rfl))) rfl ?_
    exact ⟨none, 0, rfl, Rd.nil _ _, Nat.le_refl _, hb04⟩
  have e5 : decide ((251 : Int) < ((n : Nat) : Int)) = false := by simp; omega
  obtain ⟨no, hno⟩ : ∃ no, nonceS sa (sentD ro) tx = no := ⟨_, rfl⟩
  obtain ⟨out, hout⟩ : ∃ out, sealB ke no [BitVec.ofInt 8 ll] pay = out := ⟨_, rfl⟩
  have hol : out.length = n + 4 := by rw [← hout, sealB_length, HN.out]
  have er : r = (⟨sn, ne, md, ll, out⟩, 0) := by
    rw [← HS.out]; unfold sealS; rw [HK.out, HB.out, if_neg (by simp), if_neg (by simp), if_neg (by rw [HN.out]; exact h5)]
    dsimp only
    rw [hno, hout]
  have F := Lib.hid (fun W => r29_nonce ⟨ro, ke, sa, true, rn, tx, rx⟩ ro tx W)
  have M := Lib.hid (fun W A1 (h1 : RdB W A1 [BitVec.ofInt 8 ll]) (h2 : RdB W A pay) => calls_at (ref6_Seal ke no A1 A 1 c [BitVec.ofInt 8 ll] pay W h1 h2 (by simp) (by rw [HN.out]; omega)) hout hol)
  have V := Lib.hid (fun A' c' W => r29_with ⟨sn, ne, md, ll, pay⟩ A A' c c' out W)
  unfold seA at F
  unfold pduA at V
  dsimp only at F V
  rw [hno] at F
  rw [HN.out] at M
  rw [HN.out, hol] at V
  have HO := Lib.hid hol
  clear hno hout hol
  go_enter Try.func33, Try.ntmps33
  go_wp2_with fail
  refine (C.out _).mono ?_; rintro e w1 ⟨rfl, hb1⟩
  have G1 := B.2.1.to hb1 B.2.1.lt
  have G2 := B.2.2.1.to hb1 B.2.2.1.lt
  have G3 := B.2.2.2.to hb1 B.2.2.2.lt
  have hB := B.1.trans (hb1.mono B.1.size)
  have hr1 := Rd.to hr hB
  have hfl : w1.cell? ⟨w.heap.size, 3, none⟩ = some (.bool true) := G1.cell 3
  have hp3 : w1.cell? ⟨w.heap.size + 1, 3, none⟩ = some (.int .i64 ll) := G2.cell 3
  have hp4 : w1.cell? ⟨w.heap.size + 1, 4, none⟩ = some (.slice A n c) := G2.cell 4
  clear B hb1
  go_wp2_with fail
  refine (K.out _).mono ?_; rintro e w2 ⟨rfl, hb2⟩
  replace hr1 := Rd.to hr1 hb2
  replace hB := hB.trans (hb2.mono hB.size)
  replace G3 := G3.to hb2 G3.lt
  replace G2 := G2.to hb2 G2.lt
  replace G1 := G1.to hb2 G1.lt
  clear hfl hp3 hp4 hb2
  have hp3 : w2.cell? ⟨w.heap.size + 1, 3, none⟩ = some (.int .i64 ll) := G2.cell 3
  have hp4 : w2.cell? ⟨w.heap.size + 1, 4, none⟩ = some (.slice A n c) := G2.cell 4
  go_wp2
  have hst : Stable fun W => Below w.heap.size w W ∧ Blk W w.heap.size 40 #[.int .i64 ro, .int .u64 (W64 ke), .int .u64 (W64 sa), .bool true, .bool rn, .int .u64 (W64 tx), .int .u64 (W64 rx)] ∧ Blk W (w.heap.size + 1) 49 #[.int .i64 sn, .int .i64 ne, .int .i64 md, .int .i64 ll, .slice A n c] ∧ Room (w.heap.size + 2) 49 5 W ∧ RdB W A pay := stable_and (stable_below _ _ (Nat.le_refl _)) (stable_and (stable_blk _ _ _) (stable_and (stable_blk _ _ _) (stable_and (stable_room _ _ _) (stable_rdB _ _))))
  refine wp_region_v _ 21 hst ⟨hB.drew, G1, G2, ⟨_, rfl, rfl, G3⟩, hr1⟩ ?_
  refine wpU_take (v := ?_) 0 hst (fun _ h => h) rfl ?_ ?_; rotate_left; (intro W hS K hK; have h1 := hS.2.1.cell; have h2 := hS.2.2.1.cell; have hld1 := load_blk hS.2.1 Try.underlying40 rfl (by kernel_rfl); have hld2 := load_blk hS.2.2.1 Try.underlying49 rfl (by kernel_rfl); clear hS; go_simp; exact hK.out _ (Below.refl _ _)); simp only [Act.put, List.setIfInBounds_toArray, List.set_cons_zero, List.set_cons_succ]
  refine wpU_take (v := ?_) 1 hst (fun _ h => h) rfl ?_ ?_; rotate_left; (intro W hS K hK; have h1 := hS.2.1.cell; have h2 := hS.2.2.1.cell; have hld1 := load_blk hS.2.1 Try.underlying40 rfl (by kernel_rfl); have hld2 := load_blk hS.2.2.1 Try.underlying49 rfl (by kernel_rfl); clear hS; go_simp; exact hK.out _ (Below.refl _ _)); simp only [Act.put, List.setIfInBounds_toArray, List.set_cons_zero, List.set_cons_succ]
  refine wpU_take (v := ?_) 2 hst (fun _ h => h) rfl ?_ ?_; rotate_left; (intro W hS K hK; have h1 := hS.2.1.cell; have h2 := hS.2.2.1.cell; have hld1 := load_blk hS.2.1 Try.underlying40 rfl (by kernel_rfl); have hld2 := load_blk hS.2.2.1 Try.underlying49 rfl (by kernel_rfl); clear hS; go_simp; exact hK.out _ (Below.refl _ _)); simp only [Act.put, List.setIfInBounds_toArray, List.set_cons_zero, List.set_cons_succ]
  refine wpU_take (v := ?_) 3 hst (fun _ h => h) rfl ?_ ?_; rotate_left; (intro W hS K hK; have h1 := hS.2.1.cell; have h2 := hS.2.2.1.cell; have hld1 := load_blk hS.2.1 Try.underlying40 rfl (by kernel_rfl); have hld2 := load_blk hS.2.2.1 Try.underlying49 rfl (by kernel_rfl); clear hS; go_simp; exact hK.out _ (Below.refl _ _)); simp only [Act.put, List.setIfInBounds_toArray, List.set_cons_zero, List.set_cons_succ]
  refine wpU_take (v := ?_) 4 hst (fun _ h => h) rfl ?_ ?_; rotate_left; (intro W hS K hK; have h1 := hS.2.1.cell; have h2 := hS.2.2.1.cell; have hld1 := load_blk hS.2.1 Try.underlying40 rfl (by kernel_rfl); have hld2 := load_blk hS.2.2.1 Try.underlying49 rfl (by kernel_rfl); clear hS; go_simp; exact hK.out _ (Below.refl _ _)); simp only [Act.put, List.setIfInBounds_toArray, List.set_cons_zero, List.set_cons_succ]
  refine wpU_take (v := ?_) 5 hst (fun _ h => h) rfl ?_ ?_; rotate_left; (intro W hS K hK; have h1 := hS.2.1.cell; have h2 := hS.2.2.1.cell; have hld1 := load_blk hS.2.1 Try.underlying40 rfl (by kernel_rfl); have hld2 := load_blk hS.2.2.1 Try.underlying49 rfl (by kernel_rfl); clear hS; go_simp; exact hK.out _ (Below.refl _ _)); simp only [Act.put, List.setIfInBounds_toArray, List.set_cons_zero, List.set_cons_succ]
  refine wpU_take (v := ?_) 6 hst (fun _ h => h) rfl ?_ ?_; rotate_left; (intro W hS K hK; have h1 := hS.2.1.cell; have h2 := hS.2.2.1.cell; have hld1 := load_blk hS.2.1 Try.underlying40 rfl (by kernel_rfl); have hld2 := load_blk hS.2.2.1 Try.underlying49 rfl (by kernel_rfl); clear hS; go_simp; exact hK.out _ (Below.refl _ _)); simp only [Act.put, List.setIfInBounds_toArray, List.set_cons_zero, List.set_cons_succ]
  refine wpU_take (v := ?_) 7 hst (fun _ h => h) rfl ?_ ?_; rotate_left; (intro W hS K hK; have h1 := hS.2.1.cell; have h2 := hS.2.2.1.cell; have hld1 := load_blk hS.2.1 Try.underlying40 rfl (by kernel_rfl); have hld2 := load_blk hS.2.2.1 Try.underlying49 rfl (by kernel_rfl); clear hS; go_simp; exact hK.out _ (Below.refl _ _)); simp only [Act.put, List.setIfInBounds_toArray, List.set_cons_zero, List.set_cons_succ]
  refine wpU_take (v := ?_) 9 hst (fun _ h => h) rfl ?_ ?_; rotate_left; (intro W hS K hK; have h1 := hS.2.1.cell; have h2 := hS.2.2.1.cell; have hld1 := load_blk hS.2.1 Try.underlying40 rfl (by kernel_rfl); have hld2 := load_blk hS.2.2.1 Try.underlying49 rfl (by kernel_rfl); clear hS; go_simp; exact hK.out _ (Below.refl _ _)); simp only [Act.put, List.setIfInBounds_toArray, List.set_cons_zero, List.set_cons_succ]
  refine wpU_take (v := ?_) 10 hst (fun _ h => h) rfl ?_ ?_; rotate_left; (intro W hS K hK; have h1 := hS.2.1.cell; have h2 := hS.2.2.1.cell; have hld1 := load_blk hS.2.1 Try.underlying40 rfl (by kernel_rfl); have hld2 := load_blk hS.2.2.1 Try.underlying49 rfl (by kernel_rfl); clear hS; go_simp; exact hK.out _ (Below.refl _ _)); simp only [Act.put, List.setIfInBounds_toArray, List.set_cons_zero, List.set_cons_succ]
  refine wpU_take (v := ?_) 11 hst (fun _ h => h) rfl ?_ ?_; rotate_left; (intro W hS K hK; have h1 := hS.2.1.cell; have h2 := hS.2.2.1.cell; have hld1 := load_blk hS.2.1 Try.underlying40 rfl (by kernel_rfl); have hld2 := load_blk hS.2.2.1 Try.underlying49 rfl (by kernel_rfl); clear hS; go_simp; exact hK.out _ (Below.refl _ _)); simp only [Act.put, List.setIfInBounds_toArray, List.set_cons_zero, List.set_cons_succ]
  refine wpU_take (v := ?_) 12 hst (fun _ h => h) rfl ?_ ?_; rotate_left; (intro W hS K hK; have h1 := hS.2.1.cell; have h2 := hS.2.2.1.cell; have hld1 := load_blk hS.2.1 Try.underlying40 rfl (by kernel_rfl); have hld2 := load_blk hS.2.2.1 Try.underlying49 rfl (by kernel_rfl); clear hS; go_simp; exact hK.out _ (Below.refl _ _)); simp only [Act.put, List.setIfInBounds_toArray, List.set_cons_zero, List.set_cons_succ]
  refine wpU_take (v := ?_) 14 hst (fun _ h => h) rfl ?_ ?_; rotate_left; (intro W hS K hK; have h1 := hS.2.1.cell; have h2 := hS.2.2.1.cell; have hld1 := load_blk hS.2.1 Try.underlying40 rfl (by kernel_rfl); have hld2 := load_blk hS.2.2.1 Try.underlying49 rfl (by kernel_rfl); clear hS; go_simp; exact hK.out _ (Below.refl _ _)); simp only [Act.put, List.setIfInBounds_toArray, List.set_cons_zero, List.set_cons_succ]
  refine wpU_take (v := ?_) 15 hst (fun _ h => h) rfl ?_ ?_; rotate_left; (intro W hS K hK; have h1 := hS.2.1.cell; have h2 := hS.2.2.1.cell; have hld1 := load_blk hS.2.1 Try.underlying40 rfl (by kernel_rfl); have hld2 := load_blk hS.2.2.1 Try.underlying49 rfl (by kernel_rfl); clear hS; go_simp; exact hK.out _ (Below.refl _ _)); simp only [Act.put, List.setIfInBounds_toArray, List.set_cons_zero, List.set_cons_succ]
  refine wpU_take (v := ?_) 16 hst (fun _ h => h) rfl ?_ ?_; rotate_left; (intro W hS K hK; have h1 := hS.2.1.cell; have h2 := hS.2.2.1.cell; have hld1 := load_blk hS.2.1 Try.underlying40 rfl (by kernel_rfl); have hld2 := load_blk hS.2.2.1 Try.underlying49 rfl (by kernel_rfl); clear hS; go_simp; exact hK.out _ (Below.refl _ _)); simp only [Act.put, List.setIfInBounds_toArray, List.set_cons_zero, List.set_cons_succ]
  refine wpU_take (v := ?_) 8 hst (fun _ h => h) rfl ?_ ?_; rotate_left; (intro W hS K hK; clear hS; go_simp; refine (F.out _).mono ?_; rintro e w9 ⟨rfl, hb⟩; refine CallPost.mk ?_; exact hK.out _ (hb)); simp only [Act.put, List.setIfInBounds_toArray, List.set_cons_zero, List.set_cons_succ]
  refine wpV_new 13 hst rfl ?_; intro W hS K hK
  clear hS
  go_simp
  have hrw : RdB (W.alloc (.cells #[.int .u8 (W8 (BitVec.ofInt 8 ll))] 5)) (some ⟨W.heap.size, 0, none⟩) [BitVec.ofInt 8 ll] := Rd.new _ _ _
  refine hK.out (fun W' => RdB W' (some ⟨W.heap.size, 0, none⟩) [BitVec.ofInt 8 ll]) _ _ (stable_rdB _ _) ((Below.refl _ _).alloc (Nat.le_refl _) _) hrw (fun hst => ?_)
  clear hK K hrw
  try simp only [Act.put, List.setIfInBounds_toArray, List.set_cons_zero, List.set_cons_succ]
  refine wpV_new 17 hst rfl ?_; intro W hS K hK; skip; go_simp; refine (M.out _ _ hS.2 hS.1.2.2.2.2).mono ?_; rintro e w9 ⟨A', c', rfl, hr9, hc9, hb9⟩; refine hK.out (fun W => RdB W A' out) _ _ (stable_rdB _ _) (hb9) (hr9) (fun hst => ?_); clear hK K hS; try simp only [Act.put, List.setIfInBounds_toArray, List.set_cons_zero, List.set_cons_succ]
  refine wpU_take (v := ?_) 18 hst (fun _ h => h) rfl ?_ ?_; rotate_left; (intro W hS K hK; clear hS; go_simp; refine (V.out A' c' _).mono ?_; rintro e w9 ⟨rfl, hb⟩; refine CallPost.mk ?_; exact hK.out _ (hb)); simp only [Act.put, List.setIfInBounds_toArray, List.set_cons_zero, List.set_cons_succ]
  refine wpV_st 19 hst (fun _ h => h) #[.int .i64 sn, .int .i64 ne, .int .i64 md, .int .i64 ll, .slice A' (n + 4) c'] rfl rfl rfl rfl (fun W h => h.1.1.2.2.2.1) (fun W W' h hU hG => ?_) (by kernel_rfl) rfl (fun hst => ?_)
  · obtain ⟨⟨⟨h1, h2, h3, ⟨cs, h4, h5, h6⟩, h7⟩, h9⟩, h10⟩ := h
    exact ⟨⟨⟨hU.below h1 (by omega), hU.blk h2 (by omega), hU.blk h3 (by omega), ⟨_, rfl, rfl, hG⟩, RdB.upd h7 h6 hU h5⟩, RdB.upd h9 h6 hU h5⟩, RdB.upd h10 h6 hU h5⟩
  refine wpU_take (v := ?_) 20 hst (fun _ h => h.1) rfl ?_ ?_; rotate_left; (intro W hS K hK; clear hS; go_simp; exact hK.out _ (Below.refl _ _)); simp only [Act.put, List.setIfInBounds_toArray, List.set_cons_zero, List.set_cons_succ]
  refine wpU_done (fun W hS => ?_)
  go_wp2
  refine bodyPost_ret (results_ct rfl rfl (load_blk hS.2 Try.underlying49 rfl (by kernel_rfl))) rfl ?_
  rw [er]
  refine ⟨A', c', ?_, hS.1.2, ?_, hS.1.1.1.1⟩
  · unfold pduA; dsimp only; rw [HO.out]; rfl
  · dsimp only; rw [HO.out]; exact hc9
end Go.Proofs.Ytmehemojopfihaa
