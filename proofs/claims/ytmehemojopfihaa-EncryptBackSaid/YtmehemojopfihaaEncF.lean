/- Contracts of layer 29 (encrypt): Open of the code and of the reference. -/
import Derived.Test.YtmehemojopfihaaEncE
import Derived.Test.YtmehemojopfihaaMacLaws
namespace Go.Proofs.Ytmehemojopfihaa
set_option maxRecDepth 100000
open Go.ChangeShapes Go.WideShapes Go.ChangeAt Go.RowKit
set_option linter.unusedVariables false
set_option linter.unusedSimpArgs false
set_option maxHeartbeats 4000000 in
theorem enc_Open (s : Ses) (q : Pdu) (A : Option Addr) (c : Nat) (w : World) (hr : RdB w A q.pay) (hl : q.pay.length ≤ 1000) (hc : q.pay.length ≤ c) :
    Calls Try.prog 50 #[.agg (seA s), .agg (pduA q A c)] w (RetP w (openS s q)) := by
  have B := box3 w 40 (seA s) 49 (pduA q A c) 49 #[.int .i64 0, .int .i64 0, .int .i64 0, .int .i64 0, .slice none 0 0]
  have C := Lib.hid (fun W => dp_Check q A c W)
  have K := Lib.hid (fun W => dp_Blank q A c W)
  obtain ⟨r, hs⟩ : ∃ r, openS s q = r := ⟨_, rfl⟩
  rw [hs]
  have HS := Lib.hid hs
  clear hs
  obtain ⟨k, hk⟩ : ∃ k, checkS q = k := ⟨_, rfl⟩
  obtain ⟨b, hb⟩ : ∃ b, blankS q = b := ⟨_, rfl⟩
  rw [hk] at C
  rw [hb] at K
  have HK := Lib.hid hk
  have HB := Lib.hid hb
  clear hk hb
  obtain ⟨ro, ke, sa, to, rn, tx, rx⟩ := s
  obtain ⟨sn, ne, md, ll, pay⟩ := q
  unfold seA pduA at B
  unfold pduA at C
  unfold pakA at K
  unfold seA pduA
  dsimp only at B C K hr hl hc ⊢
  obtain ⟨n, hn⟩ : ∃ n, pay.length = n := ⟨_, rfl⟩
  rw [hn] at B C K hl hc ⊢
  have HN := Lib.hid hn
  clear hn
  by_cases h0 : k = 0
  case neg =>
    have e0 : (k != 0) = true := by simpa using h0
    have er : r = (nilP, k) := by rw [← HS.out]; unfold openS; rw [HK.out, if_pos h0]
    subst er
    have hkk := Lib.hid h0
    clear h0
    go_enter Try.func50, Try.ntmps50
    go_wp2_with fail
    refine (C.out _).mono ?_; rintro e w1 ⟨rfl, hb1⟩
    have G1 := B.2.1.to hb1 B.2.1.lt
    have G2 := B.2.2.1.to hb1 B.2.2.1.lt
    have G3 := B.2.2.2.to hb1 B.2.2.2.lt
    have hB := B.1.trans (hb1.mono B.1.size)
    have hr1 := Rd.to hr hB
    have hfl : w1.cell? ⟨w.heap.size, 4, none⟩ = some (.bool rn) := G1.cell 4
    have hp3 : w1.cell? ⟨w.heap.size + 1, 3, none⟩ = some (.int .i64 ll) := G2.cell 3
    have hp4 : w1.cell? ⟨w.heap.size + 1, 4, none⟩ = some (.slice A n c) := G2.cell 4
    clear B hb1
    go_wp2_with (first | ((with_reducible refine wpList_st 0 #[.int .i64 0, .int .i64 0, .int .i64 0, .int .i64 0, .slice none 0 0] #[.int .i64 0, .int .i64 0, .int .i64 0, .int .i64 0, .slice none 0 0] G3 ?_ ?_ ?_ ?_ ?_ ?_ ?_); rfl; rfl; kernel_rfl; rfl; exact of_decide_eq_true rfl; rfl; intro w4 hB4 hU4; have hb04 := hU4.below hB (by omega)))
    refine bodyPost_ret (results_ct rfl rfl (load_blk hB4 Try.underlying49 rfl (by kernel_rfl))) rfl ?_
    exact ⟨none, 0, rfl, Rd.nil _ _, Nat.le_refl _, hb04⟩
  subst h0
  have hpos : 0 ≤ n := Nat.zero_le n
  have HW := Lib.hid (fun A' c' W => enc_with ⟨sn, ne, md, ll, pay⟩ A A' c c' pay W)
  unfold pduA at HW
  dsimp only at HW
  rw [HN.out] at HW
  cases rn
  case false =>
    have er : r = (⟨sn, ne, md, ll, pay⟩, 0) := by rw [← HS.out]; unfold openS; rw [HK.out]; rfl
    go_enter Try.func50, Try.ntmps50
    go_wp2_with fail
    refine (C.out _).mono ?_; rintro e w1 ⟨rfl, hb1⟩
    have G1 := B.2.1.to hb1 B.2.1.lt
    have G2 := B.2.2.1.to hb1 B.2.2.1.lt
    have G3 := B.2.2.2.to hb1 B.2.2.2.lt
    have hB := B.1.trans (hb1.mono B.1.size)
    have hr1 := Rd.to hr hB
    have hfl : w1.cell? ⟨w.heap.size, 4, none⟩ = some (.bool false) := G1.cell 4
    have hp3 : w1.cell? ⟨w.heap.size + 1, 3, none⟩ = some (.int .i64 ll) := G2.cell 3
    have hp4 : w1.cell? ⟨w.heap.size + 1, 4, none⟩ = some (.slice A n c) := G2.cell 4
    clear B hb1
    go_wp2
    have hst : Stable fun W => Below w.heap.size w W ∧ Blk W w.heap.size 40 #[.int .i64 ro, .int .u64 (W64 ke), .int .u64 (W64 sa), .bool to, .bool false, .int .u64 (W64 tx), .int .u64 (W64 rx)] ∧ Blk W (w.heap.size + 1) 49 #[.int .i64 sn, .int .i64 ne, .int .i64 md, .int .i64 ll, .slice A n c] ∧ Room (w.heap.size + 2) 49 5 W ∧ RdB W A pay := stable_and (stable_below _ _ (Nat.le_refl _)) (stable_and (stable_blk _ _ _) (stable_and (stable_blk _ _ _) (stable_and (stable_room _ _ _) (stable_rdB _ _))))
    refine wp_region_v _ 9 hst ⟨hB.drew, G1, G2, ⟨_, rfl, rfl, G3⟩, hr1⟩ ?_
    refine wpU_take (v := ?_) 0 hst (fun _ h => h) rfl ?_ ?_; rotate_left; (intro W hS K hK; have hc := hS.2.2.1.cell; have hld := load_blk hS.2.2.1 Try.underlying49 rfl (by kernel_rfl); clear hS; go_simp; exact hK.out _ (Below.refl _ _)); simp only [Act.put, List.setIfInBounds_toArray, List.set_cons_zero, List.set_cons_succ]
    refine wpU_take (v := ?_) 1 hst (fun _ h => h) rfl ?_ ?_; rotate_left; (intro W hS K hK; have hc := hS.2.2.1.cell; have hld := load_blk hS.2.2.1 Try.underlying49 rfl (by kernel_rfl); clear hS; go_simp; exact hK.out _ (Below.refl _ _)); simp only [Act.put, List.setIfInBounds_toArray, List.set_cons_zero, List.set_cons_succ]
    refine wpU_take (v := ?_) 2 hst (fun _ h => h) rfl ?_ ?_; rotate_left; (intro W hS K hK; have hc := hS.2.2.1.cell; have hld := load_blk hS.2.2.1 Try.underlying49 rfl (by kernel_rfl); clear hS; go_simp; exact hK.out _ (Below.refl _ _)); simp only [Act.put, List.setIfInBounds_toArray, List.set_cons_zero, List.set_cons_succ]
    refine wpU_take (v := ?_) 3 hst (fun _ h => h) rfl ?_ ?_; rotate_left; (intro W hS K hK; have hc := hS.2.2.1.cell; have hld := load_blk hS.2.2.1 Try.underlying49 rfl (by kernel_rfl); clear hS; go_simp; exact hK.out _ (Below.refl _ _)); simp only [Act.put, List.setIfInBounds_toArray, List.set_cons_zero, List.set_cons_succ]
    refine wpV_new 4 hst rfl ?_; intro W hS K hK; go_simp
    refine hK.out (fun W' => Rd W' (some ⟨W.heap.size, 0, none⟩) [.slice A n c]) _ _ (stable_rd _ _) ((Below.refl _ _).alloc (Nat.le_refl _) _) (Rd.new _ _ _) (fun hst => ?_)
    have hlt : w.heap.size + 2 < W.heap.size := by obtain ⟨_, _, _, h⟩ := hS.2.2.2.1; exact h.lt
    clear hK K hS
    refine wpV_new 5 hst rfl ?_; intro W hS K hK; skip; go_simp; refine (join_one A _ c n pay HN.out _ hS.2 hS.1.2.2.2.2 (by omega)).mono ?_; rintro e w9 ⟨A', c', rfl, hr9, hc9, hb9⟩; refine hK.out (fun W => RdB W A' pay) _ _ (stable_rdB _ _) (hb9) (hr9) (fun hst => ?_); clear hK K hS; try simp only [Act.put, List.setIfInBounds_toArray, List.set_cons_zero, List.set_cons_succ]
    refine wpU_take (v := ?_) 6 hst (fun _ h => h) rfl ?_ ?_; rotate_left; (intro W hS K hK; clear hS; go_simp; refine (HW.out A' c' _).mono ?_; rintro e w9 ⟨rfl, hb⟩; refine CallPost.mk ?_; exact hK.out _ (hb)); simp only [Act.put, List.setIfInBounds_toArray, List.set_cons_zero, List.set_cons_succ]
    refine wpV_st 7 hst (fun _ h => h) #[.int .i64 sn, .int .i64 ne, .int .i64 md, .int .i64 ll, .slice A' n c'] rfl rfl rfl rfl (fun W h => h.1.1.2.2.2.1) (fun W W' h hU hG => ?_) (by kernel_rfl) rfl (fun hst => ?_)
    · obtain ⟨⟨⟨h1, h2, h3, ⟨cs, h4, h5, h6⟩, h7⟩, h8⟩, h9⟩ := h
      exact ⟨⟨⟨hU.below h1 (by omega), hU.blk h2 (by omega), hU.blk h3 (by omega), ⟨_, rfl, rfl, hG⟩, RdB.upd h7 h6 hU h5⟩, Upd.rd hU h8 (fun ad he => by cases he; dsimp only; omega)⟩, RdB.upd h9 h6 hU h5⟩
    refine wpU_take (v := ?_) 8 hst (fun _ h => h.1) rfl ?_ ?_; rotate_left; (intro W hS K hK; clear hS; go_simp; exact hK.out _ (Below.refl _ _)); simp only [Act.put, List.setIfInBounds_toArray, List.set_cons_zero, List.set_cons_succ]
    refine wpU_done (fun W hS => ?_)
    go_wp2
    refine bodyPost_ret (results_ct rfl rfl (load_blk hS.2 Try.underlying49 rfl (by kernel_rfl))) rfl ?_
    rw [er]
    have hn := HN.out
    subst hn
    exact ⟨A', c', rfl, hS.1.2, hc9, hS.1.1.1.1⟩
  cases b
  case true =>
    have er : r = (⟨sn, ne, md, ll, pay⟩, 0) := by rw [← HS.out]; unfold openS; rw [HK.out, HB.out]; rfl
    go_enter Try.func50, Try.ntmps50
    go_wp2_with fail
    refine (C.out _).mono ?_; rintro e w1 ⟨rfl, hb1⟩
    have G1 := B.2.1.to hb1 B.2.1.lt
    have G2 := B.2.2.1.to hb1 B.2.2.1.lt
    have G3 := B.2.2.2.to hb1 B.2.2.2.lt
    have hB := B.1.trans (hb1.mono B.1.size)
    have hr1 := Rd.to hr hB
    have hfl : w1.cell? ⟨w.heap.size, 4, none⟩ = some (.bool true) := G1.cell 4
    have hp3 : w1.cell? ⟨w.heap.size + 1, 3, none⟩ = some (.int .i64 ll) := G2.cell 3
    have hp4 : w1.cell? ⟨w.heap.size + 1, 4, none⟩ = some (.slice A n c) := G2.cell 4
    clear B hb1
    go_wp2_with fail
    refine (K.out _).mono ?_; rintro e w2 ⟨rfl, hb2⟩
    replace hr1 := Rd.to hr1 hb2
    replace hB := hB.trans (hb2.mono hB.size)
    replace G3 := G3.to hb2 G3.lt
    replace G2 := G2.to hb2 G2.lt
    replace G1 := G1.to hb2 G1.lt
    clear hfl hp3 hp4 hb2
    have hp3 : w2.cell? ⟨w.heap.size + 1, 3, none⟩ = some (.int .i64 ll) := G2.cell 3
    have hp4 : w2.cell? ⟨w.heap.size + 1, 4, none⟩ = some (.slice A n c) := G2.cell 4
    go_wp2
    have hst : Stable fun W => Below w.heap.size w W ∧ Blk W w.heap.size 40 #[.int .i64 ro, .int .u64 (W64 ke), .int .u64 (W64 sa), .bool to, .bool true, .int .u64 (W64 tx), .int .u64 (W64 rx)] ∧ Blk W (w.heap.size + 1) 49 #[.int .i64 sn, .int .i64 ne, .int .i64 md, .int .i64 ll, .slice A n c] ∧ Room (w.heap.size + 2) 49 5 W ∧ RdB W A pay := stable_and (stable_below _ _ (Nat.le_refl _)) (stable_and (stable_blk _ _ _) (stable_and (stable_blk _ _ _) (stable_and (stable_room _ _ _) (stable_rdB _ _))))
    refine wp_region_v _ 9 hst ⟨hB.drew, G1, G2, ⟨_, rfl, rfl, G3⟩, hr1⟩ ?_
    refine wpU_take (v := ?_) 0 hst (fun _ h => h) rfl ?_ ?_; rotate_left; (intro W hS K hK; have hc := hS.2.2.1.cell; have hld := load_blk hS.2.2.1 Try.underlying49 rfl (by kernel_rfl); clear hS; go_simp; exact hK.out _ (Below.refl _ _)); simp only [Act.put, List.setIfInBounds_toArray, List.set_cons_zero, List.set_cons_succ]
    refine wpU_take (v := ?_) 1 hst (fun _ h => h) rfl ?_ ?_; rotate_left; (intro W hS K hK; have hc := hS.2.2.1.cell; have hld := load_blk hS.2.2.1 Try.underlying49 rfl (by kernel_rfl); clear hS; go_simp; exact hK.out _ (Below.refl _ _)); simp only [Act.put, List.setIfInBounds_toArray, List.set_cons_zero, List.set_cons_succ]
    refine wpU_take (v := ?_) 2 hst (fun _ h => h) rfl ?_ ?_; rotate_left; (intro W hS K hK; have hc := hS.2.2.1.cell; have hld := load_blk hS.2.2.1 Try.underlying49 rfl (by kernel_rfl); clear hS; go_simp; exact hK.out _ (Below.refl _ _)); simp only [Act.put, List.setIfInBounds_toArray, List.set_cons_zero, List.set_cons_succ]
    refine wpU_take (v := ?_) 3 hst (fun _ h => h) rfl ?_ ?_; rotate_left; (intro W hS K hK; have hc := hS.2.2.1.cell; have hld := load_blk hS.2.2.1 Try.underlying49 rfl (by kernel_rfl); clear hS; go_simp; exact hK.out _ (Below.refl _ _)); simp only [Act.put, List.setIfInBounds_toArray, List.set_cons_zero, List.set_cons_succ]
    refine wpV_new 4 hst rfl ?_; intro W hS K hK; go_simp
    refine hK.out (fun W' => Rd W' (some ⟨W.heap.size, 0, none⟩) [.slice A n c]) _ _ (stable_rd _ _) ((Below.refl _ _).alloc (Nat.le_refl _) _) (Rd.new _ _ _) (fun hst => ?_)
    have hlt : w.heap.size + 2 < W.heap.size := by obtain ⟨_, _, _, h⟩ := hS.2.2.2.1; exact h.lt
    clear hK K hS
    refine wpV_new 5 hst rfl ?_; intro W hS K hK; skip; go_simp; refine (join_one A _ c n pay HN.out _ hS.2 hS.1.2.2.2.2 (by omega)).mono ?_; rintro e w9 ⟨A', c', rfl, hr9, hc9, hb9⟩; refine hK.out (fun W => RdB W A' pay) _ _ (stable_rdB _ _) (hb9) (hr9) (fun hst => ?_); clear hK K hS; try simp only [Act.put, List.setIfInBounds_toArray, List.set_cons_zero, List.set_cons_succ]
    refine wpU_take (v := ?_) 6 hst (fun _ h => h) rfl ?_ ?_; rotate_left; (intro W hS K hK; clear hS; go_simp; refine (HW.out A' c' _).mono ?_; rintro e w9 ⟨rfl, hb⟩; refine CallPost.mk ?_; exact hK.out _ (hb)); simp only [Act.put, List.setIfInBounds_toArray, List.set_cons_zero, List.set_cons_succ]
    refine wpV_st 7 hst (fun _ h => h) #[.int .i64 sn, .int .i64 ne, .int .i64 md, .int .i64 ll, .slice A' n c'] rfl rfl rfl rfl (fun W h => h.1.1.2.2.2.1) (fun W W' h hU hG => ?_) (by kernel_rfl) rfl (fun hst => ?_)
    · obtain ⟨⟨⟨h1, h2, h3, ⟨cs, h4, h5, h6⟩, h7⟩, h8⟩, h9⟩ := h
      exact ⟨⟨⟨hU.below h1 (by omega), hU.blk h2 (by omega), hU.blk h3 (by omega), ⟨_, rfl, rfl, hG⟩, RdB.upd h7 h6 hU h5⟩, Upd.rd hU h8 (fun ad he => by cases he; dsimp only; omega)⟩, RdB.upd h9 h6 hU h5⟩
    refine wpU_take (v := ?_) 8 hst (fun _ h => h.1) rfl ?_ ?_; rotate_left; (intro W hS K hK; clear hS; go_simp; exact hK.out _ (Below.refl _ _)); simp only [Act.put, List.setIfInBounds_toArray, List.set_cons_zero, List.set_cons_succ]
    refine wpU_done (fun W hS => ?_)
    go_wp2
    refine bodyPost_ret (results_ct rfl rfl (load_blk hS.2 Try.underlying49 rfl (by kernel_rfl))) rfl ?_
    rw [er]
    have hn := HN.out
    subst hn
    exact ⟨A', c', rfl, hS.1.2, hc9, hS.1.1.1.1⟩
  by_cases h5 : n < 5
  · have e5 : decide (((n : Nat) : Int) < (5 : Int)) = true := by simp; omega
    have er : r = (nilP, 3) := by rw [← HS.out]; unfold openS; rw [HK.out, HB.out, if_neg (by simp), if_neg (by simp), if_pos (by rw [← HN.out] at h5; exact h5)]
    subst er
    have h55 := Lib.hid h5
    clear h5
    go_enter Try.func50, Try.ntmps50
    go_wp2_with fail
    refine (C.out _).mono ?_; rintro e w1 ⟨rfl, hb1⟩
    have G1 := B.2.1.to hb1 B.2.1.lt
    have G2 := B.2.2.1.to hb1 B.2.2.1.lt
    have G3 := B.2.2.2.to hb1 B.2.2.2.lt
    have hB := B.1.trans (hb1.mono B.1.size)
    have hr1 := Rd.to hr hB
    have hfl : w1.cell? ⟨w.heap.size, 4, none⟩ = some (.bool true) := G1.cell 4
    have hp3 : w1.cell? ⟨w.heap.size + 1, 3, none⟩ = some (.int .i64 ll) := G2.cell 3
    have hp4 : w1.cell? ⟨w.heap.size + 1, 4, none⟩ = some (.slice A n c) := G2.cell 4
    clear B hb1
    go_wp2_with fail
    refine (K.out _).mono ?_; rintro e w2 ⟨rfl, hb2⟩
    replace hr1 := Rd.to hr1 hb2
    replace hB := hB.trans (hb2.mono hB.size)
    replace G3 := G3.to hb2 G3.lt
    replace G2 := G2.to hb2 G2.lt
    replace G1 := G1.to hb2 G1.lt
    clear hfl hp3 hp4 hb2
    have hp3 : w2.cell? ⟨w.heap.size + 1, 3, none⟩ = some (.int .i64 ll) := G2.cell 3
    have hp4 : w2.cell? ⟨w.heap.size + 1, 4, none⟩ = some (.slice A n c) := G2.cell 4
    go_wp2_with (first | ((with_reducible refine wpList_st 0 #[.int .i64 0, .int .i64 0, .int .i64 0, .int .i64 0, .slice none 0 0] #[.int .i64 0, .int .i64 0, .int .i64 0, .int .i64 0, .slice none 0 0] G3 ?_ ?_ ?_ ?_ ?_ ?_ ?_); rfl; rfl; kernel_rfl; rfl; exact of_decide_eq_true rfl; rfl; intro w4 hB4 hU4; have hb04 := hU4.below hB (by omega)))
    refine bodyPost_ret (results_ct rfl rfl (load_blk hB4 Try.underlying49 rfl (by kernel_rfl))) rfl ?_
    exact ⟨none, 0, rfl, Rd.nil _ _, Nat.le_refl _, hb04⟩
  have e5 : decide (((n : Nat) : Int) < (5 : Int)) = false := by simp; omega
  obtain ⟨d, hd⟩ : ∃ d, gotD ro = d := ⟨_, rfl⟩
  obtain ⟨d2, hd2⟩ : ∃ d2, sentD ro = d2 := ⟨_, rfl⟩
  obtain ⟨no, hno⟩ : ∃ no, nonceS sa d rx = no := ⟨_, rfl⟩
  obtain ⟨bs, en, hout⟩ : ∃ bs en, openB ke no [BitVec.ofInt 8 ll] pay = (bs, en) := ⟨_, _, rfl⟩
  obtain ⟨m, hol⟩ : ∃ m, bs.length = m := ⟨_, rfl⟩
  have er : r = if en ≠ 0 then (nilP, en) else (⟨sn, ne, md, ll, bs⟩, 0) := by
    rw [← HS.out]; unfold openS; rw [HK.out, HB.out, if_neg (by simp), if_neg (by simp), if_neg (by rw [HN.out]; exact h5)]
    dsimp only
    rw [hd, hno, hout]
  have M := Lib.hid (fun W A1 (h1 : RdB W A1 [BitVec.ofInt 8 ll]) (h2 : RdB W A pay) => (mac_Open ke no A1 A 1 c [BitVec.ofInt 8 ll] pay W h1 h2 (by simp) (by rw [HN.out]; omega) (by rw [HN.out]; exact hc)).mono fun e w' h => RetO.at_ h hout hol)
  have D := Lib.hid (fun W => enc_sides ⟨ro, ke, sa, to, true, tx, rx⟩ W)
  have F := Lib.hid (fun W => enc_nonce' ⟨ro, ke, sa, to, true, tx, rx⟩ d W)
  have F1 := Lib.hid (fun W g h h1 h2 => enc_nonce_f ⟨ro, ke, sa, to, true, tx, rx⟩ d rx g h W h1 h2)
  have V := Lib.hid (fun A' c' W => enc_with ⟨sn, ne, md, ll, pay⟩ A A' c c' bs W)
  unfold seA at D F F1
  unfold pduA at V
  dsimp only at D F F1 V
  rw [hd, hd2] at D
  rw [hno] at F1
  rw [HN.out, hol] at V
  rw [HN.out] at M
  have HO := Lib.hid hol
  have ER0 := Lib.hid er
  clear er hd hd2 hno hout hol HW h5
  go_enter Try.func50, Try.ntmps50
  go_wp2_with fail
  refine (C.out _).mono ?_; rintro e w1 ⟨rfl, hb1⟩
  have G1 := B.2.1.to hb1 B.2.1.lt
  have G2 := B.2.2.1.to hb1 B.2.2.1.lt
  have G3 := B.2.2.2.to hb1 B.2.2.2.lt
  have hB := B.1.trans (hb1.mono B.1.size)
  have hr1 := Rd.to hr hB
  have hfl : w1.cell? ⟨w.heap.size, 4, none⟩ = some (.bool true) := G1.cell 4
  have hp3 : w1.cell? ⟨w.heap.size + 1, 3, none⟩ = some (.int .i64 ll) := G2.cell 3
  have hp4 : w1.cell? ⟨w.heap.size + 1, 4, none⟩ = some (.slice A n c) := G2.cell 4
  clear B hb1
  go_wp2_with fail
  refine (K.out _).mono ?_; rintro e w2 ⟨rfl, hb2⟩
  replace hr1 := Rd.to hr1 hb2
  replace hB := hB.trans (hb2.mono hB.size)
  replace G3 := G3.to hb2 G3.lt
  replace G2 := G2.to hb2 G2.lt
  replace G1 := G1.to hb2 G1.lt
  clear hfl hp3 hp4 hb2
  have hp3 : w2.cell? ⟨w.heap.size + 1, 3, none⟩ = some (.int .i64 ll) := G2.cell 3
  have hp4 : w2.cell? ⟨w.heap.size + 1, 4, none⟩ = some (.slice A n c) := G2.cell 4
  have q0 : w2.cell? ⟨w.heap.size, 0, none⟩ = some (.int .i64 ro) := G1.cell 0
  have q1 : w2.cell? ⟨w.heap.size, 1, none⟩ = some (.int .u64 (W64 ke)) := G1.cell 1
  have q2 : w2.cell? ⟨w.heap.size, 2, none⟩ = some (.int .u64 (W64 sa)) := G1.cell 2
  have q3 : w2.cell? ⟨w.heap.size, 3, none⟩ = some (.bool to) := G1.cell 3
  have q4 : w2.cell? ⟨w.heap.size, 4, none⟩ = some (.bool true) := G1.cell 4
  have q5 : w2.cell? ⟨w.heap.size, 5, none⟩ = some (.int .u64 (W64 tx)) := G1.cell 5
  have q6 : w2.cell? ⟨w.heap.size, 6, none⟩ = some (.int .u64 (W64 rx)) := G1.cell 6
  go_wp2_with fail
  refine (D.out _).mono ?_; rintro e w3 ⟨rfl, hb3⟩
  replace hr1 := Rd.to hr1 hb3
  replace hB := hB.trans (hb3.mono hB.size)
  replace G3 := G3.to hb3 G3.lt
  replace G2 := G2.to hb3 G2.lt
  replace G1 := G1.to hb3 G1.lt
  clear hp3 hp4 hb3 q0 q1 q2 q3 q4 q5 q6
  go_wp2
  have hst : Stable fun W => Below w.heap.size w W ∧ Blk W w.heap.size 40 #[.int .i64 ro, .int .u64 (W64 ke), .int .u64 (W64 sa), .bool to, .bool true, .int .u64 (W64 tx), .int .u64 (W64 rx)] ∧ Blk W (w.heap.size + 1) 49 #[.int .i64 sn, .int .i64 ne, .int .i64 md, .int .i64 ll, .slice A n c] ∧ Blk W (w.heap.size + 2) 49 #[.int .i64 0, .int .i64 0, .int .i64 0, .int .i64 0, .slice none 0 0] ∧ RdB W A pay := stable_and (stable_below _ _ (Nat.le_refl _)) (stable_and (stable_blk _ _ _) (stable_and (stable_blk _ _ _) (stable_and (stable_blk _ _ _) (stable_rdB _ _))))
  refine wp_region_v _ 22 hst ⟨hB.drew, G1, G2, G3, hr1⟩ ?_
  refine wpU_take (v := ?_) 0 hst (fun _ h => h) rfl ?_ ?_; rotate_left; (intro W hS K hK; have h1 := hS.2.1.cell; have h2 := hS.2.2.1.cell; have hld1 := load_blk hS.2.1 Try.underlying40 rfl (by kernel_rfl); have hld2 := load_blk hS.2.2.1 Try.underlying49 rfl (by kernel_rfl); clear hS; go_simp; exact hK.out _ (Below.refl _ _)); simp only [Act.put, List.setIfInBounds_toArray, List.set_cons_zero, List.set_cons_succ]
  refine wpU_take (v := ?_) 1 hst (fun _ h => h) rfl ?_ ?_; rotate_left; (intro W hS K hK; have h1 := hS.2.1.cell; have h2 := hS.2.2.1.cell; have hld1 := load_blk hS.2.1 Try.underlying40 rfl (by kernel_rfl); have hld2 := load_blk hS.2.2.1 Try.underlying49 rfl (by kernel_rfl); clear hS; go_simp; exact hK.out _ (Below.refl _ _)); simp only [Act.put, List.setIfInBounds_toArray, List.set_cons_zero, List.set_cons_succ]
  refine wpU_take (v := ?_) 2 hst (fun _ h => h) rfl ?_ ?_; rotate_left; (intro W hS K hK; have h1 := hS.2.1.cell; have h2 := hS.2.2.1.cell; have hld1 := load_blk hS.2.1 Try.underlying40 rfl (by kernel_rfl); have hld2 := load_blk hS.2.2.1 Try.underlying49 rfl (by kernel_rfl); clear hS; go_simp; exact hK.out _ (Below.refl _ _)); simp only [Act.put, List.setIfInBounds_toArray, List.set_cons_zero, List.set_cons_succ]
  refine wpU_take (v := ?_) 3 hst (fun _ h => h) rfl ?_ ?_; rotate_left; (intro W hS K hK; have h1 := hS.2.1.cell; have h2 := hS.2.2.1.cell; have hld1 := load_blk hS.2.1 Try.underlying40 rfl (by kernel_rfl); have hld2 := load_blk hS.2.2.1 Try.underlying49 rfl (by kernel_rfl); clear hS; go_simp; exact hK.out _ (Below.refl _ _)); simp only [Act.put, List.setIfInBounds_toArray, List.set_cons_zero, List.set_cons_succ]
  refine wpU_take (v := ?_) 5 hst (fun _ h => h) rfl ?_ ?_; rotate_left; (intro W hS K hK; have h1 := hS.2.1.cell; have h2 := hS.2.2.1.cell; have hld1 := load_blk hS.2.1 Try.underlying40 rfl (by kernel_rfl); have hld2 := load_blk hS.2.2.1 Try.underlying49 rfl (by kernel_rfl); clear hS; go_simp; exact hK.out _ (Below.refl _ _)); simp only [Act.put, List.setIfInBounds_toArray, List.set_cons_zero, List.set_cons_succ]
  refine wpU_take (v := ?_) 6 hst (fun _ h => h) rfl ?_ ?_; rotate_left; (intro W hS K hK; have h1 := hS.2.1.cell; have h2 := hS.2.2.1.cell; have hld1 := load_blk hS.2.1 Try.underlying40 rfl (by kernel_rfl); have hld2 := load_blk hS.2.2.1 Try.underlying49 rfl (by kernel_rfl); clear hS; go_simp; exact hK.out _ (Below.refl _ _)); simp only [Act.put, List.setIfInBounds_toArray, List.set_cons_zero, List.set_cons_succ]
  refine wpU_take (v := ?_) 8 hst (fun _ h => h) rfl ?_ ?_; rotate_left; (intro W hS K hK; have h1 := hS.2.1.cell; have h2 := hS.2.2.1.cell; have hld1 := load_blk hS.2.1 Try.underlying40 rfl (by kernel_rfl); have hld2 := load_blk hS.2.2.1 Try.underlying49 rfl (by kernel_rfl); clear hS; go_simp; exact hK.out _ (Below.refl _ _)); simp only [Act.put, List.setIfInBounds_toArray, List.set_cons_zero, List.set_cons_succ]
  refine wpU_take (v := ?_) 9 hst (fun _ h => h) rfl ?_ ?_; rotate_left; (intro W hS K hK; have h1 := hS.2.1.cell; have h2 := hS.2.2.1.cell; have hld1 := load_blk hS.2.1 Try.underlying40 rfl (by kernel_rfl); have hld2 := load_blk hS.2.2.1 Try.underlying49 rfl (by kernel_rfl); clear hS; go_simp; exact hK.out _ (Below.refl _ _)); simp only [Act.put, List.setIfInBounds_toArray, List.set_cons_zero, List.set_cons_succ]
  refine wpU_take (v := ?_) 10 hst (fun _ h => h) rfl ?_ ?_; rotate_left; (intro W hS K hK; have h1 := hS.2.1.cell; have h2 := hS.2.2.1.cell; have hld1 := load_blk hS.2.1 Try.underlying40 rfl (by kernel_rfl); have hld2 := load_blk hS.2.2.1 Try.underlying49 rfl (by kernel_rfl); clear hS; go_simp; exact hK.out _ (Below.refl _ _)); simp only [Act.put, List.setIfInBounds_toArray, List.set_cons_zero, List.set_cons_succ]
  refine wpU_take (v := ?_) 11 hst (fun _ h => h) rfl ?_ ?_; rotate_left; (intro W hS K hK; have h1 := hS.2.1.cell; have h2 := hS.2.2.1.cell; have hld1 := load_blk hS.2.1 Try.underlying40 rfl (by kernel_rfl); have hld2 := load_blk hS.2.2.1 Try.underlying49 rfl (by kernel_rfl); clear hS; go_simp; exact hK.out _ (Below.refl _ _)); simp only [Act.put, List.setIfInBounds_toArray, List.set_cons_zero, List.set_cons_succ]
  refine wpU_take (v := ?_) 13 hst (fun _ h => h) rfl ?_ ?_; rotate_left; (intro W hS K hK; have h1 := hS.2.1.cell; have h2 := hS.2.2.1.cell; have hld1 := load_blk hS.2.1 Try.underlying40 rfl (by kernel_rfl); have hld2 := load_blk hS.2.2.1 Try.underlying49 rfl (by kernel_rfl); clear hS; go_simp; exact hK.out _ (Below.refl _ _)); simp only [Act.put, List.setIfInBounds_toArray, List.set_cons_zero, List.set_cons_succ]
  refine wpU_take (v := ?_) 14 hst (fun _ h => h) rfl ?_ ?_; rotate_left; (intro W hS K hK; have h1 := hS.2.1.cell; have h2 := hS.2.2.1.cell; have hld1 := load_blk hS.2.1 Try.underlying40 rfl (by kernel_rfl); have hld2 := load_blk hS.2.2.1 Try.underlying49 rfl (by kernel_rfl); clear hS; go_simp; exact hK.out _ (Below.refl _ _)); simp only [Act.put, List.setIfInBounds_toArray, List.set_cons_zero, List.set_cons_succ]
  refine wpU_take (v := ?_) 15 hst (fun _ h => h) rfl ?_ ?_; rotate_left; (intro W hS K hK; have h1 := hS.2.1.cell; have h2 := hS.2.2.1.cell; have hld1 := load_blk hS.2.1 Try.underlying40 rfl (by kernel_rfl); have hld2 := load_blk hS.2.2.1 Try.underlying49 rfl (by kernel_rfl); clear hS; go_simp; exact hK.out _ (Below.refl _ _)); simp only [Act.put, List.setIfInBounds_toArray, List.set_cons_zero, List.set_cons_succ]
  refine wpV_two 4 12 hst rfl rfl ?_ ?_
  · intro W hS K hK
    clear hS; go_simp; refine (F.out W).mono ?_; rintro e w9 ⟨g, hg, rfl, hb9, hg9, hh9, hz9⟩
    have HG := Lib.hid hg; clear hg
    refine hK.out (fun W => Blk W g 40 #[.int .i64 ro, .int .u64 (W64 ke), .int .u64 (W64 sa), .bool to, .bool true, .int .u64 (W64 tx), .int .u64 (W64 rx)] ∧ Blk W (g + 1) 22 #[.int .u64 (W64 d)]) _ _ (stable_and (stable_blk _ _ _) (stable_blk _ _ _)) hb9 ⟨hg9, hh9⟩ (fun hst => ?_)
    clear hK K hb9 hg9 hh9 hz9
    try simp only [Act.put, List.setIfInBounds_toArray, List.set_cons_zero, List.set_cons_succ]
    refine wpU_take (v := ?_) 7 hst (fun _ h => h) rfl ?_ ?_; rotate_left; (intro W hS K hK; skip; go_simp; refine (F1.out _ _ _ hS.2.1 hS.2.2).mono ?_; rintro e w9 ⟨rfl, rfl⟩; refine CallPost.mk ?_; exact hK.out _ (Below.refl _ _)); simp only [Act.put, List.setIfInBounds_toArray, List.set_cons_zero, List.set_cons_succ]
    refine wpV_new 12 hst rfl ?_; intro W hS K hK
    clear hS
    go_simp
    have hrw : RdB (W.alloc (.cells #[.int .u8 (W8 (BitVec.ofInt 8 ll))] 5)) (some ⟨W.heap.size, 0, none⟩) [BitVec.ofInt 8 ll] := Rd.new _ _ _
    refine hK.out (fun W' => RdB W' (some ⟨W.heap.size, 0, none⟩) [BitVec.ofInt 8 ll]) _ _ (stable_rdB _ _) ((Below.refl _ _).alloc (Nat.le_refl _) _) hrw (fun hst => ?_)
    clear hK K hrw
    try simp only [Act.put, List.setIfInBounds_toArray, List.set_cons_zero, List.set_cons_succ]
    refine wpV_new 16 hst rfl ?_; intro W hS K hK; skip; go_simp; refine (M.out _ _ hS.2 hS.1.1.2.2.2.2).mono ?_; rintro e w9 ⟨A', c', rfl, hr9, hc9, hb9⟩; refine hK.out (fun W => RdB W A' bs) _ _ (stable_rdB _ _) (hb9) (hr9) (fun hst => ?_); clear hK K hS; try simp only [Act.put, List.setIfInBounds_toArray, List.set_cons_zero, List.set_cons_succ]
    refine wpU_take (v := ?_) 17 hst (fun _ h => h) rfl ?_ ?_; rotate_left; (intro W hS K hK; clear hS; go_simp; exact hK.out _ (Below.refl _ _)); simp only [Act.put, List.setIfInBounds_toArray, List.set_cons_zero, List.set_cons_succ]
    refine wpU_take (v := ?_) 18 hst (fun _ h => h) rfl ?_ ?_; rotate_left; (intro W hS K hK; clear hS; go_simp; exact hK.out _ (Below.refl _ _)); simp only [Act.put, List.setIfInBounds_toArray, List.set_cons_zero, List.set_cons_succ]
    refine wpU_take (v := ?_) 19 hst (fun _ h => h) rfl ?_ ?_; rotate_left; (intro W hS K hK; clear hS; go_simp; exact hK.out _ (Below.refl _ _)); simp only [Act.put, List.setIfInBounds_toArray, List.set_cons_zero, List.set_cons_succ]
    refine wpU_take (v := ?_) 20 hst (fun _ h => h) rfl ?_ ?_; rotate_left; (intro W hS K hK; clear hS; go_simp; exact hK.out _ (Below.refl _ _)); simp only [Act.put, List.setIfInBounds_toArray, List.set_cons_zero, List.set_cons_succ]
    refine wpU_take (v := ?_) 21 hst (fun _ h => h) rfl ?_ ?_; rotate_left; (intro W hS K hK; clear hS; go_simp; exact hK.out _ (Below.refl _ _)); simp only [Act.put, List.setIfInBounds_toArray, List.set_cons_zero, List.set_cons_succ]
    refine wpU_done (fun W hS => ?_)
    have G3 := hS.1.1.1.2.2.2.1
    have hB := hS.1.1.1.1
    have hrA := hS.2
    have p0 : W.cell? ⟨w.heap.size + 1, 0, none⟩ = some (.int .i64 sn) := hS.1.1.1.2.2.1.cell 0
    have p1 : W.cell? ⟨w.heap.size + 1, 1, none⟩ = some (.int .i64 ne) := hS.1.1.1.2.2.1.cell 1
    have p2 : W.cell? ⟨w.heap.size + 1, 2, none⟩ = some (.int .i64 md) := hS.1.1.1.2.2.1.cell 2
    have p3 : W.cell? ⟨w.heap.size + 1, 3, none⟩ = some (.int .i64 ll) := hS.1.1.1.2.2.1.cell 3
    have p4 : W.cell? ⟨w.heap.size + 1, 4, none⟩ = some (.slice A n c) := hS.1.1.1.2.2.1.cell 4
    clear hS hst
    by_cases hen : en = 0
    · have e9 : (en != 0) = false := by simpa using hen
      have er := ER0.out
      rw [if_neg (by simpa using hen)] at er
      have ER := Lib.hid er
      clear hen er
      go_wp2_with fail
      refine (V.out A' c' _).mono ?_; rintro e w5 ⟨rfl, hb5⟩
      replace hrA := Rd.to hrA hb5
      replace hB := hB.trans (hb5.mono hB.size)
      replace G3 := G3.to hb5 G3.lt
      clear hb5 p0 p1 p2 p3 p4
      go_wp2_with (first | ((with_reducible refine wpList_st 0 #[.int .i64 sn, .int .i64 ne, .int .i64 md, .int .i64 ll, .slice A' m c'] #[.int .i64 sn, .int .i64 ne, .int .i64 md, .int .i64 ll, .slice A' m c'] G3 ?_ ?_ ?_ ?_ ?_ ?_ ?_); rfl; rfl; kernel_rfl; rfl; exact of_decide_eq_true rfl; rfl; intro w4 hB4 hU4; have hb04 := hU4.below hB (by omega); have hr5 := RdB.upd hrA G3 hU4 (by rfl)))
      refine bodyPost_ret (results_ct rfl rfl (load_blk hB4 Try.underlying49 rfl (by kernel_rfl))) rfl ?_
      rw [ER.out]
      refine ⟨A', c', ?_, hr5, ?_, hb04⟩
      · unfold pduA; dsimp only; rw [HO.out]; rfl
      · dsimp only; rw [HO.out]; exact hc9
    · have e9 : (en != 0) = true := by simpa using hen
      have er := ER0.out
      rw [if_pos (by simpa using hen)] at er
      have ER := Lib.hid er
      clear hen er
      go_wp2_with (first | ((with_reducible refine wpList_st 0 #[.int .i64 0, .int .i64 0, .int .i64 0, .int .i64 0, .slice none 0 0] #[.int .i64 0, .int .i64 0, .int .i64 0, .int .i64 0, .slice none 0 0] G3 ?_ ?_ ?_ ?_ ?_ ?_ ?_); rfl; rfl; kernel_rfl; rfl; exact of_decide_eq_true rfl; rfl; intro w4 hB4 hU4; have hb04 := hU4.below hB (by omega)))
      refine bodyPost_ret (results_ct rfl rfl (load_blk hB4 Try.underlying49 rfl (by kernel_rfl))) rfl ?_
      rw [ER.out]
      exact ⟨none, 0, rfl, Rd.nil _ _, Nat.le_refl _, hb04⟩
  · intro W hS K hK
    clear hS
    go_simp
    have hrw : RdB (W.alloc (.cells #[.int .u8 (W8 (BitVec.ofInt 8 ll))] 5)) (some ⟨W.heap.size, 0, none⟩) [BitVec.ofInt 8 ll] := Rd.new _ _ _
    refine hK.out (fun W' => RdB W' (some ⟨W.heap.size, 0, none⟩) [BitVec.ofInt 8 ll]) _ _ (stable_rdB _ _) ((Below.refl _ _).alloc (Nat.le_refl _) _) hrw (fun hst => ?_)
    clear hK K hrw
    try simp only [Act.put, List.setIfInBounds_toArray, List.set_cons_zero, List.set_cons_succ]
    refine wpV_new 4 hst rfl ?_; intro W hS K hK
    clear hS; go_simp; refine (F.out W).mono ?_; rintro e w9 ⟨g, hg, rfl, hb9, hg9, hh9, hz9⟩
    have HG := Lib.hid hg; clear hg
    refine hK.out (fun W => Blk W g 40 #[.int .i64 ro, .int .u64 (W64 ke), .int .u64 (W64 sa), .bool to, .bool true, .int .u64 (W64 tx), .int .u64 (W64 rx)] ∧ Blk W (g + 1) 22 #[.int .u64 (W64 d)]) _ _ (stable_and (stable_blk _ _ _) (stable_blk _ _ _)) hb9 ⟨hg9, hh9⟩ (fun hst => ?_)
    clear hK K hb9 hg9 hh9 hz9
    try simp only [Act.put, List.setIfInBounds_toArray, List.set_cons_zero, List.set_cons_succ]
    refine wpU_take (v := ?_) 7 hst (fun _ h => h) rfl ?_ ?_; rotate_left; (intro W hS K hK; skip; go_simp; refine (F1.out _ _ _ hS.2.1 hS.2.2).mono ?_; rintro e w9 ⟨rfl, rfl⟩; refine CallPost.mk ?_; exact hK.out _ (Below.refl _ _)); simp only [Act.put, List.setIfInBounds_toArray, List.set_cons_zero, List.set_cons_succ]
    refine wpV_new 16 hst rfl ?_; intro W hS K hK; skip; go_simp; refine (M.out _ _ hS.1.2 hS.1.1.2.2.2.2).mono ?_; rintro e w9 ⟨A', c', rfl, hr9, hc9, hb9⟩; refine hK.out (fun W => RdB W A' bs) _ _ (stable_rdB _ _) (hb9) (hr9) (fun hst => ?_); clear hK K hS; try simp only [Act.put, List.setIfInBounds_toArray, List.set_cons_zero, List.set_cons_succ]
    refine wpU_take (v := ?_) 17 hst (fun _ h => h) rfl ?_ ?_; rotate_left; (intro W hS K hK; clear hS; go_simp; exact hK.out _ (Below.refl _ _)); simp only [Act.put, List.setIfInBounds_toArray, List.set_cons_zero, List.set_cons_succ]
    refine wpU_take (v := ?_) 18 hst (fun _ h => h) rfl ?_ ?_; rotate_left; (intro W hS K hK; clear hS; go_simp; exact hK.out _ (Below.refl _ _)); simp only [Act.put, List.setIfInBounds_toArray, List.set_cons_zero, List.set_cons_succ]
    refine wpU_take (v := ?_) 19 hst (fun _ h => h) rfl ?_ ?_; rotate_left; (intro W hS K hK; clear hS; go_simp; exact hK.out _ (Below.refl _ _)); simp only [Act.put, List.setIfInBounds_toArray, List.set_cons_zero, List.set_cons_succ]
    refine wpU_take (v := ?_) 20 hst (fun _ h => h) rfl ?_ ?_; rotate_left; (intro W hS K hK; clear hS; go_simp; exact hK.out _ (Below.refl _ _)); simp only [Act.put, List.setIfInBounds_toArray, List.set_cons_zero, List.set_cons_succ]
    refine wpU_take (v := ?_) 21 hst (fun _ h => h) rfl ?_ ?_; rotate_left; (intro W hS K hK; clear hS; go_simp; exact hK.out _ (Below.refl _ _)); simp only [Act.put, List.setIfInBounds_toArray, List.set_cons_zero, List.set_cons_succ]
    refine wpU_done (fun W hS => ?_)
    have G3 := hS.1.1.1.2.2.2.1
    have hB := hS.1.1.1.1
    have hrA := hS.2
    have p0 : W.cell? ⟨w.heap.size + 1, 0, none⟩ = some (.int .i64 sn) := hS.1.1.1.2.2.1.cell 0
    have p1 : W.cell? ⟨w.heap.size + 1, 1, none⟩ = some (.int .i64 ne) := hS.1.1.1.2.2.1.cell 1
    have p2 : W.cell? ⟨w.heap.size + 1, 2, none⟩ = some (.int .i64 md) := hS.1.1.1.2.2.1.cell 2
    have p3 : W.cell? ⟨w.heap.size + 1, 3, none⟩ = some (.int .i64 ll) := hS.1.1.1.2.2.1.cell 3
    have p4 : W.cell? ⟨w.heap.size + 1, 4, none⟩ = some (.slice A n c) := hS.1.1.1.2.2.1.cell 4
    clear hS hst
    by_cases hen : en = 0
    · have e9 : (en != 0) = false := by simpa using hen
      have er := ER0.out
      rw [if_neg (by simpa using hen)] at er
      have ER := Lib.hid er
      clear hen er
      go_wp2_with fail
      refine (V.out A' c' _).mono ?_; rintro e w5 ⟨rfl, hb5⟩
      replace hrA := Rd.to hrA hb5
      replace hB := hB.trans (hb5.mono hB.size)
      replace G3 := G3.to hb5 G3.lt
      clear hb5 p0 p1 p2 p3 p4
      go_wp2_with (first | ((with_reducible refine wpList_st 0 #[.int .i64 sn, .int .i64 ne, .int .i64 md, .int .i64 ll, .slice A' m c'] #[.int .i64 sn, .int .i64 ne, .int .i64 md, .int .i64 ll, .slice A' m c'] G3 ?_ ?_ ?_ ?_ ?_ ?_ ?_); rfl; rfl; kernel_rfl; rfl; exact of_decide_eq_true rfl; rfl; intro w4 hB4 hU4; have hb04 := hU4.below hB (by omega); have hr5 := RdB.upd hrA G3 hU4 (by rfl)))
      refine bodyPost_ret (results_ct rfl rfl (load_blk hB4 Try.underlying49 rfl (by kernel_rfl))) rfl ?_
      rw [ER.out]
      refine ⟨A', c', ?_, hr5, ?_, hb04⟩
      · unfold pduA; dsimp only; rw [HO.out]; rfl
      · dsimp only; rw [HO.out]; exact hc9
    · have e9 : (en != 0) = true := by simpa using hen
      have er := ER0.out
      rw [if_pos (by simpa using hen)] at er
      have ER := Lib.hid er
      clear hen er
      go_wp2_with (first | ((with_reducible refine wpList_st 0 #[.int .i64 0, .int .i64 0, .int .i64 0, .int .i64 0, .slice none 0 0] #[.int .i64 0, .int .i64 0, .int .i64 0, .int .i64 0, .slice none 0 0] G3 ?_ ?_ ?_ ?_ ?_ ?_ ?_); rfl; rfl; kernel_rfl; rfl; exact of_decide_eq_true rfl; rfl; intro w4 hB4 hU4; have hb04 := hU4.below hB (by omega)))
      refine bodyPost_ret (results_ct rfl rfl (load_blk hB4 Try.underlying49 rfl (by kernel_rfl))) rfl ?_
      rw [ER.out]
      exact ⟨none, 0, rfl, Rd.nil _ _, Nat.le_refl _, hb04⟩
end Go.Proofs.Ytmehemojopfihaa
