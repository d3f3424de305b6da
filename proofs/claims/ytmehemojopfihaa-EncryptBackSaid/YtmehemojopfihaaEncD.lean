/- Contracts of layer 29 (encrypt): Seal and Open of the code and of the reference. -/
import Derived.Test.YtmehemojopfihaaEncC
import Derived.Test.YtmehemojopfihaaMac3
import Derived.Test.YtmehemojopfihaaRoom
namespace Go.Proofs.Ytmehemojopfihaa
set_option maxRecDepth 100000
open Go.ChangeShapes Go.WideShapes Go.ChangeAt Go.RowKit
set_option linter.unusedVariables false
set_option linter.unusedSimpArgs false

/-- What Seal and Open return: a PDU and an error. -/
def RetP (w : World) (r : Pdu × Int) (e : Ending) (w' : World) : Prop :=
  ∃ (A : Option Addr) (c : Nat), e = .returned (.tuple #[.agg (pduA r.1 A c), .int .i64 r.2]) ∧ RdB w' A r.1.pay ∧ r.1.pay.length ≤ c ∧ Below w.heap.size w w'
theorem enc_nonce' (s : Ses) (d : BitVec 64) (w : World) :
    Calls Try.prog 68 #[.agg (seA s), .int .u64 (W64 d)] w fun e w' => ∃ g, g = w.heap.size ∧ e = .returned (.func (.func 92) #[] #[.pointer (some ⟨g, 0, none⟩), .pointer (some ⟨g + 1, 0, none⟩)]) ∧
      Below w.heap.size w w' ∧ Blk w' g 40 (seA s) ∧ Blk w' (g + 1) 22 #[.int .u64 (W64 d)] ∧ w'.heap.size = g + 2 := (enc_nonce s d w).mono fun e w' h => ⟨_, rfl, h⟩
theorem calls_at {f : Nat} {args : Array Value} {w : World} {bs out : List (BitVec 8)} {n : Nat} (h : Calls Try.prog f args w (RetB w bs)) (he : bs = out) (hn : out.length = n) :
    Calls Try.prog f args w fun e w' => ∃ A' c', e = .returned (.slice A' n c') ∧ RdB w' A' out ∧ n ≤ c' ∧ Below w.heap.size w w' := by
  subst he
  exact h.mono fun e w' h => RetR.at_ h.r hn
theorem join_one (A A1 : Option Addr) (c n : Nat) (bs : List (BitVec 8)) (hn : bs.length = n) (w : World) (h : Rd w A1 [.slice A n c]) (hr : RdB w A bs) (hl : n ≤ 65536) :
    Calls Try.prog 65 #[.slice A1 1 1] w fun e w' => ∃ A' c', e = .returned (.slice A' n c') ∧ RdB w' A' bs ∧ n ≤ c' ∧ Below w.heap.size w w' := by
  subst hn
  refine (octets_Join A1 1 [(A, c, bs)] w h (fun q hq => by obtain rfl := List.mem_singleton.1 hq; exact hr) (by simpa using (by omega : bs.length ≤ 1048576)) (by simp)).mono ?_
  rintro e w' ⟨A', c', rfl, ho, hb⟩
  have e1 : ([(A, c, bs)] : List Part).flatMap (·.2.2) = bs := by simp
  rw [e1] at ho ⊢
  exact ⟨A', c', rfl, Rd.of_own ho, (own_cap ho).1, hb⟩

set_option maxHeartbeats 4000000 in
theorem enc_Seal (s : Ses) (q : Pdu) (A : Option Addr) (c : Nat) (w : World) (hr : RdB w A q.pay) (hl : q.pay.length ≤ 1000) (hc : q.pay.length ≤ c) :
    Calls Try.prog 32 #[.agg (seA s), .agg (pduA q A c)] w (RetP w (sealS s q)) := by
  have B := box3 w 40 (seA s) 49 (pduA q A c) 49 #[.int .i64 0, .int .i64 0, .int .i64 0, .int .i64 0, .slice none 0 0]
  have C := Lib.hid (fun W => dp_Check q A c W)
  have K := Lib.hid (fun W => dp_Blank q A c W)
  obtain ⟨r, hs⟩ : ∃ r, sealS s q = r := ⟨_, rfl⟩
  rw [hs]
  have HS := Lib.hid hs
  clear hs
  obtain ⟨k, hk⟩ : ∃ k, checkS q = k := ⟨_, rfl⟩
  obtain ⟨b, hb⟩ : ∃ b, blankS q = b := ⟨_, rfl⟩
  rw [hk] at C
  rw [hb] at K
  have HK := Lib.hid hk
  have HB := Lib.hid hb
  clear hk hb
  obtain ⟨ro, ke, sa, to, rn, tx, rx⟩ := s
  obtain ⟨sn, ne, md, ll, pay⟩ := q
  unfold seA pduA at B
  unfold pduA at C
  unfold pakA at K
  unfold seA pduA
  dsimp only at B C K hr hl hc ⊢
  obtain ⟨n, hn⟩ : ∃ n, pay.length = n := ⟨_, rfl⟩
  rw [hn] at B C K hl hc ⊢
  have HN := Lib.hid hn
  clear hn
  by_cases h0 : k = 0
  case neg =>
    have e0 : (k != 0) = true := by simpa using h0
    have er : r = (nilP, k) := by rw [← HS.out]; unfold sealS; rw [HK.out, if_pos h0]
    subst er
    have hkk := Lib.hid h0
    clear h0
    go_enter Try.func32, Try.ntmps32
    go_wp2_with fail
    refine (C.out _).mono ?_; rintro e w1 ⟨rfl, hb1⟩
    have G1 := B.2.1.to hb1 B.2.1.lt
    have G2 := B.2.2.1.to hb1 B.2.2.1.lt
    have G3 := B.2.2.2.to hb1 B.2.2.2.lt
    have hB := B.1.trans (hb1.mono B.1.size)
    have hr1 := Rd.to hr hB
    have hfl : w1.cell? ⟨w.heap.size, 3, none⟩ = some (.bool to) := G1.cell 3
    have hp3 : w1.cell? ⟨w.heap.size + 1, 3, none⟩ = some (.int .i64 ll) := G2.cell 3
    have hp4 : w1.cell? ⟨w.heap.size + 1, 4, none⟩ = some (.slice A n c) := G2.cell 4
    clear B hb1
    go_wp2_with (first | ((with_reducible refine wpList_st 0 #[.int .i64 0, .int .i64 0, .int .i64 0, .int .i64 0, .slice none 0 0] #[.int .i64 0, .int .i64 0, .int .i64 0, .int .i64 0, .slice none 0 0] G3 ?_ ?_ ?_ ?_ ?_ ?_ ?_); rfl; rfl; kernel_rfl; rfl; exact of_decide_eq_true rfl; rfl; intro w4 hB4 hU4; have hb04 := hU4.below hB (by omega)))
    refine bodyPost_ret (results_ct rfl rfl (load_blk hB4 Try.underlying49 rfl (by kernel_rfl))) rfl ?_
    exact ⟨none, 0, rfl, Rd.nil _ _, Nat.le_refl _, hb04⟩
  subst h0
  have hpos : 0 ≤ n := Nat.zero_le n
  have HW := Lib.hid (fun A' c' W => enc_with ⟨sn, ne, md, ll, pay⟩ A A' c c' pay W)
  unfold pduA at HW
  dsimp only at HW
  rw [HN.out] at HW
  cases to
  case false =>
    have er : r = (⟨sn, ne, md, ll, pay⟩, 0) := by rw [← HS.out]; unfold sealS; rw [HK.out]; rfl
    go_enter Try.func32, Try.ntmps32
    go_wp2_with fail
    refine (C.out _).mono ?_; rintro e w1 ⟨rfl, hb1⟩
    have G1 := B.2.1.to hb1 B.2.1.lt
    have G2 := B.2.2.1.to hb1 B.2.2.1.lt
    have G3 := B.2.2.2.to hb1 B.2.2.2.lt
    have hB := B.1.trans (hb1.mono B.1.size)
    have hr1 := Rd.to hr hB
    have hfl : w1.cell? ⟨w.heap.size, 3, none⟩ = some (.bool false) := G1.cell 3
    have hp3 : w1.cell? ⟨w.heap.size + 1, 3, none⟩ = some (.int .i64 ll) := G2.cell 3
    have hp4 : w1.cell? ⟨w.heap.size + 1, 4, none⟩ = some (.slice A n c) := G2.cell 4
    clear B hb1
    go_wp2
    have hst : Stable fun W => Below w.heap.size w W ∧ Blk W w.heap.size 40 #[.int .i64 ro, .int .u64 (W64 ke), .int .u64 (W64 sa), .bool false, .bool rn, .int .u64 (W64 tx), .int .u64 (W64 rx)] ∧ Blk W (w.heap.size + 1) 49 #[.int .i64 sn, .int .i64 ne, .int .i64 md, .int .i64 ll, .slice A n c] ∧ Room (w.heap.size + 2) 49 5 W ∧ RdB W A pay := stable_and (stable_below _ _ (Nat.le_refl _)) (stable_and (stable_blk _ _ _) (stable_and (stable_blk _ _ _) (stable_and (stable_room _ _ _) (stable_rdB _ _))))
    refine wp_region_v _ 9 hst ⟨hB.drew, G1, G2, ⟨_, rfl, rfl, G3⟩, hr1⟩ ?_
    refine wpU_take (v := ?_) 0 hst (fun _ h => h) rfl ?_ ?_; rotate_left; (intro W hS K hK; have hc := hS.2.2.1.cell; have hld := load_blk hS.2.2.1 Try.underlying49 rfl (by kernel_rfl); clear hS; go_simp; exact hK.out _ (Below.refl _ _)); simp only [Act.put, List.setIfInBounds_toArray, List.set_cons_zero, List.set_cons_succ]
    refine wpU_take (v := ?_) 1 hst (fun _ h => h) rfl ?_ ?_; rotate_left; (intro W hS K hK; have hc := hS.2.2.1.cell; have hld := load_blk hS.2.2.1 Try.underlying49 rfl (by kernel_rfl); clear hS; go_simp; exact hK.out _ (Below.refl _ _)); simp only [Act.put, List.setIfInBounds_toArray, List.set_cons_zero, List.set_cons_succ]
    refine wpU_take (v := ?_) 2 hst (fun _ h => h) rfl ?_ ?_; rotate_left; (intro W hS K hK; have hc := hS.2.2.1.cell; have hld := load_blk hS.2.2.1 Try.underlying49 rfl (by kernel_rfl); clear hS; go_simp; exact hK.out _ (Below.refl _ _)); simp only [Act.put, List.setIfInBounds_toArray, List.set_cons_zero, List.set_cons_succ]
    refine wpU_take (v := ?_) 3 hst (fun _ h => h) rfl ?_ ?_; rotate_left; (intro W hS K hK; have hc := hS.2.2.1.cell; have hld := load_blk hS.2.2.1 Try.underlying49 rfl (by kernel_rfl); clear hS; go_simp; exact hK.out _ (Below.refl _ _)); simp only [Act.put, List.setIfInBounds_toArray, List.set_cons_zero, List.set_cons_succ]
    refine wpV_new 4 hst rfl ?_; intro W hS K hK; go_simp
    refine hK.out (fun W' => Rd W' (some ⟨W.heap.size, 0, none⟩) [.slice A n c]) _ _ (stable_rd _ _) ((Below.refl _ _).alloc (Nat.le_refl _) _) (Rd.new _ _ _) (fun hst => ?_)
    have hlt : w.heap.size + 2 < W.heap.size := by obtain ⟨_, _, _, h⟩ := hS.2.2.2.1; exact h.lt
    clear hK K hS
    refine wpV_new 5 hst rfl ?_; intro W hS K hK; skip; go_simp; refine (join_one A _ c n pay HN.out _ hS.2 hS.1.2.2.2.2 (by omega)).mono ?_; rintro e w9 ⟨A', c', rfl, hr9, hc9, hb9⟩; refine hK.out (fun W => RdB W A' pay) _ _ (stable_rdB _ _) (hb9) (hr9) (fun hst => ?_); clear hK K hS; try simp only [Act.put, List.setIfInBounds_toArray, List.set_cons_zero, List.set_cons_succ]
    refine wpU_take (v := ?_) 6 hst (fun _ h => h) rfl ?_ ?_; rotate_left; (intro W hS K hK; clear hS; go_simp; refine (HW.out A' c' _).mono ?_; rintro e w9 ⟨rfl, hb⟩; refine CallPost.mk ?_; exact hK.out _ (hb)); simp only [Act.put, List.setIfInBounds_toArray, List.set_cons_zero, List.set_cons_succ]
    refine wpV_st 7 hst (fun _ h => h) #[.int .i64 sn, .int .i64 ne, .int .i64 md, .int .i64 ll, .slice A' n c'] rfl rfl rfl rfl (fun W h => h.1.1.2.2.2.1) (fun W W' h hU hG => ?_) (by kernel_rfl) rfl (fun hst => ?_)
    · obtain ⟨⟨⟨h1, h2, h3, ⟨cs, h4, h5, h6⟩, h7⟩, h8⟩, h9⟩ := h
      exact ⟨⟨⟨hU.below h1 (by omega), hU.blk h2 (by omega), hU.blk h3 (by omega), ⟨_, rfl, rfl, hG⟩, RdB.upd h7 h6 hU h5⟩, Upd.rd hU h8 (fun ad he => by cases he; dsimp only; omega)⟩, RdB.upd h9 h6 hU h5⟩
    refine wpU_take (v := ?_) 8 hst (fun _ h => h.1) rfl ?_ ?_; rotate_left; (intro W hS K hK; clear hS; go_simp; exact hK.out _ (Below.refl _ _)); simp only [Act.put, List.setIfInBounds_toArray, List.set_cons_zero, List.set_cons_succ]
    refine wpU_done (fun W hS => ?_)
    go_wp2
    refine bodyPost_ret (results_ct rfl rfl (load_blk hS.2 Try.underlying49 rfl (by kernel_rfl))) rfl ?_
    rw [er]
    have hn := HN.out
    subst hn
    exact ⟨A', c', rfl, hS.1.2, hc9, hS.1.1.1.1⟩
  cases b
  case true =>
    have er : r = (⟨sn, ne, md, ll, pay⟩, 0) := by rw [← HS.out]; unfold sealS; rw [HK.out, HB.out]; rfl
    go_enter Try.func32, Try.ntmps32
    go_wp2_with fail
    refine (C.out _).mono ?_; rintro e w1 ⟨rfl, hb1⟩
    have G1 := B.2.1.to hb1 B.2.1.lt
    have G2 := B.2.2.1.to hb1 B.2.2.1.lt
    have G3 := B.2.2.2.to hb1 B.2.2.2.lt
    have hB := B.1.trans (hb1.mono B.1.size)
    have hr1 := Rd.to hr hB
    have hfl : w1.cell? ⟨w.heap.size, 3, none⟩ = some (.bool true) := G1.cell 3
    have hp3 : w1.cell? ⟨w.heap.size + 1, 3, none⟩ = some (.int .i64 ll) := G2.cell 3
    have hp4 : w1.cell? ⟨w.heap.size + 1, 4, none⟩ = some (.slice A n c) := G2.cell 4
    clear B hb1
    go_wp2_with fail
    refine (K.out _).mono ?_; rintro e w2 ⟨rfl, hb2⟩
    replace hr1 := Rd.to hr1 hb2
    replace hB := hB.trans (hb2.mono hB.size)
    replace G3 := G3.to hb2 G3.lt
    replace G2 := G2.to hb2 G2.lt
    replace G1 := G1.to hb2 G1.lt
    clear hfl hp3 hp4 hb2
    have hp3 : w2.cell? ⟨w.heap.size + 1, 3, none⟩ = some (.int .i64 ll) := G2.cell 3
    have hp4 : w2.cell? ⟨w.heap.size + 1, 4, none⟩ = some (.slice A n c) := G2.cell 4
    go_wp2
    have hst : Stable fun W => Below w.heap.size w W ∧ Blk W w.heap.size 40 #[.int .i64 ro, .int .u64 (W64 ke), .int .u64 (W64 sa), .bool true, .bool rn, .int .u64 (W64 tx), .int .u64 (W64 rx)] ∧ Blk W (w.heap.size + 1) 49 #[.int .i64 sn, .int .i64 ne, .int .i64 md, .int .i64 ll, .slice A n c] ∧ Room (w.heap.size + 2) 49 5 W ∧ RdB W A pay := stable_and (stable_below _ _ (Nat.le_refl _)) (stable_and (stable_blk _ _ _) (stable_and (stable_blk _ _ _) (stable_and (stable_room _ _ _) (stable_rdB _ _))))
    refine wp_region_v _ 9 hst ⟨hB.drew, G1, G2, ⟨_, rfl, rfl, G3⟩, hr1⟩ ?_
    refine wpU_take (v := ?_) 0 hst (fun _ h => h) rfl ?_ ?_; rotate_left; (intro W hS K hK; have hc := hS.2.2.1.cell; have hld := load_blk hS.2.2.1 Try.underlying49 rfl (by kernel_rfl); clear hS; go_simp; exact hK.out _ (Below.refl _ _)); simp only [Act.put, List.setIfInBounds_toArray, List.set_cons_zero, List.set_cons_succ]
    refine wpU_take (v := ?_) 1 hst (fun _ h => h) rfl ?_ ?_; rotate_left; (intro W hS K hK; have hc := hS.2.2.1.cell; have hld := load_blk hS.2.2.1 Try.underlying49 rfl (by kernel_rfl); clear hS; go_simp; exact hK.out _ (Below.refl _ _)); simp only [Act.put, List.setIfInBounds_toArray, List.set_cons_zero, List.set_cons_succ]
    refine wpU_take (v := ?_) 2 hst (fun _ h => h) rfl ?_ ?_; rotate_left; (intro W hS K hK; have hc := hS.2.2.1.cell; have hld := load_blk hS.2.2.1 Try.underlying49 rfl (by kernel_rfl); clear hS; go_simp; exact hK.out _ (Below.refl _ _)); simp only [Act.put, List.setIfInBounds_toArray, List.set_cons_zero, List.set_cons_succ]
    refine wpU_take (v := ?_) 3 hst (fun _ h => h) rfl ?_ ?_; rotate_left; (intro W hS K hK; have hc := hS.2.2.1.cell; have hld := load_blk hS.2.2.1 Try.underlying49 rfl (by kernel_rfl); clear hS; go_simp; exact hK.out _ (Below.refl _ _)); simp only [Act.put, List.setIfInBounds_toArray, List.set_cons_zero, List.set_cons_succ]
    refine wpV_new 4 hst rfl ?_; intro W hS K hK; go_simp
    refine hK.out (fun W' => Rd W' (some ⟨W.heap.size, 0, none⟩) [.slice A n c]) _ _ (stable_rd _ _) ((Below.refl _ _).alloc (Nat.le_refl _) _) (Rd.new _ _ _) (fun hst => ?_)
    have hlt : w.heap.size + 2 < W.heap.size := by obtain ⟨_, _, _, h⟩ := hS.2.2.2.1; exact h.lt
    clear hK K hS
    refine wpV_new 5 hst rfl ?_; intro W hS K hK; skip; go_simp; refine (join_one A _ c n pay HN.out _ hS.2 hS.1.2.2.2.2 (by omega)).mono ?_; rintro e w9 ⟨A', c', rfl, hr9, hc9, hb9⟩; refine hK.out (fun W => RdB W A' pay) _ _ (stable_rdB _ _) (hb9) (hr9) (fun hst => ?_); clear hK K hS; try simp only [Act.put, List.setIfInBounds_toArray, List.set_cons_zero, List.set_cons_succ]
    refine wpU_take (v := ?_) 6 hst (fun _ h => h) rfl ?_ ?_; rotate_left; (intro W hS K hK; clear hS; go_simp; refine (HW.out A' c' _).mono ?_; rintro e w9 ⟨rfl, hb⟩; refine CallPost.mk ?_; exact hK.out _ (hb)); simp only [Act.put, List.setIfInBounds_toArray, List.set_cons_zero, List.set_cons_succ]
    refine wpV_st 7 hst (fun _ h => h) #[.int .i64 sn, .int .i64 ne, .int .i64 md, .int .i64 ll, .slice A' n c'] rfl rfl rfl rfl (fun W h => h.1.1.2.2.2.1) (fun W W' h hU hG => ?_) (by kernel_rfl) rfl (fun hst => ?_)
    · obtain ⟨⟨⟨h1, h2, h3, ⟨cs, h4, h5, h6⟩, h7⟩, h8⟩, h9⟩ := h
      exact ⟨⟨⟨hU.below h1 (by omega), hU.blk h2 (by omega), hU.blk h3 (by omega), ⟨_, rfl, rfl, hG⟩, RdB.upd h7 h6 hU h5⟩, Upd.rd hU h8 (fun ad he => by cases he; dsimp only; omega)⟩, RdB.upd h9 h6 hU h5⟩
    refine wpU_take (v := ?_) 8 hst (fun _ h => h.1) rfl ?_ ?_; rotate_left; (intro W hS K hK; clear hS; go_simp; exact hK.out _ (Below.refl _ _)); simp only [Act.put, List.setIfInBounds_toArray, List.set_cons_zero, List.set_cons_succ]
    refine wpU_done (fun W hS => ?_)
    go_wp2
    refine bodyPost_ret (results_ct rfl rfl (load_blk hS.2 Try.underlying49 rfl (by kernel_rfl))) rfl ?_
    rw [er]
    have hn := HN.out
    subst hn
    exact ⟨A', c', rfl, hS.1.2, hc9, hS.1.1.1.1⟩
  by_cases h5 : 251 < n
  · have e5 : decide ((251 : Int) < ((n : Nat) : Int)) = true := by simp; omega
    have er : r = (nilP, 4) := by rw [← HS.out]; unfold sealS; rw [HK.out, HB.out, if_neg (by simp), if_neg (by simp), if_pos (by rw [← HN.out] at h5; exact h5)]
    subst er
    have h55 := Lib.hid h5
    clear h5
    go_enter Try.func32, Try.ntmps32
    go_wp2_with fail
    refine (C.out _).mono ?_; rintro e w1 ⟨rfl, hb1⟩
    have G1 := B.2.1.to hb1 B.2.1.lt
    have G2 := B.2.2.1.to hb1 B.2.2.1.lt
    have G3 := B.2.2.2.to hb1 B.2.2.2.lt
    have hB := B.1.trans (hb1.mono B.1.size)
    have hr1 := Rd.to hr hB
    have hfl : w1.cell? ⟨w.heap.size, 3, none⟩ = some (.bool true) := G1.cell 3
    have hp3 : w1.cell? ⟨w.heap.size + 1, 3, none⟩ = some (.int .i64 ll) := G2.cell 3
    have hp4 : w1.cell? ⟨w.heap.size + 1, 4, none⟩ = some (.slice A n c) := G2.cell 4
    clear B hb1
    go_wp2_with fail
    refine (K.out _).mono ?_; rintro e w2 ⟨rfl, hb2⟩
    replace hr1 := Rd.to hr1 hb2
    replace hB := hB.trans (hb2.mono hB.size)
    replace G3 := G3.to hb2 G3.lt
    replace G2 := G2.to hb2 G2.lt
    replace G1 := G1.to hb2 G1.lt
    clear hfl hp3 hp4 hb2
    have hp3 : w2.cell? ⟨w.heap.size + 1, 3, none⟩ = some (.int .i64 ll) := G2.cell 3
    have hp4 : w2.cell? ⟨w.heap.size + 1, 4, none⟩ = some (.slice A n c) := G2.cell 4
    go_wp2_with (first | ((with_reducible refine wpList_st 0 #[.int .i64 0, .int .i64 0, .int .i64 0, .int .i64 0, .slice none 0 0] #[.int .i64 0, .int .i64 0, .int .i64 0, .int .i64 0, .slice none 0 0] G3 ?_ ?_ ?_ ?_ ?_ ?_ ?_); rfl; rfl; kernel_rfl; rfl; exact of_decide_eq_true rfl; rfl; intro w4 hB4 hU4; have hb04 := hU4.below hB (by omega)))
    refine bodyPost_ret (results_ct rfl rfl (load_blk hB4 Try.underlying49 rfl (by kernel_rfl))) rfl ?_
    exact ⟨none, 0, rfl, Rd.nil _ _, Nat.le_refl _, hb04⟩
  have e5 : decide ((251 : Int) < ((n : Nat) : Int)) = false := by simp; omega
  obtain ⟨d, hd⟩ : ∃ d, sentD ro = d := ⟨_, rfl⟩
  obtain ⟨d2, hd2⟩ : ∃ d2, gotD ro = d2 := ⟨_, rfl⟩
  obtain ⟨no, hno⟩ : ∃ no, nonceS sa d tx = no := ⟨_, rfl⟩
  obtain ⟨out, hout⟩ : ∃ out, sealB ke no [BitVec.ofInt 8 ll] pay = out := ⟨_, rfl⟩
  have hol : out.length = n + 4 := by rw [← hout, sealB_length, HN.out]
  have er : r = (⟨sn, ne, md, ll, out⟩, 0) := by
    rw [← HS.out]; unfold sealS; rw [HK.out, HB.out, if_neg (by simp), if_neg (by simp), if_neg (by rw [HN.out]; exact h5)]
    dsimp only
    rw [hd, hno, hout]
  have D := Lib.hid (fun W => enc_sides ⟨ro, ke, sa, true, rn, tx, rx⟩ W)
  have F := Lib.hid (fun W => enc_nonce' ⟨ro, ke, sa, true, rn, tx, rx⟩ d W)
  have F1 := Lib.hid (fun W g h h1 h2 => enc_nonce_f ⟨ro, ke, sa, true, rn, tx, rx⟩ d tx g h W h1 h2)
  have M := Lib.hid (fun W A1 (h1 : RdB W A1 [BitVec.ofInt 8 ll]) (h2 : RdB W A pay) => calls_at (mac_Seal ke no A1 A 1 c [BitVec.ofInt 8 ll] pay W h1 h2 (by simp) (by rw [HN.out]; omega)) hout hol)
  have V := Lib.hid (fun A' c' W => enc_with ⟨sn, ne, md, ll, pay⟩ A A' c c' out W)
  unfold seA at D F F1
  unfold pduA at V
  dsimp only at D F F1 V
  rw [hd, hd2] at D
  rw [hno] at F1
  rw [HN.out] at M
  rw [HN.out, hol] at V
  have HO := Lib.hid hol
  clear hd hd2 hno hout hol HW
  go_enter Try.func32, Try.ntmps32
  go_wp2_with fail
  refine (C.out _).mono ?_; rintro e w1 ⟨rfl, hb1⟩
  have G1 := B.2.1.to hb1 B.2.1.lt
  have G2 := B.2.2.1.to hb1 B.2.2.1.lt
  have G3 := B.2.2.2.to hb1 B.2.2.2.lt
  have hB := B.1.trans (hb1.mono B.1.size)
  have hr1 := Rd.to hr hB
  have hfl : w1.cell? ⟨w.heap.size, 3, none⟩ = some (.bool true) := G1.cell 3
  have hp3 : w1.cell? ⟨w.heap.size + 1, 3, none⟩ = some (.int .i64 ll) := G2.cell 3
  have hp4 : w1.cell? ⟨w.heap.size + 1, 4, none⟩ = some (.slice A n c) := G2.cell 4
  clear B hb1
  go_wp2_with fail
  refine (K.out _).mono ?_; rintro e w2 ⟨rfl, hb2⟩
  replace hr1 := Rd.to hr1 hb2
  replace hB := hB.trans (hb2.mono hB.size)
  replace G3 := G3.to hb2 G3.lt
  replace G2 := G2.to hb2 G2.lt
  replace G1 := G1.to hb2 G1.lt
  clear hfl hp3 hp4 hb2
  have hp3 : w2.cell? ⟨w.heap.size + 1, 3, none⟩ = some (.int .i64 ll) := G2.cell 3
  have hp4 : w2.cell? ⟨w.heap.size + 1, 4, none⟩ = some (.slice A n c) := G2.cell 4
  have q0 : w2.cell? ⟨w.heap.size, 0, none⟩ = some (.int .i64 ro) := G1.cell 0
  have q1 : w2.cell? ⟨w.heap.size, 1, none⟩ = some (.int .u64 (W64 ke)) := G1.cell 1
  have q2 : w2.cell? ⟨w.heap.size, 2, none⟩ = some (.int .u64 (W64 sa)) := G1.cell 2
  have q3 : w2.cell? ⟨w.heap.size, 3, none⟩ = some (.bool true) := G1.cell 3
  have q4 : w2.cell? ⟨w.heap.size, 4, none⟩ = some (.bool rn) := G1.cell 4
  have q5 : w2.cell? ⟨w.heap.size, 5, none⟩ = some (.int .u64 (W64 tx)) := G1.cell 5
  have q6 : w2.cell? ⟨w.heap.size, 6, none⟩ = some (.int .u64 (W64 rx)) := G1.cell 6
  go_wp2_with fail
  refine (D.out _).mono ?_; rintro e w3 ⟨rfl, hb3⟩
  replace hr1 := Rd.to hr1 hb3
  replace hB := hB.trans (hb3.mono hB.size)
  replace G3 := G3.to hb3 G3.lt
  replace G2 := G2.to hb3 G2.lt
  replace G1 := G1.to hb3 G1.lt
  clear hp3 hp4 hb3 q0 q1 q2 q3 q4 q5 q6
  go_wp2
  have hst : Stable fun W => Below w.heap.size w W ∧ Blk W w.heap.size 40 #[.int .i64 ro, .int .u64 (W64 ke), .int .u64 (W64 sa), .bool true, .bool rn, .int .u64 (W64 tx), .int .u64 (W64 rx)] ∧ Blk W (w.heap.size + 1) 49 #[.int .i64 sn, .int .i64 ne, .int .i64 md, .int .i64 ll, .slice A n c] ∧ Room (w.heap.size + 2) 49 5 W ∧ RdB W A pay := stable_and (stable_below _ _ (Nat.le_refl _)) (stable_and (stable_blk _ _ _) (stable_and (stable_blk _ _ _) (stable_and (stable_room _ _ _) (stable_rdB _ _))))
  refine wp_region_v _ 21 hst ⟨hB.drew, G1, G2, ⟨_, rfl, rfl, G3⟩, hr1⟩ ?_
  refine wpU_take (v := ?_) 0 hst (fun _ h => h) rfl ?_ ?_; rotate_left; (intro W hS K hK; have h1 := hS.2.1.cell; have h2 := hS.2.2.1.cell; have hld1 := load_blk hS.2.1 Try.underlying40 rfl (by kernel_rfl); have hld2 := load_blk hS.2.2.1 Try.underlying49 rfl (by kernel_rfl); clear hS; go_simp; exact hK.out _ (Below.refl _ _)); simp only [Act.put, List.setIfInBounds_toArray, List.set_cons_zero, List.set_cons_succ]
  refine wpU_take (v := ?_) 1 hst (fun _ h => h) rfl ?_ ?_; rotate_left; (intro W hS K hK; have h1 := hS.2.1.cell; have h2 := hS.2.2.1.cell; have hld1 := load_blk hS.2.1 Try.underlying40 rfl (by kernel_rfl); have hld2 := load_blk hS.2.2.1 Try.underlying49 rfl (by kernel_rfl); clear hS; go_simp; exact hK.out _ (Below.refl _ _)); simp only [Act.put, List.setIfInBounds_toArray, List.set_cons_zero, List.set_cons_succ]
  refine wpU_take (v := ?_) 2 hst (fun _ h => h) rfl ?_ ?_; rotate_left; (intro W hS K hK; have h1 := hS.2.1.cell; have h2 := hS.2.2.1.cell; have hld1 := load_blk hS.2.1 Try.underlying40 rfl (by kernel_rfl); have hld2 := load_blk hS.2.2.1 Try.underlying49 rfl (by kernel_rfl); clear hS; go_simp; exact hK.out _ (Below.refl _ _)); simp only [Act.put, List.setIfInBounds_toArray, List.set_cons_zero, List.set_cons_succ]
  refine wpU_take (v := ?_) 3 hst (fun _ h => h) rfl ?_ ?_; rotate_left; (intro W hS K hK; have h1 := hS.2.1.cell; have h2 := hS.2.2.1.cell; have hld1 := load_blk hS.2.1 Try.underlying40 rfl (by kernel_rfl); have hld2 := load_blk hS.2.2.1 Try.underlying49 rfl (by kernel_rfl); clear hS; go_simp; exact hK.out _ (Below.refl _ _)); simp only [Act.put, List.setIfInBounds_toArray, List.set_cons_zero, List.set_cons_succ]
  refine wpU_take (v := ?_) 4 hst (fun _ h => h) rfl ?_ ?_; rotate_left; (intro W hS K hK; have h1 := hS.2.1.cell; have h2 := hS.2.2.1.cell; have hld1 := load_blk hS.2.1 Try.underlying40 rfl (by kernel_rfl); have hld2 := load_blk hS.2.2.1 Try.underlying49 rfl (by kernel_rfl); clear hS; go_simp; exact hK.out _ (Below.refl _ _)); simp only [Act.put, List.setIfInBounds_toArray, List.set_cons_zero, List.set_cons_succ]
  refine wpU_take (v := ?_) 6 hst (fun _ h => h) rfl ?_ ?_; rotate_left; (intro W hS K hK; have h1 := hS.2.1.cell; have h2 := hS.2.2.1.cell; have hld1 := load_blk hS.2.1 Try.underlying40 rfl (by kernel_rfl); have hld2 := load_blk hS.2.2.1 Try.underlying49 rfl (by kernel_rfl); clear hS; go_simp; exact hK.out _ (Below.refl _ _)); simp only [Act.put, List.setIfInBounds_toArray, List.set_cons_zero, List.set_cons_succ]
  refine wpU_take (v := ?_) 7 hst (fun _ h => h) rfl ?_ ?_; rotate_left; (intro W hS K hK; have h1 := hS.2.1.cell; have h2 := hS.2.2.1.cell; have hld1 := load_blk hS.2.1 Try.underlying40 rfl (by kernel_rfl); have hld2 := load_blk hS.2.2.1 Try.underlying49 rfl (by kernel_rfl); clear hS; go_simp; exact hK.out _ (Below.refl _ _)); simp only [Act.put, List.setIfInBounds_toArray, List.set_cons_zero, List.set_cons_succ]
  refine wpU_take (v := ?_) 9 hst (fun _ h => h) rfl ?_ ?_; rotate_left; (intro W hS K hK; have h1 := hS.2.1.cell; have h2 := hS.2.2.1.cell; have hld1 := load_blk hS.2.1 Try.underlying40 rfl (by kernel_rfl); have hld2 := load_blk hS.2.2.1 Try.underlying49 rfl (by kernel_rfl); clear hS; go_simp; exact hK.out _ (Below.refl _ _)); simp only [Act.put, List.setIfInBounds_toArray, List.set_cons_zero, List.set_cons_succ]
  refine wpU_take (v := ?_) 10 hst (fun _ h => h) rfl ?_ ?_; rotate_left; (intro W hS K hK; have h1 := hS.2.1.cell; have h2 := hS.2.2.1.cell; have hld1 := load_blk hS.2.1 Try.underlying40 rfl (by kernel_rfl); have hld2 := load_blk hS.2.2.1 Try.underlying49 rfl (by kernel_rfl); clear hS; go_simp; exact hK.out _ (Below.refl _ _)); simp only [Act.put, List.setIfInBounds_toArray, List.set_cons_zero, List.set_cons_succ]
  refine wpU_take (v := ?_) 11 hst (fun _ h => h) rfl ?_ ?_; rotate_left; (intro W hS K hK; have h1 := hS.2.1.cell; have h2 := hS.2.2.1.cell; have hld1 := load_blk hS.2.1 Try.underlying40 rfl (by kernel_rfl); have hld2 := load_blk hS.2.2.1 Try.underlying49 rfl (by kernel_rfl); clear hS; go_simp; exact hK.out _ (Below.refl _ _)); simp only [Act.put, List.setIfInBounds_toArray, List.set_cons_zero, List.set_cons_succ]
  refine wpU_take (v := ?_) 12 hst (fun _ h => h) rfl ?_ ?_; rotate_left; (intro W hS K hK; have h1 := hS.2.1.cell; have h2 := hS.2.2.1.cell; have hld1 := load_blk hS.2.1 Try.underlying40 rfl (by kernel_rfl); have hld2 := load_blk hS.2.2.1 Try.underlying49 rfl (by kernel_rfl); clear hS; go_simp; exact hK.out _ (Below.refl _ _)); simp only [Act.put, List.setIfInBounds_toArray, List.set_cons_zero, List.set_cons_succ]
  refine wpU_take (v := ?_) 14 hst (fun _ h => h) rfl ?_ ?_; rotate_left; (intro W hS K hK; have h1 := hS.2.1.cell; have h2 := hS.2.2.1.cell; have hld1 := load_blk hS.2.1 Try.underlying40 rfl (by kernel_rfl); have hld2 := load_blk hS.2.2.1 Try.underlying49 rfl (by kernel_rfl); clear hS; go_simp; exact hK.out _ (Below.refl _ _)); simp only [Act.put, List.setIfInBounds_toArray, List.set_cons_zero, List.set_cons_succ]
  refine wpU_take (v := ?_) 15 hst (fun _ h => h) rfl ?_ ?_; rotate_left; (intro W hS K hK; have h1 := hS.2.1.cell; have h2 := hS.2.2.1.cell; have hld1 := load_blk hS.2.1 Try.underlying40 rfl (by kernel_rfl); have hld2 := load_blk hS.2.2.1 Try.underlying49 rfl (by kernel_rfl); clear hS; go_simp; exact hK.out _ (Below.refl _ _)); simp only [Act.put, List.setIfInBounds_toArray, List.set_cons_zero, List.set_cons_succ]
  refine wpU_take (v := ?_) 16 hst (fun _ h => h) rfl ?_ ?_; rotate_left; (intro W hS K hK; have h1 := hS.2.1.cell; have h2 := hS.2.2.1.cell; have hld1 := load_blk hS.2.1 Try.underlying40 rfl (by kernel_rfl); have hld2 := load_blk hS.2.2.1 Try.underlying49 rfl (by kernel_rfl); clear hS; go_simp; exact hK.out _ (Below.refl _ _)); simp only [Act.put, List.setIfInBounds_toArray, List.set_cons_zero, List.set_cons_succ]
  refine wpV_two 5 13 hst rfl rfl ?_ ?_
  · intro W hS K hK
    have hlt : w.heap.size + 2 < W.heap.size := by obtain ⟨_, _, _, h⟩ := hS.2.2.2.1; exact h.lt
    clear hS; go_simp; refine (F.out W).mono ?_; rintro e w9 ⟨g, hg, rfl, hb9, hg9, hh9, hz9⟩
    have HG := Lib.hid hg; clear hg
    refine hK.out (fun W => Blk W g 40 #[.int .i64 ro, .int .u64 (W64 ke), .int .u64 (W64 sa), .bool true, .bool rn, .int .u64 (W64 tx), .int .u64 (W64 rx)] ∧ Blk W (g + 1) 22 #[.int .u64 (W64 d)]) _ _ (stable_and (stable_blk _ _ _) (stable_blk _ _ _)) hb9 ⟨hg9, hh9⟩ (fun hst => ?_)
    clear hK K hb9 hg9 hh9 hz9
    try simp only [Act.put, List.setIfInBounds_toArray, List.set_cons_zero, List.set_cons_succ]
    refine wpU_take (v := ?_) 8 hst (fun _ h => h) rfl ?_ ?_; rotate_left; (intro W hS K hK; skip; go_simp; refine (F1.out _ _ _ hS.2.1 hS.2.2).mono ?_; rintro e w9 ⟨rfl, rfl⟩; refine CallPost.mk ?_; exact hK.out _ (Below.refl _ _)); simp only [Act.put, List.setIfInBounds_toArray, List.set_cons_zero, List.set_cons_succ]
    refine wpV_new 13 hst rfl ?_; intro W hS K hK
    clear hS
    go_simp
    have hrw : RdB (W.alloc (.cells #[.int .u8 (W8 (BitVec.ofInt 8 ll))] 5)) (some ⟨W.heap.size, 0, none⟩) [BitVec.ofInt 8 ll] := Rd.new _ _ _
    refine hK.out (fun W' => RdB W' (some ⟨W.heap.size, 0, none⟩) [BitVec.ofInt 8 ll]) _ _ (stable_rdB _ _) ((Below.refl _ _).alloc (Nat.le_refl _) _) hrw (fun hst => ?_)
    clear hK K hrw
    try simp only [Act.put, List.setIfInBounds_toArray, List.set_cons_zero, List.set_cons_succ]
    refine wpV_new 17 hst rfl ?_; intro W hS K hK; skip; go_simp; refine (M.out _ _ hS.2 hS.1.1.2.2.2.2).mono ?_; rintro e w9 ⟨A', c', rfl, hr9, hc9, hb9⟩; refine hK.out (fun W => RdB W A' out) _ _ (stable_rdB _ _) (hb9) (hr9) (fun hst => ?_); clear hK K hS; try simp only [Act.put, List.setIfInBounds_toArray, List.set_cons_zero, List.set_cons_succ]
    refine wpU_take (v := ?_) 18 hst (fun _ h => h) rfl ?_ ?_; rotate_left; (intro W hS K hK; clear hS; go_simp; refine (V.out A' c' _).mono ?_; rintro e w9 ⟨rfl, hb⟩; refine CallPost.mk ?_; exact hK.out _ (hb)); simp only [Act.put, List.setIfInBounds_toArray, List.set_cons_zero, List.set_cons_succ]
    refine wpV_st 19 hst (fun _ h => h) #[.int .i64 sn, .int .i64 ne, .int .i64 md, .int .i64 ll, .slice A' (n + 4) c'] rfl rfl rfl rfl (fun W h => h.1.1.1.2.2.2.1) (fun W W' h hU hG => ?_) (by kernel_rfl) rfl (fun hst => ?_)
    · have hg := HG.out
      obtain ⟨⟨⟨⟨h1, h2, h3, ⟨cs, h4, h5, h6⟩, h7⟩, h8, h8'⟩, h9⟩, h10⟩ := h
      exact ⟨⟨⟨⟨hU.below h1 (by omega), hU.blk h2 (by omega), hU.blk h3 (by omega), ⟨_, rfl, rfl, hG⟩, RdB.upd h7 h6 hU h5⟩, hU.blk h8 (by omega), hU.blk h8' (by omega)⟩, RdB.upd h9 h6 hU h5⟩, RdB.upd h10 h6 hU h5⟩
    refine wpU_take (v := ?_) 20 hst (fun _ h => h.1) rfl ?_ ?_; rotate_left; (intro W hS K hK; clear hS; go_simp; exact hK.out _ (Below.refl _ _)); simp only [Act.put, List.setIfInBounds_toArray, List.set_cons_zero, List.set_cons_succ]
    refine wpU_done (fun W hS => ?_)
    go_wp2
    refine bodyPost_ret (results_ct rfl rfl (load_blk hS.2 Try.underlying49 rfl (by kernel_rfl))) rfl ?_
    rw [er]
    refine ⟨A', c', ?_, hS.1.2, ?_, hS.1.1.1.1.1⟩
    · unfold pduA; dsimp only; rw [HO.out]; rfl
    · dsimp only; rw [HO.out]; exact hc9
  · intro W hS K hK
    clear hS
    go_simp
    have hrw : RdB (W.alloc (.cells #[.int .u8 (W8 (BitVec.ofInt 8 ll))] 5)) (some ⟨W.heap.size, 0, none⟩) [BitVec.ofInt 8 ll] := Rd.new _ _ _
    refine hK.out (fun W' => RdB W' (some ⟨W.heap.size, 0, none⟩) [BitVec.ofInt 8 ll]) _ _ (stable_rdB _ _) ((Below.refl _ _).alloc (Nat.le_refl _) _) hrw (fun hst => ?_)
    clear hK K hrw
    try simp only [Act.put, List.setIfInBounds_toArray, List.set_cons_zero, List.set_cons_succ]
    refine wpV_new 5 hst rfl ?_; intro W hS K hK
    have hlt : w.heap.size + 2 < W.heap.size := by obtain ⟨_, _, _, h⟩ := hS.1.2.2.2.1; exact h.lt
    clear hS; go_simp; refine (F.out W).mono ?_; rintro e w9 ⟨g, hg, rfl, hb9, hg9, hh9, hz9⟩
    have HG := Lib.hid hg; clear hg
    refine hK.out (fun W => Blk W g 40 #[.int .i64 ro, .int .u64 (W64 ke), .int .u64 (W64 sa), .bool true, .bool rn, .int .u64 (W64 tx), .int .u64 (W64 rx)] ∧ Blk W (g + 1) 22 #[.int .u64 (W64 d)]) _ _ (stable_and (stable_blk _ _ _) (stable_blk _ _ _)) hb9 ⟨hg9, hh9⟩ (fun hst => ?_)
    clear hK K hb9 hg9 hh9 hz9
    try simp only [Act.put, List.setIfInBounds_toArray, List.set_cons_zero, List.set_cons_succ]
    refine wpU_take (v := ?_) 8 hst (fun _ h => h) rfl ?_ ?_; rotate_left; (intro W hS K hK; skip; go_simp; refine (F1.out _ _ _ hS.2.1 hS.2.2).mono ?_; rintro e w9 ⟨rfl, rfl⟩; refine CallPost.mk ?_; exact hK.out _ (Below.refl _ _)); simp only [Act.put, List.setIfInBounds_toArray, List.set_cons_zero, List.set_cons_succ]
    refine wpV_new 17 hst rfl ?_; intro W hS K hK; skip; go_simp; refine (M.out _ _ hS.1.2 hS.1.1.2.2.2.2).mono ?_; rintro e w9 ⟨A', c', rfl, hr9, hc9, hb9⟩; refine hK.out (fun W => RdB W A' out) _ _ (stable_rdB _ _) (hb9) (hr9) (fun hst => ?_); clear hK K hS; try simp only [Act.put, List.setIfInBounds_toArray, List.set_cons_zero, List.set_cons_succ]
    refine wpU_take (v := ?_) 18 hst (fun _ h => h) rfl ?_ ?_; rotate_left; (intro W hS K hK; clear hS; go_simp; refine (V.out A' c' _).mono ?_; rintro e w9 ⟨rfl, hb⟩; refine CallPost.mk ?_; exact hK.out _ (hb)); simp only [Act.put, List.setIfInBounds_toArray, List.set_cons_zero, List.set_cons_succ]
    refine wpV_st 19 hst (fun _ h => h) #[.int .i64 sn, .int .i64 ne, .int .i64 md, .int .i64 ll, .slice A' (n + 4) c'] rfl rfl rfl rfl (fun W h => h.1.1.1.2.2.2.1) (fun W W' h hU hG => ?_) (by kernel_rfl) rfl (fun hst => ?_)
    · have hg := HG.out
      obtain ⟨⟨⟨⟨h1, h2, h3, ⟨cs, h4, h5, h6⟩, h7⟩, h9⟩, h8, h8'⟩, h10⟩ := h
      exact ⟨⟨⟨⟨hU.below h1 (by omega), hU.blk h2 (by omega), hU.blk h3 (by omega), ⟨_, rfl, rfl, hG⟩, RdB.upd h7 h6 hU h5⟩, RdB.upd h9 h6 hU h5⟩, hU.blk h8 (by omega), hU.blk h8' (by omega)⟩, RdB.upd h10 h6 hU h5⟩
    refine wpU_take (v := ?_) 20 hst (fun _ h => h.1) rfl ?_ ?_; rotate_left; (intro W hS K hK; clear hS; go_simp; exact hK.out _ (Below.refl _ _)); simp only [Act.put, List.setIfInBounds_toArray, List.set_cons_zero, List.set_cons_succ]
    refine wpU_done (fun W hS => ?_)
    go_wp2
    refine bodyPost_ret (results_ct rfl rfl (load_blk hS.2 Try.underlying49 rfl (by kernel_rfl))) rfl ?_
    rw [er]
    refine ⟨A', c', ?_, hS.1.2, ?_, hS.1.1.1.1.1⟩
    · unfold pduA; dsimp only; rw [HO.out]; rfl
    · dsimp only; rw [HO.out]; exact hc9
end Go.Proofs.Ytmehemojopfihaa
