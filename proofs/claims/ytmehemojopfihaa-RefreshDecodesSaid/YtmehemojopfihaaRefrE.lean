/- The walks of two laws of layer 52 (refresh): keys, indexes. -/
import Derived.Test.YtmehemojopfihaaRefrD
namespace Go.Proofs.Ytmehemojopfihaa
set_option maxRecDepth 100000
open Go.ChangeShapes Go.WideShapes Go.ChangeAt Go.RowKit
set_option linter.unusedVariables false
set_option linter.unusedSimpArgs false

theorem rd_alloc2r (w : World) (o : Obj) (cs : Array Value) (t : TypeId) : Rd ((w.alloc o).alloc (.cells cs t)) (some ⟨w.heap.size + 1, 0, none⟩) cs.toList := by
  have h := Rd.new (w.alloc o) cs t
  have e : (w.alloc o).heap.size = w.heap.size + 1 := by simp
  rwa [e] at h
theorem rf_Recv (k : KS) (n : Nat) (hn : (recvK k).length = n) (W : World) : Calls Try.prog 23 #[.agg (ksA k)] W fun e w' => ∃ b, e = .returned (.slice (some ⟨b, 0, none⟩) n n) ∧ Rd w' (some ⟨b, 0, none⟩) (nksL (recvK k)) ∧ Below W.heap.size W w' := by
  subst hn
  refine (rf_Receiving k W).mono ?_
  rintro e w' ⟨rfl, rfl⟩
  refine ⟨_, rfl, rd_alloc2r _ _ _ _, ((Below.refl _ _).alloc (Nat.le_refl _) _).alloc (by simp) _⟩
theorem r52_Recv (k : KS) (n : Nat) (hn : (recvK k).length = n) (W : World) : Calls Try.prog 24 #[.agg (ksA k)] W fun e w' => ∃ b, e = .returned (.slice (some ⟨b, 0, none⟩) n n) ∧ Rd w' (some ⟨b, 0, none⟩) (nksL (recvK k)) ∧ Below W.heap.size W w' := by
  subst hn
  refine (r52_Receiving k W).mono ?_
  rintro e w' ⟨rfl, rfl⟩
  refine ⟨_, rfl, rd_alloc2r _ _ _ _, ((Below.refl _ _).alloc (Nat.le_refl _) _).alloc (by simp) _⟩
set_option maxHeartbeats 1500000 in
theorem law_RefreshKeys (ph : Int) (wph : (Lit.int .i64 ph).wf = true) (a1 : BitVec 64) (a2 : Int) (wa2 : (Lit.int .i64 a2).wf = true) (a3 a4 a5 b1 : BitVec 64) (b2 : Int) (wb2 : (Lit.int .i64 b2).wf = true) (b3 b4 b5 : BitVec 64) (key : BitVec 64) (ps : Int) (wps : (Lit.int .i64 ps).wf = true) (w : World) :
    Calls Try.prog 3 #[.agg #[.int .i64 ph, .int .u64 (W64 a1), .int .i64 a2, .int .u64 (W64 a3), .int .u64 (W64 a4), .int .u64 (W64 a5), .int .u64 (W64 b1), .int .i64 b2, .int .u64 (W64 b3), .int .u64 (W64 b4), .int .u64 (W64 b5)], .int .u64 (W64 key), .int .i64 ps] w fun e w' => e = .returned (.bool true) ∧ Below w.heap.size w w' := by
  have h1 := fun W => rf_NewKey ⟨ph, ⟨a1, a2, a3, a4, a5⟩, ⟨b1, b2, b3, b4, b5⟩⟩ key W
  have h2 := fun W => r52_NewKey ⟨ph, ⟨a1, a2, a3, a4, a5⟩, ⟨b1, b2, b3, b4, b5⟩⟩ key W
  have h3 := fun W => rf_Phase ⟨ph, ⟨a1, a2, a3, a4, a5⟩, ⟨b1, b2, b3, b4, b5⟩⟩ ps W
  have h4 := fun W => r52_Phase ⟨ph, ⟨a1, a2, a3, a4, a5⟩, ⟨b1, b2, b3, b4, b5⟩⟩ ps W
  have h5 := fun W => rf_Sending ⟨ph, ⟨a1, a2, a3, a4, a5⟩, ⟨b1, b2, b3, b4, b5⟩⟩ W
  have h6 := fun W => r52_Sending ⟨ph, ⟨a1, a2, a3, a4, a5⟩, ⟨b1, b2, b3, b4, b5⟩⟩ W
  obtain ⟨n, hn⟩ : ∃ n, (recvK ⟨ph, ⟨a1, a2, a3, a4, a5⟩, ⟨b1, b2, b3, b4, b5⟩⟩).length = n := ⟨_, rfl⟩
  have hn2 : n ≤ 1000 := by
    rw [← hn]
    unfold recvK
    by_cases q1 : ph = 1
    · rw [if_pos q1]; exact of_decide_eq_true rfl
    · rw [if_neg q1]
      by_cases q2 : ph = 2
      · rw [if_pos q2]; exact of_decide_eq_true rfl
      · rw [if_neg q2]; exact of_decide_eq_true rfl
  have h7 := fun W => rf_Recv ⟨ph, ⟨a1, a2, a3, a4, a5⟩, ⟨b1, b2, b3, b4, b5⟩⟩ n hn W
  have h8 := fun W => r52_Recv ⟨ph, ⟨a1, a2, a3, a4, a5⟩, ⟨b1, b2, b3, b4, b5⟩⟩ n hn W
  generalize newKeyK ⟨ph, ⟨a1, a2, a3, a4, a5⟩, ⟨b1, b2, b3, b4, b5⟩⟩ key = r1 at *
  generalize phaseK ⟨ph, ⟨a1, a2, a3, a4, a5⟩, ⟨b1, b2, b3, b4, b5⟩⟩ ps = r2 at *
  generalize sendK ⟨ph, ⟨a1, a2, a3, a4, a5⟩, ⟨b1, b2, b3, b4, b5⟩⟩ = r3 at *
  generalize recvK ⟨ph, ⟨a1, a2, a3, a4, a5⟩, ⟨b1, b2, b3, b4, b5⟩⟩ = l at *
  obtain ⟨⟨p, ⟨x1, x2, x3, x4, x5⟩, ⟨y1, y2, y3, y4, y5⟩⟩, e1⟩ := r1
  obtain ⟨⟨q, ⟨u1, u2, u3, u4, u5⟩, ⟨v1, v2, v3, v4, v5⟩⟩, e2⟩ := r2
  obtain ⟨s1, s2, s3, s4, s5⟩ := r3
  unfold ksA at h1 h2 h3 h4 h5 h6 h7 h8
  unfold nkA at h5 h6
  dsimp only at h1 h2 h3 h4 h5 h6 h7 h8
  have H1 := Lib.hid h1
  have H2 := Lib.hid h2
  have H3 := Lib.hid h3
  have H4 := Lib.hid h4
  have H5 := Lib.hid h5
  have H6 := Lib.hid h6
  have H7 := Lib.hid h7
  have H8 := Lib.hid h8
  have HN := Lib.hid hn
  clear h1 h2 h3 h4 h5 h6 h7 h8 hn
  have hX := box1 w 27 #[.int .i64 ph, .int .u64 (W64 a1), .int .i64 a2, .int .u64 (W64 a3), .int .u64 (W64 a4), .int .u64 (W64 a5), .int .u64 (W64 b1), .int .i64 b2, .int .u64 (W64 b3), .int .u64 (W64 b4), .int .u64 (W64 b5)]
  go_enter Try.func3, Try.ntmps3
  go_wp2_with fail
  refine (H1.out _).mono ?_; rintro e w1 ⟨rfl, hb1⟩
  have K1' := hX.2.to hb1 hX.2.lt
  have K1 := K1'.alloc (.cells #[.int .i64 p, .int .u64 (W64 x1), .int .i64 x2, .int .u64 (W64 x3), .int .u64 (W64 x4), .int .u64 (W64 x5), .int .u64 (W64 y1), .int .i64 y2, .int .u64 (W64 y3), .int .u64 (W64 y4), .int .u64 (W64 y5)] 27)
  have A1 := Blk.new w1 27 #[.int .i64 p, .int .u64 (W64 x1), .int .i64 x2, .int .u64 (W64 x3), .int .u64 (W64 x4), .int .u64 (W64 x5), .int .u64 (W64 y1), .int .i64 y2, .int .u64 (W64 y3), .int .u64 (W64 y4), .int .u64 (W64 y5)]
  have B1 := (hX.1.trans (hb1.mono hX.1.size)).alloc (hX.1.trans (hb1.mono hX.1.size)).size (.cells #[.int .i64 p, .int .u64 (W64 x1), .int .i64 x2, .int .u64 (W64 x3), .int .u64 (W64 x4), .int .u64 (W64 x5), .int .u64 (W64 y1), .int .i64 y2, .int .u64 (W64 y3), .int .u64 (W64 y4), .int .u64 (W64 y5)] 27)
  have z1 := K1'.lt
  have g1 := K1'.cell
  clear hX hb1
  go_wp2_with fail
  refine (H2.out _).mono ?_; rintro e w2 ⟨rfl, hb2⟩
  have K2' := K1.to hb2 K1.lt
  have K2 := K2'.alloc (.cells #[.int .i64 p, .int .u64 (W64 x1), .int .i64 x2, .int .u64 (W64 x3), .int .u64 (W64 x4), .int .u64 (W64 x5), .int .u64 (W64 y1), .int .i64 y2, .int .u64 (W64 y3), .int .u64 (W64 y4), .int .u64 (W64 y5)] 27)
  have A2 := (A1.to hb2 A1.lt).alloc (.cells #[.int .i64 p, .int .u64 (W64 x1), .int .i64 x2, .int .u64 (W64 x3), .int .u64 (W64 x4), .int .u64 (W64 x5), .int .u64 (W64 y1), .int .i64 y2, .int .u64 (W64 y3), .int .u64 (W64 y4), .int .u64 (W64 y5)] 27)
  have C2 := Blk.new w2 27 #[.int .i64 p, .int .u64 (W64 x1), .int .i64 x2, .int .u64 (W64 x3), .int .u64 (W64 x4), .int .u64 (W64 x5), .int .u64 (W64 y1), .int .i64 y2, .int .u64 (W64 y3), .int .u64 (W64 y4), .int .u64 (W64 y5)]
  have B2 := (B1.trans (hb2.mono B1.size)).alloc (B1.trans (hb2.mono B1.size)).size (.cells #[.int .i64 p, .int .u64 (W64 x1), .int .i64 x2, .int .u64 (W64 x3), .int .u64 (W64 x4), .int .u64 (W64 x5), .int .u64 (W64 y1), .int .i64 y2, .int .u64 (W64 y3), .int .u64 (W64 y4), .int .u64 (W64 y5)] 27)
  clear z1 g1
  have z1 := K2'.lt
  have g1 := K2'.cell
  clear K1' K1 A1 B1 hb2
  go_wp2_with fail
  refine (H3.out _).mono ?_; rintro e w3 ⟨rfl, hb3⟩
  have K3' := K2.to hb3 K2.lt
  have K3 := K3'.alloc (.cells #[.int .i64 q, .int .u64 (W64 u1), .int .i64 u2, .int .u64 (W64 u3), .int .u64 (W64 u4), .int .u64 (W64 u5), .int .u64 (W64 v1), .int .i64 v2, .int .u64 (W64 v3), .int .u64 (W64 v4), .int .u64 (W64 v5)] 27)
  have A3 := (A2.to hb3 A2.lt).alloc (.cells #[.int .i64 q, .int .u64 (W64 u1), .int .i64 u2, .int .u64 (W64 u3), .int .u64 (W64 u4), .int .u64 (W64 u5), .int .u64 (W64 v1), .int .i64 v2, .int .u64 (W64 v3), .int .u64 (W64 v4), .int .u64 (W64 v5)] 27)
  have C3 := (C2.to hb3 C2.lt).alloc (.cells #[.int .i64 q, .int .u64 (W64 u1), .int .i64 u2, .int .u64 (W64 u3), .int .u64 (W64 u4), .int .u64 (W64 u5), .int .u64 (W64 v1), .int .i64 v2, .int .u64 (W64 v3), .int .u64 (W64 v4), .int .u64 (W64 v5)] 27)
  have D3 := Blk.new w3 27 #[.int .i64 q, .int .u64 (W64 u1), .int .i64 u2, .int .u64 (W64 u3), .int .u64 (W64 u4), .int .u64 (W64 u5), .int .u64 (W64 v1), .int .i64 v2, .int .u64 (W64 v3), .int .u64 (W64 v4), .int .u64 (W64 v5)]
  have B3 := (B2.trans (hb3.mono B2.size)).alloc (B2.trans (hb3.mono B2.size)).size (.cells #[.int .i64 q, .int .u64 (W64 u1), .int .i64 u2, .int .u64 (W64 u3), .int .u64 (W64 u4), .int .u64 (W64 u5), .int .u64 (W64 v1), .int .i64 v2, .int .u64 (W64 v3), .int .u64 (W64 v4), .int .u64 (W64 v5)] 27)
  clear z1 g1
  have z1 := K3'.lt
  have g1 := K3'.cell
  clear K2' K2 A2 C2 B2 hb3
  go_wp2_with fail
  refine (H4.out _).mono ?_; rintro e w4 ⟨rfl, hb4⟩
  have K4' := K3.to hb4 K3.lt
  have K4 := K4'.alloc (.cells #[.int .i64 q, .int .u64 (W64 u1), .int .i64 u2, .int .u64 (W64 u3), .int .u64 (W64 u4), .int .u64 (W64 u5), .int .u64 (W64 v1), .int .i64 v2, .int .u64 (W64 v3), .int .u64 (W64 v4), .int .u64 (W64 v5)] 27)
  have A4 := (A3.to hb4 A3.lt).alloc (.cells #[.int .i64 q, .int .u64 (W64 u1), .int .i64 u2, .int .u64 (W64 u3), .int .u64 (W64 u4), .int .u64 (W64 u5), .int .u64 (W64 v1), .int .i64 v2, .int .u64 (W64 v3), .int .u64 (W64 v4), .int .u64 (W64 v5)] 27)
  have C4 := (C3.to hb4 C3.lt).alloc (.cells #[.int .i64 q, .int .u64 (W64 u1), .int .i64 u2, .int .u64 (W64 u3), .int .u64 (W64 u4), .int .u64 (W64 u5), .int .u64 (W64 v1), .int .i64 v2, .int .u64 (W64 v3), .int .u64 (W64 v4), .int .u64 (W64 v5)] 27)
  have D4 := (D3.to hb4 D3.lt).alloc (.cells #[.int .i64 q, .int .u64 (W64 u1), .int .i64 u2, .int .u64 (W64 u3), .int .u64 (W64 u4), .int .u64 (W64 u5), .int .u64 (W64 v1), .int .i64 v2, .int .u64 (W64 v3), .int .u64 (W64 v4), .int .u64 (W64 v5)] 27)
  have E4 := Blk.new w4 27 #[.int .i64 q, .int .u64 (W64 u1), .int .i64 u2, .int .u64 (W64 u3), .int .u64 (W64 u4), .int .u64 (W64 u5), .int .u64 (W64 v1), .int .i64 v2, .int .u64 (W64 v3), .int .u64 (W64 v4), .int .u64 (W64 v5)]
  have B4 := (B3.trans (hb4.mono B3.size)).alloc (B3.trans (hb4.mono B3.size)).size (.cells #[.int .i64 q, .int .u64 (W64 u1), .int .i64 u2, .int .u64 (W64 u3), .int .u64 (W64 u4), .int .u64 (W64 u5), .int .u64 (W64 v1), .int .i64 v2, .int .u64 (W64 v3), .int .u64 (W64 v4), .int .u64 (W64 v5)] 27)
  clear z1 g1 K3' K3 A3 C3 D3 B3 hb4 K4'
  go_wp2
  have hst := stable_and (stable_below w.heap.size w (Nat.le_refl _)) (stable_and (stable_blk w.heap.size 27 #[.int .i64 ph, .int .u64 (W64 a1), .int .i64 a2, .int .u64 (W64 a3), .int .u64 (W64 a4), .int .u64 (W64 a5), .int .u64 (W64 b1), .int .i64 b2, .int .u64 (W64 b3), .int .u64 (W64 b4), .int .u64 (W64 b5)]) (stable_and (stable_blk w1.heap.size 27 #[.int .i64 p, .int .u64 (W64 x1), .int .i64 x2, .int .u64 (W64 x3), .int .u64 (W64 x4), .int .u64 (W64 x5), .int .u64 (W64 y1), .int .i64 y2, .int .u64 (W64 y3), .int .u64 (W64 y4), .int .u64 (W64 y5)]) (stable_and (stable_blk w2.heap.size 27 #[.int .i64 p, .int .u64 (W64 x1), .int .i64 x2, .int .u64 (W64 x3), .int .u64 (W64 x4), .int .u64 (W64 x5), .int .u64 (W64 y1), .int .i64 y2, .int .u64 (W64 y3), .int .u64 (W64 y4), .int .u64 (W64 y5)]) (stable_and (stable_blk w3.heap.size 27 #[.int .i64 q, .int .u64 (W64 u1), .int .i64 u2, .int .u64 (W64 u3), .int .u64 (W64 u4), .int .u64 (W64 u5), .int .u64 (W64 v1), .int .i64 v2, .int .u64 (W64 v3), .int .u64 (W64 v4), .int .u64 (W64 v5)]) (stable_blk w4.heap.size 27 #[.int .i64 q, .int .u64 (W64 u1), .int .i64 u2, .int .u64 (W64 u3), .int .u64 (W64 u4), .int .u64 (W64 u5), .int .u64 (W64 v1), .int .i64 v2, .int .u64 (W64 v3), .int .u64 (W64 v4), .int .u64 (W64 v5)])))))
  refine wp_region_v _ 36 hst ⟨B4.drew, K4, A4, C4, D4, E4⟩ ?_
  clear B4 K4 A4 C4 D4 E4
  refine wpU_take (v := ?_) 0 hst (fun _ h => h) rfl ?_ ?_; rotate_left; (intro W hS K hK; clear hS; go_simp; refine (lives52 _).mono ?_; rintro e w9 ⟨rfl, hb⟩; refine CallPost.mk ?_; exact hK.out _ (hb)); simp only [Act.put, List.setIfInBounds_toArray, List.set_cons_zero, List.set_cons_succ]
  refine wpU_take (v := ?_) 1 hst (fun _ h => h) rfl ?_ ?_; rotate_left; (intro W hS K hK; obtain ⟨hS0, hSk, hSa, hSb, hSc, hSd⟩ := hS; have c1 := hSk.cell; have c2 := hSa.cell; have c3 := hSb.cell; have c4 := hSc.cell; have c5 := hSd.cell; clear hS0 hSk hSa hSb hSc hSd; go_simp; exact hK.out _ (Below.refl _ _)); simp only [Act.put, List.setIfInBounds_toArray, List.set_cons_zero, List.set_cons_succ]
  refine wpU_take (v := ?_) 2 hst (fun _ h => h) rfl ?_ ?_; rotate_left; (intro W hS K hK; obtain ⟨hS0, hSk, hSa, hSb, hSc, hSd⟩ := hS; have c1 := hSk.cell; have c2 := hSa.cell; have c3 := hSb.cell; have c4 := hSc.cell; have c5 := hSd.cell; clear hS0 hSk hSa hSb hSc hSd; go_simp; exact hK.out _ (Below.refl _ _)); simp only [Act.put, List.setIfInBounds_toArray, List.set_cons_zero, List.set_cons_succ]
  refine wpU_take (v := ?_) 3 hst (fun _ h => h) rfl ?_ ?_; rotate_left; (intro W hS K hK; obtain ⟨hS0, hSk, hSa, hSb, hSc, hSd⟩ := hS; have c1 := hSk.cell; have c2 := hSa.cell; have c3 := hSb.cell; have c4 := hSc.cell; have c5 := hSd.cell; clear hS0 hSk hSa hSb hSc hSd; go_simp; exact hK.out _ (Below.refl _ _)); simp only [Act.put, List.setIfInBounds_toArray, List.set_cons_zero, List.set_cons_succ]
  refine wpU_take (v := ?_) 4 hst (fun _ h => h) rfl ?_ ?_; rotate_left; (intro W hS K hK; obtain ⟨hS0, hSk, hSa, hSb, hSc, hSd⟩ := hS; have c1 := hSk.cell; have c2 := hSa.cell; have c3 := hSb.cell; have c4 := hSc.cell; have c5 := hSd.cell; clear hS0 hSk hSa hSb hSc hSd; go_simp; exact hK.out _ (Below.refl _ _)); simp only [Act.put, List.setIfInBounds_toArray, List.set_cons_zero, List.set_cons_succ]
  refine wpU_take (v := ?_) 5 hst (fun _ h => h) rfl ?_ ?_; rotate_left; (intro W hS K hK; obtain ⟨hS0, hSk, hSa, hSb, hSc, hSd⟩ := hS; have c1 := hSk.cell; have c2 := hSa.cell; have c3 := hSb.cell; have c4 := hSc.cell; have c5 := hSd.cell; clear hS0 hSk hSa hSb hSc hSd; go_simp; exact hK.out _ (Below.refl _ _)); simp only [Act.put, List.setIfInBounds_toArray, List.set_cons_zero, List.set_cons_succ]
  refine wpU_take (v := ?_) 6 hst (fun _ h => h) rfl ?_ ?_; rotate_left; (intro W hS K hK; obtain ⟨hS0, hSk, hSa, hSb, hSc, hSd⟩ := hS; have c1 := hSk.cell; have c2 := hSa.cell; have c3 := hSb.cell; have c4 := hSc.cell; have c5 := hSd.cell; clear hS0 hSk hSa hSb hSc hSd; go_simp; exact hK.out _ (Below.refl _ _)); simp only [Act.put, List.setIfInBounds_toArray, List.set_cons_zero, List.set_cons_succ]
  refine wpU_take (v := ?_) 7 hst (fun _ h => h) rfl ?_ ?_; rotate_left; (intro W hS K hK; obtain ⟨hS0, hSk, hSa, hSb, hSc, hSd⟩ := hS; have c1 := hSk.cell; have c2 := hSa.cell; have c3 := hSb.cell; have c4 := hSc.cell; have c5 := hSd.cell; clear hS0 hSk hSa hSb hSc hSd; go_simp; exact hK.out _ (Below.refl _ _)); simp only [Act.put, List.setIfInBounds_toArray, List.set_cons_zero, List.set_cons_succ]
  refine wpU_take (v := ?_) 8 hst (fun _ h => h) rfl ?_ ?_; rotate_left; (intro W hS K hK; obtain ⟨hS0, hSk, hSa, hSb, hSc, hSd⟩ := hS; have c1 := hSk.cell; have c2 := hSa.cell; have c3 := hSb.cell; have c4 := hSc.cell; have c5 := hSd.cell; clear hS0 hSk hSa hSb hSc hSd; go_simp; exact hK.out _ (Below.refl _ _)); simp only [Act.put, List.setIfInBounds_toArray, List.set_cons_zero, List.set_cons_succ]
  refine wpU_take (v := ?_) 9 hst (fun _ h => h) rfl ?_ ?_; rotate_left; (intro W hS K hK; obtain ⟨hS0, hSk, hSa, hSb, hSc, hSd⟩ := hS; have c1 := hSk.cell; have c2 := hSa.cell; have c3 := hSb.cell; have c4 := hSc.cell; have c5 := hSd.cell; clear hS0 hSk hSa hSb hSc hSd; go_simp; exact hK.out _ (Below.refl _ _)); simp only [Act.put, List.setIfInBounds_toArray, List.set_cons_zero, List.set_cons_succ]
  refine wpU_take (v := ?_) 10 hst (fun _ h => h) rfl ?_ ?_; rotate_left; (intro W hS K hK; obtain ⟨hS0, hSk, hSa, hSb, hSc, hSd⟩ := hS; have c1 := hSk.cell; have c2 := hSa.cell; have c3 := hSb.cell; have c4 := hSc.cell; have c5 := hSd.cell; clear hS0 hSk hSa hSb hSc hSd; go_simp; exact hK.out _ (Below.refl _ _)); simp only [Act.put, List.setIfInBounds_toArray, List.set_cons_zero, List.set_cons_succ]
  refine wpU_take (v := ?_) 11 hst (fun _ h => h) rfl ?_ ?_; rotate_left; (intro W hS K hK; obtain ⟨hS0, hSk, hSa, hSb, hSc, hSd⟩ := hS; have c1 := hSk.cell; have c2 := hSa.cell; have c3 := hSb.cell; have c4 := hSc.cell; have c5 := hSd.cell; clear hS0 hSk hSa hSb hSc hSd; go_simp; exact hK.out _ (Below.refl _ _)); simp only [Act.put, List.setIfInBounds_toArray, List.set_cons_zero, List.set_cons_succ]
  refine wpU_take (v := ?_) 12 hst (fun _ h => h) rfl ?_ ?_; rotate_left; (intro W hS K hK; obtain ⟨hS0, hSk, hSa, hSb, hSc, hSd⟩ := hS; have c1 := hSk.cell; have c2 := hSa.cell; have c3 := hSb.cell; have c4 := hSc.cell; have c5 := hSd.cell; clear hS0 hSk hSa hSb hSc hSd; go_simp; exact hK.out _ (Below.refl _ _)); simp only [Act.put, List.setIfInBounds_toArray, List.set_cons_zero, List.set_cons_succ]
  refine wpU_take (v := ?_) 13 hst (fun _ h => h) rfl ?_ ?_; rotate_left; (intro W hS K hK; obtain ⟨hS0, hSk, hSa, hSb, hSc, hSd⟩ := hS; have c1 := hSk.cell; have c2 := hSa.cell; have c3 := hSb.cell; have c4 := hSc.cell; have c5 := hSd.cell; clear hS0 hSk hSa hSb hSc hSd; go_simp; exact hK.out _ (Below.refl _ _)); simp only [Act.put, List.setIfInBounds_toArray, List.set_cons_zero, List.set_cons_succ]
  refine wpU_take (v := ?_) 14 hst (fun _ h => h) rfl ?_ ?_; rotate_left; (intro W hS K hK; obtain ⟨hS0, hSk, hSa, hSb, hSc, hSd⟩ := hS; have c1 := hSk.cell; have c2 := hSa.cell; have c3 := hSb.cell; have c4 := hSc.cell; have c5 := hSd.cell; clear hS0 hSk hSa hSb hSc hSd; go_simp; exact hK.out _ (Below.refl _ _)); simp only [Act.put, List.setIfInBounds_toArray, List.set_cons_zero, List.set_cons_succ]
  refine wpU_take (v := ?_) 15 hst (fun _ h => h) rfl ?_ ?_; rotate_left; (intro W hS K hK; obtain ⟨hS0, hSk, hSa, hSb, hSc, hSd⟩ := hS; have c1 := hSk.cell; have c2 := hSa.cell; have c3 := hSb.cell; have c4 := hSc.cell; have c5 := hSd.cell; clear hS0 hSk hSa hSb hSc hSd; go_simp; exact hK.out _ (Below.refl _ _)); simp only [Act.put, List.setIfInBounds_toArray, List.set_cons_zero, List.set_cons_succ]
  refine wpU_take (v := ?_) 16 hst (fun _ h => h) rfl ?_ ?_; rotate_left; (intro W hS K hK; obtain ⟨hS0, hSk, hSa, hSb, hSc, hSd⟩ := hS; have c1 := hSk.cell; have c2 := hSa.cell; have c3 := hSb.cell; have c4 := hSc.cell; have c5 := hSd.cell; clear hS0 hSk hSa hSb hSc hSd; go_simp; exact hK.out _ (Below.refl _ _)); simp only [Act.put, List.setIfInBounds_toArray, List.set_cons_zero, List.set_cons_succ]
  refine wpU_take (v := ?_) 17 hst (fun _ h => h) rfl ?_ ?_; rotate_left; (intro W hS K hK; obtain ⟨hS0, hSk, hSa, hSb, hSc, hSd⟩ := hS; have c1 := hSk.cell; have c2 := hSa.cell; have c3 := hSb.cell; have c4 := hSc.cell; have c5 := hSd.cell; clear hS0 hSk hSa hSb hSc hSd; go_simp; exact hK.out _ (Below.refl _ _)); simp only [Act.put, List.setIfInBounds_toArray, List.set_cons_zero, List.set_cons_succ]
  refine wpU_take (v := ?_) 18 hst (fun _ h => h) rfl ?_ ?_; rotate_left; (intro W hS K hK; obtain ⟨hS0, hSk, hSa, hSb, hSc, hSd⟩ := hS; have c1 := hSk.cell; have c2 := hSa.cell; have c3 := hSb.cell; have c4 := hSc.cell; have c5 := hSd.cell; clear hS0 hSk hSa hSb hSc hSd; go_simp; exact hK.out _ (Below.refl _ _)); simp only [Act.put, List.setIfInBounds_toArray, List.set_cons_zero, List.set_cons_succ]
  refine wpU_take (v := ?_) 19 hst (fun _ h => h) rfl ?_ ?_; rotate_left; (intro W hS K hK; obtain ⟨hS0, hSk, hSa, hSb, hSc, hSd⟩ := hS; have c1 := hSk.cell; have c2 := hSa.cell; have c3 := hSb.cell; have c4 := hSc.cell; have c5 := hSd.cell; clear hS0 hSk hSa hSb hSc hSd; go_simp; exact hK.out _ (Below.refl _ _)); simp only [Act.put, List.setIfInBounds_toArray, List.set_cons_zero, List.set_cons_succ]
  refine wpU_take (v := ?_) 20 hst (fun _ h => h) rfl ?_ ?_; rotate_left; (intro W hS K hK; obtain ⟨hS0, hSk, hSa, hSb, hSc, hSd⟩ := hS; have c1 := hSk.cell; have c2 := hSa.cell; have c3 := hSb.cell; have c4 := hSc.cell; have c5 := hSd.cell; clear hS0 hSk hSa hSb hSc hSd; go_simp; exact hK.out _ (Below.refl _ _)); simp only [Act.put, List.setIfInBounds_toArray, List.set_cons_zero, List.set_cons_succ]
  refine wpU_take (v := ?_) 21 hst (fun _ h => h) rfl ?_ ?_; rotate_left; (intro W hS K hK; obtain ⟨hS0, hSk, hSa, hSb, hSc, hSd⟩ := hS; have c1 := hSk.cell; have c2 := hSa.cell; have c3 := hSb.cell; have c4 := hSc.cell; have c5 := hSd.cell; clear hS0 hSk hSa hSb hSc hSd; go_simp; exact hK.out _ (Below.refl _ _)); simp only [Act.put, List.setIfInBounds_toArray, List.set_cons_zero, List.set_cons_succ]
  refine wpU_take (v := ?_) 22 hst (fun _ h => h) rfl ?_ ?_; rotate_left; (intro W hS K hK; obtain ⟨hS0, hSk, hSa, hSb, hSc, hSd⟩ := hS; have c1 := hSk.cell; have c2 := hSa.cell; have c3 := hSb.cell; have c4 := hSc.cell; have c5 := hSd.cell; clear hS0 hSk hSa hSb hSc hSd; go_simp; exact hK.out _ (Below.refl _ _)); simp only [Act.put, List.setIfInBounds_toArray, List.set_cons_zero, List.set_cons_succ]
  refine wpU_take (v := ?_) 23 hst (fun _ h => h) rfl ?_ ?_; rotate_left; (intro W hS K hK; clear hS; go_simp; refine (H5.out _).mono ?_; rintro e w9 ⟨rfl, hb⟩; refine CallPost.mk ?_; exact hK.out _ (hb)); simp only [Act.put, List.setIfInBounds_toArray, List.set_cons_zero, List.set_cons_succ]
  refine wpU_take (v := ?_) 24 hst (fun _ h => h) rfl ?_ ?_; rotate_left; (intro W hS K hK; obtain ⟨hS0, hSk, hSa, hSb, hSc, hSd⟩ := hS; have c1 := hSk.cell; have c2 := hSa.cell; have c3 := hSb.cell; have c4 := hSc.cell; have c5 := hSd.cell; clear hS0 hSk hSa hSb hSc hSd; go_simp; exact hK.out _ (Below.refl _ _)); simp only [Act.put, List.setIfInBounds_toArray, List.set_cons_zero, List.set_cons_succ]
  refine wpU_take (v := ?_) 25 hst (fun _ h => h) rfl ?_ ?_; rotate_left; (intro W hS K hK; clear hS; go_simp; refine (H6.out _).mono ?_; rintro e w9 ⟨rfl, hb⟩; refine CallPost.mk ?_; exact hK.out _ (hb)); simp only [Act.put, List.setIfInBounds_toArray, List.set_cons_zero, List.set_cons_succ]
  refine wpU_take (v := ?_) 26 hst (fun _ h => h) rfl ?_ ?_; rotate_left; (intro W hS K hK; obtain ⟨hS0, hSk, hSa, hSb, hSc, hSd⟩ := hS; have c1 := hSk.cell; have c2 := hSa.cell; have c3 := hSb.cell; have c4 := hSc.cell; have c5 := hSd.cell; clear hS0 hSk hSa hSb hSc hSd; go_simp; exact hK.out _ (Below.refl _ _)); simp only [Act.put, List.setIfInBounds_toArray, List.set_cons_zero, List.set_cons_succ]
  refine wpU_take (v := ?_) 27 hst (fun _ h => h) rfl ?_ ?_; rotate_left; (intro W hS K hK; obtain ⟨hS0, hSk, hSa, hSb, hSc, hSd⟩ := hS; have c1 := hSk.cell; have c2 := hSa.cell; have c3 := hSb.cell; have c4 := hSc.cell; have c5 := hSd.cell; clear hS0 hSk hSa hSb hSc hSd; go_simp; exact hK.out _ (Below.refl _ _)); simp only [Act.put, List.setIfInBounds_toArray, List.set_cons_zero, List.set_cons_succ]
  refine wpU_take (v := ?_) 28 hst (fun _ h => h) rfl ?_ ?_; rotate_left; (intro W hS K hK; obtain ⟨hS0, hSk, hSa, hSb, hSc, hSd⟩ := hS; have c1 := hSk.cell; have c2 := hSa.cell; have c3 := hSb.cell; have c4 := hSc.cell; have c5 := hSd.cell; clear hS0 hSk hSa hSb hSc hSd; go_simp; exact hK.out _ (Below.refl _ _)); simp only [Act.put, List.setIfInBounds_toArray, List.set_cons_zero, List.set_cons_succ]
  refine wpU_take (v := ?_) 29 hst (fun _ h => h) rfl ?_ ?_; rotate_left; (intro W hS K hK; obtain ⟨hS0, hSk, hSa, hSb, hSc, hSd⟩ := hS; have c1 := hSk.cell; have c2 := hSa.cell; have c3 := hSb.cell; have c4 := hSc.cell; have c5 := hSd.cell; clear hS0 hSk hSa hSb hSc hSd; go_simp; exact hK.out _ (Below.refl _ _)); simp only [Act.put, List.setIfInBounds_toArray, List.set_cons_zero, List.set_cons_succ]
  refine wpU_take (v := ?_) 31 hst (fun _ h => h) rfl ?_ ?_; rotate_left; (intro W hS K hK; obtain ⟨hS0, hSk, hSa, hSb, hSc, hSd⟩ := hS; have c1 := hSk.cell; have c2 := hSa.cell; have c3 := hSb.cell; have c4 := hSc.cell; have c5 := hSd.cell; clear hS0 hSk hSa hSb hSc hSd; go_simp; exact hK.out _ (Below.refl _ _)); simp only [Act.put, List.setIfInBounds_toArray, List.set_cons_zero, List.set_cons_succ]
  refine wpV_new 30 hst rfl ?_; intro W hS K hK; skip; go_simp; refine (H7.out _).mono ?_; rintro e w9 ⟨bb1, rfl, hr9, hb9⟩; refine hK.out (fun W => Rd W (some ⟨bb1, 0, none⟩) (nksL l)) _ _ (stable_rd _ _) (hb9) (hr9) (fun hst => ?_); clear hK K hS; try simp only [Act.put, List.setIfInBounds_toArray, List.set_cons_zero, List.set_cons_succ]
  clear hr9 hb9
  refine wpV_new 32 hst rfl ?_; intro W hS K hK; skip; go_simp; refine (H8.out _).mono ?_; rintro e w9 ⟨bb2, rfl, hr9, hb9⟩; refine hK.out (fun W => Rd W (some ⟨bb2, 0, none⟩) (nksL l)) _ _ (stable_rd _ _) (hb9) (hr9) (fun hst => ?_); clear hK K hS; try simp only [Act.put, List.setIfInBounds_toArray, List.set_cons_zero, List.set_cons_succ]
  refine wpU_take (v := ?_) 33 hst (fun _ h => h) rfl ?_ ?_; rotate_left; (intro W hS K hK; have r1 := hS.1.2; have r2 := hS.2; clear hS; go_simp; refine (sameKeys_eq l _ _ _ _ n _ HN.out hn2 r1 r2).mono ?_; rintro e w9 ⟨rfl, hb⟩; refine CallPost.mk ?_; exact hK.out _ (hb)); simp only [Act.put, List.setIfInBounds_toArray, List.set_cons_zero, List.set_cons_succ]
  refine wpU_take (v := ?_) 34 hst (fun _ h => h) rfl ?_ ?_; rotate_left; (intro W hS K hK; clear hS; go_simp; exact hK.out _ (Below.refl _ _)); simp only [Act.put, List.setIfInBounds_toArray, List.set_cons_zero, List.set_cons_succ]
  refine wpU_take (v := ?_) 35 hst (fun _ h => h) rfl ?_ ?_; rotate_left; (intro W hS K hK; clear hS; go_simp; exact hK.out _ (Below.refl _ _)); simp only [Act.put, List.setIfInBounds_toArray, List.set_cons_zero, List.set_cons_succ]
  refine wpU_done (fun W hS => ?_)
  go_wp2
  go_ret
  exact ⟨rfl, hS.1.1.1⟩
end Go.Proofs.Ytmehemojopfihaa
