/- Part of the proofs of the laws of pairing. -/
import Derived.Test.YtihmbcnccdiecaaGreatDoorBSdG
namespace Go.Proofs.YtihmbcnccdiecaaGreatDoor
set_option maxRecDepth 100000
set_option linter.unusedVariables false
set_option linter.unusedSimpArgs false
open Go.ChangeShapes Go.WideShapes Go.ChangeAt Go.RowKit
set_option maxHeartbeats 4000000 in
theorem EN (p : Pr) (now : Int) (w : World) (HL : bW w) (r0 : 0 ≤ p.round) (r1 : p.round ≤ 60) (n0 : 0 ≤ p.since) (n1 : p.since ≤ 1099511627776) :
  Calls Tryz.prog 29 #[.agg (prL p).toArray, .int .i64 now] w (fun e w' => pS w w' (kJ p now).1 (kJ p now).2 e) := by
 obtain ⟨base, hbs⟩ : ∃ b, w.heap.size = b := ⟨_, rfl⟩
 have HM := Mem.start HL
 rw [hbs] at HM
 obtain ⟨S, hSd⟩ : ∃ S, aH p now = S := ⟨_, rfl⟩
 have hs0 : S.sent = [] := by rw [← hSd]; rfl
 have ht0 : S.told = [] := by rw [← hSd]; rfl
 have hw0 : S.was = S.p := by rw [← hSd]; rfl
 have ls : S.sent.length ≤ 900 := by rw [hs0]; decide
 have lt : S.told.length ≤ 900 := by rw [ht0]; decide
 have h0 : 0 ≤ S.p.round := by rw [← hSd]; exact r0
 have h1 : S.p.round ≤ 64 := by rw [← hSd]; show p.round ≤ 64; omega
 have h2 : S.p.round ≤ 60 := by rw [← hSd]; exact r1
 have sw : IntKind.i64.wrap (S.p.since + 30000000) = S.p.since + 30000000 := IntWalk.i64_in _ (by rw [← hSd]; show -9223372036854775808 ≤ p.since + 30000000 ∧ p.since + 30000000 ≤ 9223372036854775807; omega)
 go_enter Tryz.func29, Tryz.ntmps29
 go_wp2_with with_reducible refine so ?_
 refine HM.nw (ty := 37) (cs := (prL p).toArray) ?_; clear HM; intro q c0 HM
 go_wp2_with with_reducible refine so ?_
 refine HM.nw (ty := 37) (cs := (prL pr0).toArray) ?_; clear HM; intro z c4 HM
 go_wp2_with first | with_reducible refine so ?_ | with_reducible refine lw HM.b1 U37 ?_
 refine (fD _ p now _ _ HM.here).mono ?_; rintro e c5 ⟨gs, rfl, a1⟩
 replace HM := HM.trans a1; clear a1
 rw [hSd] at HM
 rw [← hs0, ← ht0] at HM
 by_cases J : (S.p.phase : Int) = 0
 ·
  obtain ⟨a2, a3, D⟩ := fT J; clear J
  have a4 := HM.b0.c 19 (.int .i64 S.p.phase)
  go_wp2_with with_reducible refine so ?_
  clear a4
  try simp only [nrm]
  have hst := bM HM
  refine cY _ (fun W => ∃ x0, Mem w W base S.sent S.told ((.slice none 0 0)) ((.slice none 0 0)) ((gs, 92, (sdL S (.slice none 0 0) (.slice none 0 0)).toArray) :: (z, 37, x0) :: (q, 37, (prL p).toArray) :: [])) hst (fun W h => ⟨(prL pr0).toArray, h⟩) HM.drew 10 ?_
  clear HM
  refine aA 0 hst ?_ (h0 := fun _ h => ⟨_, h⟩)
  refine aA 1 hst ?_ (h0 := fun _ h => ⟨_, h⟩)
  refine aA 2 hst ?_ (h0 := fun _ h => ⟨_, h⟩)
  refine bH (v := .agg (prL S.p).toArray) 3 hst (fun _ h => ⟨(prL pr0).toArray, h⟩) rfl (fun W hS K hK => aL rfl rfl (aX hS.choose_spec.b0 0 (prL S.p) rfl U37 rfl (by kernel_rfl)) (hK.out _ (Below.refl _ _))) ?_; simp only [nrm]
  refine aA 4 hst ?_ (h0 := fun _ h => ⟨_, h⟩)
  refine aA 5 hst ?_ (h0 := fun _ h => ⟨_, h⟩)
  refine aA 6 hst ?_ (h0 := fun _ h => ⟨_, h⟩)
  refine bH (v := ?_) 7 hst (fun _ h => ⟨(prL pr0).toArray, h⟩) rfl ?_ ?_; rotate_left; (intro W hS K hK; have ld : W.cell? ⟨gs, 118, none⟩ = some (.slice none 0 0) := hS.choose_spec.b0.cell 118; clear hS; go_simp; exact hK.out _ (Below.refl _ _)); simp only [nrm]
  refine dP (S' := fun W => Mem w W base S.sent S.told ((.slice none 0 0)) ((.slice none 0 0)) ((gs, 92, (sdL S (.slice none 0 0) (.slice none 0 0)).toArray) :: (z, 37, (prL S.p).toArray) :: (q, 37, (prL p).toArray) :: [])) 8 (.agg (prL S.p).toArray) rfl rfl rfl rfl (fun W hS => by obtain ⟨w9, h1, h2⟩ := hS.swap.hole (P := Tryz.prog) (ty := 37) 0 (prL S.p).toArray (prL S.p).toArray (by kernel_rfl) rfl (of_decide_eq_true rfl) (by kernel_rfl); exact ⟨w9, h1, h2.swap⟩) (bD _ _ _ _ _ _ _) (fun W h => ⟨(prL S.p).toArray, h⟩) ?_; simp only [nrm]
  clear hst
  have hst : aO fun W => Mem w W base S.sent S.told ((.slice none 0 0)) ((.slice none 0 0)) ((gs, 92, (sdL S (.slice none 0 0) (.slice none 0 0)).toArray) :: (z, 37, (prL S.p).toArray) :: (q, 37, (prL p).toArray) :: []) := bD _ _ _ _ _ _ _
  refine aA 9 hst ?_ (h0 := fun _ h => ⟨(prL S.p).toArray, h⟩)
  refine aE (fun c6 hS => ?_)
  have HM := hS
  clear hst
  go_wp2_with with_reducible refine so ?_
  refine rc2 HM.b1 U37 ?_
  have q0 := D.out
  have eo : kJ p now = (S.p, S.told) := by subst hSd; unfold kJ; dsimp only [aH] at *; split <;> first | rfl | (exfalso; omega) | (split <;> first | rfl | (exfalso; omega))
  rw [eo]
  unfold pS; rw [hbs]; exact ⟨_, rfl, HM.below, HM.told⟩
 obtain ⟨a2, a3, D⟩ := fF J; clear J
 by_cases L : (S.p.phase : Int) = 7
 ·
  obtain ⟨a5, a6, I⟩ := fT L; clear L
  have a7 := HM.b0.c 19 (.int .i64 S.p.phase)
  go_wp2_with with_reducible refine so ?_
  clear a7
  try simp only [nrm]
  have hst := bM HM
  refine cY _ (fun W => ∃ x0, Mem w W base S.sent S.told ((.slice none 0 0)) ((.slice none 0 0)) ((gs, 92, (sdL S (.slice none 0 0) (.slice none 0 0)).toArray) :: (z, 37, x0) :: (q, 37, (prL p).toArray) :: [])) hst (fun W h => ⟨(prL pr0).toArray, h⟩) HM.drew 10 ?_
  clear HM
  refine aA 0 hst ?_ (h0 := fun _ h => ⟨_, h⟩)
  refine aA 1 hst ?_ (h0 := fun _ h => ⟨_, h⟩)
  refine aA 2 hst ?_ (h0 := fun _ h => ⟨_, h⟩)
  refine bH (v := .agg (prL S.p).toArray) 3 hst (fun _ h => ⟨(prL pr0).toArray, h⟩) rfl (fun W hS K hK => aL rfl rfl (aX hS.choose_spec.b0 0 (prL S.p) rfl U37 rfl (by kernel_rfl)) (hK.out _ (Below.refl _ _))) ?_; simp only [nrm]
  refine aA 4 hst ?_ (h0 := fun _ h => ⟨_, h⟩)
  refine aA 5 hst ?_ (h0 := fun _ h => ⟨_, h⟩)
  refine aA 6 hst ?_ (h0 := fun _ h => ⟨_, h⟩)
  refine bH (v := ?_) 7 hst (fun _ h => ⟨(prL pr0).toArray, h⟩) rfl ?_ ?_; rotate_left; (intro W hS K hK; have ld : W.cell? ⟨gs, 118, none⟩ = some (.slice none 0 0) := hS.choose_spec.b0.cell 118; clear hS; go_simp; exact hK.out _ (Below.refl _ _)); simp only [nrm]
  refine dP (S' := fun W => Mem w W base S.sent S.told ((.slice none 0 0)) ((.slice none 0 0)) ((gs, 92, (sdL S (.slice none 0 0) (.slice none 0 0)).toArray) :: (z, 37, (prL S.p).toArray) :: (q, 37, (prL p).toArray) :: [])) 8 (.agg (prL S.p).toArray) rfl rfl rfl rfl (fun W hS => by obtain ⟨w9, h1, h2⟩ := hS.swap.hole (P := Tryz.prog) (ty := 37) 0 (prL S.p).toArray (prL S.p).toArray (by kernel_rfl) rfl (of_decide_eq_true rfl) (by kernel_rfl); exact ⟨w9, h1, h2.swap⟩) (bD _ _ _ _ _ _ _) (fun W h => ⟨(prL S.p).toArray, h⟩) ?_; simp only [nrm]
  clear hst
  have hst : aO fun W => Mem w W base S.sent S.told ((.slice none 0 0)) ((.slice none 0 0)) ((gs, 92, (sdL S (.slice none 0 0) (.slice none 0 0)).toArray) :: (z, 37, (prL S.p).toArray) :: (q, 37, (prL p).toArray) :: []) := bD _ _ _ _ _ _ _
  refine aA 9 hst ?_ (h0 := fun _ h => ⟨(prL S.p).toArray, h⟩)
  refine aE (fun c7 hS => ?_)
  have HM := hS
  clear hst
  go_wp2_with with_reducible refine so ?_
  refine rc2 HM.b1 U37 ?_
  have q0 := D.out
  have q1 := I.out
  have eo : kJ p now = (S.p, S.told) := by subst hSd; unfold kJ; dsimp only [aH] at *; split <;> first | rfl | (exfalso; omega) | (split <;> first | rfl | (exfalso; omega))
  rw [eo]
  unfold pS; rw [hbs]; exact ⟨_, rfl, HM.below, HM.told⟩
 obtain ⟨a5, a6, I⟩ := fF L; clear L
 by_cases O : (S.p.phase : Int) = 8
 ·
  obtain ⟨a8, a9, U⟩ := fT O; clear O
  have b2 := HM.b0.c 19 (.int .i64 S.p.phase)
  go_wp2_with with_reducible refine so ?_
  clear b2
  try simp only [nrm]
  have hst := bM HM
  refine cY _ (fun W => ∃ x0, Mem w W base S.sent S.told ((.slice none 0 0)) ((.slice none 0 0)) ((gs, 92, (sdL S (.slice none 0 0) (.slice none 0 0)).toArray) :: (z, 37, x0) :: (q, 37, (prL p).toArray) :: [])) hst (fun W h => ⟨(prL pr0).toArray, h⟩) HM.drew 10 ?_
  clear HM
  refine aA 0 hst ?_ (h0 := fun _ h => ⟨_, h⟩)
  refine aA 1 hst ?_ (h0 := fun _ h => ⟨_, h⟩)
  refine aA 2 hst ?_ (h0 := fun _ h => ⟨_, h⟩)
  refine bH (v := .agg (prL S.p).toArray) 3 hst (fun _ h => ⟨(prL pr0).toArray, h⟩) rfl (fun W hS K hK => aL rfl rfl (aX hS.choose_spec.b0 0 (prL S.p) rfl U37 rfl (by kernel_rfl)) (hK.out _ (Below.refl _ _))) ?_; simp only [nrm]
  refine aA 4 hst ?_ (h0 := fun _ h => ⟨_, h⟩)
  refine aA 5 hst ?_ (h0 := fun _ h => ⟨_, h⟩)
  refine aA 6 hst ?_ (h0 := fun _ h => ⟨_, h⟩)
  refine bH (v := ?_) 7 hst (fun _ h => ⟨(prL pr0).toArray, h⟩) rfl ?_ ?_; rotate_left; (intro W hS K hK; have ld : W.cell? ⟨gs, 118, none⟩ = some (.slice none 0 0) := hS.choose_spec.b0.cell 118; clear hS; go_simp; exact hK.out _ (Below.refl _ _)); simp only [nrm]
  refine dP (S' := fun W => Mem w W base S.sent S.told ((.slice none 0 0)) ((.slice none 0 0)) ((gs, 92, (sdL S (.slice none 0 0) (.slice none 0 0)).toArray) :: (z, 37, (prL S.p).toArray) :: (q, 37, (prL p).toArray) :: [])) 8 (.agg (prL S.p).toArray) rfl rfl rfl rfl (fun W hS => by obtain ⟨w9, h1, h2⟩ := hS.swap.hole (P := Tryz.prog) (ty := 37) 0 (prL S.p).toArray (prL S.p).toArray (by kernel_rfl) rfl (of_decide_eq_true rfl) (by kernel_rfl); exact ⟨w9, h1, h2.swap⟩) (bD _ _ _ _ _ _ _) (fun W h => ⟨(prL S.p).toArray, h⟩) ?_; simp only [nrm]
  clear hst
  have hst : aO fun W => Mem w W base S.sent S.told ((.slice none 0 0)) ((.slice none 0 0)) ((gs, 92, (sdL S (.slice none 0 0) (.slice none 0 0)).toArray) :: (z, 37, (prL S.p).toArray) :: (q, 37, (prL p).toArray) :: []) := bD _ _ _ _ _ _ _
  refine aA 9 hst ?_ (h0 := fun _ h => ⟨(prL S.p).toArray, h⟩)
  refine aE (fun c8 hS => ?_)
  have HM := hS
  clear hst
  go_wp2_with with_reducible refine so ?_
  refine rc2 HM.b1 U37 ?_
  have q0 := D.out
  have q1 := I.out
  have q2 := U.out
  have eo : kJ p now = (S.p, S.told) := by subst hSd; unfold kJ; dsimp only [aH] at *; split <;> first | rfl | (exfalso; omega) | (split <;> first | rfl | (exfalso; omega))
  rw [eo]
  unfold pS; rw [hbs]; exact ⟨_, rfl, HM.below, HM.told⟩
 obtain ⟨a8, a9, U⟩ := fF O; clear O
 by_cases Z : (now : Int) < (S.p.since + 30000000)
 ·
  obtain ⟨b3, b4, b5, a0⟩ := lT Z; clear Z
  have b6 := HM.b0.c 19 (.int .i64 S.p.phase)
  have b7 := HM.b0.c 20 (.int .i64 S.p.since)
  go_wp2_with with_reducible refine so ?_
  clear b6 b7
  try simp only [nrm]
  have hst := bM HM
  refine cY _ (fun W => ∃ x0, Mem w W base S.sent S.told ((.slice none 0 0)) ((.slice none 0 0)) ((gs, 92, (sdL S (.slice none 0 0) (.slice none 0 0)).toArray) :: (z, 37, x0) :: (q, 37, (prL p).toArray) :: [])) hst (fun W h => ⟨(prL pr0).toArray, h⟩) HM.drew 10 ?_
  clear HM
  refine aA 0 hst ?_ (h0 := fun _ h => ⟨_, h⟩)
  refine aA 1 hst ?_ (h0 := fun _ h => ⟨_, h⟩)
  refine aA 2 hst ?_ (h0 := fun _ h => ⟨_, h⟩)
  refine bH (v := .agg (prL S.p).toArray) 3 hst (fun _ h => ⟨(prL pr0).toArray, h⟩) rfl (fun W hS K hK => aL rfl rfl (aX hS.choose_spec.b0 0 (prL S.p) rfl U37 rfl (by kernel_rfl)) (hK.out _ (Below.refl _ _))) ?_; simp only [nrm]
  refine aA 4 hst ?_ (h0 := fun _ h => ⟨_, h⟩)
  refine aA 5 hst ?_ (h0 := fun _ h => ⟨_, h⟩)
  refine aA 6 hst ?_ (h0 := fun _ h => ⟨_, h⟩)
  refine bH (v := ?_) 7 hst (fun _ h => ⟨(prL pr0).toArray, h⟩) rfl ?_ ?_; rotate_left; (intro W hS K hK; have ld : W.cell? ⟨gs, 118, none⟩ = some (.slice none 0 0) := hS.choose_spec.b0.cell 118; clear hS; go_simp; exact hK.out _ (Below.refl _ _)); simp only [nrm]
  refine dP (S' := fun W => Mem w W base S.sent S.told ((.slice none 0 0)) ((.slice none 0 0)) ((gs, 92, (sdL S (.slice none 0 0) (.slice none 0 0)).toArray) :: (z, 37, (prL S.p).toArray) :: (q, 37, (prL p).toArray) :: [])) 8 (.agg (prL S.p).toArray) rfl rfl rfl rfl (fun W hS => by obtain ⟨w9, h1, h2⟩ := hS.swap.hole (P := Tryz.prog) (ty := 37) 0 (prL S.p).toArray (prL S.p).toArray (by kernel_rfl) rfl (of_decide_eq_true rfl) (by kernel_rfl); exact ⟨w9, h1, h2.swap⟩) (bD _ _ _ _ _ _ _) (fun W h => ⟨(prL S.p).toArray, h⟩) ?_; simp only [nrm]
  clear hst
  have hst : aO fun W => Mem w W base S.sent S.told ((.slice none 0 0)) ((.slice none 0 0)) ((gs, 92, (sdL S (.slice none 0 0) (.slice none 0 0)).toArray) :: (z, 37, (prL S.p).toArray) :: (q, 37, (prL p).toArray) :: []) := bD _ _ _ _ _ _ _
  refine aA 9 hst ?_ (h0 := fun _ h => ⟨(prL S.p).toArray, h⟩)
  refine aE (fun c9 hS => ?_)
  have HM := hS
  clear hst
  go_wp2_with with_reducible refine so ?_
  refine rc2 HM.b1 U37 ?_
  have q0 := D.out
  have q1 := I.out
  have q2 := U.out
  have q3 := a0.out
  have eo : kJ p now = (S.p, S.told) := by subst hSd; unfold kJ; dsimp only [aH] at *; split <;> first | rfl | (exfalso; omega) | (split <;> first | rfl | (exfalso; omega))
  rw [eo]
  unfold pS; rw [hbs]; exact ⟨_, rfl, HM.below, HM.told⟩
 obtain ⟨b3, b4, b5, a0⟩ := lF Z; clear Z
 have b8 := HM.b0.c 19 (.int .i64 S.p.phase)
 have b9 := HM.b0.c 20 (.int .i64 S.p.since)
 go_wp2_with with_reducible refine so ?_
 refine bd HM (nF _ _ S 14 _ _ _ _ HM.here) ?_; clear HM; intro F C d0 HM; clear b8 b9
 go_wp2_with with_reducible refine so ?_
 try simp only [nrm]
 have hst := bM HM
 refine cY _ (fun W => ∃ x0, Mem w W base ((S.end_ 14).sent) ((S.end_ 14).told) F C ((gs, 92, (sdL (S.end_ 14) F C).toArray) :: (z, 37, x0) :: (q, 37, (prL p).toArray) :: [])) hst (fun W h => ⟨(prL pr0).toArray, h⟩) HM.drew 10 ?_
 clear HM
 refine aA 0 hst ?_ (h0 := fun _ h => ⟨_, h⟩)
 refine aA 1 hst ?_ (h0 := fun _ h => ⟨_, h⟩)
 refine aA 2 hst ?_ (h0 := fun _ h => ⟨_, h⟩)
 refine bH (v := .agg #[.int .i64 ((S.end_ 14).p.cfg.role), .int .i64 ((S.end_ 14).p.cfg.feat.io), .bool ((S.end_ 14).p.cfg.feat.oob), .bool ((S.end_ 14).p.cfg.feat.bond), .bool ((S.end_ 14).p.cfg.feat.mitm), .bool ((S.end_ 14).p.cfg.feat.sid), .bool ((S.end_ 14).p.cfg.feat.tid), .int .i64 ((S.end_ 14).p.cfg.own.kind), .int .u64 (W64 (S.end_ 14).p.cfg.own.bits), .int .i64 ((S.end_ 14).p.cfg.peer.kind), .int .u64 (W64 (S.end_ 14).p.cfg.peer.bits), .int .i64 ((S.end_ 14).p.cfg.idn.adr.kind), .int .u64 (W64 (S.end_ 14).p.cfg.idn.adr.bits), .int .u64 (W64 (S.end_ 14).p.cfg.idn.irk), .int .u32 (W32 (S.end_ 14).p.cfg.secret), .int .u64 (W64 (S.end_ 14).p.cfg.seed), .int .u64 (W64 (S.end_ 14).p.cfg.mine), .int .u64 (W64 (S.end_ 14).p.cfg.oob.value), .int .u64 (W64 (S.end_ 14).p.cfg.oob.random), .int .i64 ((S.end_ 14).p.phase), .int .i64 ((S.end_ 14).p.since), .int .i64 ((S.end_ 14).p.method), .int .i64 ((S.end_ 14).p.peer.io), .bool ((S.end_ 14).p.peer.oob), .bool ((S.end_ 14).p.peer.bond), .bool ((S.end_ 14).p.peer.mitm), .bool ((S.end_ 14).p.peer.sid), .bool ((S.end_ 14).p.peer.tid), .int .i64 ((S.end_ 14).p.req.io), .bool ((S.end_ 14).p.req.oob), .bool ((S.end_ 14).p.req.bond), .bool ((S.end_ 14).p.req.mitm), .bool ((S.end_ 14).p.req.sid), .bool ((S.end_ 14).p.req.tid), .int .i64 ((S.end_ 14).p.res.io), .bool ((S.end_ 14).p.res.oob), .bool ((S.end_ 14).p.res.bond), .bool ((S.end_ 14).p.res.mitm), .bool ((S.end_ 14).p.res.sid), .bool ((S.end_ 14).p.res.tid), .int .u32 (W32 (S.end_ 14).p.peerKey), .int .u32 (W32 (S.end_ 14).p.shared), .int .u64 (W64 (S.end_ 14).p.nonce), .int .u64 (W64 (S.end_ 14).p.other), .int .u64 (W64 (S.end_ 14).p.commit), .bool ((S.end_ 14).p.have_), .int .i64 ((S.end_ 14).p.passkey), .int .i64 ((S.end_ 14).p.round), .bool ((S.end_ 14).p.agreed), .int .u64 (W64 (S.end_ 14).p.checkIn), .bool ((S.end_ 14).p.haveIn), .bool ((S.end_ 14).p.crypt), .int .u64 (W64 (S.end_ 14).p.ltk), .int .i64 ((S.end_ 14).p.idn.adr.kind), .int .u64 (W64 (S.end_ 14).p.idn.adr.bits), .int .u64 (W64 (S.end_ 14).p.idn.irk), .int .i64 ((S.end_ 14).p.drawn), .int .i64 ((S.end_ 14).p.reason)]) 3 hst (fun _ h => ⟨(prL pr0).toArray, h⟩) rfl (fun W hS K hK => aL rfl rfl (aX hS.choose_spec.b0 0 [.int .i64 ((S.end_ 14).p.cfg.role), .int .i64 ((S.end_ 14).p.cfg.feat.io), .bool ((S.end_ 14).p.cfg.feat.oob), .bool ((S.end_ 14).p.cfg.feat.bond), .bool ((S.end_ 14).p.cfg.feat.mitm), .bool ((S.end_ 14).p.cfg.feat.sid), .bool ((S.end_ 14).p.cfg.feat.tid), .int .i64 ((S.end_ 14).p.cfg.own.kind), .int .u64 (W64 (S.end_ 14).p.cfg.own.bits), .int .i64 ((S.end_ 14).p.cfg.peer.kind), .int .u64 (W64 (S.end_ 14).p.cfg.peer.bits), .int .i64 ((S.end_ 14).p.cfg.idn.adr.kind), .int .u64 (W64 (S.end_ 14).p.cfg.idn.adr.bits), .int .u64 (W64 (S.end_ 14).p.cfg.idn.irk), .int .u32 (W32 (S.end_ 14).p.cfg.secret), .int .u64 (W64 (S.end_ 14).p.cfg.seed), .int .u64 (W64 (S.end_ 14).p.cfg.mine), .int .u64 (W64 (S.end_ 14).p.cfg.oob.value), .int .u64 (W64 (S.end_ 14).p.cfg.oob.random), .int .i64 ((S.end_ 14).p.phase), .int .i64 ((S.end_ 14).p.since), .int .i64 ((S.end_ 14).p.method), .int .i64 ((S.end_ 14).p.peer.io), .bool ((S.end_ 14).p.peer.oob), .bool ((S.end_ 14).p.peer.bond), .bool ((S.end_ 14).p.peer.mitm), .bool ((S.end_ 14).p.peer.sid), .bool ((S.end_ 14).p.peer.tid), .int .i64 ((S.end_ 14).p.req.io), .bool ((S.end_ 14).p.req.oob), .bool ((S.end_ 14).p.req.bond), .bool ((S.end_ 14).p.req.mitm), .bool ((S.end_ 14).p.req.sid), .bool ((S.end_ 14).p.req.tid), .int .i64 ((S.end_ 14).p.res.io), .bool ((S.end_ 14).p.res.oob), .bool ((S.end_ 14).p.res.bond), .bool ((S.end_ 14).p.res.mitm), .bool ((S.end_ 14).p.res.sid), .bool ((S.end_ 14).p.res.tid), .int .u32 (W32 (S.end_ 14).p.peerKey), .int .u32 (W32 (S.end_ 14).p.shared), .int .u64 (W64 (S.end_ 14).p.nonce), .int .u64 (W64 (S.end_ 14).p.other), .int .u64 (W64 (S.end_ 14).p.commit), .bool ((S.end_ 14).p.have_), .int .i64 ((S.end_ 14).p.passkey), .int .i64 ((S.end_ 14).p.round), .bool ((S.end_ 14).p.agreed), .int .u64 (W64 (S.end_ 14).p.checkIn), .bool ((S.end_ 14).p.haveIn), .bool ((S.end_ 14).p.crypt), .int .u64 (W64 (S.end_ 14).p.ltk), .int .i64 ((S.end_ 14).p.idn.adr.kind), .int .u64 (W64 (S.end_ 14).p.idn.adr.bits), .int .u64 (W64 (S.end_ 14).p.idn.irk), .int .i64 ((S.end_ 14).p.drawn), .int .i64 ((S.end_ 14).p.reason)] rfl U37 rfl (by kernel_rfl)) (hK.out _ (Below.refl _ _))) ?_; simp only [nrm]
 refine aA 4 hst ?_ (h0 := fun _ h => ⟨_, h⟩)
 refine aA 5 hst ?_ (h0 := fun _ h => ⟨_, h⟩)
 refine aA 6 hst ?_ (h0 := fun _ h => ⟨_, h⟩)
 refine bH (v := ?_) 7 hst (fun _ h => ⟨(prL pr0).toArray, h⟩) rfl ?_ ?_; rotate_left; (intro W hS K hK; have ld : W.cell? ⟨gs, 118, none⟩ = some (C) := hS.choose_spec.b0.cell 118; clear hS; go_simp; exact hK.out _ (Below.refl _ _)); simp only [nrm]
 refine dP (S' := fun W => Mem w W base ((S.end_ 14).sent) ((S.end_ 14).told) F C ((gs, 92, (sdL (S.end_ 14) F C).toArray) :: (z, 37, (prL (S.end_ 14).p).toArray) :: (q, 37, (prL p).toArray) :: [])) 8 (.agg #[.int .i64 ((S.end_ 14).p.cfg.role), .int .i64 ((S.end_ 14).p.cfg.feat.io), .bool ((S.end_ 14).p.cfg.feat.oob), .bool ((S.end_ 14).p.cfg.feat.bond), .bool ((S.end_ 14).p.cfg.feat.mitm), .bool ((S.end_ 14).p.cfg.feat.sid), .bool ((S.end_ 14).p.cfg.feat.tid), .int .i64 ((S.end_ 14).p.cfg.own.kind), .int .u64 (W64 (S.end_ 14).p.cfg.own.bits), .int .i64 ((S.end_ 14).p.cfg.peer.kind), .int .u64 (W64 (S.end_ 14).p.cfg.peer.bits), .int .i64 ((S.end_ 14).p.cfg.idn.adr.kind), .int .u64 (W64 (S.end_ 14).p.cfg.idn.adr.bits), .int .u64 (W64 (S.end_ 14).p.cfg.idn.irk), .int .u32 (W32 (S.end_ 14).p.cfg.secret), .int .u64 (W64 (S.end_ 14).p.cfg.seed), .int .u64 (W64 (S.end_ 14).p.cfg.mine), .int .u64 (W64 (S.end_ 14).p.cfg.oob.value), .int .u64 (W64 (S.end_ 14).p.cfg.oob.random), .int .i64 ((S.end_ 14).p.phase), .int .i64 ((S.end_ 14).p.since), .int .i64 ((S.end_ 14).p.method), .int .i64 ((S.end_ 14).p.peer.io), .bool ((S.end_ 14).p.peer.oob), .bool ((S.end_ 14).p.peer.bond), .bool ((S.end_ 14).p.peer.mitm), .bool ((S.end_ 14).p.peer.sid), .bool ((S.end_ 14).p.peer.tid), .int .i64 ((S.end_ 14).p.req.io), .bool ((S.end_ 14).p.req.oob), .bool ((S.end_ 14).p.req.bond), .bool ((S.end_ 14).p.req.mitm), .bool ((S.end_ 14).p.req.sid), .bool ((S.end_ 14).p.req.tid), .int .i64 ((S.end_ 14).p.res.io), .bool ((S.end_ 14).p.res.oob), .bool ((S.end_ 14).p.res.bond), .bool ((S.end_ 14).p.res.mitm), .bool ((S.end_ 14).p.res.sid), .bool ((S.end_ 14).p.res.tid), .int .u32 (W32 (S.end_ 14).p.peerKey), .int .u32 (W32 (S.end_ 14).p.shared), .int .u64 (W64 (S.end_ 14).p.nonce), .int .u64 (W64 (S.end_ 14).p.other), .int .u64 (W64 (S.end_ 14).p.commit), .bool ((S.end_ 14).p.have_), .int .i64 ((S.end_ 14).p.passkey), .int .i64 ((S.end_ 14).p.round), .bool ((S.end_ 14).p.agreed), .int .u64 (W64 (S.end_ 14).p.checkIn), .bool ((S.end_ 14).p.haveIn), .bool ((S.end_ 14).p.crypt), .int .u64 (W64 (S.end_ 14).p.ltk), .int .i64 ((S.end_ 14).p.idn.adr.kind), .int .u64 (W64 (S.end_ 14).p.idn.adr.bits), .int .u64 (W64 (S.end_ 14).p.idn.irk), .int .i64 ((S.end_ 14).p.drawn), .int .i64 ((S.end_ 14).p.reason)]) rfl rfl rfl rfl (fun W hS => by obtain ⟨w9, h1, h2⟩ := hS.swap.hole (P := Tryz.prog) (ty := 37) 0 #[.int .i64 ((S.end_ 14).p.cfg.role), .int .i64 ((S.end_ 14).p.cfg.feat.io), .bool ((S.end_ 14).p.cfg.feat.oob), .bool ((S.end_ 14).p.cfg.feat.bond), .bool ((S.end_ 14).p.cfg.feat.mitm), .bool ((S.end_ 14).p.cfg.feat.sid), .bool ((S.end_ 14).p.cfg.feat.tid), .int .i64 ((S.end_ 14).p.cfg.own.kind), .int .u64 (W64 (S.end_ 14).p.cfg.own.bits), .int .i64 ((S.end_ 14).p.cfg.peer.kind), .int .u64 (W64 (S.end_ 14).p.cfg.peer.bits), .int .i64 ((S.end_ 14).p.cfg.idn.adr.kind), .int .u64 (W64 (S.end_ 14).p.cfg.idn.adr.bits), .int .u64 (W64 (S.end_ 14).p.cfg.idn.irk), .int .u32 (W32 (S.end_ 14).p.cfg.secret), .int .u64 (W64 (S.end_ 14).p.cfg.seed), .int .u64 (W64 (S.end_ 14).p.cfg.mine), .int .u64 (W64 (S.end_ 14).p.cfg.oob.value), .int .u64 (W64 (S.end_ 14).p.cfg.oob.random), .int .i64 ((S.end_ 14).p.phase), .int .i64 ((S.end_ 14).p.since), .int .i64 ((S.end_ 14).p.method), .int .i64 ((S.end_ 14).p.peer.io), .bool ((S.end_ 14).p.peer.oob), .bool ((S.end_ 14).p.peer.bond), .bool ((S.end_ 14).p.peer.mitm), .bool ((S.end_ 14).p.peer.sid), .bool ((S.end_ 14).p.peer.tid), .int .i64 ((S.end_ 14).p.req.io), .bool ((S.end_ 14).p.req.oob), .bool ((S.end_ 14).p.req.bond), .bool ((S.end_ 14).p.req.mitm), .bool ((S.end_ 14).p.req.sid), .bool ((S.end_ 14).p.req.tid), .int .i64 ((S.end_ 14).p.res.io), .bool ((S.end_ 14).p.res.oob), .bool ((S.end_ 14).p.res.bond), .bool ((S.end_ 14).p.res.mitm), .bool ((S.end_ 14).p.res.sid), .bool ((S.end_ 14).p.res.tid), .int .u32 (W32 (S.end_ 14).p.peerKey), .int .u32 (W32 (S.end_ 14).p.shared), .int .u64 (W64 (S.end_ 14).p.nonce), .int .u64 (W64 (S.end_ 14).p.other), .int .u64 (W64 (S.end_ 14).p.commit), .bool ((S.end_ 14).p.have_), .int .i64 ((S.end_ 14).p.passkey), .int .i64 ((S.end_ 14).p.round), .bool ((S.end_ 14).p.agreed), .int .u64 (W64 (S.end_ 14).p.checkIn), .bool ((S.end_ 14).p.haveIn), .bool ((S.end_ 14).p.crypt), .int .u64 (W64 (S.end_ 14).p.ltk), .int .i64 ((S.end_ 14).p.idn.adr.kind), .int .u64 (W64 (S.end_ 14).p.idn.adr.bits), .int .u64 (W64 (S.end_ 14).p.idn.irk), .int .i64 ((S.end_ 14).p.drawn), .int .i64 ((S.end_ 14).p.reason)] (prL (S.end_ 14).p).toArray (by kernel_rfl) rfl (of_decide_eq_true rfl) (by kernel_rfl); exact ⟨w9, h1, h2.swap⟩) (bD _ _ _ _ _ _ _) (fun W h => ⟨(prL (S.end_ 14).p).toArray, h⟩) ?_; simp only [nrm]
 clear hst
 have hst : aO fun W => Mem w W base ((S.end_ 14).sent) ((S.end_ 14).told) F C ((gs, 92, (sdL (S.end_ 14) F C).toArray) :: (z, 37, (prL (S.end_ 14).p).toArray) :: (q, 37, (prL p).toArray) :: []) := bD _ _ _ _ _ _ _
 refine aA 9 hst ?_ (h0 := fun _ h => ⟨(prL (S.end_ 14).p).toArray, h⟩)
 refine aE (fun d1 hS => ?_)
 have HM := hS
 clear hst
 go_wp2_with with_reducible refine so ?_
 refine rc2 HM.b1 U37 ?_
 have q0 := D.out
 have q1 := I.out
 have q2 := U.out
 have q3 := a0.out
 have eo : kJ p now = ((S.end_ 14).p, (S.end_ 14).told) := by subst hSd; unfold kJ; dsimp only [aH] at *; split <;> first | rfl | (exfalso; omega) | (split <;> first | rfl | (exfalso; omega))
 rw [eo]
 unfold pS; rw [hbs]; exact ⟨_, rfl, HM.below, HM.told⟩
end Go.Proofs.YtihmbcnccdiecaaGreatDoor
