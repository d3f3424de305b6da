/- Part of the proofs of the laws of pairing. -/
import Derived.Test.YtihmbcnccdiecaaGreatDoorBSdG
namespace Go.Proofs.YtihmbcnccdiecaaGreatDoor
set_option maxRecDepth 100000
set_option linter.unusedVariables false
set_option linter.unusedSimpArgs false
open Go.ChangeShapes Go.WideShapes Go.ChangeAt Go.RowKit
set_option maxHeartbeats 4000000 in
theorem qB (p : Pr) (now : Int) (w : World) (HL : bW w) (r0 : 0 ≤ p.round) (r1 : p.round ≤ 60)  :
  Calls Tryz.prog 23 #[.agg (prL p).toArray, .int .i64 now] w (fun e w' => oV w w' (bX p now).1 (bX p now).2.1 (bX p now).2.2 e) := by
 obtain ⟨base, hbs⟩ : ∃ b, w.heap.size = b := ⟨_, rfl⟩
 have HM := Mem.start HL
 rw [hbs] at HM
 obtain ⟨S, hSd⟩ : ∃ S, aH p now = S := ⟨_, rfl⟩
 have hs0 : S.sent = [] := by rw [← hSd]; rfl
 have ht0 : S.told = [] := by rw [← hSd]; rfl
 have hw0 : S.was = S.p := by rw [← hSd]; rfl
 have ls : S.sent.length ≤ 900 := by rw [hs0]; decide
 have lt : S.told.length ≤ 900 := by rw [ht0]; decide
 have h0 : 0 ≤ S.p.round := by rw [← hSd]; exact r0
 have h1 : S.p.round ≤ 64 := by rw [← hSd]; show p.round ≤ 64; omega
 have h2 : S.p.round ≤ 60 := by rw [← hSd]; exact r1
 go_enter Tryz.func23, Tryz.ntmps23
 go_wp2_with with_reducible refine so ?_
 refine HM.nw (ty := 37) (cs := (prL p).toArray) ?_; clear HM; intro F a3 HM
 go_wp2_with with_reducible refine so ?_
 refine HM.nw (ty := 37) (cs := (prL pr0).toArray) ?_; clear HM; intro I a4 HM
 go_wp2_with first | with_reducible refine so ?_ | with_reducible refine lw HM.b1 U37 ?_
 refine (fD _ p now _ _ HM.here).mono ?_; rintro e a5 ⟨gs, rfl, L⟩
 replace HM := HM.trans L; clear L
 rw [hSd] at HM
 rw [← hs0, ← ht0] at HM
 go_wp2_with with_reducible refine so ?_
 refine bt HM.to (bQ _ _ _ _  _ HM.b0 S.first rfl) ?_; clear HM; intro a6 HM
 rcases C : S.first with _ | _
 ·
  go_wp2_with first | with_reducible refine so ?_ | with_reducible refine lw HM.b2 U37 ?_
  refine yv HM.b1 HM.s1 ?_; clear HM; intro a7 HM
  go_wp2_with with_reducible refine so ?_
  refine rc3 HM.b1 U37 ?_
  have e1 : S.p = p := by rw [← hSd]; rfl
  have e2 : S.first = decide (p.cfg.role = 0) := by rw [← hSd]; rfl
  have c : p.cfg.role ≠ 0 ∨ p.phase ≠ 0 := by first | exact .inr (by rw [← e1]; exact C) | exact .inl (fun hh => by rw [hh] at e2; exact absurd (e2.symm.trans C) (by decide))
  have eo : bX p now = (p, [], 9) := by unfold bX; rw [if_pos c]
  rw [eo]
  unfold oV; rw [hbs]; exact ⟨_, rfl, HM.below, iW _ _ _ _⟩
 by_cases D : (S.p.phase : Int) = 0
 rotate_left
 ·
  obtain ⟨Z, a0, J⟩ := fF D; clear D
  have a1 := HM.b0.c 19 (.int .i64 S.p.phase)
  go_wp2_with first | with_reducible refine so ?_ | with_reducible refine lw HM.b2 U37 ?_
  refine yv HM.b1 HM.s1 ?_; clear HM; intro a8 HM; clear a1
  go_wp2_with with_reducible refine so ?_
  refine rc3 HM.b1 U37 ?_
  have q1 := J.out
  have e1 : S.p = p := by rw [← hSd]; rfl
  have e2 : S.first = decide (p.cfg.role = 0) := by rw [← hSd]; rfl
  have c : p.cfg.role ≠ 0 ∨ p.phase ≠ 0 := by first | exact .inr (by rw [← e1]; exact q1) | exact .inl (fun hh => by rw [hh] at e2; exact absurd (e2.symm.trans C) (by decide))
  have eo : bX p now = (p, [], 9) := by unfold bX; rw [if_pos c]
  rw [eo]
  unfold oV; rw [hbs]; exact ⟨_, rfl, HM.below, iW _ _ _ _⟩
 obtain ⟨Z, a0, J⟩ := fT D; clear D
 have a2 := HM.b0.c 19 (.int .i64 S.p.phase)
 go_wp2_with with_reducible refine so ?_
 refine bd HM (eL _ _ S _ _ _ _ HM.here) ?_; clear HM; intro O U a9 HM; clear a2
 go_wp2_with first | with_reducible refine so ?_ | with_reducible refine ld 1 [.int .i64 S.p.cfg.feat.io, .bool S.p.cfg.feat.oob, .bool S.p.cfg.feat.bond, .bool S.p.cfg.feat.mitm, .bool S.p.cfg.feat.sid, .bool S.p.cfg.feat.tid] HM.b0 U23 ?_
 refine yp 28 (sdL (S.accept.put_req S.p.cfg.feat) O U).toArray HM.b0 HM.s0 ?_; clear HM; intro b3 HM
 go_wp2_with with_reducible refine so ?_
 refine yk 19 (sdL ((S.accept.put_req S.p.cfg.feat).put_phase 1) O U).toArray HM.b0 HM.s0 ?_; clear HM; intro b4 HM
 go_wp2_with first | with_reducible refine so ?_ | with_reducible refine ld 1 [.int .i64 S.p.cfg.feat.io, .bool S.p.cfg.feat.oob, .bool S.p.cfg.feat.bond, .bool S.p.cfg.feat.mitm, .bool S.p.cfg.feat.sid, .bool S.p.cfg.feat.tid] HM.b0 U23 ?_
 refine bd HM (iR _ _ ((S.accept.put_req S.p.cfg.feat).put_phase 1) ⟨1, ⟨S.p.cfg.feat.io, S.p.cfg.feat.oob, S.p.cfg.feat.bond, S.p.cfg.feat.mitm, S.p.cfg.feat.sid, S.p.cfg.feat.tid⟩, 0#32, 0#64, ⟨⟨0, 0#64⟩, 0#64⟩, 0⟩ _ _ _ _ HM.here bV) ?_; clear HM; intro q z b5 HM
 go_wp2_with with_reducible refine so ?_
 try simp only [nrm]
 have hst := bM HM
 refine cY _ (fun W => ∃ x0, Mem w W base ((((S.accept.put_req S.p.cfg.feat).put_phase 1).send ⟨1, ⟨S.p.cfg.feat.io, S.p.cfg.feat.oob, S.p.cfg.feat.bond, S.p.cfg.feat.mitm, S.p.cfg.feat.sid, S.p.cfg.feat.tid⟩, 0#32, 0#64, ⟨⟨0, 0#64⟩, 0#64⟩, 0⟩).sent) ((((S.accept.put_req S.p.cfg.feat).put_phase 1).send ⟨1, ⟨S.p.cfg.feat.io, S.p.cfg.feat.oob, S.p.cfg.feat.bond, S.p.cfg.feat.mitm, S.p.cfg.feat.sid, S.p.cfg.feat.tid⟩, 0#32, 0#64, ⟨⟨0, 0#64⟩, 0#64⟩, 0⟩).told) q z ((gs, 92, (sdL (((S.accept.put_req S.p.cfg.feat).put_phase 1).send ⟨1, ⟨S.p.cfg.feat.io, S.p.cfg.feat.oob, S.p.cfg.feat.bond, S.p.cfg.feat.mitm, S.p.cfg.feat.sid, S.p.cfg.feat.tid⟩, 0#32, 0#64, ⟨⟨0, 0#64⟩, 0#64⟩, 0⟩) q z).toArray) :: (I, 37, x0) :: (F, 37, (prL p).toArray) :: [])) hst (fun W h => ⟨(prL pr0).toArray, h⟩) HM.drew 11 ?_
 clear HM
 refine aA 0 hst ?_ (h0 := fun _ h => ⟨_, h⟩)
 refine aA 1 hst ?_ (h0 := fun _ h => ⟨_, h⟩)
 refine aA 2 hst ?_ (h0 := fun _ h => ⟨_, h⟩)
 refine bH (v := .agg #[.int .i64 S.p.cfg.role, .int .i64 S.p.cfg.feat.io, .bool S.p.cfg.feat.oob, .bool S.p.cfg.feat.bond, .bool S.p.cfg.feat.mitm, .bool S.p.cfg.feat.sid, .bool S.p.cfg.feat.tid, .int .i64 S.p.cfg.own.kind, .int .u64 (W64 S.p.cfg.own.bits), .int .i64 S.p.cfg.peer.kind, .int .u64 (W64 S.p.cfg.peer.bits), .int .i64 S.p.cfg.idn.adr.kind, .int .u64 (W64 S.p.cfg.idn.adr.bits), .int .u64 (W64 S.p.cfg.idn.irk), .int .u32 (W32 S.p.cfg.secret), .int .u64 (W64 S.p.cfg.seed), .int .u64 (W64 S.p.cfg.mine), .int .u64 (W64 S.p.cfg.oob.value), .int .u64 (W64 S.p.cfg.oob.random), .int .i64 1, .int .i64 S.now, .int .i64 S.p.method, .int .i64 S.p.peer.io, .bool S.p.peer.oob, .bool S.p.peer.bond, .bool S.p.peer.mitm, .bool S.p.peer.sid, .bool S.p.peer.tid, .int .i64 S.p.cfg.feat.io, .bool S.p.cfg.feat.oob, .bool S.p.cfg.feat.bond, .bool S.p.cfg.feat.mitm, .bool S.p.cfg.feat.sid, .bool S.p.cfg.feat.tid, .int .i64 S.p.res.io, .bool S.p.res.oob, .bool S.p.res.bond, .bool S.p.res.mitm, .bool S.p.res.sid, .bool S.p.res.tid, .int .u32 (W32 S.p.peerKey), .int .u32 (W32 S.p.shared), .int .u64 (W64 S.p.nonce), .int .u64 (W64 S.p.other), .int .u64 (W64 S.p.commit), .bool S.p.have_, .int .i64 S.p.passkey, .int .i64 S.p.round, .bool S.p.agreed, .int .u64 (W64 S.p.checkIn), .bool S.p.haveIn, .bool S.p.crypt, .int .u64 (W64 S.p.ltk), .int .i64 S.p.idn.adr.kind, .int .u64 (W64 S.p.idn.adr.bits), .int .u64 (W64 S.p.idn.irk), .int .i64 S.p.drawn, .int .i64 S.p.reason]) 3 hst (fun _ h => ⟨(prL pr0).toArray, h⟩) rfl (fun W hS K hK => aL rfl rfl (aX hS.choose_spec.b0 0 [.int .i64 S.p.cfg.role, .int .i64 S.p.cfg.feat.io, .bool S.p.cfg.feat.oob, .bool S.p.cfg.feat.bond, .bool S.p.cfg.feat.mitm, .bool S.p.cfg.feat.sid, .bool S.p.cfg.feat.tid, .int .i64 S.p.cfg.own.kind, .int .u64 (W64 S.p.cfg.own.bits), .int .i64 S.p.cfg.peer.kind, .int .u64 (W64 S.p.cfg.peer.bits), .int .i64 S.p.cfg.idn.adr.kind, .int .u64 (W64 S.p.cfg.idn.adr.bits), .int .u64 (W64 S.p.cfg.idn.irk), .int .u32 (W32 S.p.cfg.secret), .int .u64 (W64 S.p.cfg.seed), .int .u64 (W64 S.p.cfg.mine), .int .u64 (W64 S.p.cfg.oob.value), .int .u64 (W64 S.p.cfg.oob.random), .int .i64 1, .int .i64 S.now, .int .i64 S.p.method, .int .i64 S.p.peer.io, .bool S.p.peer.oob, .bool S.p.peer.bond, .bool S.p.peer.mitm, .bool S.p.peer.sid, .bool S.p.peer.tid, .int .i64 S.p.cfg.feat.io, .bool S.p.cfg.feat.oob, .bool S.p.cfg.feat.bond, .bool S.p.cfg.feat.mitm, .bool S.p.cfg.feat.sid, .bool S.p.cfg.feat.tid, .int .i64 S.p.res.io, .bool S.p.res.oob, .bool S.p.res.bond, .bool S.p.res.mitm, .bool S.p.res.sid, .bool S.p.res.tid, .int .u32 (W32 S.p.peerKey), .int .u32 (W32 S.p.shared), .int .u64 (W64 S.p.nonce), .int .u64 (W64 S.p.other), .int .u64 (W64 S.p.commit), .bool S.p.have_, .int .i64 S.p.passkey, .int .i64 S.p.round, .bool S.p.agreed, .int .u64 (W64 S.p.checkIn), .bool S.p.haveIn, .bool S.p.crypt, .int .u64 (W64 S.p.ltk), .int .i64 S.p.idn.adr.kind, .int .u64 (W64 S.p.idn.adr.bits), .int .u64 (W64 S.p.idn.irk), .int .i64 S.p.drawn, .int .i64 S.p.reason] rfl U37 rfl (by kernel_rfl)) (hK.out _ (Below.refl _ _))) ?_; simp only [nrm]
 refine aA 4 hst ?_ (h0 := fun _ h => ⟨_, h⟩)
 refine aA 5 hst ?_ (h0 := fun _ h => ⟨_, h⟩)
 refine aA 6 hst ?_ (h0 := fun _ h => ⟨_, h⟩)
 refine bH (v := ?_) 7 hst (fun _ h => ⟨(prL pr0).toArray, h⟩) rfl ?_ ?_; rotate_left; (intro W hS K hK; have ld : W.cell? ⟨gs, 117, none⟩ = some (q) := hS.choose_spec.b0.cell 117; clear hS; go_simp; exact hK.out _ (Below.refl _ _)); simp only [nrm]
 refine dP (S' := fun W => Mem w W base ((((S.accept.put_req S.p.cfg.feat).put_phase 1).send ⟨1, ⟨S.p.cfg.feat.io, S.p.cfg.feat.oob, S.p.cfg.feat.bond, S.p.cfg.feat.mitm, S.p.cfg.feat.sid, S.p.cfg.feat.tid⟩, 0#32, 0#64, ⟨⟨0, 0#64⟩, 0#64⟩, 0⟩).sent) ((((S.accept.put_req S.p.cfg.feat).put_phase 1).send ⟨1, ⟨S.p.cfg.feat.io, S.p.cfg.feat.oob, S.p.cfg.feat.bond, S.p.cfg.feat.mitm, S.p.cfg.feat.sid, S.p.cfg.feat.tid⟩, 0#32, 0#64, ⟨⟨0, 0#64⟩, 0#64⟩, 0⟩).told) q z ((gs, 92, (sdL (((S.accept.put_req S.p.cfg.feat).put_phase 1).send ⟨1, ⟨S.p.cfg.feat.io, S.p.cfg.feat.oob, S.p.cfg.feat.bond, S.p.cfg.feat.mitm, S.p.cfg.feat.sid, S.p.cfg.feat.tid⟩, 0#32, 0#64, ⟨⟨0, 0#64⟩, 0#64⟩, 0⟩) q z).toArray) :: (I, 37, (prL (((S.accept.put_req S.p.cfg.feat).put_phase 1).send ⟨1, ⟨S.p.cfg.feat.io, S.p.cfg.feat.oob, S.p.cfg.feat.bond, S.p.cfg.feat.mitm, S.p.cfg.feat.sid, S.p.cfg.feat.tid⟩, 0#32, 0#64, ⟨⟨0, 0#64⟩, 0#64⟩, 0⟩).p).toArray) :: (F, 37, (prL p).toArray) :: [])) 8 (.agg #[.int .i64 S.p.cfg.role, .int .i64 S.p.cfg.feat.io, .bool S.p.cfg.feat.oob, .bool S.p.cfg.feat.bond, .bool S.p.cfg.feat.mitm, .bool S.p.cfg.feat.sid, .bool S.p.cfg.feat.tid, .int .i64 S.p.cfg.own.kind, .int .u64 (W64 S.p.cfg.own.bits), .int .i64 S.p.cfg.peer.kind, .int .u64 (W64 S.p.cfg.peer.bits), .int .i64 S.p.cfg.idn.adr.kind, .int .u64 (W64 S.p.cfg.idn.adr.bits), .int .u64 (W64 S.p.cfg.idn.irk), .int .u32 (W32 S.p.cfg.secret), .int .u64 (W64 S.p.cfg.seed), .int .u64 (W64 S.p.cfg.mine), .int .u64 (W64 S.p.cfg.oob.value), .int .u64 (W64 S.p.cfg.oob.random), .int .i64 1, .int .i64 S.now, .int .i64 S.p.method, .int .i64 S.p.peer.io, .bool S.p.peer.oob, .bool S.p.peer.bond, .bool S.p.peer.mitm, .bool S.p.peer.sid, .bool S.p.peer.tid, .int .i64 S.p.cfg.feat.io, .bool S.p.cfg.feat.oob, .bool S.p.cfg.feat.bond, .bool S.p.cfg.feat.mitm, .bool S.p.cfg.feat.sid, .bool S.p.cfg.feat.tid, .int .i64 S.p.res.io, .bool S.p.res.oob, .bool S.p.res.bond, .bool S.p.res.mitm, .bool S.p.res.sid, .bool S.p.res.tid, .int .u32 (W32 S.p.peerKey), .int .u32 (W32 S.p.shared), .int .u64 (W64 S.p.nonce), .int .u64 (W64 S.p.other), .int .u64 (W64 S.p.commit), .bool S.p.have_, .int .i64 S.p.passkey, .int .i64 S.p.round, .bool S.p.agreed, .int .u64 (W64 S.p.checkIn), .bool S.p.haveIn, .bool S.p.crypt, .int .u64 (W64 S.p.ltk), .int .i64 S.p.idn.adr.kind, .int .u64 (W64 S.p.idn.adr.bits), .int .u64 (W64 S.p.idn.irk), .int .i64 S.p.drawn, .int .i64 S.p.reason]) rfl rfl rfl rfl (fun W hS => by obtain ⟨w9, h1, h2⟩ := hS.swap.hole (P := Tryz.prog) (ty := 37) 0 #[.int .i64 S.p.cfg.role, .int .i64 S.p.cfg.feat.io, .bool S.p.cfg.feat.oob, .bool S.p.cfg.feat.bond, .bool S.p.cfg.feat.mitm, .bool S.p.cfg.feat.sid, .bool S.p.cfg.feat.tid, .int .i64 S.p.cfg.own.kind, .int .u64 (W64 S.p.cfg.own.bits), .int .i64 S.p.cfg.peer.kind, .int .u64 (W64 S.p.cfg.peer.bits), .int .i64 S.p.cfg.idn.adr.kind, .int .u64 (W64 S.p.cfg.idn.adr.bits), .int .u64 (W64 S.p.cfg.idn.irk), .int .u32 (W32 S.p.cfg.secret), .int .u64 (W64 S.p.cfg.seed), .int .u64 (W64 S.p.cfg.mine), .int .u64 (W64 S.p.cfg.oob.value), .int .u64 (W64 S.p.cfg.oob.random), .int .i64 1, .int .i64 S.now, .int .i64 S.p.method, .int .i64 S.p.peer.io, .bool S.p.peer.oob, .bool S.p.peer.bond, .bool S.p.peer.mitm, .bool S.p.peer.sid, .bool S.p.peer.tid, .int .i64 S.p.cfg.feat.io, .bool S.p.cfg.feat.oob, .bool S.p.cfg.feat.bond, .bool S.p.cfg.feat.mitm, .bool S.p.cfg.feat.sid, .bool S.p.cfg.feat.tid, .int .i64 S.p.res.io, .bool S.p.res.oob, .bool S.p.res.bond, .bool S.p.res.mitm, .bool S.p.res.sid, .bool S.p.res.tid, .int .u32 (W32 S.p.peerKey), .int .u32 (W32 S.p.shared), .int .u64 (W64 S.p.nonce), .int .u64 (W64 S.p.other), .int .u64 (W64 S.p.commit), .bool S.p.have_, .int .i64 S.p.passkey, .int .i64 S.p.round, .bool S.p.agreed, .int .u64 (W64 S.p.checkIn), .bool S.p.haveIn, .bool S.p.crypt, .int .u64 (W64 S.p.ltk), .int .i64 S.p.idn.adr.kind, .int .u64 (W64 S.p.idn.adr.bits), .int .u64 (W64 S.p.idn.irk), .int .i64 S.p.drawn, .int .i64 S.p.reason] (prL (((S.accept.put_req S.p.cfg.feat).put_phase 1).send ⟨1, ⟨S.p.cfg.feat.io, S.p.cfg.feat.oob, S.p.cfg.feat.bond, S.p.cfg.feat.mitm, S.p.cfg.feat.sid, S.p.cfg.feat.tid⟩, 0#32, 0#64, ⟨⟨0, 0#64⟩, 0#64⟩, 0⟩).p).toArray (by kernel_rfl) rfl (of_decide_eq_true rfl) (by kernel_rfl); exact ⟨w9, h1, h2.swap⟩) (bD _ _ _ _ _ _ _) (fun W h => ⟨(prL (((S.accept.put_req S.p.cfg.feat).put_phase 1).send ⟨1, ⟨S.p.cfg.feat.io, S.p.cfg.feat.oob, S.p.cfg.feat.bond, S.p.cfg.feat.mitm, S.p.cfg.feat.sid, S.p.cfg.feat.tid⟩, 0#32, 0#64, ⟨⟨0, 0#64⟩, 0#64⟩, 0⟩).p).toArray, h⟩) ?_; simp only [nrm]
 clear hst
 have hst : aO fun W => Mem w W base ((((S.accept.put_req S.p.cfg.feat).put_phase 1).send ⟨1, ⟨S.p.cfg.feat.io, S.p.cfg.feat.oob, S.p.cfg.feat.bond, S.p.cfg.feat.mitm, S.p.cfg.feat.sid, S.p.cfg.feat.tid⟩, 0#32, 0#64, ⟨⟨0, 0#64⟩, 0#64⟩, 0⟩).sent) ((((S.accept.put_req S.p.cfg.feat).put_phase 1).send ⟨1, ⟨S.p.cfg.feat.io, S.p.cfg.feat.oob, S.p.cfg.feat.bond, S.p.cfg.feat.mitm, S.p.cfg.feat.sid, S.p.cfg.feat.tid⟩, 0#32, 0#64, ⟨⟨0, 0#64⟩, 0#64⟩, 0⟩).told) q z ((gs, 92, (sdL (((S.accept.put_req S.p.cfg.feat).put_phase 1).send ⟨1, ⟨S.p.cfg.feat.io, S.p.cfg.feat.oob, S.p.cfg.feat.bond, S.p.cfg.feat.mitm, S.p.cfg.feat.sid, S.p.cfg.feat.tid⟩, 0#32, 0#64, ⟨⟨0, 0#64⟩, 0#64⟩, 0⟩) q z).toArray) :: (I, 37, (prL (((S.accept.put_req S.p.cfg.feat).put_phase 1).send ⟨1, ⟨S.p.cfg.feat.io, S.p.cfg.feat.oob, S.p.cfg.feat.bond, S.p.cfg.feat.mitm, S.p.cfg.feat.sid, S.p.cfg.feat.tid⟩, 0#32, 0#64, ⟨⟨0, 0#64⟩, 0#64⟩, 0⟩).p).toArray) :: (F, 37, (prL p).toArray) :: []) := bD _ _ _ _ _ _ _
 refine bH (v := ?_) 9 hst (fun _ h => ⟨(prL (((S.accept.put_req S.p.cfg.feat).put_phase 1).send ⟨1, ⟨S.p.cfg.feat.io, S.p.cfg.feat.oob, S.p.cfg.feat.bond, S.p.cfg.feat.mitm, S.p.cfg.feat.sid, S.p.cfg.feat.tid⟩, 0#32, 0#64, ⟨⟨0, 0#64⟩, 0#64⟩, 0⟩).p).toArray, h⟩) rfl ?_ ?_; rotate_left; (intro W hS K hK; clear hS; go_simp; exact hK.out _ (Below.refl _ _)); simp only [nrm]
 refine bH (v := ?_) 10 hst (fun _ h => ⟨(prL (((S.accept.put_req S.p.cfg.feat).put_phase 1).send ⟨1, ⟨S.p.cfg.feat.io, S.p.cfg.feat.oob, S.p.cfg.feat.bond, S.p.cfg.feat.mitm, S.p.cfg.feat.sid, S.p.cfg.feat.tid⟩, 0#32, 0#64, ⟨⟨0, 0#64⟩, 0#64⟩, 0⟩).p).toArray, h⟩) rfl ?_ ?_; rotate_left; (intro W hS K hK; clear hS; go_simp; exact hK.out _ (Below.refl _ _)); simp only [nrm]
 refine aE (fun b6 hS => ?_)
 have HM := hS
 clear hst
 go_wp2_with with_reducible refine so ?_
 refine rc3 HM.b1 U37 ?_
 have q1 := J.out
 have e1 : S.p = p := by rw [← hSd]; rfl
 have e2 : S.first = decide (p.cfg.role = 0) := by rw [← hSd]; rfl
 have c : ¬ (p.cfg.role ≠ 0 ∨ p.phase ≠ 0) := by rintro (hh | hh); exact hh (of_decide_eq_true (e2.symm.trans C)); exact hh (by rw [← e1]; exact q1)
 have eo : bX p now = ((((S.accept.put_req S.p.cfg.feat).put_phase 1).send ⟨1, ⟨S.p.cfg.feat.io, S.p.cfg.feat.oob, S.p.cfg.feat.bond, S.p.cfg.feat.mitm, S.p.cfg.feat.sid, S.p.cfg.feat.tid⟩, 0#32, 0#64, ⟨⟨0, 0#64⟩, 0#64⟩, 0⟩).p, (((S.accept.put_req S.p.cfg.feat).put_phase 1).send ⟨1, ⟨S.p.cfg.feat.io, S.p.cfg.feat.oob, S.p.cfg.feat.bond, S.p.cfg.feat.mitm, S.p.cfg.feat.sid, S.p.cfg.feat.tid⟩, 0#32, 0#64, ⟨⟨0, 0#64⟩, 0#64⟩, 0⟩).sent, 0) := by unfold bX; rw [if_neg c]; subst hSd; rfl
 rw [eo]
 unfold oV; rw [hbs]; exact ⟨_, rfl, HM.below, HM.sent⟩
end Go.Proofs.YtihmbcnccdiecaaGreatDoor
