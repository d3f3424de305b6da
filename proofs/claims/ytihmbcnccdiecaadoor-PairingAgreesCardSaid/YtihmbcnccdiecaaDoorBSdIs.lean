/- Part of the proofs of the laws of pairing. -/
import Derived.Test.YtihmbcnccdiecaaDoorA2
import Derived.Test.YtihmbcnccdiecaaDoorBLowB
import Derived.Test.YtihmbcnccdiecaaDoorBLowC
import Derived.Test.YtihmbcnccdiecaaDoorBSdA
import Derived.Test.YtihmbcnccdiecaaDoorBSdB
import Derived.Test.YtihmbcnccdiecaaDoorBSdC
import Derived.Test.YtihmbcnccdiecaaDoorBSdD
import Derived.Test.YtihmbcnccdiecaaDoorBSdE
import Derived.Test.YtihmbcnccdiecaaDoorBSdF
import Derived.Test.YtihmbcnccdiecaaDoorBSdG
namespace Go.Proofs.YtihmbcnccdiecaaDoor
set_option maxRecDepth 100000
open Go.ChangeShapes Go.WideShapes Go.ChangeAt Go.RowKit
set_option linter.unusedVariables false
set_option linter.unusedSimpArgs false
set_option maxHeartbeats 4000000 in
theorem pa_Start (p : Pr) (now : Int) (w : World) (HL : Laid w) (r0 : 0 ≤ p.round) (r1 : p.round ≤ 60)  :
  Calls Tryd.prog 25 #[.agg (prL p).toArray, .int .i64 now] w (fun e w' => OutS w w' (startP p now).1 (startP p now).2.1 (startP p now).2.2 e) := by
 obtain ⟨base, hbs⟩ : ∃ b, w.heap.size = b := ⟨_, rfl⟩
 have HM := Mem.start HL
 rw [hbs] at HM
 obtain ⟨S, hSd⟩ : ∃ S, handleK p now = S := ⟨_, rfl⟩
 have hs0 : S.sent = [] := by rw [← hSd]; rfl
 have ht0 : S.told = [] := by rw [← hSd]; rfl
 have hw0 : S.was = S.p := by rw [← hSd]; rfl
 have ls : S.sent.length ≤ 900 := by rw [hs0]; decide
 have lt : S.told.length ≤ 900 := by rw [ht0]; decide
 have h0 : 0 ≤ S.p.round := by rw [← hSd]; exact r0
 have h1 : S.p.round ≤ 64 := by rw [← hSd]; show p.round ≤ 64; omega
 have h2 : S.p.round ≤ 60 := by rw [← hSd]; exact r1
 go_enter Tryd.func25, Tryd.ntmps25
 go_wp2_with (with_reducible refine so ?_)
 refine HM.nw (ty := 37) (cs := (prL p).toArray) ?_; clear HM; intro g_1 w_2 HM
 go_wp2_with (with_reducible refine so ?_)
 refine HM.nw (ty := 37) (cs := (prL pr0).toArray) ?_; clear HM; intro g_7 w_8 HM
 go_wp2_with (first | (with_reducible refine so ?_) | (with_reducible refine ld 0 (prL p) HM.b1 Tryd.underlying37 ?_))
 refine (sd_handle _ p now _ _ HM.here).mono ?_; rintro e w_14 ⟨gs, rfl, hb_15⟩
 replace HM := HM.trans hb_15; clear hb_15
 rw [hSd] at HM
 rw [← hs0, ← ht0] at HM
 go_wp2_with (with_reducible refine so ?_)
 refine (sd_first _ _ _ _  _ HM.b0 S.first rfl).mono ?_; rintro e w_16 ⟨rfl, hb_17⟩
 replace HM := HM.to hb_17
 clear hb_17
 rcases hc_18 : S.first with _ | _
 ·
  skip
  go_wp2_with (first | (with_reducible refine so ?_) | (with_reducible refine ld 0 (prL p) HM.b2 Tryd.underlying37 ?_))
  refine sv (prL p).toArray HM.b1 ?_
  intro w_20 G_22 hU_21
  replace HM := HM.s1 hU_21 G_22
  clear hU_21 G_22
  go_wp2_with (with_reducible refine so ?_)
  refine bodyPost_ret (results_ctt rfl rfl (load_blk HM.b1 Tryd.underlying37 rfl (by kernel_rfl))) rfl ?_
  have e1 : S.p = p := by rw [← hSd]; rfl
  have e2 : S.first = decide (p.cfg.role = 0) := by rw [← hSd]; rfl
  have c : p.cfg.role ≠ 0 ∨ p.phase ≠ 0 := by first | exact .inr (by rw [← e1]; exact hc_18) | exact .inl (fun hh => by rw [hh] at e2; exact absurd (e2.symm.trans hc_18) (by decide))
  have eo : startP p now = (p, [], 9) := by unfold startP; rw [if_pos c]
  rw [eo]
  unfold OutS; rw [hbs]; exact ⟨_, rfl, HM.below, own_nil _ _ _ _⟩
 skip
 by_cases hc_23 : (S.p.phase : Int) = 0
 ·
  obtain ⟨ec_23, ec_23n, kc_23⟩ := fT hc_23; clear hc_23
  have ld_24 := HM.b0.c 19 (.int .i64 S.p.phase)
  go_wp2_with (with_reducible refine so ?_)
  refine (sd_accept _ _ S _ _ _ _ HM.here).mono ?_; rintro e w_25 ⟨rfl, v_27, u_28, HN_29⟩
  clear ld_24
  replace HM := HM.trans HN_29
  clear HN_29
  go_wp2_with (first | (with_reducible refine so ?_) | (with_reducible refine ld 1 [.int .i64 S.p.cfg.feat.io, .bool S.p.cfg.feat.oob, .bool S.p.cfg.feat.bond, .bool S.p.cfg.feat.mitm, .bool S.p.cfg.feat.sid, .bool S.p.cfg.feat.tid] HM.b0 Tryd.underlying23 ?_))
  refine sw 28 (featL S.p.cfg.feat).toArray (sdL (S.accept.put_req S.p.cfg.feat) v_27 u_28).toArray HM.b0 ?_
  intro w_31 G_33 hU_32
  replace HM := HM.s0 hU_32 G_33
  clear hU_32 G_33
  go_wp2_with (with_reducible refine so ?_)
  refine sx 19 (.int .i64 1) (sdL ((S.accept.put_req S.p.cfg.feat).put_phase 1) v_27 u_28).toArray HM.b0 ?_
  intro w_34 G_36 hU_35
  replace HM := HM.s0 hU_35 G_36
  clear hU_35 G_36
  go_wp2_with (first | (with_reducible refine so ?_) | (with_reducible refine ld 1 [.int .i64 S.p.cfg.feat.io, .bool S.p.cfg.feat.oob, .bool S.p.cfg.feat.bond, .bool S.p.cfg.feat.mitm, .bool S.p.cfg.feat.sid, .bool S.p.cfg.feat.tid] HM.b0 Tryd.underlying23 ?_))
  refine (sd_send _ _ ((S.accept.put_req S.p.cfg.feat).put_phase 1) ⟨1, ⟨S.p.cfg.feat.io, S.p.cfg.feat.oob, S.p.cfg.feat.bond, S.p.cfg.feat.mitm, S.p.cfg.feat.sid, S.p.cfg.feat.tid⟩, 0#32, 0#64, ⟨⟨0, 0#64⟩, 0#64⟩, 0⟩ _ _ _ _ HM.here len9).mono ?_; rintro e w_38 ⟨rfl, v_40, u_41, HN_42⟩
  replace HM := HM.trans HN_42
  clear HN_42
  go_wp2_with (with_reducible refine so ?_)
  try simp only [nrm]
  have hst : Stable fun W => Mem w W base ((((S.accept.put_req S.p.cfg.feat).put_phase 1).send ⟨1, ⟨S.p.cfg.feat.io, S.p.cfg.feat.oob, S.p.cfg.feat.bond, S.p.cfg.feat.mitm, S.p.cfg.feat.sid, S.p.cfg.feat.tid⟩, 0#32, 0#64, ⟨⟨0, 0#64⟩, 0#64⟩, 0⟩).sent) ((((S.accept.put_req S.p.cfg.feat).put_phase 1).send ⟨1, ⟨S.p.cfg.feat.io, S.p.cfg.feat.oob, S.p.cfg.feat.bond, S.p.cfg.feat.mitm, S.p.cfg.feat.sid, S.p.cfg.feat.tid⟩, 0#32, 0#64, ⟨⟨0, 0#64⟩, 0#64⟩, 0⟩).told) v_40 u_41 ((gs, 109, (sdL (((S.accept.put_req S.p.cfg.feat).put_phase 1).send ⟨1, ⟨S.p.cfg.feat.io, S.p.cfg.feat.oob, S.p.cfg.feat.bond, S.p.cfg.feat.mitm, S.p.cfg.feat.sid, S.p.cfg.feat.tid⟩, 0#32, 0#64, ⟨⟨0, 0#64⟩, 0#64⟩, 0⟩) v_40 u_41).toArray) :: (g_7, 37, (prL pr0).toArray) :: (g_1, 37, (prL p).toArray) :: []) := stable_mem _ _ _ _ _ _ _
  refine wp_region_u (fun W => Mem w W base ((((S.accept.put_req S.p.cfg.feat).put_phase 1).send ⟨1, ⟨S.p.cfg.feat.io, S.p.cfg.feat.oob, S.p.cfg.feat.bond, S.p.cfg.feat.mitm, S.p.cfg.feat.sid, S.p.cfg.feat.tid⟩, 0#32, 0#64, ⟨⟨0, 0#64⟩, 0#64⟩, 0⟩).sent) ((((S.accept.put_req S.p.cfg.feat).put_phase 1).send ⟨1, ⟨S.p.cfg.feat.io, S.p.cfg.feat.oob, S.p.cfg.feat.bond, S.p.cfg.feat.mitm, S.p.cfg.feat.sid, S.p.cfg.feat.tid⟩, 0#32, 0#64, ⟨⟨0, 0#64⟩, 0#64⟩, 0⟩).told) v_40 u_41 ((gs, 109, (sdL (((S.accept.put_req S.p.cfg.feat).put_phase 1).send ⟨1, ⟨S.p.cfg.feat.io, S.p.cfg.feat.oob, S.p.cfg.feat.bond, S.p.cfg.feat.mitm, S.p.cfg.feat.sid, S.p.cfg.feat.tid⟩, 0#32, 0#64, ⟨⟨0, 0#64⟩, 0#64⟩, 0⟩) v_40 u_41).toArray) :: (g_7, 37, (prL pr0).toArray) :: (g_1, 37, (prL p).toArray) :: [])) (fun W => ∃ x0, Mem w W base ((((S.accept.put_req S.p.cfg.feat).put_phase 1).send ⟨1, ⟨S.p.cfg.feat.io, S.p.cfg.feat.oob, S.p.cfg.feat.bond, S.p.cfg.feat.mitm, S.p.cfg.feat.sid, S.p.cfg.feat.tid⟩, 0#32, 0#64, ⟨⟨0, 0#64⟩, 0#64⟩, 0⟩).sent) ((((S.accept.put_req S.p.cfg.feat).put_phase 1).send ⟨1, ⟨S.p.cfg.feat.io, S.p.cfg.feat.oob, S.p.cfg.feat.bond, S.p.cfg.feat.mitm, S.p.cfg.feat.sid, S.p.cfg.feat.tid⟩, 0#32, 0#64, ⟨⟨0, 0#64⟩, 0#64⟩, 0⟩).told) v_40 u_41 ((gs, 109, (sdL (((S.accept.put_req S.p.cfg.feat).put_phase 1).send ⟨1, ⟨S.p.cfg.feat.io, S.p.cfg.feat.oob, S.p.cfg.feat.bond, S.p.cfg.feat.mitm, S.p.cfg.feat.sid, S.p.cfg.feat.tid⟩, 0#32, 0#64, ⟨⟨0, 0#64⟩, 0#64⟩, 0⟩) v_40 u_41).toArray) :: (g_7, 37, x0) :: (g_1, 37, (prL p).toArray) :: [])) hst (fun W h => ⟨(prL pr0).toArray, h⟩) HM.drew 11 ?_
  clear HM
  refine wpU_p 0 hst ?_ (h0 := fun _ h => ⟨_, h⟩)
  refine wpU_p 1 hst ?_ (h0 := fun _ h => ⟨_, h⟩)
  refine wpU_p 2 hst ?_ (h0 := fun _ h => ⟨_, h⟩)
  refine wpU_take (v := .agg #[.int .i64 S.p.cfg.role, .int .i64 S.p.cfg.feat.io, .bool S.p.cfg.feat.oob, .bool S.p.cfg.feat.bond, .bool S.p.cfg.feat.mitm, .bool S.p.cfg.feat.sid, .bool S.p.cfg.feat.tid, .int .i64 S.p.cfg.own.kind, .int .u64 (W64 S.p.cfg.own.bits), .int .i64 S.p.cfg.peer.kind, .int .u64 (W64 S.p.cfg.peer.bits), .int .i64 S.p.cfg.idn.adr.kind, .int .u64 (W64 S.p.cfg.idn.adr.bits), .int .u64 (W64 S.p.cfg.idn.irk), .int .u32 (W32 S.p.cfg.secret), .int .u64 (W64 S.p.cfg.seed), .int .u64 (W64 S.p.cfg.mine), .int .u64 (W64 S.p.cfg.oob.value), .int .u64 (W64 S.p.cfg.oob.random), .int .i64 1, .int .i64 S.now, .int .i64 S.p.method, .int .i64 S.p.peer.io, .bool S.p.peer.oob, .bool S.p.peer.bond, .bool S.p.peer.mitm, .bool S.p.peer.sid, .bool S.p.peer.tid, .int .i64 S.p.cfg.feat.io, .bool S.p.cfg.feat.oob, .bool S.p.cfg.feat.bond, .bool S.p.cfg.feat.mitm, .bool S.p.cfg.feat.sid, .bool S.p.cfg.feat.tid, .int .i64 S.p.res.io, .bool S.p.res.oob, .bool S.p.res.bond, .bool S.p.res.mitm, .bool S.p.res.sid, .bool S.p.res.tid, .int .u32 (W32 S.p.peerKey), .int .u32 (W32 S.p.shared), .int .u64 (W64 S.p.nonce), .int .u64 (W64 S.p.other), .int .u64 (W64 S.p.commit), .bool S.p.have_, .int .i64 S.p.passkey, .int .i64 S.p.round, .bool S.p.agreed, .int .u64 (W64 S.p.checkIn), .bool S.p.haveIn, .bool S.p.crypt, .int .u64 (W64 S.p.ltk), .int .i64 S.p.idn.adr.kind, .int .u64 (W64 S.p.idn.adr.bits), .int .u64 (W64 S.p.idn.irk), .int .i64 S.p.drawn, .int .i64 S.p.reason]) 3 hst (fun _ h => ⟨(prL pr0).toArray, h⟩) rfl (fun W hS K hK => calm_load rfl rfl (load_part hS.choose_spec.b0 0 [.int .i64 S.p.cfg.role, .int .i64 S.p.cfg.feat.io, .bool S.p.cfg.feat.oob, .bool S.p.cfg.feat.bond, .bool S.p.cfg.feat.mitm, .bool S.p.cfg.feat.sid, .bool S.p.cfg.feat.tid, .int .i64 S.p.cfg.own.kind, .int .u64 (W64 S.p.cfg.own.bits), .int .i64 S.p.cfg.peer.kind, .int .u64 (W64 S.p.cfg.peer.bits), .int .i64 S.p.cfg.idn.adr.kind, .int .u64 (W64 S.p.cfg.idn.adr.bits), .int .u64 (W64 S.p.cfg.idn.irk), .int .u32 (W32 S.p.cfg.secret), .int .u64 (W64 S.p.cfg.seed), .int .u64 (W64 S.p.cfg.mine), .int .u64 (W64 S.p.cfg.oob.value), .int .u64 (W64 S.p.cfg.oob.random), .int .i64 1, .int .i64 S.now, .int .i64 S.p.method, .int .i64 S.p.peer.io, .bool S.p.peer.oob, .bool S.p.peer.bond, .bool S.p.peer.mitm, .bool S.p.peer.sid, .bool S.p.peer.tid, .int .i64 S.p.cfg.feat.io, .bool S.p.cfg.feat.oob, .bool S.p.cfg.feat.bond, .bool S.p.cfg.feat.mitm, .bool S.p.cfg.feat.sid, .bool S.p.cfg.feat.tid, .int .i64 S.p.res.io, .bool S.p.res.oob, .bool S.p.res.bond, .bool S.p.res.mitm, .bool S.p.res.sid, .bool S.p.res.tid, .int .u32 (W32 S.p.peerKey), .int .u32 (W32 S.p.shared), .int .u64 (W64 S.p.nonce), .int .u64 (W64 S.p.other), .int .u64 (W64 S.p.commit), .bool S.p.have_, .int .i64 S.p.passkey, .int .i64 S.p.round, .bool S.p.agreed, .int .u64 (W64 S.p.checkIn), .bool S.p.haveIn, .bool S.p.crypt, .int .u64 (W64 S.p.ltk), .int .i64 S.p.idn.adr.kind, .int .u64 (W64 S.p.idn.adr.bits), .int .u64 (W64 S.p.idn.irk), .int .i64 S.p.drawn, .int .i64 S.p.reason] rfl Tryd.underlying37 rfl (by kernel_rfl)) (hK.out _ (Below.refl _ _))) ?_; simp only [nrm]
  refine wpU_p 4 hst ?_ (h0 := fun _ h => ⟨_, h⟩)
  refine wpU_p 5 hst ?_ (h0 := fun _ h => ⟨_, h⟩)
  refine wpU_p 6 hst ?_ (h0 := fun _ h => ⟨_, h⟩)
  refine wpU_take (v := ?_) 7 hst (fun _ h => ⟨(prL pr0).toArray, h⟩) rfl ?_ ?_; rotate_left; (intro W hS K hK; have ld : W.cell? ⟨gs, 117, none⟩ = some (v_40) := hS.choose_spec.b0.cell 117; clear hS; go_simp; exact hK.out _ (Below.refl _ _)); simp only [nrm]
  refine wpU_hole (S' := fun W => Mem w W base ((((S.accept.put_req S.p.cfg.feat).put_phase 1).send ⟨1, ⟨S.p.cfg.feat.io, S.p.cfg.feat.oob, S.p.cfg.feat.bond, S.p.cfg.feat.mitm, S.p.cfg.feat.sid, S.p.cfg.feat.tid⟩, 0#32, 0#64, ⟨⟨0, 0#64⟩, 0#64⟩, 0⟩).sent) ((((S.accept.put_req S.p.cfg.feat).put_phase 1).send ⟨1, ⟨S.p.cfg.feat.io, S.p.cfg.feat.oob, S.p.cfg.feat.bond, S.p.cfg.feat.mitm, S.p.cfg.feat.sid, S.p.cfg.feat.tid⟩, 0#32, 0#64, ⟨⟨0, 0#64⟩, 0#64⟩, 0⟩).told) v_40 u_41 ((gs, 109, (sdL (((S.accept.put_req S.p.cfg.feat).put_phase 1).send ⟨1, ⟨S.p.cfg.feat.io, S.p.cfg.feat.oob, S.p.cfg.feat.bond, S.p.cfg.feat.mitm, S.p.cfg.feat.sid, S.p.cfg.feat.tid⟩, 0#32, 0#64, ⟨⟨0, 0#64⟩, 0#64⟩, 0⟩) v_40 u_41).toArray) :: (g_7, 37, (prL (((S.accept.put_req S.p.cfg.feat).put_phase 1).send ⟨1, ⟨S.p.cfg.feat.io, S.p.cfg.feat.oob, S.p.cfg.feat.bond, S.p.cfg.feat.mitm, S.p.cfg.feat.sid, S.p.cfg.feat.tid⟩, 0#32, 0#64, ⟨⟨0, 0#64⟩, 0#64⟩, 0⟩).p).toArray) :: (g_1, 37, (prL p).toArray) :: [])) 8 (.agg #[.int .i64 S.p.cfg.role, .int .i64 S.p.cfg.feat.io, .bool S.p.cfg.feat.oob, .bool S.p.cfg.feat.bond, .bool S.p.cfg.feat.mitm, .bool S.p.cfg.feat.sid, .bool S.p.cfg.feat.tid, .int .i64 S.p.cfg.own.kind, .int .u64 (W64 S.p.cfg.own.bits), .int .i64 S.p.cfg.peer.kind, .int .u64 (W64 S.p.cfg.peer.bits), .int .i64 S.p.cfg.idn.adr.kind, .int .u64 (W64 S.p.cfg.idn.adr.bits), .int .u64 (W64 S.p.cfg.idn.irk), .int .u32 (W32 S.p.cfg.secret), .int .u64 (W64 S.p.cfg.seed), .int .u64 (W64 S.p.cfg.mine), .int .u64 (W64 S.p.cfg.oob.value), .int .u64 (W64 S.p.cfg.oob.random), .int .i64 1, .int .i64 S.now, .int .i64 S.p.method, .int .i64 S.p.peer.io, .bool S.p.peer.oob, .bool S.p.peer.bond, .bool S.p.peer.mitm, .bool S.p.peer.sid, .bool S.p.peer.tid, .int .i64 S.p.cfg.feat.io, .bool S.p.cfg.feat.oob, .bool S.p.cfg.feat.bond, .bool S.p.cfg.feat.mitm, .bool S.p.cfg.feat.sid, .bool S.p.cfg.feat.tid, .int .i64 S.p.res.io, .bool S.p.res.oob, .bool S.p.res.bond, .bool S.p.res.mitm, .bool S.p.res.sid, .bool S.p.res.tid, .int .u32 (W32 S.p.peerKey), .int .u32 (W32 S.p.shared), .int .u64 (W64 S.p.nonce), .int .u64 (W64 S.p.other), .int .u64 (W64 S.p.commit), .bool S.p.have_, .int .i64 S.p.passkey, .int .i64 S.p.round, .bool S.p.agreed, .int .u64 (W64 S.p.checkIn), .bool S.p.haveIn, .bool S.p.crypt, .int .u64 (W64 S.p.ltk), .int .i64 S.p.idn.adr.kind, .int .u64 (W64 S.p.idn.adr.bits), .int .u64 (W64 S.p.idn.irk), .int .i64 S.p.drawn, .int .i64 S.p.reason]) rfl rfl rfl rfl (fun W hS => by obtain ⟨w9, h1, h2⟩ := hS.swap.hole (P := Tryd.prog) (ty := 37) 0 #[.int .i64 S.p.cfg.role, .int .i64 S.p.cfg.feat.io, .bool S.p.cfg.feat.oob, .bool S.p.cfg.feat.bond, .bool S.p.cfg.feat.mitm, .bool S.p.cfg.feat.sid, .bool S.p.cfg.feat.tid, .int .i64 S.p.cfg.own.kind, .int .u64 (W64 S.p.cfg.own.bits), .int .i64 S.p.cfg.peer.kind, .int .u64 (W64 S.p.cfg.peer.bits), .int .i64 S.p.cfg.idn.adr.kind, .int .u64 (W64 S.p.cfg.idn.adr.bits), .int .u64 (W64 S.p.cfg.idn.irk), .int .u32 (W32 S.p.cfg.secret), .int .u64 (W64 S.p.cfg.seed), .int .u64 (W64 S.p.cfg.mine), .int .u64 (W64 S.p.cfg.oob.value), .int .u64 (W64 S.p.cfg.oob.random), .int .i64 1, .int .i64 S.now, .int .i64 S.p.method, .int .i64 S.p.peer.io, .bool S.p.peer.oob, .bool S.p.peer.bond, .bool S.p.peer.mitm, .bool S.p.peer.sid, .bool S.p.peer.tid, .int .i64 S.p.cfg.feat.io, .bool S.p.cfg.feat.oob, .bool S.p.cfg.feat.bond, .bool S.p.cfg.feat.mitm, .bool S.p.cfg.feat.sid, .bool S.p.cfg.feat.tid, .int .i64 S.p.res.io, .bool S.p.res.oob, .bool S.p.res.bond, .bool S.p.res.mitm, .bool S.p.res.sid, .bool S.p.res.tid, .int .u32 (W32 S.p.peerKey), .int .u32 (W32 S.p.shared), .int .u64 (W64 S.p.nonce), .int .u64 (W64 S.p.other), .int .u64 (W64 S.p.commit), .bool S.p.have_, .int .i64 S.p.passkey, .int .i64 S.p.round, .bool S.p.agreed, .int .u64 (W64 S.p.checkIn), .bool S.p.haveIn, .bool S.p.crypt, .int .u64 (W64 S.p.ltk), .int .i64 S.p.idn.adr.kind, .int .u64 (W64 S.p.idn.adr.bits), .int .u64 (W64 S.p.idn.irk), .int .i64 S.p.drawn, .int .i64 S.p.reason] (prL (((S.accept.put_req S.p.cfg.feat).put_phase 1).send ⟨1, ⟨S.p.cfg.feat.io, S.p.cfg.feat.oob, S.p.cfg.feat.bond, S.p.cfg.feat.mitm, S.p.cfg.feat.sid, S.p.cfg.feat.tid⟩, 0#32, 0#64, ⟨⟨0, 0#64⟩, 0#64⟩, 0⟩).p).toArray (by kernel_rfl) rfl (of_decide_eq_true rfl) (by kernel_rfl); exact ⟨w9, h1, h2.swap⟩) (stable_mem _ _ _ _ _ _ _) (fun W h => ⟨(prL (((S.accept.put_req S.p.cfg.feat).put_phase 1).send ⟨1, ⟨S.p.cfg.feat.io, S.p.cfg.feat.oob, S.p.cfg.feat.bond, S.p.cfg.feat.mitm, S.p.cfg.feat.sid, S.p.cfg.feat.tid⟩, 0#32, 0#64, ⟨⟨0, 0#64⟩, 0#64⟩, 0⟩).p).toArray, h⟩) ?_; simp only [nrm]
  clear hst
  have hst : Stable fun W => Mem w W base ((((S.accept.put_req S.p.cfg.feat).put_phase 1).send ⟨1, ⟨S.p.cfg.feat.io, S.p.cfg.feat.oob, S.p.cfg.feat.bond, S.p.cfg.feat.mitm, S.p.cfg.feat.sid, S.p.cfg.feat.tid⟩, 0#32, 0#64, ⟨⟨0, 0#64⟩, 0#64⟩, 0⟩).sent) ((((S.accept.put_req S.p.cfg.feat).put_phase 1).send ⟨1, ⟨S.p.cfg.feat.io, S.p.cfg.feat.oob, S.p.cfg.feat.bond, S.p.cfg.feat.mitm, S.p.cfg.feat.sid, S.p.cfg.feat.tid⟩, 0#32, 0#64, ⟨⟨0, 0#64⟩, 0#64⟩, 0⟩).told) v_40 u_41 ((gs, 109, (sdL (((S.accept.put_req S.p.cfg.feat).put_phase 1).send ⟨1, ⟨S.p.cfg.feat.io, S.p.cfg.feat.oob, S.p.cfg.feat.bond, S.p.cfg.feat.mitm, S.p.cfg.feat.sid, S.p.cfg.feat.tid⟩, 0#32, 0#64, ⟨⟨0, 0#64⟩, 0#64⟩, 0⟩) v_40 u_41).toArray) :: (g_7, 37, (prL (((S.accept.put_req S.p.cfg.feat).put_phase 1).send ⟨1, ⟨S.p.cfg.feat.io, S.p.cfg.feat.oob, S.p.cfg.feat.bond, S.p.cfg.feat.mitm, S.p.cfg.feat.sid, S.p.cfg.feat.tid⟩, 0#32, 0#64, ⟨⟨0, 0#64⟩, 0#64⟩, 0⟩).p).toArray) :: (g_1, 37, (prL p).toArray) :: []) := stable_mem _ _ _ _ _ _ _
  refine wpU_take (v := ?_) 9 hst (fun _ h => ⟨(prL (((S.accept.put_req S.p.cfg.feat).put_phase 1).send ⟨1, ⟨S.p.cfg.feat.io, S.p.cfg.feat.oob, S.p.cfg.feat.bond, S.p.cfg.feat.mitm, S.p.cfg.feat.sid, S.p.cfg.feat.tid⟩, 0#32, 0#64, ⟨⟨0, 0#64⟩, 0#64⟩, 0⟩).p).toArray, h⟩) rfl ?_ ?_; rotate_left; (intro W hS K hK; clear hS; go_simp; exact hK.out _ (Below.refl _ _)); simp only [nrm]
  refine wpU_take (v := ?_) 10 hst (fun _ h => ⟨(prL (((S.accept.put_req S.p.cfg.feat).put_phase 1).send ⟨1, ⟨S.p.cfg.feat.io, S.p.cfg.feat.oob, S.p.cfg.feat.bond, S.p.cfg.feat.mitm, S.p.cfg.feat.sid, S.p.cfg.feat.tid⟩, 0#32, 0#64, ⟨⟨0, 0#64⟩, 0#64⟩, 0⟩).p).toArray, h⟩) rfl ?_ ?_; rotate_left; (intro W hS K hK; clear hS; go_simp; exact hK.out _ (Below.refl _ _)); simp only [nrm]
  refine wpU_done (fun w_43 hS => ?_)
  have HM := hS
  clear hst
  go_wp2_with (with_reducible refine so ?_)
  refine bodyPost_ret (results_ctt rfl rfl (load_blk HM.b1 Tryd.underlying37 rfl (by kernel_rfl))) rfl ?_
  have q1 := kc_23.out
  have e1 : S.p = p := by rw [← hSd]; rfl
  have e2 : S.first = decide (p.cfg.role = 0) := by rw [← hSd]; rfl
  have c : ¬ (p.cfg.role ≠ 0 ∨ p.phase ≠ 0) := by rintro (hh | hh); exact hh (of_decide_eq_true (e2.symm.trans hc_18)); exact hh (by rw [← e1]; exact q1)
  have eo : startP p now = ((((S.accept.put_req S.p.cfg.feat).put_phase 1).send ⟨1, ⟨S.p.cfg.feat.io, S.p.cfg.feat.oob, S.p.cfg.feat.bond, S.p.cfg.feat.mitm, S.p.cfg.feat.sid, S.p.cfg.feat.tid⟩, 0#32, 0#64, ⟨⟨0, 0#64⟩, 0#64⟩, 0⟩).p, (((S.accept.put_req S.p.cfg.feat).put_phase 1).send ⟨1, ⟨S.p.cfg.feat.io, S.p.cfg.feat.oob, S.p.cfg.feat.bond, S.p.cfg.feat.mitm, S.p.cfg.feat.sid, S.p.cfg.feat.tid⟩, 0#32, 0#64, ⟨⟨0, 0#64⟩, 0#64⟩, 0⟩).sent, 0) := by unfold startP; rw [if_neg c]; subst hSd; rfl
  rw [eo]
  unfold OutS; rw [hbs]; exact ⟨_, rfl, HM.below, HM.sent⟩
 obtain ⟨ec_23, ec_23n, kc_23⟩ := fF hc_23; clear hc_23
 have ld_44 := HM.b0.c 19 (.int .i64 S.p.phase)
 go_wp2_with (first | (with_reducible refine so ?_) | (with_reducible refine ld 0 (prL p) HM.b2 Tryd.underlying37 ?_))
 refine sv (prL p).toArray HM.b1 ?_
 intro w_46 G_48 hU_47
 clear ld_44
 replace HM := HM.s1 hU_47 G_48
 clear hU_47 G_48
 go_wp2_with (with_reducible refine so ?_)
 refine bodyPost_ret (results_ctt rfl rfl (load_blk HM.b1 Tryd.underlying37 rfl (by kernel_rfl))) rfl ?_
 have q1 := kc_23.out
 have e1 : S.p = p := by rw [← hSd]; rfl
 have e2 : S.first = decide (p.cfg.role = 0) := by rw [← hSd]; rfl
 have c : p.cfg.role ≠ 0 ∨ p.phase ≠ 0 := by first | exact .inr (by rw [← e1]; exact q1) | exact .inl (fun hh => by rw [hh] at e2; exact absurd (e2.symm.trans hc_18) (by decide))
 have eo : startP p now = (p, [], 9) := by unfold startP; rw [if_pos c]
 rw [eo]
 unfold OutS; rw [hbs]; exact ⟨_, rfl, HM.below, own_nil _ _ _ _⟩
end Go.Proofs.YtihmbcnccdiecaaDoor
