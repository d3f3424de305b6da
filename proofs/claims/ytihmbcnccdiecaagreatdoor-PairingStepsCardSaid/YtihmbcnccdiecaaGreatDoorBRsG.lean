/- Part of the proofs of the laws of pairing. -/
import Derived.Test.YtihmbcnccdiecaaGreatDoorBRsB
namespace Go.Proofs.YtihmbcnccdiecaaGreatDoor
set_option maxRecDepth 100000
set_option linter.unusedVariables false
set_option linter.unusedSimpArgs false
open Go.ChangeShapes Go.WideShapes Go.ChangeAt Go.RowKit
set_option maxHeartbeats 2000000 in
theorem jE (base : Nat) (S : Stp) (A1 : Option Addr) (c1 : Nat) (A2 : Option Addr) (c2 : Nat) (bx : List Bk) (w : World) (HM : Mem w w base S.out S.ev (.slice A1 S.out.length c1) (.slice A2 S.ev.length c2) bx) (ls : S.out.length ≤ 990) (hq : aU S.p.method = true → 0 ≤ S.p.passkey ∧ S.p.passkey ≤ 999999) (h0 : 0 ≤ S.p.round) (h1 : S.p.round ≤ 64) :
  Calls Tryz.prog 95 #[.agg (stL S (.slice A1 S.out.length c1) (.slice A2 S.ev.length c2)).toArray] w (fun e w' => gJ w w' base (fL S) bx e) := by
 go_enter Tryz.func95, Tryz.ntmps95
 go_wp2_with with_reducible refine sy ?_
 refine HM.nw (ty := 106) (cs := (stL S (.slice A1 S.out.length c1) (.slice A2 S.ev.length c2)).toArray) ?_; clear HM; intro q I HM
 go_wp2_with with_reducible refine sy ?_
 refine HM.nw (ty := 106) (cs := (stL fY (.slice none 0 0) (.slice none 0 0)).toArray) ?_; clear HM; intro J L HM
 go_wp2_with first | with_reducible refine sy ?_ | with_reducible refine lw HM.b1 aQ ?_
 refine bs HM (qF _ S _ _ _ _ _ _ HM.here) ?_; clear HM; intro z C D F O HM
 go_wp2_with with_reducible refine sy ?_
 refine yv HM.b1 HM.s1 ?_; clear HM; intro U HM
 go_wp2_with with_reducible refine sy ?_
 try simp only [nrm]
 have hst := bM HM
 refine dN _ 14 hst HM.drew ⟨by kernel_rfl, by kernel_rfl, by kernel_rfl, by decide⟩ (fun hR => ?_)
 clear HM
 refine cV (v := .agg (stL (cK S) (.slice z ((cK S).out.length) C) (.slice D ((cK S).ev.length) F)).toArray) 0 hR hst rfl (fun W hS K hK => aL rfl rfl (aX hS.b1 0 (stL (cK S) (.slice z ((cK S).out.length) C) (.slice D ((cK S).ev.length) F)) rfl aQ rfl (by kernel_rfl)) (hK.out _ (Below.refl _ _))) ?_; simp only [nrm]
 refine bT 1 hR hst ?_
 refine cV (v := .agg (prL (cK S).p).toArray) 2 hR hst rfl (fun W hS K hK => aL rfl rfl (aX hS.b1 0 (prL (cK S).p) rfl U37 rfl (by kernel_rfl)) (hK.out _ (Below.refl _ _))) ?_; simp only [nrm]
 refine bT 4 hR hst ?_
 refine bT 5 hR hst ?_
 refine eB 6 rfl hR hst (fun W hS K hK => by have ld : W.cell? ⟨q, 40, none⟩ = some (.int .u32 (W32 S.p.peerKey)) := hS.b1.cell 40; clear hS; go_simp; exact hk hK) ?_
 refine bT 7 hR hst ?_
 refine bT 8 hR hst ?_
 refine eB 9 rfl hR hst (fun W hS K hK => by have ld : W.cell? ⟨q, 42, none⟩ = some (.int .u64 (W64 (eN S.p.cfg.seed S.p.drawn))) := hS.b1.cell 42; clear hS; go_simp; exact hk hK) ?_
 refine bT 10 hR hst ?_
 refine cV (v := .agg (prL (cK S).p).toArray) 11 hR hst rfl (fun W hS K hK => aL rfl rfl (aX hS.b1 0 (prL (cK S).p) rfl U37 rfl (by kernel_rfl)) (hK.out _ (Below.refl _ _))) ?_; simp only [nrm]
 refine eB 3 rfl hR hst (fun W hS K hK => by clear hS; go_simp; exact cl (nJ ((cK S).p) _ (cJ S.p.cfg.secret) rfl) hK) ?_
 refine eB 12 rfl hR hst (fun W hS K hK => by clear hS; go_simp; exact cl (xR ((cK S).p) _ hq h0 h1 (gB ((cK S).p)) rfl) hK) ?_
 refine eB 13 rfl hR hst (fun W hS K hK => by clear hS; go_simp; exact cl (mN ((cJ S.p.cfg.secret)) S.p.peerKey ((eN S.p.cfg.seed S.p.drawn)) ((gB ((cK S).p))) _) hK) ?_
 refine gC (fun Z hS => ?_)
 have HM := hS
 clear hst
 dsimp only [List.drop]
 go_wp2_with with_reducible refine sy ?_
 refine bs HM (jJ _ (cK S) _ _ _ _ 3 ((eF ((cJ S.p.cfg.secret)) S.p.peerKey ((eN S.p.cfg.seed S.p.drawn)) ((gB ((cK S).p))))) _ _ HM.here ln9) ?_; clear HM; intro a0 a1 a2 a3 a4 HM
 go_wp2_with with_reducible refine sy ?_
 refine yv HM.b0 HM.s0 ?_; clear HM; intro a5 HM
 go_wp2_with with_reducible refine sy ?_
 refine rc1 HM.b0 aQ ?_
 exact stE rfl HM.drop.drop
set_option maxHeartbeats 2000000 in
theorem sG (base : Nat) (S : Stp) (A1 : Option Addr) (c1 : Nat) (A2 : Option Addr) (c2 : Nat) (b : Bool) (bx : List Bk) (w : World) (HM : Mem w w base S.out S.ev (.slice A1 S.out.length c1) (.slice A2 S.ev.length c2) bx) (ls : S.out.length ≤ 990) :
  Calls Tryz.prog 99 #[.agg (stL S (.slice A1 S.out.length c1) (.slice A2 S.ev.length c2)).toArray, .bool b] w (fun e w' => gJ w w' base (iL S b) bx e) := by
 go_enter Tryz.func99, Tryz.ntmps99
 go_wp2_with with_reducible refine sy ?_
 refine HM.nw (ty := 106) (cs := (stL S (.slice A1 S.out.length c1) (.slice A2 S.ev.length c2)).toArray) ?_; clear HM; intro U Z HM
 go_wp2_with with_reducible refine sy ?_
 refine HM.nw (ty := 106) (cs := (stL fY (.slice none 0 0) (.slice none 0 0)).toArray) ?_; clear HM; intro a0 a1 HM
 cases b
 case false =>
  go_wp2_with first | with_reducible refine sy ?_ | with_reducible refine lw HM.b1 aQ ?_
  refine yv HM.b0 HM.s0 ?_; clear HM; intro a2 HM
  go_wp2_with with_reducible refine sy ?_
  refine rc1 HM.b0 aQ ?_
  exact stE rfl HM.drop.drop
 case true =>
  have D := HM.b1.c 58 (.slice A1 S.out.length c1)
  go_wp2_with first | with_reducible refine sy ?_ | with_reducible refine ld 11 [.int .i64 S.p.cfg.idn.adr.kind, .int .u64 (W64 S.p.cfg.idn.adr.bits), .int .u64 (W64 S.p.cfg.idn.irk)] HM.b1 U29 ?_
  refine bF (ty := 43) (cs := #[.int .i64 8, .int .i64 0, .bool false, .bool false, .bool false, .bool false, .bool false, .int .u32 0, .int .u64 0, .int .i64 S.p.cfg.idn.adr.kind, .int .u64 (W64 S.p.cfg.idn.adr.bits), .int .u64 (W64 S.p.cfg.idn.irk), .int .i64 0]) (fun g => .slice (some ⟨g, 0, none⟩) 1 1) rfl (by kernel_rfl) ?_
  intro a3 a4 F q z C
  clear D
  replace HM := HM.alloc q z C
  clear z q F C
  go_wp2_with with_reducible refine sy ?_
  unfold bA
  refine hH ⟨8, ⟨0, false, false, false, false, false⟩, 0#32, 0#64, ⟨⟨S.p.cfg.idn.adr.kind, S.p.cfg.idn.adr.bits⟩, S.p.cfg.idn.irk⟩, 0⟩ HM rfl rfl HM.b0 ln9 (fun a5 a6 HN => ?_)
  replace HM := HN
  clear HN
  obtain ⟨I, J, L, O, rfl⟩ := HM.vn
  go_wp2_with with_reducible refine sy ?_
  refine yk 58 (stL (S.put_out ((sn S.out ⟨8, ⟨0, false, false, false, false, false⟩, 0#32, 0#64, ⟨⟨S.p.cfg.idn.adr.kind, S.p.cfg.idn.adr.bits⟩, S.p.cfg.idn.irk⟩, 0⟩))) (.slice I J L) (.slice A2 S.ev.length c2)).toArray HM.b2 HM.s2 ?_; clear HM; intro a7 HM
  go_wp2_with first | with_reducible refine sy ?_ | with_reducible refine lw HM.b2 aQ ?_
  refine yv HM.b1 HM.s1 ?_; clear HM; intro a8 HM
  go_wp2_with with_reducible refine sy ?_
  refine rc1 HM.b1 aQ ?_
  obtain rfl := O.out
  exact stE rfl HM.drop.drop.drop
set_option maxHeartbeats 2000000 in
theorem oG (base : Nat) (S : Stp) (A1 : Option Addr) (c1 : Nat) (A2 : Option Addr) (c2 : Nat) (bx : List Bk) (w : World) (HM : Mem w w base S.out S.ev (.slice A1 S.out.length c1) (.slice A2 S.ev.length c2) bx) (le : S.ev.length ≤ 990) :
  Calls Tryz.prog 100 #[.agg (stL S (.slice A1 S.out.length c1) (.slice A2 S.ev.length c2)).toArray] w (fun e w' => gJ w w' base (oE S) bx e) := by
 go_enter Tryz.func100, Tryz.ntmps100
 go_wp2_with with_reducible refine sy ?_
 refine HM.nw (ty := 106) (cs := (stL S (.slice A1 S.out.length c1) (.slice A2 S.ev.length c2)).toArray) ?_; clear HM; intro Z a0 HM
 go_wp2_with with_reducible refine sy ?_
 refine HM.nw (ty := 106) (cs := (stL fY (.slice none 0 0) (.slice none 0 0)).toArray) ?_; clear HM; intro a1 a2 HM
 go_wp2_with first | with_reducible refine sy ?_ | with_reducible refine ld 28 [.int .i64 S.p.req.io, .bool S.p.req.oob, .bool S.p.req.bond, .bool S.p.req.mitm, .bool S.p.req.sid, .bool S.p.req.tid] HM.b1 U23 ?_ | with_reducible refine ld 34 [.int .i64 S.p.res.io, .bool S.p.res.oob, .bool S.p.res.bond, .bool S.p.res.mitm, .bool S.p.res.sid, .bool S.p.res.tid] HM.b1 U23 ?_
 refine bt HM.to (mP S.p.req S.p.res _) ?_; clear HM; intro a3 HM
 go_wp2_with with_reducible refine sy ?_
 refine yk 19 (stL (S.put_phase 7) (.slice A1 S.out.length c1) (.slice A2 S.ev.length c2)).toArray HM.b1 HM.s1 ?_; clear HM; intro a4 HM
 have D := HM.b1.c 59 (.slice A2 S.ev.length c2)
 have F := HM.b1.c 52 (.int .u64 (W64 S.p.ltk))
 go_wp2_with first | with_reducible refine sy ?_ | with_reducible refine ld 53 [.int .i64 S.p.idn.adr.kind, .int .u64 (W64 S.p.idn.adr.bits), .int .u64 (W64 S.p.idn.irk)] HM.b1 U29 ?_
 refine bF (ty := 80) (cs := #[.int .i64 3, .int .i64 0, .int .u64 (W64 S.p.ltk), .bool ((bC S.p.req S.p.res).2), .int .i64 S.p.idn.adr.kind, .int .u64 (W64 S.p.idn.adr.bits), .int .u64 (W64 S.p.idn.irk), .int .i64 0]) (fun g => .slice (some ⟨g, 0, none⟩) 1 1) rfl (by kernel_rfl) ?_
 intro a5 a6 I q z C
 clear D F
 replace HM := HM.alloc q z C
 clear z q I C
 go_wp2_with with_reducible refine sy ?_
 unfold bA
 refine gY ⟨3, 0, S.p.ltk, (bC S.p.req S.p.res).2, ⟨⟨S.p.idn.adr.kind, S.p.idn.adr.bits⟩, S.p.idn.irk⟩, 0⟩ HM rfl rfl HM.b0 ln9 (fun a7 a8 HN => ?_)
 replace HM := HN
 clear HN
 obtain ⟨J, L, O, U, rfl⟩ := HM.un
 go_wp2_with with_reducible refine sy ?_
 refine yk 59 (stL ((S.put_phase 7).put_ev ((sn S.ev ⟨3, 0, S.p.ltk, (bC S.p.req S.p.res).2, ⟨⟨S.p.idn.adr.kind, S.p.idn.adr.bits⟩, S.p.idn.irk⟩, 0⟩))) (.slice A1 S.out.length c1) (.slice J L O)).toArray HM.b2 HM.s2 ?_; clear HM; intro a9 HM
 go_wp2_with first | with_reducible refine sy ?_ | with_reducible refine lw HM.b2 aQ ?_
 refine yv HM.b1 HM.s1 ?_; clear HM; intro b3 HM
 go_wp2_with with_reducible refine sy ?_
 refine rc1 HM.b1 aQ ?_
 obtain rfl := U.out
 exact stE rfl HM.drop.drop.drop
set_option maxHeartbeats 2000000 in
theorem oC (base : Nat) (S : Stp) (A1 : Option Addr) (c1 : Nat) (A2 : Option Addr) (c2 : Nat) (x : BitVec 64) (bx : List Bk) (w : World) (HM : Mem w w base S.out S.ev (.slice A1 S.out.length c1) (.slice A2 S.ev.length c2) bx) :
  Calls Tryz.prog 144 #[.agg (stL S (.slice A1 S.out.length c1) (.slice A2 S.ev.length c2)).toArray, .int .u64 (W64 x)] w (fun e w' => gJ w w' base (cS S x) bx e) := by
 go_enter Tryz.func144, Tryz.ntmps144
 go_wp2_with with_reducible refine sy ?_
 refine HM.nw (ty := 106) (cs := (stL S (.slice A1 S.out.length c1) (.slice A2 S.ev.length c2)).toArray) ?_; clear HM; intro q z HM
 go_wp2_with with_reducible refine sy ?_
 refine HM.nw (ty := 106) (cs := (stL fY (.slice none 0 0) (.slice none 0 0)).toArray) ?_; clear HM; intro C D HM
 go_wp2_with with_reducible refine sy ?_
 refine yk 45 (stL (S.put_have_ false) (.slice A1 S.out.length c1) (.slice A2 S.ev.length c2)).toArray HM.b1 HM.s1 ?_; clear HM; intro F HM
 go_wp2_with with_reducible refine sy ?_
 refine yk 44 (stL ((S.put_have_ false).put_commit (0#64)) (.slice A1 S.out.length c1) (.slice A2 S.ev.length c2)).toArray HM.b1 HM.s1 ?_; clear HM; intro I HM
 go_wp2_with with_reducible refine sy ?_
 refine yk 43 (stL (((S.put_have_ false).put_commit (0#64)).put_other x) (.slice A1 S.out.length c1) (.slice A2 S.ev.length c2)).toArray HM.b1 HM.s1 ?_; clear HM; intro J HM
 go_wp2_with first | with_reducible refine sy ?_ | with_reducible refine lw HM.b1 aQ ?_
 refine yv HM.b0 HM.s0 ?_; clear HM; intro L HM
 go_wp2_with with_reducible refine sy ?_
 refine rc1 HM.b0 aQ ?_
 exact stE rfl HM.drop.drop
end Go.Proofs.YtihmbcnccdiecaaGreatDoor
