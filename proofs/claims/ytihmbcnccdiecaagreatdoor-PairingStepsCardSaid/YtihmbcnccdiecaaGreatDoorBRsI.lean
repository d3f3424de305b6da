/- Part of the proofs of the laws of pairing. -/
import Derived.Test.YtihmbcnccdiecaaGreatDoorBRsC
namespace Go.Proofs.YtihmbcnccdiecaaGreatDoor
set_option maxRecDepth 100000
set_option linter.unusedVariables false
set_option linter.unusedSimpArgs false
open Go.ChangeShapes Go.WideShapes Go.ChangeAt Go.RowKit
set_option maxHeartbeats 2000000 in
theorem qI (base : Nat) (S : Stp) (A1 : Option Addr) (c1 : Nat) (A2 : Option Addr) (c2 : Nat) (bx : List Bk) (w : World) (HM : Mem w w base S.out S.ev (.slice A1 S.out.length c1) (.slice A2 S.ev.length c2) bx) (ls : S.out.length ≤ 950) (le : S.ev.length ≤ 950) (h0 : 0 ≤ S.p.round) (h1 : S.p.round ≤ 64) :
  Calls Tryz.prog 142 #[.agg (stL S (.slice A1 S.out.length c1) (.slice A2 S.ev.length c2)).toArray] w (fun e w' => gJ w w' base (gS S) bx e) := by
 have ew := H6 (kW (S.put_phase 3))
 go_enter Tryz.func142, Tryz.ntmps142
 go_wp2_with with_reducible refine sy ?_
 refine HM.nw (ty := 106) (cs := (stL S (.slice A1 S.out.length c1) (.slice A2 S.ev.length c2)).toArray) ?_; clear HM; intro a3 a4 HM
 go_wp2_with with_reducible refine sy ?_
 refine HM.nw (ty := 106) (cs := (stL fY (.slice none 0 0) (.slice none 0 0)).toArray) ?_; clear HM; intro a5 a6 HM
 go_wp2_with with_reducible refine sy ?_
 refine yk 19 (stL (S.put_phase 3) (.slice A1 S.out.length c1) (.slice A2 S.ev.length c2)).toArray HM.b1 HM.s1 ?_; clear HM; intro a7 HM
 by_cases z : (S.p.method : Int) = 6
 ·
  obtain ⟨D, F, q⟩ := fT z; clear z
  have I := HM.b1.c 21 (.int .i64 S.p.method)
  go_wp2_with first | with_reducible refine sy ?_ | with_reducible refine ld 0 (prL (S.put_phase 3).p) HM.b1 U37 ?_
  refine bt HM.to (cB ((S.put_phase 3).p) _ (aP S.p) rfl) ?_; clear HM; intro a8 HM; clear I
  rcases a9 : (aP S.p) with _ | _
  ·
   go_wp2_with first | with_reducible refine sy ?_ | with_reducible refine lw HM.b1 aQ ?_
   refine yv HM.b0 HM.s0 ?_; clear HM; intro b2 HM
   go_wp2_with with_reducible refine sy ?_
   refine rc1 HM.b0 aQ ?_
   have q0 := q.out
   exact stE (by unfold gS; exact es8) HM.drop.drop
  go_wp2_with first | with_reducible refine sy ?_ | with_reducible refine lw HM.b1 aQ ?_
  refine bs HM (qF _ (S.put_phase 3) _ _ _ _ _ _ HM.here) ?_; clear HM; intro b3 b4 b5 b6 b7 HM
  go_wp2_with with_reducible refine sy ?_
  refine yv HM.b1 HM.s1 ?_; clear HM; intro b8 HM
  have J := HM.b1.c 42 (.int .u64 (W64 (eN S.p.cfg.seed S.p.drawn)))
  go_wp2_with first | with_reducible refine sy ?_ | with_reducible refine lw HM.b1 aQ ?_
  refine bs HM (jJ _ (cK (S.put_phase 3)) _ _ _ _ 4 ((eN S.p.cfg.seed S.p.drawn)) _ _ HM.here ln9) ?_; clear HM; intro b9 c0 c4 c5 c6 HM; clear J
  go_wp2_with with_reducible refine sy ?_
  refine yv HM.b1 HM.s1 ?_; clear HM; intro c7 HM
  go_wp2_with first | with_reducible refine sy ?_ | with_reducible refine lw HM.b1 aQ ?_
  refine yv HM.b0 HM.s0 ?_; clear HM; intro c8 HM
  go_wp2_with with_reducible refine sy ?_
  refine rc1 HM.b0 aQ ?_
  have q0 := q.out
  exact stE (by unfold gS; exact es8) HM.drop.drop
 obtain ⟨D, F, q⟩ := fF z; clear z
 have L := HM.b1.c 21 (.int .i64 S.p.method)
 go_wp2_with with_reducible refine sy ?_
 refine bt HM.to (mK _ _ (aU S.p.method) rfl) ?_; clear HM; intro c9 HM; clear L
 rcases O : (aU S.p.method) with _ | _
 ·
  go_wp2_with first | with_reducible refine sy ?_ | with_reducible refine ld 0 (prL (S.put_phase 3).p) HM.b1 U37 ?_
  refine bt HM.to (cB ((S.put_phase 3).p) _ (aP S.p) rfl) ?_; clear HM; intro d0 HM
  rcases d1 : (aP S.p) with _ | _
  rotate_left
  ·
   go_wp2_with first | with_reducible refine sy ?_ | with_reducible refine lw HM.b1 aQ ?_
   refine yv HM.b0 HM.s0 ?_; clear HM; intro d2 HM
   go_wp2_with with_reducible refine sy ?_
   refine rc1 HM.b0 aQ ?_
   have q0 := q.out
   exact stE (by unfold gS; exact es8) HM.drop.drop
  go_wp2_with first | with_reducible refine sy ?_ | with_reducible refine lw HM.b1 aQ ?_
  refine bs HM (jE _ (S.put_phase 3) _ _ _ _ _ _ HM.here ln9 (J9 O) h0 h1) ?_; clear HM; intro d3 d4 d5 d6 d7 HM
  go_wp2_with with_reducible refine sy ?_
  refine yv HM.b1 HM.s1 ?_; clear HM; intro d8 HM
  go_wp2_with first | with_reducible refine sy ?_ | with_reducible refine lw HM.b1 aQ ?_
  refine yv HM.b0 HM.s0 ?_; clear HM; intro d9 HM
  go_wp2_with with_reducible refine sy ?_
  refine rc1 HM.b0 aQ ?_
  have q0 := q.out
  exact stE (by unfold gS; exact es8) HM.drop.drop
 go_wp2_with first | with_reducible refine sy ?_ | with_reducible refine ld 0 (prL (S.put_phase 3).p) HM.b1 U37 ?_
 refine bt HM.to (FU ((S.put_phase 3).p) _ (eS ((S.put_phase 3).p)) rfl) ?_; clear HM; intro e0 HM
 rcases e1 : (eS ((S.put_phase 3).p)) with _ | _
 ·
  go_wp2_with with_reducible refine sy ?_
  refine yk 19 (stL ((S.put_phase 3).put_phase 4) (.slice A1 S.out.length c1) (.slice A2 S.ev.length c2)).toArray HM.b1 HM.s1 ?_; clear HM; intro e2 HM
  go_wp2_with first | with_reducible refine sy ?_ | with_reducible refine lw HM.b1 aQ ?_
  refine bs HM (oO _ ((S.put_phase 3).put_phase 4) _ _ _ _ 2 0 _ _ HM.here ln9) ?_; clear HM; intro e3 e4 e5 e6 e7 HM
  go_wp2_with with_reducible refine sy ?_
  refine yv HM.b0 HM.s0 ?_; clear HM; intro e8 HM
  go_wp2_with with_reducible refine sy ?_
  refine rc1 HM.b0 aQ ?_
  have q0 := q.out
  exact stE (by unfold gS; exact es8) HM.drop.drop
 go_wp2_with first | with_reducible refine sy ?_ | with_reducible refine lw HM.b1 aQ ?_
 refine (DB _ (S.put_phase 3) _ _ _ _ _ _ HM.here).mono ?_; rintro e e9 ⟨U, Z, a0, a1, rfl, C⟩
 replace HM := HM.trans C; clear C
 go_wp2_with with_reducible refine sy ?_
 refine yv HM.b1 HM.s1 ?_; clear HM; intro f0 HM
 go_wp2_with with_reducible refine sy ?_
 refine yk 46 (stL ((eX (S.put_phase 3)).put_passkey (W64 ((kW (S.put_phase 3)) % (1000000#64)))) (.slice U ((eX (S.put_phase 3)).out.length) Z) (.slice a0 ((eX (S.put_phase 3)).ev.length) a1)).toArray HM.b1 HM.s1 ?_; clear HM; intro f1 HM
 have a2 := HM.b1.c 46 (.int .i64 (W64 ((kW (S.put_phase 3)) % (1000000#64))))
 go_wp2_with first | with_reducible refine sy ?_ | with_reducible refine lw HM.b1 aQ ?_
 refine bs HM (oO _ ((eX (S.put_phase 3)).put_passkey (W64 ((kW (S.put_phase 3)) % (1000000#64)))) _ _ _ _ 1 (W64 ((kW (S.put_phase 3)) % (1000000#64))) _ _ HM.here ln9) ?_; clear HM; intro f2 f3 f4 f5 f6 HM; clear a2
 go_wp2_with with_reducible refine sy ?_
 refine yv HM.b1 HM.s1 ?_; clear HM; intro f7 HM
 go_wp2_with first | with_reducible refine sy ?_ | with_reducible refine ld 0 (prL ((eX (S.put_phase 3)).put_passkey (W64 ((kW (S.put_phase 3)) % (1000000#64)))).p) HM.b1 U37 ?_
 refine bt HM.to (cB (((eX (S.put_phase 3)).put_passkey (W64 ((kW (S.put_phase 3)) % (1000000#64)))).p) _ (aP S.p) rfl) ?_; clear HM; intro f8 HM
 rcases f9 : (aP S.p) with _ | _
 ·
  go_wp2_with first | with_reducible refine sy ?_ | with_reducible refine lw HM.b1 aQ ?_
  refine yv HM.b0 HM.s0 ?_; clear HM; intro g0 HM
  go_wp2_with with_reducible refine sy ?_
  refine rc1 HM.b0 aQ ?_
  have q0 := q.out
  exact stE (by unfold gS; exact es8) HM.drop.drop
 go_wp2_with first | with_reducible refine sy ?_ | with_reducible refine lw HM.b1 aQ ?_
 refine bs HM (jE _ (eR ((eX (S.put_phase 3)).put_passkey (W64 ((kW (S.put_phase 3)) % (1000000#64)))) 1 (W64 ((kW (S.put_phase 3)) % (1000000#64)))) _ _ _ _ _ _ HM.here ln9 (fun _ => LQ _) h0 h1) ?_; clear HM; intro g3 g4 g5 g6 g7 HM
 go_wp2_with with_reducible refine sy ?_
 refine yv HM.b1 HM.s1 ?_; clear HM; intro g8 HM
 go_wp2_with first | with_reducible refine sy ?_ | with_reducible refine lw HM.b1 aQ ?_
 refine yv HM.b0 HM.s0 ?_; clear HM; intro g9 HM
 go_wp2_with with_reducible refine sy ?_
 refine rc1 HM.b0 aQ ?_
 have q0 := q.out
 exact stE (by unfold gS; exact es8) HM.drop.drop
set_option maxHeartbeats 2000000 in
theorem EA (base : Nat) (p : Pr) (d : Sec) (now : Int) (bx : List Bk) (w : World) (HM : Mem w w base [] [] (.slice none 0 0) (.slice none 0 0) bx) (h0 : 0 ≤ p.round) (h1 : p.round ≤ 64) :
  Calls Tryz.prog 116 #[.agg (prL p).toArray, .agg (aI d).toArray, .int .i64 now] w (fun e w' => gJ w w' base (fK p d now) bx e) := by
 go_enter Tryz.func116, Tryz.ntmps116
 go_wp2_with with_reducible refine sy ?_
 refine HM.nw (ty := 37) (cs := (prL p).toArray) ?_; clear HM; intro F b5 HM
 go_wp2_with with_reducible refine sy ?_
 refine HM.nw (ty := 43) (cs := (aI d).toArray) ?_; clear HM; intro b6 b7 HM
 go_wp2_with with_reducible refine sy ?_
 refine HM.nw (ty := 106) (cs := (stL fY (.slice none 0 0) (.slice none 0 0)).toArray) ?_; clear HM; intro b8 b9 HM
 have a0 := HM.b1.c 7 (.int .u32 (W32 d.pub))
 go_wp2_with with_reducible refine sy ?_
 refine bt HM.to (qW d.pub _) ?_; clear HM; intro c0 HM; clear a0
 rcases c4 : (fB d.pub) with _ | _
 ·
  go_wp2_with first | with_reducible refine sy ?_ | with_reducible refine lw HM.b2 U37 ?_ | ((with_reducible refine bI 0 (prL p) HM.b2 ?_ ?_ U37 ?_ ?_ ?_ ?_); rfl; rfl; rfl; kernel_rfl; rfl)
  refine bs HM (bY _ p 13 now _ _ HM.here) ?_; clear HM; intro c5 c6 c7 c8 c9 HM
  go_wp2_with with_reducible refine sy ?_
  refine yv HM.b0 HM.s0 ?_; clear HM; intro d0 HM
  go_wp2_with with_reducible refine sy ?_
  refine rc1 HM.b0 aQ ?_
  exact stE (by unfold fK; exact es8) HM.drop.drop.drop
 go_wp2_with first | with_reducible refine sy ?_ | with_reducible refine lw HM.b2 U37 ?_ | ((with_reducible refine bI 0 (prL p) HM.b2 ?_ ?_ U37 ?_ ?_ ?_ ?_); rfl; rfl; rfl; kernel_rfl; rfl)
 refine bt HM.to (nJ p _ (cJ p.cfg.secret) rfl) ?_; clear HM; intro d1 HM
 by_cases q : d.pub = cJ p.cfg.secret
 ·
  have a1 : ((W32 d.pub : Int) == W32 (cJ p.cfg.secret)) = true := by have this : (W32 d.pub == W32 (cJ p.cfg.secret)) = true := (by rw [mO]; simpa using q); exact this
  have a2 : ((W32 d.pub : Int) != W32 (cJ p.cfg.secret)) = false := by have this : (W32 d.pub != W32 (cJ p.cfg.secret)) = false := (by rw [sD]; simpa using q); exact this
  have z := Lib.hid q
  clear q
  go_wp2_with first | with_reducible refine sy ?_ | with_reducible refine lw HM.b2 U37 ?_ | ((with_reducible refine bI 0 (prL p) HM.b2 ?_ ?_ U37 ?_ ?_ ?_ ?_); rfl; rfl; rfl; kernel_rfl; rfl)
  refine bs HM (bY _ p 13 now _ _ HM.here) ?_; clear HM; intro d2 d3 d4 d5 d6 HM
  go_wp2_with with_reducible refine sy ?_
  refine yv HM.b0 HM.s0 ?_; clear HM; intro d7 HM
  go_wp2_with with_reducible refine sy ?_
  refine rc1 HM.b0 aQ ?_
  have q1 := z.out
  exact stE (by unfold fK; exact es8) HM.drop.drop.drop
 have a1 : ((W32 d.pub : Int) == W32 (cJ p.cfg.secret)) = false := by have this : (W32 d.pub == W32 (cJ p.cfg.secret)) = false := (by rw [mO]; simpa using q); exact this
 have a2 : ((W32 d.pub : Int) != W32 (cJ p.cfg.secret)) = true := by have this : (W32 d.pub != W32 (cJ p.cfg.secret)) = true := (by rw [sD]; simpa using q); exact this
 have z := Lib.hid q
 clear q
 rcases d8 : p.cfg.feat.oob with _ | _
 ·
  go_wp2_with with_reducible refine sy ?_
  have hst := bM HM
  refine aD _ 18 hst (HM.drew) ?_
  clear HM
  refine aA 0 hst ?_
  refine aA 1 hst ?_
  refine aA 2 hst ?_
  refine aF 3 rfl hst (fun W hS K hK => by have ld : W.cell? ⟨F, 2, none⟩ = some (.bool p.cfg.feat.oob) := hS.b2.cell 2; clear hS; go_simp; exact hk hK) ?_
  refine aA 4 hst ?_
  refine aG 5 hst ?_
  refine aG 6 hst ?_
  refine aG 7 hst ?_
  refine aG 8 hst ?_
  refine aG 9 hst ?_
  refine aG 10 hst ?_
  refine aG 11 hst ?_
  refine aG 12 hst ?_
  refine aG 13 hst ?_
  refine aG 14 hst ?_
  refine aG 15 hst ?_
  refine aG 16 hst ?_
  refine aA 17 hst ?_
  refine aE (fun d9 hS => ?_)
  have HM := hS
  clear hst
  go_wp2_with first | with_reducible refine sy ?_ | with_reducible refine lw HM.b2 U37 ?_ | ((with_reducible refine bI 0 (prL p) HM.b2 ?_ ?_ U37 ?_ ?_ ?_ ?_); rfl; rfl; rfl; kernel_rfl; rfl)
  refine bt HM.to (fW p now _ HM.laid) ?_; clear HM; intro e0 HM
  go_wp2_with with_reducible refine sy ?_
  refine HM.nw (ty := 106) (cs := (stL fY (.slice none 0 0) (.slice none 0 0)).toArray) ?_; clear HM; intro e1 e2 HM
  go_wp2_with with_reducible refine sy ?_
  refine yv HM.b0 HM.s0 ?_; clear HM; intro e3 HM
  go_wp2_with with_reducible refine sy ?_
  refine yk 40 (stL ((aC p now).put_peerKey d.pub) (.slice none 0 0) (.slice none 0 0)).toArray HM.b0 HM.s0 ?_; clear HM; intro e4 HM
  have a3 := HM.b3.c 14 (.int .u32 (W32 p.cfg.secret))
  go_wp2_with with_reducible refine sy ?_
  refine bt HM.to (tU p.cfg.secret d.pub _) ?_; clear HM; intro e5 HM; clear a3
  go_wp2_with with_reducible refine sy ?_
  refine yk 41 (stL (((aC p now).put_peerKey d.pub).put_shared (dO p.cfg.secret d.pub)) (.slice none 0 0) (.slice none 0 0)).toArray HM.b0 HM.s0 ?_; clear HM; intro e6 HM
  go_wp2_with first | with_reducible refine sy ?_ | with_reducible refine lw HM.b3 U37 ?_ | ((with_reducible refine bI 0 (prL p) HM.b3 ?_ ?_ U37 ?_ ?_ ?_ ?_); rfl; rfl; rfl; kernel_rfl; rfl)
  refine bt HM.to (cB p _ (aP p) rfl) ?_; clear HM; intro e7 HM
  rcases e8 : (aP p) with _ | _
  rotate_left
  ·
   go_wp2_with first | with_reducible refine sy ?_ | with_reducible refine lw HM.b0 aQ ?_
   refine bs HM (qI _ (((aC p now).put_peerKey d.pub).put_shared (dO p.cfg.secret d.pub)) _ _ _ _ _ _ HM.here ln9 ln9 h0 h1) ?_; clear HM; intro e9 f0 f1 f2 f3 HM
   go_wp2_with with_reducible refine sy ?_
   refine yv HM.b1 HM.s1 ?_; clear HM; intro f4 HM
   go_wp2_with with_reducible refine sy ?_
   refine rc1 HM.b1 aQ ?_
   have q1 := z.out
   exact stE (by unfold fK; exact es8) HM.drop.drop.drop.drop
  go_wp2_with first | with_reducible refine sy ?_ | with_reducible refine lw HM.b3 U37 ?_ | ((with_reducible refine bI 0 (prL p) HM.b3 ?_ ?_ U37 ?_ ?_ ?_ ?_); rfl; rfl; rfl; kernel_rfl; rfl)
  refine bt HM.to (nJ p _ (cJ p.cfg.secret) rfl) ?_; clear HM; intro f5 HM
  go_wp2_with with_reducible refine sy ?_
  refine bF (ty := 43) (cs := #[.int .i64 12, .int .i64 0, .bool false, .bool false, .bool false, .bool false, .bool false, .int .u32 (W32 (cJ p.cfg.secret)), .int .u64 0, .int .i64 0, .int .u64 0, .int .u64 0, .int .i64 0]) (fun g => .slice (some ⟨g, 0, none⟩) 1 1) rfl (by kernel_rfl) ?_
  intro a4 f6 a5 I J L
  replace HM := HM.alloc I J L
  clear J I a5 L
  go_wp2_with with_reducible refine sy ?_
  replace HM := Mem.oneS ⟨12, ⟨0, false, false, false, false, false⟩, (cJ p.cfg.secret), 0#64, ⟨⟨0, 0#64⟩, 0#64⟩, 0⟩ HM
  go_wp2_with with_reducible refine sy ?_
  refine yk 58 (stL ((((aC p now).put_peerKey d.pub).put_shared (dO p.cfg.secret d.pub)).put_out ([(⟨12, ⟨0, false, false, false, false, false⟩, (cJ p.cfg.secret), 0#64, ⟨⟨0, 0#64⟩, 0#64⟩, 0⟩ : Sec)])) (.slice (some ⟨a4, 0, none⟩) 1 1) (.slice none 0 0)).toArray HM.b0 HM.s0 ?_; clear HM; intro f7 HM
  go_wp2_with first | with_reducible refine sy ?_ | with_reducible refine lw HM.b0 aQ ?_
  refine bs HM (qI _ ((((aC p now).put_peerKey d.pub).put_shared (dO p.cfg.secret d.pub)).put_out ([(⟨12, ⟨0, false, false, false, false, false⟩, (cJ p.cfg.secret), 0#64, ⟨⟨0, 0#64⟩, 0#64⟩, 0⟩ : Sec)])) _ _ _ _ _ _ HM.here ln9 ln9 h0 h1) ?_; clear HM; intro f8 f9 g0 g3 g4 HM
  go_wp2_with with_reducible refine sy ?_
  refine yv HM.b1 HM.s1 ?_; clear HM; intro g5 HM
  go_wp2_with with_reducible refine sy ?_
  refine rc1 HM.b1 aQ ?_
  have q1 := z.out
  exact stE (by unfold fK; exact es8) HM.drop.drop.drop.drop
 go_wp2_with with_reducible refine sy ?_
 have hst := bM HM
 refine aD _ 18 hst (HM.drew) ?_
 clear HM
 refine aA 0 hst ?_
 refine aA 1 hst ?_
 refine aA 2 hst ?_
 refine aF 3 rfl hst (fun W hS K hK => by have ld : W.cell? ⟨F, 2, none⟩ = some (.bool p.cfg.feat.oob) := hS.b2.cell 2; clear hS; go_simp; exact hk hK) ?_
 refine aA 4 hst ?_
 refine aA 5 hst ?_
 refine aA 6 hst ?_
 refine aA 7 hst ?_
 refine bS 8 (.int .u64 (W64 p.cfg.oob.value)) hst (fun W hS => hS.b2.cell 17) ?_
 refine aA 9 hst ?_
 refine aA 10 hst ?_
 refine aA 11 hst ?_
 refine aA 12 hst ?_
 refine aA 13 hst ?_
 refine bS 14 (.int .u64 (W64 p.cfg.oob.random)) hst (fun W hS => hS.b2.cell 18) ?_
 refine aF 15 rfl hst (fun W hS K hK => by clear hS; go_simp; exact cl (mN d.pub d.pub p.cfg.oob.random (0#8) _) hK) ?_
 refine aA 16 hst ?_
 refine aA 17 hst ?_
 refine aE (fun g6 hS => ?_)
 have HM := hS
 clear hst
 by_cases C : p.cfg.oob.value = eF d.pub d.pub p.cfg.oob.random (0#8)
 rotate_left
 ·
  obtain ⟨a6, a7, D⟩ := gF C; clear C
  go_wp2_with first | with_reducible refine sy ?_ | with_reducible refine lw HM.b2 U37 ?_ | ((with_reducible refine bI 0 (prL p) HM.b2 ?_ ?_ U37 ?_ ?_ ?_ ?_); rfl; rfl; rfl; kernel_rfl; rfl)
  refine bs HM (bY _ p 2 now _ _ HM.here) ?_; clear HM; intro g7 g8 g9 h6 h7 HM
  go_wp2_with with_reducible refine sy ?_
  refine yv HM.b0 HM.s0 ?_; clear HM; intro h8 HM
  go_wp2_with with_reducible refine sy ?_
  refine rc1 HM.b0 aQ ?_
  have q1 := z.out
  have q3 := D.out
  exact stE (by unfold fK; exact es8) HM.drop.drop.drop
 obtain ⟨a6, a7, D⟩ := gT C; clear C
 go_wp2_with first | with_reducible refine sy ?_ | with_reducible refine lw HM.b2 U37 ?_ | ((with_reducible refine bI 0 (prL p) HM.b2 ?_ ?_ U37 ?_ ?_ ?_ ?_); rfl; rfl; rfl; kernel_rfl; rfl)
 refine bt HM.to (fW p now _ HM.laid) ?_; clear HM; intro h9 HM
 go_wp2_with with_reducible refine sy ?_
 refine HM.nw (ty := 106) (cs := (stL fY (.slice none 0 0) (.slice none 0 0)).toArray) ?_; clear HM; intro i0 i1 HM
 go_wp2_with with_reducible refine sy ?_
 refine yv HM.b0 HM.s0 ?_; clear HM; intro i2 HM
 go_wp2_with with_reducible refine sy ?_
 refine yk 40 (stL ((aC p now).put_peerKey d.pub) (.slice none 0 0) (.slice none 0 0)).toArray HM.b0 HM.s0 ?_; clear HM; intro i3 HM
 have a8 := HM.b3.c 14 (.int .u32 (W32 p.cfg.secret))
 go_wp2_with with_reducible refine sy ?_
 refine bt HM.to (tU p.cfg.secret d.pub _) ?_; clear HM; intro i4 HM; clear a8
 go_wp2_with with_reducible refine sy ?_
 refine yk 41 (stL (((aC p now).put_peerKey d.pub).put_shared (dO p.cfg.secret d.pub)) (.slice none 0 0) (.slice none 0 0)).toArray HM.b0 HM.s0 ?_; clear HM; intro i5 HM
 go_wp2_with first | with_reducible refine sy ?_ | with_reducible refine lw HM.b3 U37 ?_ | ((with_reducible refine bI 0 (prL p) HM.b3 ?_ ?_ U37 ?_ ?_ ?_ ?_); rfl; rfl; rfl; kernel_rfl; rfl)
 refine bt HM.to (cB p _ (aP p) rfl) ?_; clear HM; intro i6 HM
 rcases i7 : (aP p) with _ | _
 rotate_left
 ·
  go_wp2_with first | with_reducible refine sy ?_ | with_reducible refine lw HM.b0 aQ ?_
  refine bs HM (qI _ (((aC p now).put_peerKey d.pub).put_shared (dO p.cfg.secret d.pub)) _ _ _ _ _ _ HM.here ln9 ln9 h0 h1) ?_; clear HM; intro i8 i9 j0 j1 j2 HM
  go_wp2_with with_reducible refine sy ?_
  refine yv HM.b1 HM.s1 ?_; clear HM; intro j3 HM
  go_wp2_with with_reducible refine sy ?_
  refine rc1 HM.b1 aQ ?_
  have q1 := z.out
  have q3 := D.out
  exact stE (by unfold fK; exact es8) HM.drop.drop.drop.drop
 go_wp2_with first | with_reducible refine sy ?_ | with_reducible refine lw HM.b3 U37 ?_ | ((with_reducible refine bI 0 (prL p) HM.b3 ?_ ?_ U37 ?_ ?_ ?_ ?_); rfl; rfl; rfl; kernel_rfl; rfl)
 refine bt HM.to (nJ p _ (cJ p.cfg.secret) rfl) ?_; clear HM; intro j4 HM
 go_wp2_with with_reducible refine sy ?_
 refine bF (ty := 43) (cs := #[.int .i64 12, .int .i64 0, .bool false, .bool false, .bool false, .bool false, .bool false, .int .u32 (W32 (cJ p.cfg.secret)), .int .u64 0, .int .i64 0, .int .u64 0, .int .u64 0, .int .i64 0]) (fun g => .slice (some ⟨g, 0, none⟩) 1 1) rfl (by kernel_rfl) ?_
 intro a9 j5 b4 O U Z
 replace HM := HM.alloc O U Z
 clear U O b4 Z
 go_wp2_with with_reducible refine sy ?_
 replace HM := Mem.oneS ⟨12, ⟨0, false, false, false, false, false⟩, (cJ p.cfg.secret), 0#64, ⟨⟨0, 0#64⟩, 0#64⟩, 0⟩ HM
 go_wp2_with with_reducible refine sy ?_
 refine yk 58 (stL ((((aC p now).put_peerKey d.pub).put_shared (dO p.cfg.secret d.pub)).put_out ([(⟨12, ⟨0, false, false, false, false, false⟩, (cJ p.cfg.secret), 0#64, ⟨⟨0, 0#64⟩, 0#64⟩, 0⟩ : Sec)])) (.slice (some ⟨a9, 0, none⟩) 1 1) (.slice none 0 0)).toArray HM.b0 HM.s0 ?_; clear HM; intro j6 HM
 go_wp2_with first | with_reducible refine sy ?_ | with_reducible refine lw HM.b0 aQ ?_
 refine bs HM (qI _ ((((aC p now).put_peerKey d.pub).put_shared (dO p.cfg.secret d.pub)).put_out ([(⟨12, ⟨0, false, false, false, false, false⟩, (cJ p.cfg.secret), 0#64, ⟨⟨0, 0#64⟩, 0#64⟩, 0⟩ : Sec)])) _ _ _ _ _ _ HM.here ln9 ln9 h0 h1) ?_; clear HM; intro j7 j8 j9 k0 k1 HM
 go_wp2_with with_reducible refine sy ?_
 refine yv HM.b1 HM.s1 ?_; clear HM; intro k2 HM
 go_wp2_with with_reducible refine sy ?_
 refine rc1 HM.b1 aQ ?_
 have q1 := z.out
 have q3 := D.out
 exact stE (by unfold fK; exact es8) HM.drop.drop.drop.drop
end Go.Proofs.YtihmbcnccdiecaaGreatDoor
