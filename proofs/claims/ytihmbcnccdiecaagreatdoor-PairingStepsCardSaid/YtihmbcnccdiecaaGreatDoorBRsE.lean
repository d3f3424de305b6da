/- Part of the proofs of the laws of pairing. -/
import Derived.Test.YtihmbcnccdiecaaGreatDoorBRsG
import Derived.Test.YtihmbcnccdiecaaGreatDoorBRsH
namespace Go.Proofs.YtihmbcnccdiecaaGreatDoor
set_option maxRecDepth 100000
set_option linter.unusedVariables false
set_option linter.unusedSimpArgs false
open Go.ChangeShapes Go.WideShapes Go.ChangeAt Go.RowKit
set_option maxHeartbeats 2000000 in
theorem sS (base : Nat) (q : Pr) (S : Stp) (A1 : Option Addr) (c1 : Nat) (A2 : Option Addr) (c2 : Nat) (x : BitVec 64) (now : Int) (bx : List Bk) (w : World) (HM : Mem w w base S.out S.ev (.slice A1 S.out.length c1) (.slice A2 S.ev.length c2) bx) (ls : S.out.length ≤ 980) :
  Calls Tryz.prog 97 #[.agg (prL q).toArray, .agg (stL S (.slice A1 S.out.length c1) (.slice A2 S.ev.length c2)).toArray, .int .u64 (W64 x), .int .i64 now] w (fun e w' => gJ w w' base (eI q S x now) bx e) := by
 go_enter Tryz.func97, Tryz.ntmps97
 go_wp2_with with_reducible refine sy ?_
 refine HM.nw (ty := 37) (cs := (prL q).toArray) ?_; clear HM; intro a0 a1 HM
 go_wp2_with with_reducible refine sy ?_
 refine HM.nw (ty := 106) (cs := (stL S (.slice A1 S.out.length c1) (.slice A2 S.ev.length c2)).toArray) ?_; clear HM; intro a2 a3 HM
 go_wp2_with with_reducible refine sy ?_
 refine HM.nw (ty := 106) (cs := (stL fY (.slice none 0 0) (.slice none 0 0)).toArray) ?_; clear HM; intro a4 a5 HM
 go_wp2_with first | with_reducible refine sy ?_ | with_reducible refine ld 0 (prL S.p) HM.b1 U37 ?_
 refine HM.nw (ty := 37) (cs := (prL pr0).toArray) ?_; clear HM; intro a6 a7 HM
 go_wp2_with with_reducible refine sy ?_
 refine yv HM.b0 HM.s0 ?_; clear HM; intro a8 HM
 go_wp2_with first | with_reducible refine sy ?_ | with_reducible refine ld 0 (prL S.p) HM.b0 U37 ?_
 refine bt HM.to (uG S.p _ (eU S.p) rfl) ?_; clear HM; intro a9 HM
 by_cases z : x = eU S.p
 rotate_left
 ·
  obtain ⟨D, F, C⟩ := gF z; clear z
  go_wp2_with first | with_reducible refine sy ?_ | with_reducible refine lw HM.b3 U37 ?_
  replace HM := HM.none
  refine bs HM (bY _ q 11 now _ _ HM.here) ?_; clear HM; intro b4 b5 b6 b7 b8 HM
  go_wp2_with with_reducible refine sy ?_
  refine yv HM.b1 HM.s1 ?_; clear HM; intro b9 HM
  go_wp2_with with_reducible refine sy ?_
  refine rc1 HM.b1 aQ ?_
  have q0 := C.out
  have es : eI q S x now = (cE q 11 now) := by unfold eI; exact es8
  exact stE es HM.drop.drop.drop.drop
 obtain ⟨D, F, C⟩ := gT z; clear z
 go_wp2_with first | with_reducible refine sy ?_ | with_reducible refine ld 0 (cT S.p.cfg) HM.b0 U34 ?_
 refine HM.nw (ty := 34) (cs := (cT pN).toArray) ?_; clear HM; intro c0 c4 HM
 go_wp2_with with_reducible refine sy ?_
 refine yv HM.b0 HM.s0 ?_; clear HM; intro c5 HM
 go_wp2_with with_reducible refine sy ?_
 refine yk 19 (stL (S.put_phase 6) (.slice A1 S.out.length c1) (.slice A2 S.ev.length c2)).toArray HM.b3 HM.s3 ?_; clear HM; intro c6 HM
 go_wp2_with first | with_reducible refine sy ?_ | with_reducible refine ld 0 (prL S.p) HM.b1 U37 ?_
 refine bt HM.to (cB S.p _ (aP S.p) rfl) ?_; clear HM; intro c7 HM
 rcases c8 : (aP S.p) with _ | _
 rotate_left
 ·
  have I := HM.b1.c 41 (.int .u32 (W32 S.p.shared))
  have J := HM.b1.c 42 (.int .u64 (W64 S.p.nonce))
  have L := HM.b1.c 43 (.int .u64 (W64 S.p.other))
  go_wp2_with first | with_reducible refine sy ?_ | with_reducible refine ld 7 [.int .i64 S.p.cfg.own.kind, .int .u64 (W64 S.p.cfg.own.bits)] HM.b0 U26 ?_ | with_reducible refine ld 9 [.int .i64 S.p.cfg.peer.kind, .int .u64 (W64 S.p.cfg.peer.bits)] HM.b0 U26 ?_
  refine bt HM.to (pU S.p.shared S.p.nonce S.p.other S.p.cfg.own S.p.cfg.peer _) ?_; clear HM; intro c9 HM; clear I J L
  go_wp2_with with_reducible refine sy ?_
  refine yk 52 (stL ((S.put_phase 6).put_ltk (mS S.p.shared S.p.nonce S.p.other S.p.cfg.own S.p.cfg.peer)) (.slice A1 S.out.length c1) (.slice A2 S.ev.length c2)).toArray HM.b3 HM.s3 ?_; clear HM; intro d0 HM
  go_wp2_with first | with_reducible refine sy ?_ | with_reducible refine lw HM.b3 aQ ?_
  refine yv HM.b2 HM.s2 ?_; clear HM; intro d1 HM
  go_wp2_with with_reducible refine sy ?_
  refine rc1 HM.b2 aQ ?_
  have q0 := C.out
  have es : eI q S x now = ((S.put_phase 6).put_ltk (mS S.p.shared S.p.nonce S.p.other S.p.cfg.own S.p.cfg.peer)) := by unfold eI; exact es8
  exact stE es HM.drop.drop.drop.drop.drop
 have O := HM.b1.c 41 (.int .u32 (W32 S.p.shared))
 have U := HM.b1.c 43 (.int .u64 (W64 S.p.other))
 have Z := HM.b1.c 42 (.int .u64 (W64 S.p.nonce))
 go_wp2_with first | with_reducible refine sy ?_ | with_reducible refine ld 9 [.int .i64 S.p.cfg.peer.kind, .int .u64 (W64 S.p.cfg.peer.bits)] HM.b0 U26 ?_ | with_reducible refine ld 7 [.int .i64 S.p.cfg.own.kind, .int .u64 (W64 S.p.cfg.own.bits)] HM.b0 U26 ?_
 refine bt HM.to (pU S.p.shared S.p.other S.p.nonce S.p.cfg.peer S.p.cfg.own _) ?_; clear HM; intro d2 HM; clear O U Z
 go_wp2_with with_reducible refine sy ?_
 refine yk 52 (stL ((S.put_phase 6).put_ltk (mS S.p.shared S.p.other S.p.nonce S.p.cfg.peer S.p.cfg.own)) (.slice A1 S.out.length c1) (.slice A2 S.ev.length c2)).toArray HM.b3 HM.s3 ?_; clear HM; intro d3 HM
 go_wp2_with with_reducible refine sy ?_
 try simp only [nrm]
 have hst := bM HM
 refine dN _ 3 hst HM.drew ⟨by kernel_rfl, by kernel_rfl, by kernel_rfl, by decide⟩ (fun hR => ?_)
 clear HM
 refine cV (v := .agg (stL ((S.put_phase 6).put_ltk (mS S.p.shared S.p.other S.p.nonce S.p.cfg.peer S.p.cfg.own)) (.slice A1 S.out.length c1) (.slice A2 S.ev.length c2)).toArray) 0 hR hst rfl (fun W hS K hK => aL rfl rfl (aX hS.b3 0 (stL ((S.put_phase 6).put_ltk (mS S.p.shared S.p.other S.p.nonce S.p.cfg.peer S.p.cfg.own)) (.slice A1 S.out.length c1) (.slice A2 S.ev.length c2)) rfl aQ rfl (by kernel_rfl)) (hK.out _ (Below.refl _ _))) ?_; simp only [nrm]
 refine cV (v := .agg (prL S.p).toArray) 1 hR hst rfl (fun W hS K hK => aL rfl rfl (aX hS.b1 0 (prL S.p) rfl U37 rfl (by kernel_rfl)) (hK.out _ (Below.refl _ _))) ?_; simp only [nrm]
 refine eB 2 rfl hR hst (fun W hS K hK => by clear hS; go_simp; exact cl (rP S.p _ (eJ S.p) rfl) hK) ?_
 refine gC (fun d4 hS => ?_)
 have HM := hS
 clear hst
 dsimp only [List.drop]
 go_wp2_with with_reducible refine sy ?_
 refine bs HM (jJ _ ((S.put_phase 6).put_ltk (mS S.p.shared S.p.other S.p.nonce S.p.cfg.peer S.p.cfg.own)) _ _ _ _ 13 ((eJ S.p)) _ _ HM.here ln9) ?_; clear HM; intro d5 d6 d7 d8 d9 HM
 go_wp2_with with_reducible refine sy ?_
 refine yv HM.b2 HM.s2 ?_; clear HM; intro e0 HM
 go_wp2_with with_reducible refine sy ?_
 refine rc1 HM.b2 aQ ?_
 have q0 := C.out
 have es : eI q S x now = (dQ ((S.put_phase 6).put_ltk (mS S.p.shared S.p.other S.p.nonce S.p.cfg.peer S.p.cfg.own)) 13 ((eJ S.p))) := by unfold eI; exact es8
 exact stE es HM.drop.drop.drop.drop.drop
set_option maxHeartbeats 2000000 in
theorem xH (base : Nat) (p : Pr) (d : Sec) (now : Int) (bx : List Bk) (w : World) (HM : Mem w w base [] [] (.slice none 0 0) (.slice none 0 0) bx) :
  Calls Tryz.prog 121 #[.agg (prL p).toArray, .agg (aI d).toArray, .int .i64 now] w (fun e w' => gJ w w' base (eD p d now) bx e) := by
 go_enter Tryz.func121, Tryz.ntmps121
 go_wp2_with with_reducible refine sy ?_
 refine HM.nw (ty := 37) (cs := (prL p).toArray) ?_; clear HM; intro a3 a4 HM
 go_wp2_with with_reducible refine sy ?_
 refine HM.nw (ty := 43) (cs := (aI d).toArray) ?_; clear HM; intro a5 a6 HM
 go_wp2_with with_reducible refine sy ?_
 refine HM.nw (ty := 106) (cs := (stL fY (.slice none 0 0) (.slice none 0 0)).toArray) ?_; clear HM; intro a7 a8 HM
 go_wp2_with first | with_reducible refine sy ?_ | with_reducible refine lw HM.b2 U37 ?_ | ((with_reducible refine bI 0 (prL p) HM.b2 ?_ ?_ U37 ?_ ?_ ?_ ?_); rfl; rfl; rfl; kernel_rfl; rfl)
 refine bt HM.to (xS p _ (cU p) rfl) ?_; clear HM; intro a9 HM
 by_cases z : (d.kind : Int) = 8
 rotate_left
 ·
  obtain ⟨I, J, q⟩ := fF z; clear z
  have L := HM.b1.c 0 (.int .i64 d.kind)
  go_wp2_with first | with_reducible refine sy ?_ | with_reducible refine lw HM.b2 U37 ?_ | ((with_reducible refine bI 0 (prL p) HM.b2 ?_ ?_ U37 ?_ ?_ ?_ ?_); rfl; rfl; rfl; kernel_rfl; rfl)
  refine bs HM (bY _ p 7 now _ _ HM.here) ?_; clear HM; intro b4 b5 b6 b7 b8 HM; clear L
  go_wp2_with with_reducible refine sy ?_
  refine yv HM.b0 HM.s0 ?_; clear HM; intro b9 HM
  go_wp2_with with_reducible refine sy ?_
  refine rc1 HM.b0 aQ ?_
  have q0 := q.out
  exact stE (by unfold eD; exact es8) HM.drop.drop.drop
 obtain ⟨I, J, q⟩ := fT z; clear z
 rcases C : p.crypt with _ | _
 ·
  have O := HM.b1.c 0 (.int .i64 d.kind)
  have U := HM.b2.c 51 (.bool p.crypt)
  go_wp2_with first | with_reducible refine sy ?_ | with_reducible refine lw HM.b2 U37 ?_ | ((with_reducible refine bI 0 (prL p) HM.b2 ?_ ?_ U37 ?_ ?_ ?_ ?_); rfl; rfl; rfl; kernel_rfl; rfl)
  refine bs HM (bY _ p 7 now _ _ HM.here) ?_; clear HM; intro c0 c4 c5 c6 c7 HM; clear O U
  go_wp2_with with_reducible refine sy ?_
  refine yv HM.b0 HM.s0 ?_; clear HM; intro c8 HM
  go_wp2_with with_reducible refine sy ?_
  refine rc1 HM.b0 aQ ?_
  have q0 := q.out
  exact stE (by unfold eD; exact es8) HM.drop.drop.drop
 rcases D : (cU p).2 with _ | _
 ·
  have Z := HM.b1.c 0 (.int .i64 d.kind)
  have a0 := HM.b2.c 51 (.bool p.crypt)
  go_wp2_with first | with_reducible refine sy ?_ | with_reducible refine lw HM.b2 U37 ?_ | ((with_reducible refine bI 0 (prL p) HM.b2 ?_ ?_ U37 ?_ ?_ ?_ ?_); rfl; rfl; rfl; kernel_rfl; rfl)
  refine bs HM (bY _ p 7 now _ _ HM.here) ?_; clear HM; intro c9 d0 d1 d2 d3 HM; clear Z a0
  go_wp2_with with_reducible refine sy ?_
  refine yv HM.b0 HM.s0 ?_; clear HM; intro d4 HM
  go_wp2_with with_reducible refine sy ?_
  refine rc1 HM.b0 aQ ?_
  have q0 := q.out
  exact stE (by unfold eD; exact es8) HM.drop.drop.drop
 have a1 := HM.b1.c 0 (.int .i64 d.kind)
 have a2 := HM.b2.c 51 (.bool p.crypt)
 go_wp2_with first | with_reducible refine sy ?_ | with_reducible refine lw HM.b2 U37 ?_ | ((with_reducible refine bI 0 (prL p) HM.b2 ?_ ?_ U37 ?_ ?_ ?_ ?_); rfl; rfl; rfl; kernel_rfl; rfl)
 refine bt HM.to (fW p now _ HM.laid) ?_; clear HM; intro d5 HM; clear a1 a2
 go_wp2_with with_reducible refine sy ?_
 refine HM.nw (ty := 106) (cs := (stL fY (.slice none 0 0) (.slice none 0 0)).toArray) ?_; clear HM; intro d6 d7 HM
 go_wp2_with with_reducible refine sy ?_
 refine yv HM.b0 HM.s0 ?_; clear HM; intro d8 HM
 go_wp2_with first | with_reducible refine sy ?_ | with_reducible refine ld 9 [.int .i64 d.idn.adr.kind, .int .u64 (W64 d.idn.adr.bits), .int .u64 (W64 d.idn.irk)] HM.b2 U29 ?_
 refine yp 53 (stL ((aC p now).put_idn d.idn) (.slice none 0 0) (.slice none 0 0)).toArray HM.b0 HM.s0 ?_; clear HM; intro d9 HM
 rcases F : (cU p).1 with _ | _
 ·
  go_wp2_with with_reducible refine sy ?_
  try simp only [nrm]
  have hst := bM HM
  refine dN _ 6 hst HM.drew ⟨by kernel_rfl, by kernel_rfl, by kernel_rfl, by decide⟩ (fun hR => ?_)
  clear HM
  refine cV (v := .agg (stL ((aC p now).put_idn d.idn) (.slice none 0 0) (.slice none 0 0)).toArray) 0 hR hst rfl (fun W hS K hK => aL rfl rfl (aX hS.b0 0 (stL ((aC p now).put_idn d.idn) (.slice none 0 0) (.slice none 0 0)) rfl aQ rfl (by kernel_rfl)) (hK.out _ (Below.refl _ _))) ?_; simp only [nrm]
  refine bT 1 hR hst ?_
  refine bT 2 hR hst ?_
  refine yU 3 hR hst rfl ?_; simp only [nrm]
  refine yU 4 hR hst rfl ?_; simp only [nrm]
  refine bT 5 hR hst ?_
  refine gC (fun e0 hS => ?_)
  have HM := hS
  clear hst
  dsimp only [List.drop]
  go_wp2_with with_reducible refine sy ?_
  refine bs HM (sG _ ((aC p now).put_idn d.idn) _ _ _ _ false _ _ HM.here ln9) ?_; clear HM; intro e1 e2 e3 e4 e5 HM
  go_wp2_with with_reducible refine sy ?_
  refine bs HM (oG _ (iL ((aC p now).put_idn d.idn) false) _ _ _ _ _ _ HM.here ln9) ?_; clear HM; intro e6 e7 e8 e9 f0 HM
  go_wp2_with with_reducible refine sy ?_
  refine yv HM.b1 HM.s1 ?_; clear HM; intro f1 HM
  go_wp2_with with_reducible refine sy ?_
  refine rc1 HM.b1 aQ ?_
  have q0 := q.out
  exact stE (by unfold eD; rw [if_neg (by simp [q0, C, D, F])]; simp only [q0, C, D, F, Bool.true_and, Bool.false_and]; rfl) HM.drop.drop.drop.drop
 go_wp2_with with_reducible refine sy ?_
 try simp only [nrm]
 have hst := bM HM
 refine dN _ 6 hst HM.drew ⟨by kernel_rfl, by kernel_rfl, by kernel_rfl, by decide⟩ (fun hR => ?_)
 clear HM
 refine cV (v := .agg (stL ((aC p now).put_idn d.idn) (.slice none 0 0) (.slice none 0 0)).toArray) 0 hR hst rfl (fun W hS K hK => aL rfl rfl (aX hS.b0 0 (stL ((aC p now).put_idn d.idn) (.slice none 0 0) (.slice none 0 0)) rfl aQ rfl (by kernel_rfl)) (hK.out _ (Below.refl _ _))) ?_; simp only [nrm]
 refine bT 1 hR hst ?_
 refine bT 2 hR hst ?_
 refine cV (v := .agg (prL p).toArray) 3 hR hst rfl (fun W hS K hK => aL rfl rfl (aX hS.b3 0 (prL p) rfl U37 rfl (by kernel_rfl)) (hK.out _ (Below.refl _ _))) ?_; simp only [nrm]
 refine eB 4 rfl hR hst (fun W hS K hK => by clear hS; go_simp; exact cl (cB p _ (aP p) rfl) hK) ?_
 refine bT 5 hR hst ?_
 refine gC (fun f2 hS => ?_)
 have HM := hS
 clear hst
 dsimp only [List.drop]
 go_wp2_with with_reducible refine sy ?_
 refine bs HM (sG _ ((aC p now).put_idn d.idn) _ _ _ _ ((aP p)) _ _ HM.here ln9) ?_; clear HM; intro f3 f4 f5 f6 f7 HM
 go_wp2_with with_reducible refine sy ?_
 refine bs HM (oG _ (iL ((aC p now).put_idn d.idn) ((aP p))) _ _ _ _ _ _ HM.here ln9) ?_; clear HM; intro f8 f9 g0 g3 g4 HM
 go_wp2_with with_reducible refine sy ?_
 refine yv HM.b1 HM.s1 ?_; clear HM; intro g5 HM
 go_wp2_with with_reducible refine sy ?_
 refine rc1 HM.b1 aQ ?_
 have q0 := q.out
 exact stE (by unfold eD; rw [if_neg (by simp [q0, C, D, F])]; simp only [q0, C, D, F, Bool.true_and, Bool.false_and]; rfl) HM.drop.drop.drop.drop
end Go.Proofs.YtihmbcnccdiecaaGreatDoor
