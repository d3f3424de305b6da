/- Part of the proofs of the laws of pairing. -/
import Derived.Test.YtihmbcnccdiecaaGreatDoorBRsB
namespace Go.Proofs.YtihmbcnccdiecaaGreatDoor
set_option maxRecDepth 100000
set_option linter.unusedVariables false
set_option linter.unusedSimpArgs false
open Go.ChangeShapes Go.WideShapes Go.ChangeAt Go.RowKit
set_option maxHeartbeats 2000000 in
theorem hF (base : Nat) (S : Stp) (A1 : Option Addr) (c1 : Nat) (A2 : Option Addr) (c2 : Nat) (bx : List Bk) (w : World) (HM : Mem w w base S.out S.ev (.slice A1 S.out.length c1) (.slice A2 S.ev.length c2) bx) (ls : S.out.length ≤ 980) :
  Calls Tryz.prog 96 #[.agg (stL S (.slice A1 S.out.length c1) (.slice A2 S.ev.length c2)).toArray] w (fun e w' => gJ w w' base (cF S) bx e) := by
 go_enter Tryz.func96, Tryz.ntmps96
 go_wp2_with with_reducible refine sy ?_
 refine HM.nw (ty := 106) (cs := (stL S (.slice A1 S.out.length c1) (.slice A2 S.ev.length c2)).toArray) ?_; clear HM; intro q z HM
 go_wp2_with with_reducible refine sy ?_
 refine HM.nw (ty := 106) (cs := (stL fY (.slice none 0 0) (.slice none 0 0)).toArray) ?_; clear HM; intro C D HM
 go_wp2_with with_reducible refine sy ?_
 refine yk 19 (stL (S.put_phase 5) (.slice A1 S.out.length c1) (.slice A2 S.ev.length c2)).toArray HM.b1 HM.s1 ?_; clear HM; intro F HM
 go_wp2_with first | with_reducible refine sy ?_ | with_reducible refine ld 0 (prL (S.put_phase 5).p) HM.b1 U37 ?_
 refine bt HM.to (cB ((S.put_phase 5).p) _ (aP S.p) rfl) ?_; clear HM; intro I HM
 rcases J : (aP S.p) with _ | _
 ·
  go_wp2_with first | with_reducible refine sy ?_ | with_reducible refine lw HM.b1 aQ ?_
  refine yv HM.b0 HM.s0 ?_; clear HM; intro L HM
  go_wp2_with with_reducible refine sy ?_
  refine rc1 HM.b0 aQ ?_
  exact stE (by unfold cF; exact es8) HM.drop.drop
 go_wp2_with with_reducible refine sy ?_
 try simp only [nrm]
 have hst := bM HM
 refine dN _ 4 hst HM.drew ⟨by kernel_rfl, by kernel_rfl, by kernel_rfl, by decide⟩ (fun hR => ?_)
 clear HM
 refine cV (v := .agg (stL (S.put_phase 5) (.slice A1 S.out.length c1) (.slice A2 S.ev.length c2)).toArray) 0 hR hst rfl (fun W hS K hK => aL rfl rfl (aX hS.b1 0 (stL (S.put_phase 5) (.slice A1 S.out.length c1) (.slice A2 S.ev.length c2)) rfl aQ rfl (by kernel_rfl)) (hK.out _ (Below.refl _ _))) ?_; simp only [nrm]
 refine bT 1 hR hst ?_
 refine cV (v := .agg (prL (S.put_phase 5).p).toArray) 2 hR hst rfl (fun W hS K hK => aL rfl rfl (aX hS.b1 0 (prL (S.put_phase 5).p) rfl U37 rfl (by kernel_rfl)) (hK.out _ (Below.refl _ _))) ?_; simp only [nrm]
 refine eB 3 rfl hR hst (fun W hS K hK => by clear hS; go_simp; exact cl (rP ((S.put_phase 5).p) _ (eJ ((S.put_phase 5).p)) rfl) hK) ?_
 refine gC (fun O hS => ?_)
 have HM := hS
 clear hst
 dsimp only [List.drop]
 go_wp2_with with_reducible refine sy ?_
 refine bs HM (jJ _ (S.put_phase 5) _ _ _ _ 13 ((eJ ((S.put_phase 5).p))) _ _ HM.here ln9) ?_; clear HM; intro U Z a0 a1 a2 HM
 go_wp2_with with_reducible refine sy ?_
 refine yv HM.b1 HM.s1 ?_; clear HM; intro a3 HM
 go_wp2_with first | with_reducible refine sy ?_ | with_reducible refine lw HM.b1 aQ ?_
 refine yv HM.b0 HM.s0 ?_; clear HM; intro a4 HM
 go_wp2_with with_reducible refine sy ?_
 refine rc1 HM.b0 aQ ?_
 exact stE (by unfold cF; exact es8) HM.drop.drop
set_option maxHeartbeats 2000000 in
theorem sZ (base : Nat) (S : Stp) (A1 : Option Addr) (c1 : Nat) (A2 : Option Addr) (c2 : Nat) (bx : List Bk) (w : World) (HM : Mem w w base S.out S.ev (.slice A1 S.out.length c1) (.slice A2 S.ev.length c2) bx) (ls : S.out.length ≤ 970) (le : S.ev.length ≤ 970) :
  Calls Tryz.prog 145 #[.agg (stL S (.slice A1 S.out.length c1) (.slice A2 S.ev.length c2)).toArray] w (fun e w' => gJ w w' base (iO S) bx e) := by
 go_enter Tryz.func145, Tryz.ntmps145
 go_wp2_with with_reducible refine sy ?_
 refine HM.nw (ty := 106) (cs := (stL S (.slice A1 S.out.length c1) (.slice A2 S.ev.length c2)).toArray) ?_; clear HM; intro L O HM
 go_wp2_with with_reducible refine sy ?_
 refine HM.nw (ty := 106) (cs := (stL fY (.slice none 0 0) (.slice none 0 0)).toArray) ?_; clear HM; intro U Z HM
 by_cases z : (S.p.method : Int) = 1
 ·
  obtain ⟨D, F, C⟩ := fT z; clear z
  have I := HM.b1.c 21 (.int .i64 S.p.method)
  go_wp2_with first | with_reducible refine sy ?_ | with_reducible refine lw HM.b1 aQ ?_
  refine bs HM (hF _ S _ _ _ _ _ _ HM.here ln9) ?_; clear HM; intro a0 a1 a2 a3 a4 HM; clear I
  go_wp2_with with_reducible refine sy ?_
  refine yv HM.b0 HM.s0 ?_; clear HM; intro a5 HM
  go_wp2_with with_reducible refine sy ?_
  refine rc1 HM.b0 aQ ?_
  have q0 := C.out
  exact stE (by unfold iO; exact es8) HM.drop.drop
 obtain ⟨D, F, C⟩ := fF z; clear z
 have J := HM.b1.c 21 (.int .i64 S.p.method)
 go_wp2_with with_reducible refine sy ?_
 refine yk 19 (stL (S.put_phase 4) (.slice A1 S.out.length c1) (.slice A2 S.ev.length c2)).toArray HM.b1 HM.s1 ?_; clear HM; intro a6 HM; clear J
 go_wp2_with first | with_reducible refine sy ?_ | with_reducible refine ld 0 (prL (S.put_phase 4).p) HM.b1 U37 ?_
 refine HM.nw (ty := 37) (cs := (prL pr0).toArray) ?_; clear HM; intro q a7 HM
 go_wp2_with with_reducible refine sy ?_
 refine yv HM.b0 HM.s0 ?_; clear HM; intro a8 HM
 go_wp2_with first | with_reducible refine sy ?_ | with_reducible refine ld 0 (prL (S.put_phase 4).p) HM.b0 U37 ?_
 refine bt HM.to (cB ((S.put_phase 4).p) _ (aP S.p) rfl) ?_; clear HM; intro a9 HM
 rcases b3 : (aP S.p) with _ | _
 ·
  go_wp2_with with_reducible refine sy ?_
  try simp only [nrm]
  have hst := bM HM
  refine dN _ 10 hst HM.drew ⟨by kernel_rfl, by kernel_rfl, by kernel_rfl, by decide⟩ (fun hR => ?_)
  clear HM
  refine cV (v := .agg (stL (S.put_phase 4) (.slice A1 S.out.length c1) (.slice A2 S.ev.length c2)).toArray) 0 hR hst rfl (fun W hS K hK => aL rfl rfl (aX hS.b2 0 (stL (S.put_phase 4) (.slice A1 S.out.length c1) (.slice A2 S.ev.length c2)) rfl aQ rfl (by kernel_rfl)) (hK.out _ (Below.refl _ _))) ?_; simp only [nrm]
  refine bT 1 hR hst ?_
  refine eB 2 rfl hR hst (fun W hS K hK => by have ld : W.cell? ⟨q, 40, none⟩ = some (.int .u32 (W32 S.p.peerKey)) := hS.b0.cell 40; clear hS; go_simp; exact hk hK) ?_
  refine cV (v := .agg (prL (S.put_phase 4).p).toArray) 3 hR hst rfl (fun W hS K hK => aL rfl rfl (aX hS.b0 0 (prL (S.put_phase 4).p) rfl U37 rfl (by kernel_rfl)) (hK.out _ (Below.refl _ _))) ?_; simp only [nrm]
  refine bT 5 hR hst ?_
  refine eB 6 rfl hR hst (fun W hS K hK => by have ld : W.cell? ⟨q, 43, none⟩ = some (.int .u64 (W64 S.p.other)) := hS.b0.cell 43; clear hS; go_simp; exact hk hK) ?_
  refine bT 7 hR hst ?_
  refine eB 8 rfl hR hst (fun W hS K hK => by have ld : W.cell? ⟨q, 42, none⟩ = some (.int .u64 (W64 S.p.nonce)) := hS.b0.cell 42; clear hS; go_simp; exact hk hK) ?_
  refine eB 4 rfl hR hst (fun W hS K hK => by clear hS; go_simp; exact cl (nJ ((S.put_phase 4).p) _ (cJ S.p.cfg.secret) rfl) hK) ?_
  refine eB 9 rfl hR hst (fun W hS K hK => by clear hS; go_simp; exact cl (pP S.p.peerKey ((cJ S.p.cfg.secret)) S.p.other S.p.nonce _) hK) ?_
  refine gC (fun b4 hS => ?_)
  have HM := hS
  clear hst
  dsimp only [List.drop]
  go_wp2_with with_reducible refine sy ?_
  refine bs HM (oO _ (S.put_phase 4) _ _ _ _ 1 (((gO S.p.peerKey ((cJ S.p.cfg.secret)) S.p.other S.p.nonce).toNat : Int)) _ _ HM.here ln9) ?_; clear HM; intro b5 b6 b7 b8 b9 HM
  go_wp2_with with_reducible refine sy ?_
  refine yv HM.b1 HM.s1 ?_; clear HM; intro c0 HM
  go_wp2_with with_reducible refine sy ?_
  refine rc1 HM.b1 aQ ?_
  have q0 := C.out
  exact stE (by unfold iO; exact es8) HM.drop.drop.drop
 go_wp2_with with_reducible refine sy ?_
 try simp only [nrm]
 have hst := bM HM
 refine dN _ 10 hst HM.drew ⟨by kernel_rfl, by kernel_rfl, by kernel_rfl, by decide⟩ (fun hR => ?_)
 clear HM
 refine cV (v := .agg (stL (S.put_phase 4) (.slice A1 S.out.length c1) (.slice A2 S.ev.length c2)).toArray) 0 hR hst rfl (fun W hS K hK => aL rfl rfl (aX hS.b2 0 (stL (S.put_phase 4) (.slice A1 S.out.length c1) (.slice A2 S.ev.length c2)) rfl aQ rfl (by kernel_rfl)) (hK.out _ (Below.refl _ _))) ?_; simp only [nrm]
 refine cV (v := .agg (prL (S.put_phase 4).p).toArray) 1 hR hst rfl (fun W hS K hK => aL rfl rfl (aX hS.b0 0 (prL (S.put_phase 4).p) rfl U37 rfl (by kernel_rfl)) (hK.out _ (Below.refl _ _))) ?_; simp only [nrm]
 refine bT 3 hR hst ?_
 refine eB 4 rfl hR hst (fun W hS K hK => by have ld : W.cell? ⟨q, 40, none⟩ = some (.int .u32 (W32 S.p.peerKey)) := hS.b0.cell 40; clear hS; go_simp; exact hk hK) ?_
 refine bT 5 hR hst ?_
 refine eB 6 rfl hR hst (fun W hS K hK => by have ld : W.cell? ⟨q, 42, none⟩ = some (.int .u64 (W64 S.p.nonce)) := hS.b0.cell 42; clear hS; go_simp; exact hk hK) ?_
 refine bT 7 hR hst ?_
 refine eB 8 rfl hR hst (fun W hS K hK => by have ld : W.cell? ⟨q, 43, none⟩ = some (.int .u64 (W64 S.p.other)) := hS.b0.cell 43; clear hS; go_simp; exact hk hK) ?_
 refine eB 2 rfl hR hst (fun W hS K hK => by clear hS; go_simp; exact cl (nJ ((S.put_phase 4).p) _ (cJ S.p.cfg.secret) rfl) hK) ?_
 refine eB 9 rfl hR hst (fun W hS K hK => by clear hS; go_simp; exact cl (pP ((cJ S.p.cfg.secret)) S.p.peerKey S.p.nonce S.p.other _) hK) ?_
 refine gC (fun c4 hS => ?_)
 have HM := hS
 clear hst
 dsimp only [List.drop]
 go_wp2_with with_reducible refine sy ?_
 refine bs HM (oO _ (S.put_phase 4) _ _ _ _ 1 (((gO ((cJ S.p.cfg.secret)) S.p.peerKey S.p.nonce S.p.other).toNat : Int)) _ _ HM.here ln9) ?_; clear HM; intro c5 c6 c7 c8 c9 HM
 go_wp2_with with_reducible refine sy ?_
 refine yv HM.b1 HM.s1 ?_; clear HM; intro d0 HM
 go_wp2_with with_reducible refine sy ?_
 refine rc1 HM.b1 aQ ?_
 have q0 := C.out
 exact stE (by unfold iO; exact es8) HM.drop.drop.drop
end Go.Proofs.YtihmbcnccdiecaaGreatDoor
