/- Part of the proofs of the laws of pairing. -/
import Derived.Test.YtihmbcnccdiecaaGreatDoorBRsN
import Derived.Test.YtihmbcnccdiecaaGreatDoorBRsO
import Derived.Test.YtihmbcnccdiecaaGreatDoorBSdIe
import Derived.Test.YtihmbcnccdiecaaGreatDoorBSdIs
import Derived.Test.YtihmbcnccdiecaaGreatDoorBSdIu
import Derived.Test.YtihmbcnccdiecaaGreatDoorBSdL
import Derived.Test.YtihmbcnccdiecaaGreatDoorBSdN
import Derived.Test.YtihmbcnccdiecaaGreatDoorBTkP
namespace Go.Proofs.YtihmbcnccdiecaaGreatDoor
set_option maxRecDepth 100000
set_option linter.unusedVariables false
set_option linter.unusedSimpArgs false
open Go.ChangeShapes Go.WideShapes Go.ChangeAt Go.RowKit
set_option maxHeartbeats 2000000 in
theorem EW (p : Pr) (d : Sec) (now : Int) (w : World) (HL : bW w) (hq : p.phase = 3 → aU p.method = true → 0 ≤ p.passkey ∧ p.passkey ≤ 999999) (h0 : 0 ≤ p.round) (h1 : p.round ≤ 64) (h2 : p.round ≤ 60) :
  Calls Tryz.prog 31 #[.agg (prL p).toArray, .agg (aI d).toArray, .int .i64 now] w (fun e w' => jF w w' (bN p d now).p (bN p d now).out (bN p d now).ev e) := by
 have HM := Mem.start HL
 obtain ⟨base, hb⟩ : ∃ b, w.heap.size = b := ⟨_, rfl⟩
 rw [hb] at HM
 have hbs := Lib.hid hb
 clear hb HL
 go_enter Tryz.func31, Tryz.ntmps31
 go_wp2_with with_reducible refine sy ?_
 refine HM.nw (ty := 37) (cs := (prL p).toArray) ?_; clear HM; intro I O HM
 go_wp2_with with_reducible refine sy ?_
 refine HM.nw (ty := 43) (cs := (aI d).toArray) ?_; clear HM; intro J U HM
 go_wp2_with with_reducible refine sy ?_
 refine HM.nw (ty := 37) (cs := (prL pr0).toArray) ?_; clear HM; intro L Z HM
 go_wp2_with first | with_reducible refine sy ?_ | with_reducible refine lw HM.b2 U37 ?_ | with_reducible refine ld 0 (aI d) HM.b1 U43 ?_
 refine bs HM (FI _ p d now _ _ HM.here hq h0 h1 h2) ?_; clear HM; intro q z C D a0 HM
 go_wp2_with with_reducible refine sy ?_
 refine HM.nw (ty := 106) (cs := (stL fY (.slice none 0 0) (.slice none 0 0)).toArray) ?_; clear HM; intro F a1 HM
 go_wp2_with with_reducible refine sy ?_
 refine yv HM.b0 HM.s0 ?_; clear HM; intro a2 HM
 go_wp2_with with_reducible refine sy ?_
 try simp only [nrm]
 have hst := bM HM
 refine cY _ (fun W => ∃ x0, Mem w W base ((bN p d now).out) ((bN p d now).ev) (.slice q ((bN p d now).out.length) z) (.slice C ((bN p d now).ev.length) D) ((F, 106, (stL (bN p d now) (.slice q ((bN p d now).out.length) z) (.slice C ((bN p d now).ev.length) D)).toArray) :: (L, 37, x0) :: (J, 43, (aI d).toArray) :: (I, 37, (prL p).toArray) :: [])) hst (fun W h => ⟨(prL pr0).toArray, h⟩) HM.drew 9 ?_
 clear HM
 refine aA 0 hst ?_ (h0 := fun _ h => ⟨_, h⟩)
 refine bH (v := .agg (prL (bN p d now).p).toArray) 1 hst (fun _ h => ⟨(prL pr0).toArray, h⟩) rfl (fun W hS K hK => aL rfl rfl (aX hS.choose_spec.b0 0 (prL (bN p d now).p) rfl U37 rfl (by kernel_rfl)) (hK.out _ (Below.refl _ _))) ?_; simp only [nrm]
 refine aA 2 hst ?_ (h0 := fun _ h => ⟨_, h⟩)
 refine bH (v := ?_) 3 hst (fun _ h => ⟨(prL pr0).toArray, h⟩) rfl ?_ ?_; rotate_left; (intro W hS K hK; have ld : W.cell? ⟨F, 58, none⟩ = some (.slice q ((bN p d now).out.length) z) := hS.choose_spec.b0.cell 58; clear hS; go_simp; exact hK.out _ (Below.refl _ _)); simp only [nrm]
 refine aA 4 hst ?_ (h0 := fun _ h => ⟨_, h⟩)
 refine bH (v := ?_) 5 hst (fun _ h => ⟨(prL pr0).toArray, h⟩) rfl ?_ ?_; rotate_left; (intro W hS K hK; have ld : W.cell? ⟨F, 59, none⟩ = some (.slice C ((bN p d now).ev.length) D) := hS.choose_spec.b0.cell 59; clear hS; go_simp; exact hK.out _ (Below.refl _ _)); simp only [nrm]
 refine dP (S' := fun W => Mem w W base ((bN p d now).out) ((bN p d now).ev) (.slice q ((bN p d now).out.length) z) (.slice C ((bN p d now).ev.length) D) ((F, 106, (stL (bN p d now) (.slice q ((bN p d now).out.length) z) (.slice C ((bN p d now).ev.length) D)).toArray) :: (L, 37, (prL (bN p d now).p).toArray) :: (J, 43, (aI d).toArray) :: (I, 37, (prL p).toArray) :: [])) 6 (.agg (prL (bN p d now).p).toArray) rfl rfl rfl rfl (fun W hS => by obtain ⟨w9, h1, h2⟩ := hS.swap.hole (P := Tryz.prog) (ty := 37) 0 (prL (bN p d now).p).toArray (prL (bN p d now).p).toArray (by kernel_rfl) rfl (of_decide_eq_true rfl) (by kernel_rfl); exact ⟨w9, h1, h2.swap⟩) (bD _ _ _ _ _ _ _) (fun W h => ⟨(prL (bN p d now).p).toArray, h⟩) ?_; simp only [nrm]
 clear hst
 have hst : aO fun W => Mem w W base ((bN p d now).out) ((bN p d now).ev) (.slice q ((bN p d now).out.length) z) (.slice C ((bN p d now).ev.length) D) ((F, 106, (stL (bN p d now) (.slice q ((bN p d now).out.length) z) (.slice C ((bN p d now).ev.length) D)).toArray) :: (L, 37, (prL (bN p d now).p).toArray) :: (J, 43, (aI d).toArray) :: (I, 37, (prL p).toArray) :: []) := bD _ _ _ _ _ _ _
 refine aA 7 hst ?_ (h0 := fun _ h => ⟨(prL (bN p d now).p).toArray, h⟩)
 refine aA 8 hst ?_ (h0 := fun _ h => ⟨(prL (bN p d now).p).toArray, h⟩)
 refine aE (fun a3 hS => ?_)
 have HM := hS
 clear hst
 go_wp2_with with_reducible refine sy ?_
 refine rc3 HM.b1 U37 ?_
 unfold jF; rw [hbs.out]; exact ⟨_, _, rfl, HM.below, HM.sent, HM.told⟩
set_option maxHeartbeats 2000000 in
theorem JN (p : Pr) (answer now : Int) (w : World) (HL : bW w) (h0 : 0 ≤ p.round) (h1 : p.round ≤ 64) :
  Calls Tryz.prog 32 #[.agg (prL p).toArray, .int .i64 answer, .int .i64 now] w (fun e w' => jF w w' (bZ p answer now).p (bZ p answer now).out (bZ p answer now).ev e) := by
 have HM := Mem.start HL
 obtain ⟨base, hb⟩ : ∃ b, w.heap.size = b := ⟨_, rfl⟩
 rw [hb] at HM
 have hbs := Lib.hid hb
 clear hb HL
 go_enter Tryz.func32, Tryz.ntmps32
 go_wp2_with with_reducible refine sy ?_
 refine HM.nw (ty := 37) (cs := (prL p).toArray) ?_; clear HM; intro I L HM
 go_wp2_with with_reducible refine sy ?_
 refine HM.nw (ty := 37) (cs := (prL pr0).toArray) ?_; clear HM; intro J O HM
 go_wp2_with first | with_reducible refine sy ?_ | with_reducible refine lw HM.b1 U37 ?_
 refine bs HM (JH _ p answer now _ _ HM.here h0 h1) ?_; clear HM; intro q z C D U HM
 go_wp2_with with_reducible refine sy ?_
 refine HM.nw (ty := 106) (cs := (stL fY (.slice none 0 0) (.slice none 0 0)).toArray) ?_; clear HM; intro F Z HM
 go_wp2_with with_reducible refine sy ?_
 refine yv HM.b0 HM.s0 ?_; clear HM; intro a0 HM
 go_wp2_with with_reducible refine sy ?_
 try simp only [nrm]
 have hst := bM HM
 refine cY _ (fun W => ∃ x0, Mem w W base ((bZ p answer now).out) ((bZ p answer now).ev) (.slice q ((bZ p answer now).out.length) z) (.slice C ((bZ p answer now).ev.length) D) ((F, 106, (stL (bZ p answer now) (.slice q ((bZ p answer now).out.length) z) (.slice C ((bZ p answer now).ev.length) D)).toArray) :: (J, 37, x0) :: (I, 37, (prL p).toArray) :: [])) hst (fun W h => ⟨(prL pr0).toArray, h⟩) HM.drew 9 ?_
 clear HM
 refine aA 0 hst ?_ (h0 := fun _ h => ⟨_, h⟩)
 refine bH (v := .agg (prL (bZ p answer now).p).toArray) 1 hst (fun _ h => ⟨(prL pr0).toArray, h⟩) rfl (fun W hS K hK => aL rfl rfl (aX hS.choose_spec.b0 0 (prL (bZ p answer now).p) rfl U37 rfl (by kernel_rfl)) (hK.out _ (Below.refl _ _))) ?_; simp only [nrm]
 refine aA 2 hst ?_ (h0 := fun _ h => ⟨_, h⟩)
 refine bH (v := ?_) 3 hst (fun _ h => ⟨(prL pr0).toArray, h⟩) rfl ?_ ?_; rotate_left; (intro W hS K hK; have ld : W.cell? ⟨F, 58, none⟩ = some (.slice q ((bZ p answer now).out.length) z) := hS.choose_spec.b0.cell 58; clear hS; go_simp; exact hK.out _ (Below.refl _ _)); simp only [nrm]
 refine aA 4 hst ?_ (h0 := fun _ h => ⟨_, h⟩)
 refine bH (v := ?_) 5 hst (fun _ h => ⟨(prL pr0).toArray, h⟩) rfl ?_ ?_; rotate_left; (intro W hS K hK; have ld : W.cell? ⟨F, 59, none⟩ = some (.slice C ((bZ p answer now).ev.length) D) := hS.choose_spec.b0.cell 59; clear hS; go_simp; exact hK.out _ (Below.refl _ _)); simp only [nrm]
 refine dP (S' := fun W => Mem w W base ((bZ p answer now).out) ((bZ p answer now).ev) (.slice q ((bZ p answer now).out.length) z) (.slice C ((bZ p answer now).ev.length) D) ((F, 106, (stL (bZ p answer now) (.slice q ((bZ p answer now).out.length) z) (.slice C ((bZ p answer now).ev.length) D)).toArray) :: (J, 37, (prL (bZ p answer now).p).toArray) :: (I, 37, (prL p).toArray) :: [])) 6 (.agg (prL (bZ p answer now).p).toArray) rfl rfl rfl rfl (fun W hS => by obtain ⟨w9, h1, h2⟩ := hS.swap.hole (P := Tryz.prog) (ty := 37) 0 (prL (bZ p answer now).p).toArray (prL (bZ p answer now).p).toArray (by kernel_rfl) rfl (of_decide_eq_true rfl) (by kernel_rfl); exact ⟨w9, h1, h2.swap⟩) (bD _ _ _ _ _ _ _) (fun W h => ⟨(prL (bZ p answer now).p).toArray, h⟩) ?_; simp only [nrm]
 clear hst
 have hst : aO fun W => Mem w W base ((bZ p answer now).out) ((bZ p answer now).ev) (.slice q ((bZ p answer now).out.length) z) (.slice C ((bZ p answer now).ev.length) D) ((F, 106, (stL (bZ p answer now) (.slice q ((bZ p answer now).out.length) z) (.slice C ((bZ p answer now).ev.length) D)).toArray) :: (J, 37, (prL (bZ p answer now).p).toArray) :: (I, 37, (prL p).toArray) :: []) := bD _ _ _ _ _ _ _
 refine aA 7 hst ?_ (h0 := fun _ h => ⟨(prL (bZ p answer now).p).toArray, h⟩)
 refine aA 8 hst ?_ (h0 := fun _ h => ⟨(prL (bZ p answer now).p).toArray, h⟩)
 refine aE (fun a1 hS => ?_)
 have HM := hS
 clear hst
 go_wp2_with with_reducible refine sy ?_
 refine rc3 HM.b1 U37 ?_
 unfold jF; rw [hbs.out]; exact ⟨_, _, rfl, HM.below, HM.sent, HM.told⟩
set_option maxHeartbeats 2000000 in
theorem wV (p : Pr) (now : Int) (w : World) (HL : bW w) :
  Calls Tryz.prog 33 #[.agg (prL p).toArray, .int .i64 now] w (fun e w' => jF w w' (dX p now).p (dX p now).out (dX p now).ev e) := by
 have HM := Mem.start HL
 obtain ⟨base, hb⟩ : ∃ b, w.heap.size = b := ⟨_, rfl⟩
 rw [hb] at HM
 have hbs := Lib.hid hb
 clear hb HL
 go_enter Tryz.func33, Tryz.ntmps33
 go_wp2_with with_reducible refine sy ?_
 refine HM.nw (ty := 37) (cs := (prL p).toArray) ?_; clear HM; intro I L HM
 go_wp2_with with_reducible refine sy ?_
 refine HM.nw (ty := 37) (cs := (prL pr0).toArray) ?_; clear HM; intro J O HM
 go_wp2_with first | with_reducible refine sy ?_ | with_reducible refine lw HM.b1 U37 ?_
 refine bs HM (vN _ p now _ _ HM.here) ?_; clear HM; intro q z C D U HM
 go_wp2_with with_reducible refine sy ?_
 refine HM.nw (ty := 106) (cs := (stL fY (.slice none 0 0) (.slice none 0 0)).toArray) ?_; clear HM; intro F Z HM
 go_wp2_with with_reducible refine sy ?_
 refine yv HM.b0 HM.s0 ?_; clear HM; intro a0 HM
 go_wp2_with with_reducible refine sy ?_
 try simp only [nrm]
 have hst := bM HM
 refine cY _ (fun W => ∃ x0, Mem w W base ((dX p now).out) ((dX p now).ev) (.slice q ((dX p now).out.length) z) (.slice C ((dX p now).ev.length) D) ((F, 106, (stL (dX p now) (.slice q ((dX p now).out.length) z) (.slice C ((dX p now).ev.length) D)).toArray) :: (J, 37, x0) :: (I, 37, (prL p).toArray) :: [])) hst (fun W h => ⟨(prL pr0).toArray, h⟩) HM.drew 9 ?_
 clear HM
 refine aA 0 hst ?_ (h0 := fun _ h => ⟨_, h⟩)
 refine bH (v := .agg (prL (dX p now).p).toArray) 1 hst (fun _ h => ⟨(prL pr0).toArray, h⟩) rfl (fun W hS K hK => aL rfl rfl (aX hS.choose_spec.b0 0 (prL (dX p now).p) rfl U37 rfl (by kernel_rfl)) (hK.out _ (Below.refl _ _))) ?_; simp only [nrm]
 refine aA 2 hst ?_ (h0 := fun _ h => ⟨_, h⟩)
 refine bH (v := ?_) 3 hst (fun _ h => ⟨(prL pr0).toArray, h⟩) rfl ?_ ?_; rotate_left; (intro W hS K hK; have ld : W.cell? ⟨F, 58, none⟩ = some (.slice q ((dX p now).out.length) z) := hS.choose_spec.b0.cell 58; clear hS; go_simp; exact hK.out _ (Below.refl _ _)); simp only [nrm]
 refine aA 4 hst ?_ (h0 := fun _ h => ⟨_, h⟩)
 refine bH (v := ?_) 5 hst (fun _ h => ⟨(prL pr0).toArray, h⟩) rfl ?_ ?_; rotate_left; (intro W hS K hK; have ld : W.cell? ⟨F, 59, none⟩ = some (.slice C ((dX p now).ev.length) D) := hS.choose_spec.b0.cell 59; clear hS; go_simp; exact hK.out _ (Below.refl _ _)); simp only [nrm]
 refine dP (S' := fun W => Mem w W base ((dX p now).out) ((dX p now).ev) (.slice q ((dX p now).out.length) z) (.slice C ((dX p now).ev.length) D) ((F, 106, (stL (dX p now) (.slice q ((dX p now).out.length) z) (.slice C ((dX p now).ev.length) D)).toArray) :: (J, 37, (prL (dX p now).p).toArray) :: (I, 37, (prL p).toArray) :: [])) 6 (.agg (prL (dX p now).p).toArray) rfl rfl rfl rfl (fun W hS => by obtain ⟨w9, h1, h2⟩ := hS.swap.hole (P := Tryz.prog) (ty := 37) 0 (prL (dX p now).p).toArray (prL (dX p now).p).toArray (by kernel_rfl) rfl (of_decide_eq_true rfl) (by kernel_rfl); exact ⟨w9, h1, h2.swap⟩) (bD _ _ _ _ _ _ _) (fun W h => ⟨(prL (dX p now).p).toArray, h⟩) ?_; simp only [nrm]
 clear hst
 have hst : aO fun W => Mem w W base ((dX p now).out) ((dX p now).ev) (.slice q ((dX p now).out.length) z) (.slice C ((dX p now).ev.length) D) ((F, 106, (stL (dX p now) (.slice q ((dX p now).out.length) z) (.slice C ((dX p now).ev.length) D)).toArray) :: (J, 37, (prL (dX p now).p).toArray) :: (I, 37, (prL p).toArray) :: []) := bD _ _ _ _ _ _ _
 refine aA 7 hst ?_ (h0 := fun _ h => ⟨(prL (dX p now).p).toArray, h⟩)
 refine aA 8 hst ?_ (h0 := fun _ h => ⟨(prL (dX p now).p).toArray, h⟩)
 refine aE (fun a1 hS => ?_)
 have HM := hS
 clear hst
 go_wp2_with with_reducible refine sy ?_
 refine rc3 HM.b1 U37 ?_
 unfold jF; rw [hbs.out]; exact ⟨_, _, rfl, HM.below, HM.sent, HM.told⟩
theorem xO {now s : Int} (h0 : 0 ≤ s) (h1 : s ≤ now) (h2 : now ≤ 1099511627776) : (BitVec.ofInt 64 now - BitVec.ofInt 64 s < 30000000#64) ↔ now - s < 30000000 := by
  rw [BitVec.lt_def, BitVec.toNat_sub, BitVec.toNat_ofInt, BitVec.toNat_ofInt]
  have e : (30000000#64).toNat = 30000000 := rfl
  rw [e]
  omega
set_option maxHeartbeats 2000000 in
theorem D8 (p : Pr) (now : Int) (w : World) (HL : bW w) (n0 : 0 ≤ p.since) (n1 : now ≤ 1099511627776) :
  Calls Tryz.prog 34 #[.agg (prL p).toArray, .int .i64 now] w (fun e w' => pS w w' (mH p now).1 (mH p now).2 e) := by
 have HM := Mem.start HL
 obtain ⟨base, hb⟩ : ∃ b, w.heap.size = b := ⟨_, rfl⟩
 rw [hb] at HM
 have hbs := Lib.hid hb
 clear hb HL
 go_enter Tryz.func34, Tryz.ntmps34
 go_wp2_with with_reducible refine sy ?_
 refine HM.nw (ty := 37) (cs := (prL p).toArray) ?_; clear HM; intro a3 d1 HM
 go_wp2_with with_reducible refine sy ?_
 refine HM.nw (ty := 37) (cs := (prL pr0).toArray) ?_; clear HM; intro a4 d2 HM
 by_cases O : (p.phase : Int) = 0
 ·
  obtain ⟨a6, a7, z⟩ := fT O; clear O
  have a8 := HM.b1.c 19 (.int .i64 p.phase)
  go_wp2_with first | with_reducible refine sy ?_ | with_reducible refine lw HM.b1 U37 ?_
  refine yv HM.b0 HM.s0 ?_; clear HM; intro d3 HM; clear a8
  go_wp2_with with_reducible refine sy ?_
  refine rc2 HM.b0 U37 ?_
  have q0 := z.out
  have ek : mH p now = (p, []) := by unfold mH; first | (rw [if_pos (by omega)]; done) | (rw [if_neg (by omega), if_pos (by omega)]; done) | (rw [if_neg (by omega), if_neg (by omega)] <;> rfl)
  rw [ek]
  unfold pS; rw [hbs.out]; exact ⟨_, rfl, HM.below, iW _ _ _ _⟩
 obtain ⟨a6, a7, z⟩ := fF O; clear O
 by_cases U : (p.phase : Int) = 7
 ·
  obtain ⟨a9, b2, F⟩ := fT U; clear U
  have b3 := HM.b1.c 19 (.int .i64 p.phase)
  go_wp2_with first | with_reducible refine sy ?_ | with_reducible refine lw HM.b1 U37 ?_
  refine yv HM.b0 HM.s0 ?_; clear HM; intro d4 HM; clear b3
  go_wp2_with with_reducible refine sy ?_
  refine rc2 HM.b0 U37 ?_
  have q0 := z.out
  have q1 := F.out
  have ek : mH p now = (p, []) := by unfold mH; first | (rw [if_pos (by omega)]; done) | (rw [if_neg (by omega), if_pos (by omega)]; done) | (rw [if_neg (by omega), if_neg (by omega)] <;> rfl)
  rw [ek]
  unfold pS; rw [hbs.out]; exact ⟨_, rfl, HM.below, iW _ _ _ _⟩
 obtain ⟨a9, b2, F⟩ := fF U; clear U
 by_cases Z : (p.phase : Int) = 8
 ·
  obtain ⟨b4, b5, L⟩ := fT Z; clear Z
  have b6 := HM.b1.c 19 (.int .i64 p.phase)
  go_wp2_with first | with_reducible refine sy ?_ | with_reducible refine lw HM.b1 U37 ?_
  refine yv HM.b0 HM.s0 ?_; clear HM; intro d5 HM; clear b6
  go_wp2_with with_reducible refine sy ?_
  refine rc2 HM.b0 U37 ?_
  have q0 := z.out
  have q1 := F.out
  have q2 := L.out
  have ek : mH p now = (p, []) := by unfold mH; first | (rw [if_pos (by omega)]; done) | (rw [if_neg (by omega), if_pos (by omega)]; done) | (rw [if_neg (by omega), if_neg (by omega)] <;> rfl)
  rw [ek]
  unfold pS; rw [hbs.out]; exact ⟨_, rfl, HM.below, iW _ _ _ _⟩
 obtain ⟨b4, b5, L⟩ := fF Z; clear Z
 by_cases a0 : (now : Int) < p.since
 ·
  obtain ⟨b7, b8, b9, a1⟩ := lT a0; clear a0
  have c0 := HM.b1.c 19 (.int .i64 p.phase)
  have c4 := HM.b1.c 20 (.int .i64 p.since)
  go_wp2_with first | with_reducible refine sy ?_ | with_reducible refine lw HM.b1 U37 ?_
  refine yv HM.b0 HM.s0 ?_; clear HM; intro d6 HM; clear c0 c4
  go_wp2_with with_reducible refine sy ?_
  refine rc2 HM.b0 U37 ?_
  have q0 := z.out
  have q1 := F.out
  have q2 := L.out
  have q3 := a1.out
  have ek : mH p now = (p, []) := by unfold mH; first | (rw [if_pos (by omega)]; done) | (rw [if_neg (by omega), if_pos (by omega)]; done) | (rw [if_neg (by omega), if_neg (by omega)] <;> rfl)
  rw [ek]
  unfold pS; rw [hbs.out]; exact ⟨_, rfl, HM.below, iW _ _ _ _⟩
 obtain ⟨b7, b8, b9, a1⟩ := lF a0; clear a0
 by_cases q : (BitVec.ofInt 64 now) - (BitVec.ofInt 64 p.since) < 30000000#64
 ·
  have c5 : decide ((W64 ((BitVec.ofInt 64 now) - (BitVec.ofInt 64 p.since)) : Int) < 30000000) = true := decide_eq_true (show W64 ((BitVec.ofInt 64 now) - (BitVec.ofInt 64 p.since)) < W64 (30000000#64) by rw [kY]; exact q)
  have c6 : decide ((30000000 : Int) ≤ W64 ((BitVec.ofInt 64 now) - (BitVec.ofInt 64 p.since))) = false := decide_eq_false (fun hh => absurd (show W64 (30000000#64) ≤ W64 ((BitVec.ofInt 64 now) - (BitVec.ofInt 64 p.since)) from hh) (by rw [lJ]; exact BitVec.not_le.2 q))
  have a5 := Lib.hid q
  clear q
  have c7 := HM.b1.c 19 (.int .i64 p.phase)
  have c8 := HM.b1.c 20 (.int .i64 p.since)
  go_wp2_with first | with_reducible refine sy ?_ | with_reducible refine lw HM.b1 U37 ?_
  refine yv HM.b0 HM.s0 ?_; clear HM; intro d7 HM; clear c7 c8
  go_wp2_with with_reducible refine sy ?_
  refine rc2 HM.b0 U37 ?_
  have q0 := z.out
  have q1 := F.out
  have q2 := L.out
  have q3 := a1.out
  have q4 := a5.out
  have hz := xO n0 q3 n1
  have hy : now - p.since < 30000000 := hz.1 q4
  clear hz
  have ek : mH p now = (p, []) := by unfold mH; first | (rw [if_pos (by omega)]; done) | (rw [if_neg (by omega), if_pos (by omega)]; done) | (rw [if_neg (by omega), if_neg (by omega)] <;> rfl)
  rw [ek]
  unfold pS; rw [hbs.out]; exact ⟨_, rfl, HM.below, iW _ _ _ _⟩
 have c5 : decide ((W64 ((BitVec.ofInt 64 now) - (BitVec.ofInt 64 p.since)) : Int) < 30000000) = false := decide_eq_false (fun hh => q (by have h2 : W64 ((BitVec.ofInt 64 now) - (BitVec.ofInt 64 p.since)) < W64 (30000000#64) := hh; rw [kY] at h2; exact h2))
 have c6 : decide ((30000000 : Int) ≤ W64 ((BitVec.ofInt 64 now) - (BitVec.ofInt 64 p.since))) = true := decide_eq_true (show W64 (30000000#64) ≤ W64 ((BitVec.ofInt 64 now) - (BitVec.ofInt 64 p.since)) by rw [lJ]; exact BitVec.not_lt.1 q)
 have a5 := Lib.hid q
 clear q
 have c9 := HM.b1.c 19 (.int .i64 p.phase)
 have d0 := HM.b1.c 20 (.int .i64 p.since)
 go_wp2_with first | with_reducible refine sy ?_ | with_reducible refine lw HM.b1 U37 ?_
 refine bs HM (bY _ p 14 now _ _ HM.here) ?_; clear HM; intro I J C D d8 HM; clear c9 d0
 go_wp2_with with_reducible refine sy ?_
 refine HM.nw (ty := 106) (cs := (stL fY (.slice none 0 0) (.slice none 0 0)).toArray) ?_; clear HM; intro a2 d9 HM
 go_wp2_with with_reducible refine sy ?_
 refine yv HM.b0 HM.s0 ?_; clear HM; intro e0 HM
 go_wp2_with with_reducible refine sy ?_
 try simp only [nrm]
 have hst := bM HM
 refine cY _ (fun W => ∃ x0, Mem w W base ((cE p 14 now).out) ((cE p 14 now).ev) (.slice I ((cE p 14 now).out.length) J) (.slice C ((cE p 14 now).ev.length) D) ((a2, 106, (stL (cE p 14 now) (.slice I ((cE p 14 now).out.length) J) (.slice C ((cE p 14 now).ev.length) D)).toArray) :: (a4, 37, x0) :: (a3, 37, (prL p).toArray) :: [])) hst (fun W h => ⟨(prL pr0).toArray, h⟩) HM.drew 6 ?_
 clear HM
 refine aA 0 hst ?_ (h0 := fun _ h => ⟨_, h⟩)
 refine bH (v := .agg (prL (cE p 14 now).p).toArray) 1 hst (fun _ h => ⟨(prL pr0).toArray, h⟩) rfl (fun W hS K hK => aL rfl rfl (aX hS.choose_spec.b0 0 (prL (cE p 14 now).p) rfl U37 rfl (by kernel_rfl)) (hK.out _ (Below.refl _ _))) ?_; simp only [nrm]
 refine aA 2 hst ?_ (h0 := fun _ h => ⟨_, h⟩)
 refine bH (v := ?_) 3 hst (fun _ h => ⟨(prL pr0).toArray, h⟩) rfl ?_ ?_; rotate_left; (intro W hS K hK; have ld : W.cell? ⟨a2, 59, none⟩ = some (.slice C ((cE p 14 now).ev.length) D) := hS.choose_spec.b0.cell 59; clear hS; go_simp; exact hK.out _ (Below.refl _ _)); simp only [nrm]
 refine dP (S' := fun W => Mem w W base ((cE p 14 now).out) ((cE p 14 now).ev) (.slice I ((cE p 14 now).out.length) J) (.slice C ((cE p 14 now).ev.length) D) ((a2, 106, (stL (cE p 14 now) (.slice I ((cE p 14 now).out.length) J) (.slice C ((cE p 14 now).ev.length) D)).toArray) :: (a4, 37, (prL (cE p 14 now).p).toArray) :: (a3, 37, (prL p).toArray) :: [])) 4 (.agg (prL (cE p 14 now).p).toArray) rfl rfl rfl rfl (fun W hS => by obtain ⟨w9, h1, h2⟩ := hS.swap.hole (P := Tryz.prog) (ty := 37) 0 (prL (cE p 14 now).p).toArray (prL (cE p 14 now).p).toArray (by kernel_rfl) rfl (of_decide_eq_true rfl) (by kernel_rfl); exact ⟨w9, h1, h2.swap⟩) (bD _ _ _ _ _ _ _) (fun W h => ⟨(prL (cE p 14 now).p).toArray, h⟩) ?_; simp only [nrm]
 clear hst
 have hst : aO fun W => Mem w W base ((cE p 14 now).out) ((cE p 14 now).ev) (.slice I ((cE p 14 now).out.length) J) (.slice C ((cE p 14 now).ev.length) D) ((a2, 106, (stL (cE p 14 now) (.slice I ((cE p 14 now).out.length) J) (.slice C ((cE p 14 now).ev.length) D)).toArray) :: (a4, 37, (prL (cE p 14 now).p).toArray) :: (a3, 37, (prL p).toArray) :: []) := bD _ _ _ _ _ _ _
 refine aA 5 hst ?_ (h0 := fun _ h => ⟨(prL (cE p 14 now).p).toArray, h⟩)
 refine aE (fun e1 hS => ?_)
 have HM := hS
 clear hst
 go_wp2_with with_reducible refine sy ?_
 refine rc2 HM.b1 U37 ?_
 have q0 := z.out
 have q1 := F.out
 have q2 := L.out
 have q3 := a1.out
 have q4 := a5.out
 have hz := xO n0 q3 n1
 have hy : ¬ now - p.since < 30000000 := fun h => q4 (hz.2 h)
 clear hz
 have ek : mH p now = ((cE p 14 now).p, (cE p 14 now).ev) := by unfold mH; first | (rw [if_pos (by omega)]; done) | (rw [if_neg (by omega), if_pos (by omega)]; done) | (rw [if_neg (by omega), if_neg (by omega)] <;> rfl)
 rw [ek]
 unfold pS; rw [hbs.out]; exact ⟨_, rfl, HM.below, HM.told⟩
set_option maxHeartbeats 2000000 in
theorem GY (p : Pr) (now : Int) (w : World) (HL : bW w) :
  Calls Tryz.prog 30 #[.agg (prL p).toArray, .int .i64 now] w (fun e w' => oV w w' (bX p now).1 (bX p now).2.1 (bX p now).2.2 e) := by
 have HM := Mem.start HL
 obtain ⟨base, hb⟩ : ∃ b, w.heap.size = b := ⟨_, rfl⟩
 rw [hb] at HM
 have hbs := Lib.hid hb
 clear hb HL
 go_enter Tryz.func30, Tryz.ntmps30
 go_wp2_with with_reducible refine sy ?_
 refine HM.nw (ty := 37) (cs := (prL p).toArray) ?_; clear HM; intro c5 c6 HM
 go_wp2_with with_reducible refine sy ?_
 refine HM.nw (ty := 37) (cs := (prL pr0).toArray) ?_; clear HM; intro c7 c8 HM
 go_wp2_with first | with_reducible refine sy ?_ | with_reducible refine lw HM.b1 U37 ?_
 refine bt HM.to (cB p _ (aP p) rfl) ?_; clear HM; intro c9 HM
 rcases d0 : (aP p) with _ | _
 ·
  go_wp2_with first | with_reducible refine sy ?_ | with_reducible refine lw HM.b1 U37 ?_
  refine yv HM.b0 HM.s0 ?_; clear HM; intro d1 HM
  go_wp2_with with_reducible refine sy ?_
  refine rc3 HM.b0 U37 ?_
  have ek : bX p now = (p, [], 9) := by unfold bX; first | (rw [if_pos (by first | exact .inr (by assumption) | exact .inl (fun h => absurd ((iJ h).symm.trans (by assumption)) (by decide)))]; done) | (rw [if_neg (by rintro (h | h); exact h (of_decide_eq_true (by assumption)); exact h (by assumption))] <;> rfl)
  rw [ek]
  unfold oV; rw [hbs.out]; exact ⟨_, rfl, HM.below, iW _ _ _ _⟩
 by_cases z : (p.phase : Int) = 0
 rotate_left
 ·
  obtain ⟨a9, b3, q⟩ := fF z; clear z
  have b4 := HM.b1.c 19 (.int .i64 p.phase)
  go_wp2_with first | with_reducible refine sy ?_ | with_reducible refine lw HM.b1 U37 ?_
  refine yv HM.b0 HM.s0 ?_; clear HM; intro d2 HM; clear b4
  go_wp2_with with_reducible refine sy ?_
  refine rc3 HM.b0 U37 ?_
  have q1 := q.out
  have ek : bX p now = (p, [], 9) := by unfold bX; first | (rw [if_pos (by first | exact .inr (by assumption) | exact .inl (fun h => absurd ((iJ h).symm.trans (by assumption)) (by decide)))]; done) | (rw [if_neg (by rintro (h | h); exact h (of_decide_eq_true (by assumption)); exact h (by assumption))] <;> rfl)
  rw [ek]
  unfold oV; rw [hbs.out]; exact ⟨_, rfl, HM.below, iW _ _ _ _⟩
 obtain ⟨a9, b3, q⟩ := fT z; clear z
 have b5 := HM.b1.c 19 (.int .i64 p.phase)
 go_wp2_with with_reducible refine sy ?_
 refine yk 20 (prL (p.put_since now)).toArray HM.b1 HM.s1 ?_; clear HM; intro d3 HM; clear b5
 go_wp2_with first | with_reducible refine sy ?_ | with_reducible refine ld 1 [.int .i64 p.cfg.feat.io, .bool p.cfg.feat.oob, .bool p.cfg.feat.bond, .bool p.cfg.feat.mitm, .bool p.cfg.feat.sid, .bool p.cfg.feat.tid] HM.b1 U23 ?_
 refine yp 28 (prL ((p.put_since now).put_req p.cfg.feat)).toArray HM.b1 HM.s1 ?_; clear HM; intro d4 HM
 go_wp2_with with_reducible refine sy ?_
 refine yk 19 (prL (((p.put_since now).put_req p.cfg.feat).put_phase 1)).toArray HM.b1 HM.s1 ?_; clear HM; intro d5 HM
 go_wp2_with with_reducible refine sy ?_
 try simp only [nrm]
 refine jN 9 (fun d6 hW => ?_)
 replace HM := HM.drew; rw [← hW] at HM
 clear hW
 refine aV (v := ?_) 1 rfl ?_ ?_; rotate_left; (intro W K hK; go_simp; exact hK.out); simp only [nrm]
 refine aV (v := ?_) 2 rfl ?_ ?_; rotate_left; (intro W K hK; go_simp; exact hK.out); simp only [nrm]
 refine eV 0 3 rfl rfl (fun K hK => ?_) (fun K hK => ?_)
 ·
  rw [if_pos (show Region.wanted _ _ = true from rfl)]
  refine fG (aL (v := .agg (prL (((p.put_since now).put_req p.cfg.feat).put_phase 1)).toArray) rfl rfl (aX HM.b1 0 (prL (((p.put_since now).put_req p.cfg.feat).put_phase 1)) rfl U37 rfl (by kernel_rfl)) ?_)
  refine hK.out _ _ ?_; clear hK K; try simp only [nrm]
  refine eV 3 6 rfl rfl (fun K hK => ?_) (fun K hK => ?_)
  ·
   rw [if_pos (show Region.wanted _ _ = true from rfl)]
   refine fG (aL (v := .agg (bL p.cfg.feat).toArray) rfl rfl (aX HM.b1 1 [.int .i64 p.cfg.feat.io, .bool p.cfg.feat.oob, .bool p.cfg.feat.bond, .bool p.cfg.feat.mitm, .bool p.cfg.feat.sid, .bool p.cfg.feat.tid] rfl U23 rfl (by kernel_rfl)) ?_)
   refine hK.out _ _ ?_; clear hK K; try simp only [nrm]
   refine aV (v := ?_) 4 rfl ?_ ?_; rotate_left; (intro W K hK; go_simp; exact hK.out); simp only [nrm]
   refine eV 5 6 rfl rfl (fun K hK => ?_) (fun K hK => ?_)
   ·
    rw [if_pos (show Region.wanted _ _ = true from rfl)]
    refine dZ (ty := 43) (cs := #[.int .i64 1, .int .i64 p.cfg.feat.io, .bool p.cfg.feat.oob, .bool p.cfg.feat.bond, .bool p.cfg.feat.mitm, .bool p.cfg.feat.sid, .bool p.cfg.feat.tid, .int .u32 0, .int .u64 0, .int .i64 0, .int .u64 0, .int .u64 0, .int .i64 0]) (fun g => .slice (some ⟨g, 0, none⟩) 1 1) (by kernel_rfl) (fun d7 d8 b6 C D F => ?_)
    refine hK.out _ _ ?_; clear hK K; try simp only [nrm]
    replace HM := HM.alloc C D F
    clear D C b6 F
    refine bP 6 rfl (fun K hK => ?_)
    refine gE (.agg (prL (((p.put_since now).put_req p.cfg.feat).put_phase 1)).toArray) rfl (HM.swap.hole (P := Tryz.prog) (ty := 37) 0 (prL (((p.put_since now).put_req p.cfg.feat).put_phase 1)).toArray (prL (((p.put_since now).put_req p.cfg.feat).put_phase 1)).toArray (by kernel_rfl) rfl (of_decide_eq_true rfl) (by kernel_rfl)) (fun d9 HN => ?_) hK rfl rfl rfl; clear hK K
    replace HM := HN.swap; clear HN; try simp only [nrm]
    refine aV (v := ?_) 7 rfl ?_ ?_; rotate_left; (intro W K hK; go_simp; exact hK.out); simp only [nrm]
    refine aV (v := ?_) 8 rfl ?_ ?_; rotate_left; (intro W K hK; go_simp; exact hK.out); simp only [nrm]
    refine fE ?_
    go_wp2_with with_reducible refine sy ?_
    refine rc3 HM.b1 U37 ?_
    have q1 := q.out
    replace HM := Mem.oneS ⟨1, ⟨p.cfg.feat.io, p.cfg.feat.oob, p.cfg.feat.bond, p.cfg.feat.mitm, p.cfg.feat.sid, p.cfg.feat.tid⟩, 0#32, 0#64, ⟨⟨0, 0#64⟩, 0#64⟩, 0⟩ HM
    have ek : bX p now = ((((p.put_since now).put_req p.cfg.feat).put_phase 1), [(⟨1, ⟨p.cfg.feat.io, p.cfg.feat.oob, p.cfg.feat.bond, p.cfg.feat.mitm, p.cfg.feat.sid, p.cfg.feat.tid⟩, 0#32, 0#64, ⟨⟨0, 0#64⟩, 0#64⟩, 0⟩ : Sec)], 0) := by unfold bX; first | (rw [if_pos (by first | exact .inr (by assumption) | exact .inl (fun h => absurd ((iJ h).symm.trans (by assumption)) (by decide)))]; done) | (rw [if_neg (by rintro (h | h); exact h (of_decide_eq_true (by assumption)); exact h (by assumption))] <;> rfl)
    rw [ek]
    unfold oV; rw [hbs.out]; exact ⟨_, rfl, HM.below, HM.sent⟩
   refine gE (.agg (prL (((p.put_since now).put_req p.cfg.feat).put_phase 1)).toArray) rfl (HM.hole (P := Tryz.prog) (ty := 37) 0 (prL (((p.put_since now).put_req p.cfg.feat).put_phase 1)).toArray (prL (((p.put_since now).put_req p.cfg.feat).put_phase 1)).toArray (by kernel_rfl) rfl (of_decide_eq_true rfl) (by kernel_rfl)) (fun e0 HN => ?_) hK rfl rfl rfl; clear hK K
   replace HM := HN; clear HN; try simp only [nrm]
   refine bP 5 rfl (fun K hK => ?_)
   rw [if_pos (show Region.wanted _ _ = true from rfl)]
   refine dZ (ty := 43) (cs := #[.int .i64 1, .int .i64 p.cfg.feat.io, .bool p.cfg.feat.oob, .bool p.cfg.feat.bond, .bool p.cfg.feat.mitm, .bool p.cfg.feat.sid, .bool p.cfg.feat.tid, .int .u32 0, .int .u64 0, .int .i64 0, .int .u64 0, .int .u64 0, .int .i64 0]) (fun g => .slice (some ⟨g, 0, none⟩) 1 1) (by kernel_rfl) (fun e1 e2 b7 I J L => ?_)
   refine hK.out _ _ ?_; clear hK K; try simp only [nrm]
   replace HM := HM.alloc I J L
   clear J I b7 L
   refine aV (v := ?_) 7 rfl ?_ ?_; rotate_left; (intro W K hK; go_simp; exact hK.out); simp only [nrm]
   refine aV (v := ?_) 8 rfl ?_ ?_; rotate_left; (intro W K hK; go_simp; exact hK.out); simp only [nrm]
   refine fE ?_
   go_wp2_with with_reducible refine sy ?_
   refine rc3 HM.b1 U37 ?_
   have q1 := q.out
   replace HM := Mem.oneS ⟨1, ⟨p.cfg.feat.io, p.cfg.feat.oob, p.cfg.feat.bond, p.cfg.feat.mitm, p.cfg.feat.sid, p.cfg.feat.tid⟩, 0#32, 0#64, ⟨⟨0, 0#64⟩, 0#64⟩, 0⟩ HM
   have ek : bX p now = ((((p.put_since now).put_req p.cfg.feat).put_phase 1), [(⟨1, ⟨p.cfg.feat.io, p.cfg.feat.oob, p.cfg.feat.bond, p.cfg.feat.mitm, p.cfg.feat.sid, p.cfg.feat.tid⟩, 0#32, 0#64, ⟨⟨0, 0#64⟩, 0#64⟩, 0⟩ : Sec)], 0) := by unfold bX; first | (rw [if_pos (by first | exact .inr (by assumption) | exact .inl (fun h => absurd ((iJ h).symm.trans (by assumption)) (by decide)))]; done) | (rw [if_neg (by rintro (h | h); exact h (of_decide_eq_true (by assumption)); exact h (by assumption))] <;> rfl)
   rw [ek]
   unfold oV; rw [hbs.out]; exact ⟨_, rfl, HM.below, HM.sent⟩
  refine gE (.agg (prL (((p.put_since now).put_req p.cfg.feat).put_phase 1)).toArray) rfl (HM.hole (P := Tryz.prog) (ty := 37) 0 (prL (((p.put_since now).put_req p.cfg.feat).put_phase 1)).toArray (prL (((p.put_since now).put_req p.cfg.feat).put_phase 1)).toArray (by kernel_rfl) rfl (of_decide_eq_true rfl) (by kernel_rfl)) (fun e3 HN => ?_) hK rfl rfl rfl; clear hK K
  replace HM := HN; clear HN; try simp only [nrm]
  refine bP 3 rfl (fun K hK => ?_)
  rw [if_pos (show Region.wanted _ _ = true from rfl)]
  refine fG (aL (v := .agg (bL p.cfg.feat).toArray) rfl rfl (aX HM.b1 1 [.int .i64 p.cfg.feat.io, .bool p.cfg.feat.oob, .bool p.cfg.feat.bond, .bool p.cfg.feat.mitm, .bool p.cfg.feat.sid, .bool p.cfg.feat.tid] rfl U23 rfl (by kernel_rfl)) ?_)
  refine hK.out _ _ ?_; clear hK K; try simp only [nrm]
  refine aV (v := ?_) 4 rfl ?_ ?_; rotate_left; (intro W K hK; go_simp; exact hK.out); simp only [nrm]
  refine bP 5 rfl (fun K hK => ?_)
  rw [if_pos (show Region.wanted _ _ = true from rfl)]
  refine dZ (ty := 43) (cs := #[.int .i64 1, .int .i64 p.cfg.feat.io, .bool p.cfg.feat.oob, .bool p.cfg.feat.bond, .bool p.cfg.feat.mitm, .bool p.cfg.feat.sid, .bool p.cfg.feat.tid, .int .u32 0, .int .u64 0, .int .i64 0, .int .u64 0, .int .u64 0, .int .i64 0]) (fun g => .slice (some ⟨g, 0, none⟩) 1 1) (by kernel_rfl) (fun e4 e5 b8 O U Z => ?_)
  refine hK.out _ _ ?_; clear hK K; try simp only [nrm]
  replace HM := HM.alloc O U Z
  clear U O b8 Z
  refine aV (v := ?_) 7 rfl ?_ ?_; rotate_left; (intro W K hK; go_simp; exact hK.out); simp only [nrm]
  refine aV (v := ?_) 8 rfl ?_ ?_; rotate_left; (intro W K hK; go_simp; exact hK.out); simp only [nrm]
  refine fE ?_
  go_wp2_with with_reducible refine sy ?_
  refine rc3 HM.b1 U37 ?_
  have q1 := q.out
  replace HM := Mem.oneS ⟨1, ⟨p.cfg.feat.io, p.cfg.feat.oob, p.cfg.feat.bond, p.cfg.feat.mitm, p.cfg.feat.sid, p.cfg.feat.tid⟩, 0#32, 0#64, ⟨⟨0, 0#64⟩, 0#64⟩, 0⟩ HM
  have ek : bX p now = ((((p.put_since now).put_req p.cfg.feat).put_phase 1), [(⟨1, ⟨p.cfg.feat.io, p.cfg.feat.oob, p.cfg.feat.bond, p.cfg.feat.mitm, p.cfg.feat.sid, p.cfg.feat.tid⟩, 0#32, 0#64, ⟨⟨0, 0#64⟩, 0#64⟩, 0⟩ : Sec)], 0) := by unfold bX; first | (rw [if_pos (by first | exact .inr (by assumption) | exact .inl (fun h => absurd ((iJ h).symm.trans (by assumption)) (by decide)))]; done) | (rw [if_neg (by rintro (h | h); exact h (of_decide_eq_true (by assumption)); exact h (by assumption))] <;> rfl)
  rw [ek]
  unfold oV; rw [hbs.out]; exact ⟨_, rfl, HM.below, HM.sent⟩
 rw [if_pos (show Region.wanted _ _ = true from rfl)]
 refine fG (aL (v := .agg (bL p.cfg.feat).toArray) rfl rfl (aX HM.b1 1 [.int .i64 p.cfg.feat.io, .bool p.cfg.feat.oob, .bool p.cfg.feat.bond, .bool p.cfg.feat.mitm, .bool p.cfg.feat.sid, .bool p.cfg.feat.tid] rfl U23 rfl (by kernel_rfl)) ?_)
 refine hK.out _ _ ?_; clear hK K; try simp only [nrm]
 refine aV (v := ?_) 4 rfl ?_ ?_; rotate_left; (intro W K hK; go_simp; exact hK.out); simp only [nrm]
 refine eV 0 5 rfl rfl (fun K hK => ?_) (fun K hK => ?_)
 ·
  rw [if_pos (show Region.wanted _ _ = true from rfl)]
  refine fG (aL (v := .agg (prL (((p.put_since now).put_req p.cfg.feat).put_phase 1)).toArray) rfl rfl (aX HM.b1 0 (prL (((p.put_since now).put_req p.cfg.feat).put_phase 1)) rfl U37 rfl (by kernel_rfl)) ?_)
  refine hK.out _ _ ?_; clear hK K; try simp only [nrm]
  refine eV 5 6 rfl rfl (fun K hK => ?_) (fun K hK => ?_)
  ·
   rw [if_pos (show Region.wanted _ _ = true from rfl)]
   refine dZ (ty := 43) (cs := #[.int .i64 1, .int .i64 p.cfg.feat.io, .bool p.cfg.feat.oob, .bool p.cfg.feat.bond, .bool p.cfg.feat.mitm, .bool p.cfg.feat.sid, .bool p.cfg.feat.tid, .int .u32 0, .int .u64 0, .int .i64 0, .int .u64 0, .int .u64 0, .int .i64 0]) (fun g => .slice (some ⟨g, 0, none⟩) 1 1) (by kernel_rfl) (fun e6 e7 b9 a0 a1 a2 => ?_)
   refine hK.out _ _ ?_; clear hK K; try simp only [nrm]
   replace HM := HM.alloc a0 a1 a2
   clear a1 a0 b9 a2
   refine bP 6 rfl (fun K hK => ?_)
   refine gE (.agg (prL (((p.put_since now).put_req p.cfg.feat).put_phase 1)).toArray) rfl (HM.swap.hole (P := Tryz.prog) (ty := 37) 0 (prL (((p.put_since now).put_req p.cfg.feat).put_phase 1)).toArray (prL (((p.put_since now).put_req p.cfg.feat).put_phase 1)).toArray (by kernel_rfl) rfl (of_decide_eq_true rfl) (by kernel_rfl)) (fun e8 HN => ?_) hK rfl rfl rfl; clear hK K
   replace HM := HN.swap; clear HN; try simp only [nrm]
   refine aV (v := ?_) 7 rfl ?_ ?_; rotate_left; (intro W K hK; go_simp; exact hK.out); simp only [nrm]
   refine aV (v := ?_) 8 rfl ?_ ?_; rotate_left; (intro W K hK; go_simp; exact hK.out); simp only [nrm]
   refine fE ?_
   go_wp2_with with_reducible refine sy ?_
   refine rc3 HM.b1 U37 ?_
   have q1 := q.out
   replace HM := Mem.oneS ⟨1, ⟨p.cfg.feat.io, p.cfg.feat.oob, p.cfg.feat.bond, p.cfg.feat.mitm, p.cfg.feat.sid, p.cfg.feat.tid⟩, 0#32, 0#64, ⟨⟨0, 0#64⟩, 0#64⟩, 0⟩ HM
   have ek : bX p now = ((((p.put_since now).put_req p.cfg.feat).put_phase 1), [(⟨1, ⟨p.cfg.feat.io, p.cfg.feat.oob, p.cfg.feat.bond, p.cfg.feat.mitm, p.cfg.feat.sid, p.cfg.feat.tid⟩, 0#32, 0#64, ⟨⟨0, 0#64⟩, 0#64⟩, 0⟩ : Sec)], 0) := by unfold bX; first | (rw [if_pos (by first | exact .inr (by assumption) | exact .inl (fun h => absurd ((iJ h).symm.trans (by assumption)) (by decide)))]; done) | (rw [if_neg (by rintro (h | h); exact h (of_decide_eq_true (by assumption)); exact h (by assumption))] <;> rfl)
   rw [ek]
   unfold oV; rw [hbs.out]; exact ⟨_, rfl, HM.below, HM.sent⟩
  refine gE (.agg (prL (((p.put_since now).put_req p.cfg.feat).put_phase 1)).toArray) rfl (HM.hole (P := Tryz.prog) (ty := 37) 0 (prL (((p.put_since now).put_req p.cfg.feat).put_phase 1)).toArray (prL (((p.put_since now).put_req p.cfg.feat).put_phase 1)).toArray (by kernel_rfl) rfl (of_decide_eq_true rfl) (by kernel_rfl)) (fun e9 HN => ?_) hK rfl rfl rfl; clear hK K
  replace HM := HN; clear HN; try simp only [nrm]
  refine bP 5 rfl (fun K hK => ?_)
  rw [if_pos (show Region.wanted _ _ = true from rfl)]
  refine dZ (ty := 43) (cs := #[.int .i64 1, .int .i64 p.cfg.feat.io, .bool p.cfg.feat.oob, .bool p.cfg.feat.bond, .bool p.cfg.feat.mitm, .bool p.cfg.feat.sid, .bool p.cfg.feat.tid, .int .u32 0, .int .u64 0, .int .i64 0, .int .u64 0, .int .u64 0, .int .i64 0]) (fun g => .slice (some ⟨g, 0, none⟩) 1 1) (by kernel_rfl) (fun f0 f1 c0 a3 a4 a5 => ?_)
  refine hK.out _ _ ?_; clear hK K; try simp only [nrm]
  replace HM := HM.alloc a3 a4 a5
  clear a4 a3 c0 a5
  refine aV (v := ?_) 7 rfl ?_ ?_; rotate_left; (intro W K hK; go_simp; exact hK.out); simp only [nrm]
  refine aV (v := ?_) 8 rfl ?_ ?_; rotate_left; (intro W K hK; go_simp; exact hK.out); simp only [nrm]
  refine fE ?_
  go_wp2_with with_reducible refine sy ?_
  refine rc3 HM.b1 U37 ?_
  have q1 := q.out
  replace HM := Mem.oneS ⟨1, ⟨p.cfg.feat.io, p.cfg.feat.oob, p.cfg.feat.bond, p.cfg.feat.mitm, p.cfg.feat.sid, p.cfg.feat.tid⟩, 0#32, 0#64, ⟨⟨0, 0#64⟩, 0#64⟩, 0⟩ HM
  have ek : bX p now = ((((p.put_since now).put_req p.cfg.feat).put_phase 1), [(⟨1, ⟨p.cfg.feat.io, p.cfg.feat.oob, p.cfg.feat.bond, p.cfg.feat.mitm, p.cfg.feat.sid, p.cfg.feat.tid⟩, 0#32, 0#64, ⟨⟨0, 0#64⟩, 0#64⟩, 0⟩ : Sec)], 0) := by unfold bX; first | (rw [if_pos (by first | exact .inr (by assumption) | exact .inl (fun h => absurd ((iJ h).symm.trans (by assumption)) (by decide)))]; done) | (rw [if_neg (by rintro (h | h); exact h (of_decide_eq_true (by assumption)); exact h (by assumption))] <;> rfl)
  rw [ek]
  unfold oV; rw [hbs.out]; exact ⟨_, rfl, HM.below, HM.sent⟩
 rw [if_pos (show Region.wanted _ _ = true from rfl)]
 refine dZ (ty := 43) (cs := #[.int .i64 1, .int .i64 p.cfg.feat.io, .bool p.cfg.feat.oob, .bool p.cfg.feat.bond, .bool p.cfg.feat.mitm, .bool p.cfg.feat.sid, .bool p.cfg.feat.tid, .int .u32 0, .int .u64 0, .int .i64 0, .int .u64 0, .int .u64 0, .int .i64 0]) (fun g => .slice (some ⟨g, 0, none⟩) 1 1) (by kernel_rfl) (fun f2 f3 c4 a6 a7 a8 => ?_)
 refine hK.out _ _ ?_; clear hK K; try simp only [nrm]
 replace HM := HM.alloc a6 a7 a8
 clear a7 a6 c4 a8
 refine bP 0 rfl (fun K hK => ?_)
 rw [if_pos (show Region.wanted _ _ = true from rfl)]
 refine fG (aL (v := .agg (prL (((p.put_since now).put_req p.cfg.feat).put_phase 1)).toArray) rfl rfl (aX HM.b2 0 (prL (((p.put_since now).put_req p.cfg.feat).put_phase 1)) rfl U37 rfl (by kernel_rfl)) ?_)
 refine hK.out _ _ ?_; clear hK K; try simp only [nrm]
 refine bP 6 rfl (fun K hK => ?_)
 refine gE (.agg (prL (((p.put_since now).put_req p.cfg.feat).put_phase 1)).toArray) rfl (HM.swap.hole (P := Tryz.prog) (ty := 37) 0 (prL (((p.put_since now).put_req p.cfg.feat).put_phase 1)).toArray (prL (((p.put_since now).put_req p.cfg.feat).put_phase 1)).toArray (by kernel_rfl) rfl (of_decide_eq_true rfl) (by kernel_rfl)) (fun f4 HN => ?_) hK rfl rfl rfl; clear hK K
 replace HM := HN.swap; clear HN; try simp only [nrm]
 refine aV (v := ?_) 7 rfl ?_ ?_; rotate_left; (intro W K hK; go_simp; exact hK.out); simp only [nrm]
 refine aV (v := ?_) 8 rfl ?_ ?_; rotate_left; (intro W K hK; go_simp; exact hK.out); simp only [nrm]
 refine fE ?_
 go_wp2_with with_reducible refine sy ?_
 refine rc3 HM.b1 U37 ?_
 have q1 := q.out
 replace HM := Mem.oneS ⟨1, ⟨p.cfg.feat.io, p.cfg.feat.oob, p.cfg.feat.bond, p.cfg.feat.mitm, p.cfg.feat.sid, p.cfg.feat.tid⟩, 0#32, 0#64, ⟨⟨0, 0#64⟩, 0#64⟩, 0⟩ HM
 have ek : bX p now = ((((p.put_since now).put_req p.cfg.feat).put_phase 1), [(⟨1, ⟨p.cfg.feat.io, p.cfg.feat.oob, p.cfg.feat.bond, p.cfg.feat.mitm, p.cfg.feat.sid, p.cfg.feat.tid⟩, 0#32, 0#64, ⟨⟨0, 0#64⟩, 0#64⟩, 0⟩ : Sec)], 0) := by unfold bX; first | (rw [if_pos (by first | exact .inr (by assumption) | exact .inl (fun h => absurd ((iJ h).symm.trans (by assumption)) (by decide)))]; done) | (rw [if_neg (by rintro (h | h); exact h (of_decide_eq_true (by assumption)); exact h (by assumption))] <;> rfl)
 rw [ek]
 unfold oV; rw [hbs.out]; exact ⟨_, rfl, HM.below, HM.sent⟩
end Go.Proofs.YtihmbcnccdiecaaGreatDoor
