/- Part of the proofs of the laws of pairing. -/
import Derived.Test.YtihmbcnccdiecaaGreatDoorBSdD
namespace Go.Proofs.YtihmbcnccdiecaaGreatDoor
set_option maxRecDepth 100000
set_option linter.unusedVariables false
set_option linter.unusedSimpArgs false
open Go.ChangeShapes Go.WideShapes Go.ChangeAt Go.RowKit
theorem rU (base g : Nat) (S : Sd)  (v u : Value) (bx : List Bk) (w : World) (HM : Mem w w base S.sent S.told v u ((g, cQ, (sdL S v u).toArray) :: bx)) (h : cC S.p.req S.p.res = true) :
  Calls Tryz.prog 69 #[.pointer (some ⟨g, 0, none⟩)] w (fun e w' => e = .returned (.bool true) ∧ eA w w' base g (((S.put_method (bC S.p.req S.p.res).1).put_phase 2)) bx) := by
 go_enter Tryz.func69, Tryz.ntmps69
 go_wp2_with with_reducible refine so ?_
 have hst := bM HM
 refine aD _ 12 hst (HM.drew) ?_
 clear HM
 refine aA 0 hst ?_
 refine aA 1 hst ?_
 refine aA 2 hst ?_
 refine aA 3 hst ?_
 refine dA 4 28 (bL S.p.req) (fun W hS => hS.b0) U23 hst ?_
 refine aA 5 hst ?_
 refine aA 6 hst ?_
 refine aA 7 hst ?_
 refine aA 8 hst ?_
 refine dA 9 34 (bL S.p.res) (fun W hS => hS.b0) U23 hst ?_
 refine aF 10 rfl hst (fun W hS K hK => by go_simp; exact cl (uS S.p.req S.p.res _ hS.laid) hK) ?_
 refine aA 11 hst ?_
 refine aE (fun q hS => ?_)
 have HM := hS
 clear hst
 go_wp2_with with_reducible refine so ?_
 try simp only [nrm]
 have hst := bM HM
 refine cY _ (fun W => ∃ x0, Mem w W base S.sent S.told v u ((g, 92, (sdL (S.put_method x0) v u).toArray) :: bx)) hst (fun W h => ⟨S.p.method, h⟩) HM.drew 19 ?_
 clear HM
 refine aA 0 hst ?_ (h0 := fun _ h => ⟨S.p.method, h⟩)
 refine aA 1 hst ?_ (h0 := fun _ h => ⟨S.p.method, h⟩)
 refine aA 2 hst ?_ (h0 := fun _ h => ⟨S.p.method, h⟩)
 refine aA 3 hst ?_ (h0 := fun _ h => ⟨S.p.method, h⟩)
 refine aA 4 hst ?_ (h0 := fun _ h => ⟨S.p.method, h⟩)
 refine bH (v := .agg (bL S.p.req).toArray) 5 hst (fun _ h => ⟨S.p.method, h⟩) rfl (fun W hS K hK => aL rfl rfl (aX hS.choose_spec.b0 28 (bL S.p.req) rfl U23 rfl (by kernel_rfl)) (hK.out _ (Below.refl _ _))) ?_; simp only [nrm]
 refine aA 6 hst ?_ (h0 := fun _ h => ⟨S.p.method, h⟩)
 refine aA 7 hst ?_ (h0 := fun _ h => ⟨S.p.method, h⟩)
 refine aA 8 hst ?_ (h0 := fun _ h => ⟨S.p.method, h⟩)
 refine aA 9 hst ?_ (h0 := fun _ h => ⟨S.p.method, h⟩)
 refine bH (v := .agg (bL S.p.res).toArray) 10 hst (fun _ h => ⟨S.p.method, h⟩) rfl (fun W hS K hK => aL rfl rfl (aX hS.choose_spec.b0 34 (bL S.p.res) rfl U23 rfl (by kernel_rfl)) (hK.out _ (Below.refl _ _))) ?_; simp only [nrm]
 refine bH (v := ?_) 11 hst (fun _ h => ⟨S.p.method, h⟩) rfl ?_ ?_; rotate_left; (intro W hS K hK; go_simp; refine (rB S.p.req S.p.res _ hS.choose_spec.laid).mono ?_; rintro e w9 ⟨rfl, hb⟩; refine fI.mk ?_; exact hK.out _ (hb)); simp only [nrm]
 refine aA 12 hst ?_ (h0 := fun _ h => ⟨S.p.method, h⟩)
 refine aA 13 hst ?_ (h0 := fun _ h => ⟨S.p.method, h⟩)
 refine aA 14 hst ?_ (h0 := fun _ h => ⟨S.p.method, h⟩)
 refine aA 15 hst ?_ (h0 := fun _ h => ⟨S.p.method, h⟩)
 refine aA 16 hst ?_ (h0 := fun _ h => ⟨S.p.method, h⟩)
 refine aA 17 hst ?_ (h0 := fun _ h => ⟨S.p.method, h⟩)
 refine dP (S' := fun W => Mem w W base S.sent S.told v u ((g, 92, (sdL (S.put_method ((bC S.p.req S.p.res).1)) v u).toArray) :: bx)) 18 (.int .i64 ((bC S.p.req S.p.res).1)) rfl rfl rfl rfl (fun W hS => hS.hole1 21 (.int .i64 ((bC S.p.req S.p.res).1)) (sdL (S.put_method ((bC S.p.req S.p.res).1)) v u).toArray rfl (by kernel_rfl) rfl (of_decide_eq_true rfl) (by kernel_rfl)) (bD _ _ _ _ _ _ _) (fun W h => ⟨(((bC S.p.req S.p.res).1)), h⟩) ?_; simp only [nrm]
 clear hst
 have hst : aO fun W => Mem w W base S.sent S.told v u ((g, 92, (sdL (S.put_method ((bC S.p.req S.p.res).1)) v u).toArray) :: bx) := bD _ _ _ _ _ _ _
 refine aE (fun z hS => ?_)
 have HM := hS
 clear hst
 go_wp2_with with_reducible refine so ?_
 refine yk 19 (sdL ((S.put_method ((bC S.p.req S.p.res).1)).put_phase 2) v u).toArray HM.b0 HM.s0 ?_; clear HM; intro C HM
 go_wp2_with with_reducible refine so ?_
 go_returns
 exact ⟨rfl, v, u, HM⟩
theorem rN (base g : Nat) (S : Sd)  (v u : Value) (bx : List Bk) (w : World) (HM : Mem w w base S.sent S.told v u ((g, cQ, (sdL S v u).toArray) :: bx)) (h : cC S.p.req S.p.res = false) :
  Calls Tryz.prog 69 #[.pointer (some ⟨g, 0, none⟩)] w (fun e w' => e = .returned (.bool false) ∧ eA w w' base g ((S.fail 3)) bx) := by
 go_enter Tryz.func69, Tryz.ntmps69
 go_wp2_with with_reducible refine so ?_
 have hst := bM HM
 refine aD _ 12 hst (HM.drew) ?_
 clear HM
 refine aA 0 hst ?_
 refine aA 1 hst ?_
 refine aA 2 hst ?_
 refine aA 3 hst ?_
 refine dA 4 28 (bL S.p.req) (fun W hS => hS.b0) U23 hst ?_
 refine aA 5 hst ?_
 refine aA 6 hst ?_
 refine aA 7 hst ?_
 refine aA 8 hst ?_
 refine dA 9 34 (bL S.p.res) (fun W hS => hS.b0) U23 hst ?_
 refine aF 10 rfl hst (fun W hS K hK => by go_simp; exact cl (uS S.p.req S.p.res _ hS.laid) hK) ?_
 refine aA 11 hst ?_
 refine aE (fun C hS => ?_)
 have HM := hS
 clear hst
 go_wp2_with with_reducible refine so ?_
 refine bd HM (cI _ _ S 3 _ _ _ _ HM.here) ?_; clear HM; intro q z D HM
 go_wp2_with with_reducible refine so ?_
 go_returns
 exact ⟨rfl, q, z, HM⟩
set_option maxHeartbeats 1000000 in
theorem C4 (base g : Nat) (S : Sd) (d : Sec) (v u : Value) (bx : List Bk) (w : World) (HM : Mem w w base S.sent S.told v u ((g, cQ, (sdL S v u).toArray) :: bx)) :
  Calls Tryz.prog 79 #[.pointer (some ⟨g, 0, none⟩), .agg (aI d).toArray] w (fun e w' => e = .returned (.bool (S.take d).2) ∧ eA w w' base g ((S.take d).1) bx) := by
 go_enter Tryz.func79, Tryz.ntmps79
 go_wp2_with with_reducible refine so ?_
 refine HM.nw1 (ty := 43) (cs := (aI d).toArray) ?_; clear HM; intro U Z HM
 by_cases q : (d.kind : Int) = 3
 rotate_left
 ·
  obtain ⟨F, I, z⟩ := fF q; clear q
  have a0 := HM.b1.c 0 (.int .i64 d.kind)
  go_wp2_with with_reducible refine so ?_
  go_returns
  have q0 := z.out
  exact sE2 (by unfold Sd.take; exact es9) HM.drop1
 obtain ⟨F, I, z⟩ := fT q; clear q
 rcases a1 : S.p.have_ with _ | _
 rotate_left
 ·
  have a2 := HM.b1.c 0 (.int .i64 d.kind)
  have a3 := HM.b0.c 45 (.bool S.p.have_)
  go_wp2_with with_reducible refine so ?_
  go_returns
  have q0 := z.out
  exact sE2 (by unfold Sd.take; exact es9) HM.drop1
 have J := HM.b1.c 0 (.int .i64 d.kind)
 have L := HM.b0.c 45 (.bool S.p.have_)
 go_wp2_with with_reducible refine so ?_
 refine bd HM (eL _ _ S _ _ _ _ HM.here) ?_; clear HM; intro C D a4 HM; clear J L
 have O := HM.b1.c 8 (.int .u64 (W64 d.value))
 go_wp2_with with_reducible refine so ?_
 refine yk 44 (sdL (S.accept.put_commit d.value) C D).toArray HM.b0 HM.s0 ?_; clear HM; intro a5 HM; clear O
 go_wp2_with with_reducible refine so ?_
 refine yk 45 (sdL ((S.accept.put_commit d.value).put_have_ true) C D).toArray HM.b0 HM.s0 ?_; clear HM; intro a6 HM
 go_wp2_with with_reducible refine so ?_
 go_returns
 have q0 := z.out
 exact sE2 (by unfold Sd.take; exact es9) HM.drop1
theorem KN {S : Sd} {d : Sec} (h1 : d.kind = 3) (h2 : S.p.have_ = false) : S.take d = ((S.accept.put_commit d.value).put_have_ true, true) := by unfold Sd.take; rw [if_neg (by simp [h1, h2])]; rfl
theorem K8 {S : Sd} {d : Sec} (h : ¬ (d.kind = 3 ∧ S.p.have_ = false)) : S.take d = (S, false) := by
  unfold Sd.take; rw [if_pos]
  by_cases h1 : d.kind = 3
  · right
    cases h2 : S.p.have_
    · exact absurd ⟨h1, h2⟩ h
    · rfl
  · exact .inl h1
theorem qN (base g : Nat) (S : Sd) (d : Sec) (v u : Value) (bx : List Bk) (w : World) (HM : Mem w w base S.sent S.told v u ((g, cQ, (sdL S v u).toArray) :: bx))  (h1 : d.kind = 3) (h2 : S.p.have_ = false) :
    Calls Tryz.prog 79 #[.pointer (some ⟨g, 0, none⟩), .agg (aI d).toArray] w (fun e w' => e = .returned (.bool true) ∧ eA w w' base g ((S.accept.put_commit d.value).put_have_ true) bx) := by
  have h := C4 base g S d v u bx w HM 
  rw [KN h1 h2] at h
  exact h
theorem kI (base g : Nat) (S : Sd) (d : Sec) (v u : Value) (bx : List Bk) (w : World) (HM : Mem w w base S.sent S.told v u ((g, cQ, (sdL S v u).toArray) :: bx))  (hh : ¬ (d.kind = 3 ∧ S.p.have_ = false)) :
    Calls Tryz.prog 79 #[.pointer (some ⟨g, 0, none⟩), .agg (aI d).toArray] w (fun e w' => e = .returned (.bool false) ∧ eA w w' base g S bx) := by
  have h := C4 base g S d v u bx w HM 
  rw [K8 hh] at h
  exact h
set_option maxHeartbeats 1000000 in
theorem DL (base g : Nat) (S : Sd) (d : Sec) (v u : Value) (bx : List Bk) (w : World) (HM : Mem w w base S.sent S.told v u ((g, cQ, (sdL S v u).toArray) :: bx)) (h0 : 0 ≤ S.p.round) (h1 : S.p.round ≤ 64) :
  Calls Tryz.prog 106 #[.pointer (some ⟨g, 0, none⟩), .agg (aI d).toArray] w (fun e w' => e = .returned (.bool (S.open_ d).2) ∧ eA w w' base g ((S.open_ d).1) bx) := by
 go_enter Tryz.func106, Tryz.ntmps106
 go_wp2_with with_reducible refine so ?_
 refine HM.nw1 (ty := 43) (cs := (aI d).toArray) ?_; clear HM; intro C F HM
 go_wp2_with with_reducible refine so ?_
 refine bd HM (eL _ _ S _ _ _ _ HM.here) ?_; clear HM; intro q z I HM
 have D := HM.b1.c 8 (.int .u64 (W64 d.value))
 go_wp2_with with_reducible refine so ?_
 refine bt HM.to (GV _ _ _ _ d.value _ HM.b0 h0 h1 (Sd.opens S.accept d.value) rfl) ?_; clear HM; intro J HM; clear D
 rcases L : Sd.opens S.accept d.value with _ | _
 ·
  go_wp2_with with_reducible refine so ?_
  refine bd HM (cI _ _ S.accept 4 _ _ _ _ HM.here) ?_; clear HM; intro O U Z HM
  go_wp2_with with_reducible refine so ?_
  go_returns
  exact sE2 (by unfold Sd.open_; exact es9) HM.drop1
 go_wp2_with with_reducible refine so ?_
 try simp only [nrm]
 have hst := bM HM
 refine cY _ (fun W => ∃ x0 x1 x2, Mem w W base S.accept.sent S.accept.told q z ((g, 92, (sdL (((S.accept.put_have_ x0).put_commit x1).put_other x2) q z).toArray) :: (C, 43, (aI d).toArray) :: bx)) hst (fun W h => ⟨S.p.have_, S.p.commit, S.p.other, h⟩) HM.drew 17 ?_
 clear HM
 refine aA 0 hst ?_ (h0 := fun _ h => ⟨S.p.have_, S.p.commit, S.p.other, h⟩)
 refine aA 1 hst ?_ (h0 := fun _ h => ⟨S.p.have_, S.p.commit, S.p.other, h⟩)
 refine aA 2 hst ?_ (h0 := fun _ h => ⟨S.p.have_, S.p.commit, S.p.other, h⟩)
 refine aA 3 hst ?_ (h0 := fun _ h => ⟨S.p.have_, S.p.commit, S.p.other, h⟩)
 refine bH (v := ?_) 4 hst (fun _ h => ⟨S.p.have_, S.p.commit, S.p.other, h⟩) rfl ?_ ?_; rotate_left; (intro W hS K hK; have ld : W.cell? ⟨C, 8, none⟩ = some (.int .u64 (W64 d.value)) := hS.choose_spec.choose_spec.choose_spec.b1.cell 8; clear hS; go_simp; exact hK.out _ (Below.refl _ _)); simp only [nrm]
 refine aA 5 hst ?_ (h0 := fun _ h => ⟨S.p.have_, S.p.commit, S.p.other, h⟩)
 refine aA 6 hst ?_ (h0 := fun _ h => ⟨S.p.have_, S.p.commit, S.p.other, h⟩)
 refine aA 7 hst ?_ (h0 := fun _ h => ⟨S.p.have_, S.p.commit, S.p.other, h⟩)
 refine dP (S' := fun W => Mem w W base S.accept.sent S.accept.told q z ((g, 92, (sdL (S.accept.put_have_ false) q z).toArray) :: (C, 43, (aI d).toArray) :: bx)) 8 (.bool false) rfl rfl rfl rfl (fun W hS => hS.hole1 45 (.bool false) (sdL (S.accept.put_have_ false) q z).toArray rfl (by kernel_rfl) rfl (of_decide_eq_true rfl) (by kernel_rfl)) (bD _ _ _ _ _ _ _) (fun W h => ⟨false, S.p.commit, S.p.other, h⟩) ?_; simp only [nrm]
 clear hst
 have hst : aO fun W => Mem w W base S.accept.sent S.accept.told q z ((g, 92, (sdL (S.accept.put_have_ false) q z).toArray) :: (C, 43, (aI d).toArray) :: bx) := bD _ _ _ _ _ _ _
 refine aA 9 hst ?_ (h0 := fun _ h => ⟨false, S.p.commit, S.p.other, h⟩)
 refine aA 10 hst ?_ (h0 := fun _ h => ⟨false, S.p.commit, S.p.other, h⟩)
 refine aA 11 hst ?_ (h0 := fun _ h => ⟨false, S.p.commit, S.p.other, h⟩)
 refine dP (S' := fun W => Mem w W base S.accept.sent S.accept.told q z ((g, 92, (sdL ((S.accept.put_have_ false).put_commit (0#64)) q z).toArray) :: (C, 43, (aI d).toArray) :: bx)) 12 (.int .u64 0) rfl rfl rfl rfl (fun W hS => hS.hole1 44 (.int .u64 0) (sdL ((S.accept.put_have_ false).put_commit (0#64)) q z).toArray rfl (by kernel_rfl) rfl (of_decide_eq_true rfl) (by kernel_rfl)) (bD _ _ _ _ _ _ _) (fun W h => ⟨false, ((0#64)), S.p.other, h⟩) ?_; simp only [nrm]
 clear hst
 have hst : aO fun W => Mem w W base S.accept.sent S.accept.told q z ((g, 92, (sdL ((S.accept.put_have_ false).put_commit (0#64)) q z).toArray) :: (C, 43, (aI d).toArray) :: bx) := bD _ _ _ _ _ _ _
 refine aA 13 hst ?_ (h0 := fun _ h => ⟨false, ((0#64)), S.p.other, h⟩)
 refine aA 14 hst ?_ (h0 := fun _ h => ⟨false, ((0#64)), S.p.other, h⟩)
 refine aA 15 hst ?_ (h0 := fun _ h => ⟨false, ((0#64)), S.p.other, h⟩)
 refine dP (S' := fun W => Mem w W base S.accept.sent S.accept.told q z ((g, 92, (sdL (((S.accept.put_have_ false).put_commit (0#64)).put_other d.value) q z).toArray) :: (C, 43, (aI d).toArray) :: bx)) 16 (.int .u64 (W64 d.value)) rfl rfl rfl rfl (fun W hS => hS.hole1 43 (.int .u64 (W64 d.value)) (sdL (((S.accept.put_have_ false).put_commit (0#64)).put_other d.value) q z).toArray rfl (by kernel_rfl) rfl (of_decide_eq_true rfl) (by kernel_rfl)) (bD _ _ _ _ _ _ _) (fun W h => ⟨false, ((0#64)), d.value, h⟩) ?_; simp only [nrm]
 clear hst
 have hst : aO fun W => Mem w W base S.accept.sent S.accept.told q z ((g, 92, (sdL (((S.accept.put_have_ false).put_commit (0#64)).put_other d.value) q z).toArray) :: (C, 43, (aI d).toArray) :: bx) := bD _ _ _ _ _ _ _
 refine aE (fun a0 hS => ?_)
 have HM := hS
 clear hst
 go_wp2_with with_reducible refine so ?_
 go_returns
 exact sE2 (by unfold Sd.open_; exact es9) HM.drop1
theorem K6 {S : Sd} {d : Sec} (h : S.opens d.value = true) : S.open_ d = (((S.accept.put_have_ false).put_commit 0#64).put_other d.value, true) := by unfold Sd.open_; rw [if_neg (by simp [h])]; rfl
theorem KR {S : Sd} {d : Sec} (h : S.opens d.value = false) : S.open_ d = (S.accept.fail 4, false) := by unfold Sd.open_; rw [if_pos h]
theorem oT (base g : Nat) (S : Sd) (d : Sec) (v u : Value) (bx : List Bk) (w : World) (HM : Mem w w base S.sent S.told v u ((g, cQ, (sdL S v u).toArray) :: bx)) (h0 : 0 ≤ S.p.round) (h1 : S.p.round ≤ 64) (hh : S.opens d.value = true) :
    Calls Tryz.prog 106 #[.pointer (some ⟨g, 0, none⟩), .agg (aI d).toArray] w (fun e w' => e = .returned (.bool true) ∧ eA w w' base g (((S.accept.put_have_ false).put_commit 0#64).put_other d.value) bx) := by
  have h := DL base g S d v u bx w HM h0 h1
  rw [K6 hh] at h
  exact h
theorem oP (base g : Nat) (S : Sd) (d : Sec) (v u : Value) (bx : List Bk) (w : World) (HM : Mem w w base S.sent S.told v u ((g, cQ, (sdL S v u).toArray) :: bx)) (h0 : 0 ≤ S.p.round) (h1 : S.p.round ≤ 64) (hh : S.opens d.value = false) :
    Calls Tryz.prog 106 #[.pointer (some ⟨g, 0, none⟩), .agg (aI d).toArray] w (fun e w' => e = .returned (.bool false) ∧ eA w w' base g (S.accept.fail 4) bx) := by
  have h := DL base g S d v u bx w HM h0 h1
  rw [KR hh] at h
  exact h
theorem lE (base g : Nat) (S : Sd)  (v u : Value) (bx : List Bk) (w : World) (HM : Mem w w base S.sent S.told v u ((g, cQ, (sdL S v u).toArray) :: bx)) (ls : S.sent.length ≤ 990) (h : byR S (aT S.p.req S.p.res).1 (aT S.p.req S.p.res).2 = true) :
  Calls Tryz.prog 61 #[.pointer (some ⟨g, 0, none⟩)] w (fun e w' => e = .returned (.tuple #[]) ∧ eA w w' base g ((S.send { cL with kind := 8, idn := S.p.cfg.idn })) bx) := by
 go_enter Tryz.func61, Tryz.ntmps61
 go_wp2_with with_reducible refine so ?_
 refine bt HM.to (iY _ _ _ _ _ HM.b0 (byR S (aT S.p.req S.p.res).1 (aT S.p.req S.p.res).2, byR S (aT S.p.req S.p.res).2 (aT S.p.req S.p.res).1) rfl) ?_; clear HM; intro C HM
 go_wp2_with first | with_reducible refine so ?_ | with_reducible refine ld 11 [.int .i64 S.p.cfg.idn.adr.kind, .int .u64 (W64 S.p.cfg.idn.adr.bits), .int .u64 (W64 S.p.cfg.idn.irk)] HM.b0 U29 ?_
 refine bd HM (iR _ _ S ⟨8, ⟨0, false, false, false, false, false⟩, 0#32, 0#64, ⟨⟨S.p.cfg.idn.adr.kind, S.p.cfg.idn.adr.bits⟩, S.p.cfg.idn.irk⟩, 0⟩ _ _ _ _ HM.here bV) ?_; clear HM; intro q z D HM
 go_wp2_with with_reducible refine so ?_
 go_end0
 exact ⟨rfl, q, z, HM⟩
theorem lG (base g : Nat) (S : Sd)  (v u : Value) (bx : List Bk) (w : World) (HM : Mem w w base S.sent S.told v u ((g, cQ, (sdL S v u).toArray) :: bx)) (ls : S.sent.length ≤ 990) (h : byR S (aT S.p.req S.p.res).1 (aT S.p.req S.p.res).2 = false) :
  Calls Tryz.prog 61 #[.pointer (some ⟨g, 0, none⟩)] w (fun e w' => e = .returned (.tuple #[]) ∧ eA w w' base g S bx) := by
 go_enter Tryz.func61, Tryz.ntmps61
 go_wp2_with with_reducible refine so ?_
 refine bt HM.to (iY _ _ _ _ _ HM.b0 (byR S (aT S.p.req S.p.res).1 (aT S.p.req S.p.res).2, byR S (aT S.p.req S.p.res).2 (aT S.p.req S.p.res).1) rfl) ?_; clear HM; intro q HM
 go_wp2_with with_reducible refine so ?_
 go_end0
 exact ⟨rfl, v, u, HM⟩
theorem H6 (x : BitVec 64) : IntKind.i64.wrap (W64 (x % 1000000#64)) = W64 (x % 1000000#64) := IntWalk.i64_in _ (by
  have h : (x % 1000000#64).toNat < 1000000 := by rw [BitVec.toNat_umod]; exact Nat.mod_lt _ (by decide)
  unfold W64
  omega)
theorem qA (base g : Nat) (S : Sd)  (v u : Value) (bx : List Bk) (w : World) (HM : Mem w w base S.sent S.told v u ((g, cQ, (sdL S v u).toArray) :: bx)) (ls : S.sent.length ≤ 950) (lt : S.told.length ≤ 950) (h0 : 0 ≤ S.p.round) (h1 : S.p.round ≤ 64) :
  Calls Tryz.prog 73 #[.pointer (some ⟨g, 0, none⟩)] w (fun e w' => e = .returned (.tuple #[]) ∧ eA w w' base g S.begin_ bx) := by
 have ew := H6 (S.put_phase 3).drawV
 go_enter Tryz.func73, Tryz.ntmps73
 go_wp2_with with_reducible refine so ?_
 refine yk 19 (sdL (S.put_phase 3) v u).toArray HM.b0 HM.s0 ?_; clear HM; intro a0 HM
 by_cases z : (S.p.method : Int) = 6
 ·
  obtain ⟨C, D, q⟩ := fT z; clear z
  have F := HM.b0.c 21 (.int .i64 S.p.method)
  go_wp2_with with_reducible refine so ?_
  refine bt HM.to (bQ _ _ _ _  _ HM.b0 S.first rfl) ?_; clear HM; intro a1 HM; clear F
  rcases a2 : S.first with _ | _
  ·
   go_wp2_with with_reducible refine so ?_
   go_end0
   have q0 := q.out
   exact sE (by unfold Sd.begin_; exact es9) HM
  go_wp2_with with_reducible refine so ?_
  refine bd HM (pX _ _ (S.put_phase 3) _ _ _ _ HM.here) ?_; clear HM; intro I J a3 HM
  go_wp2_with with_reducible refine so ?_
  refine yk 42 (sdL (((S.put_phase 3).draw).put_nonce (eN S.p.cfg.seed S.p.drawn)) I J).toArray HM.b0 HM.s0 ?_; clear HM; intro a4 HM
  go_wp2_with with_reducible refine so ?_
  refine bd HM (jD _ _ (((S.put_phase 3).draw).put_nonce (eN S.p.cfg.seed S.p.drawn)) _ _ _ _ HM.here bV) ?_; clear HM; intro a5 a6 a7 HM
  go_wp2_with with_reducible refine so ?_
  go_end0
  have q0 := q.out
  exact sE (by unfold Sd.begin_; exact es9) HM
 obtain ⟨C, D, q⟩ := fF z; clear z
 have L := HM.b0.c 21 (.int .i64 S.p.method)
 go_wp2_with with_reducible refine so ?_
 refine bt HM.to (eY _ _ _ _  _ HM.b0 (aU S.p.method) rfl) ?_; clear HM; intro a8 HM; clear L
 rcases a9 : aU S.p.method with _ | _
 ·
  go_wp2_with with_reducible refine so ?_
  refine bt HM.to (bQ _ _ _ _  _ HM.b0 S.first rfl) ?_; clear HM; intro b1 HM
  rcases b2 : S.first with _ | _
  ·
   go_wp2_with with_reducible refine so ?_
   refine bd HM (jC _ _ (S.put_phase 3) _ _ _ _ HM.here bV (by first | exact h0 | exact h0p) (by first | exact h1 | exact h1p)) ?_; clear HM; intro b3 b4 b5 HM
   go_wp2_with with_reducible refine so ?_
   go_end0
   have q0 := q.out
   exact sE (by unfold Sd.begin_; exact es9) HM
  go_wp2_with with_reducible refine so ?_
  go_end0
  have q0 := q.out
  exact sE (by unfold Sd.begin_; exact es9) HM
 go_wp2_with with_reducible refine so ?_
 refine bt HM.to (G0 _ _ _ _  _ HM.b0 (Sd.shows (S.put_phase 3)) rfl) ?_; clear HM; intro b6 HM
 rcases b7 : Sd.shows (S.put_phase 3) with _ | _
 ·
  go_wp2_with with_reducible refine so ?_
  refine yk 19 (sdL ((S.put_phase 3).put_phase 4) v u).toArray HM.b0 HM.s0 ?_; clear HM; intro b8 HM
  go_wp2_with with_reducible refine so ?_
  refine bd HM (sF _ _ ((S.put_phase 3).put_phase 4) ⟨2, 0, 0#64, false, ⟨⟨0, 0#64⟩, 0#64⟩, 0⟩ _ _ _ _ HM.here bV) ?_; clear HM; intro b9 c0 c4 HM
  go_wp2_with with_reducible refine so ?_
  go_end0
  have q0 := q.out
  exact sE (by unfold Sd.begin_; exact es9) HM
 go_wp2_with with_reducible refine so ?_
 refine bd HM (pX _ _ (S.put_phase 3) _ _ _ _ HM.here) ?_; clear HM; intro O U c5 HM
 go_wp2_with with_reducible refine so ?_
 refine yk 46 (sdL (((S.put_phase 3).draw).put_passkey (W64 ((eN S.p.cfg.seed S.p.drawn) % (1000000#64)))) O U).toArray HM.b0 HM.s0 ?_; clear HM; intro c6 HM
 have Z := HM.b0.c 46 (.int .i64 (W64 ((eN S.p.cfg.seed S.p.drawn) % (1000000#64))))
 go_wp2_with with_reducible refine so ?_
 refine bd HM (sF _ _ (((S.put_phase 3).draw).put_passkey (W64 ((eN S.p.cfg.seed S.p.drawn) % (1000000#64)))) ⟨1, (W64 ((eN S.p.cfg.seed S.p.drawn) % (1000000#64))), 0#64, false, ⟨⟨0, 0#64⟩, 0#64⟩, 0⟩ _ _ _ _ HM.here bV) ?_; clear HM; intro c7 c8 c9 HM; clear Z
 go_wp2_with with_reducible refine so ?_
 refine bt HM.to (bQ _ _ _ _  _ HM.b0 S.first rfl) ?_; clear HM; intro d0 HM
 rcases d1 : S.first with _ | _
 ·
  go_wp2_with with_reducible refine so ?_
  go_end0
  have q0 := q.out
  exact sE (by unfold Sd.begin_; exact es9) HM
 go_wp2_with with_reducible refine so ?_
 refine bd HM (jC _ _ ((((S.put_phase 3).draw).put_passkey (W64 ((eN S.p.cfg.seed S.p.drawn) % (1000000#64)))).tell ⟨1, (W64 ((eN S.p.cfg.seed S.p.drawn) % (1000000#64))), 0#64, false, ⟨⟨0, 0#64⟩, 0#64⟩, 0⟩) _ _ _ _ HM.here bV (by first | exact h0 | exact h0p) (by first | exact h1 | exact h1p)) ?_; clear HM; intro d2 d3 d4 HM
 go_wp2_with with_reducible refine so ?_
 go_end0
 have q0 := q.out
 exact sE (by unfold Sd.begin_; exact es9) HM
end Go.Proofs.YtihmbcnccdiecaaGreatDoor
