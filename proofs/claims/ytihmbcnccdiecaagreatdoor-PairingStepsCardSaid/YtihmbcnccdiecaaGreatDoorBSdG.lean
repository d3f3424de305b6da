/- Part of the proofs of the laws of pairing. -/
import Derived.Test.YtihmbcnccdiecaaGreatDoorBSdF
namespace Go.Proofs.YtihmbcnccdiecaaGreatDoor
set_option maxRecDepth 100000
set_option linter.unusedVariables false
set_option linter.unusedSimpArgs false
open Go.ChangeShapes Go.WideShapes Go.ChangeAt Go.RowKit
theorem fD (base : Nat) (p : Pr) (now : Int) (bx : List Bk) (w : World) (HM : Mem w w base [] [] (.slice none 0 0) (.slice none 0 0) bx) :
  Calls Tryz.prog 41 #[.agg (prL p).toArray, .int .i64 now] w (fun e w' => ∃ g, e = .returned (.pointer (some ⟨g, 0, none⟩)) ∧ Mem w w' base [] [] (.slice none 0 0) (.slice none 0 0) ((g, cQ, (sdL (aH p now) (.slice none 0 0) (.slice none 0 0)).toArray) :: bx)) := by
 go_enter Tryz.func41, Tryz.ntmps41
 go_wp2_with with_reducible refine sb ?_
 refine HM.nw (ty := 37) (cs := (prL p).toArray) ?_; clear HM; intro z C HM
 go_wp2_with first | with_reducible refine sb ?_ | with_reducible refine lw HM.b0 U37 ?_
 unfold bA
 refine aN [(0, .agg (prL p).toArray), (1, .agg (prL p).toArray), (2, .int .i64 now)] (sdL (aH p now) (.slice none 0 0) (.slice none 0 0)).toArray (by simp only [List.map_toArray, List.map_cons, List.map_nil]; rfl) (by kernel_rfl) ?_
 go_wp2_with with_reducible refine sb ?_
 refine HM.nw (ty := 92) (cs := (sdL (aH p now) (.slice none 0 0) (.slice none 0 0)).toArray) ?_; clear HM; intro q D HM
 go_wp2_with with_reducible refine sb ?_
 go_returns
 exact ⟨q, rfl, HM.drop1⟩
theorem aR (base g : Nat) (S : Sd) (v u : Value) (bx : List Bk) (w : World) (HM : Mem w w base S.sent S.told v u ((g, cQ, (sdL S v u).toArray) :: bx)) :
  Calls Tryz.prog 56 #[.pointer (some ⟨g, 0, none⟩)] w (fun e w' => e = .returned (.tuple #[.agg (prL S.p).toArray, v, u]) ∧ Mem w w' base S.sent S.told v u ((g, cQ, (sdL S v u).toArray) :: bx)) := by
 go_enter Tryz.func56, Tryz.ntmps56
 go_wp2_with with_reducible refine so ?_
 refine HM.nw1 (ty := 37) (cs := (prL pr0).toArray) ?_; clear HM; intro q z HM
 go_wp2_with with_reducible refine so ?_
 try simp only [nrm]
 have hst := bM HM
 refine cY _ (fun W => ∃ x0, Mem w W base S.sent S.told v u ((g, 92, (sdL S v u).toArray) :: (q, 37, x0) :: bx)) hst (fun W h => ⟨(prL pr0).toArray, h⟩) HM.drew 15 ?_
 clear HM
 refine aA 0 hst ?_ (h0 := fun _ h => ⟨_, h⟩)
 refine aA 1 hst ?_ (h0 := fun _ h => ⟨_, h⟩)
 refine aA 2 hst ?_ (h0 := fun _ h => ⟨_, h⟩)
 refine bH (v := .agg (prL S.p).toArray) 3 hst (fun _ h => ⟨(prL pr0).toArray, h⟩) rfl (fun W hS K hK => aL rfl rfl (aX hS.choose_spec.b0 0 (prL S.p) rfl U37 rfl (by kernel_rfl)) (hK.out _ (Below.refl _ _))) ?_; simp only [nrm]
 refine aA 4 hst ?_ (h0 := fun _ h => ⟨_, h⟩)
 refine aA 5 hst ?_ (h0 := fun _ h => ⟨_, h⟩)
 refine aA 6 hst ?_ (h0 := fun _ h => ⟨_, h⟩)
 refine bH (v := ?_) 7 hst (fun _ h => ⟨(prL pr0).toArray, h⟩) rfl ?_ ?_; rotate_left; (intro W hS K hK; have ld : W.cell? ⟨g, 117, none⟩ = some (v) := hS.choose_spec.b0.cell 117; clear hS; go_simp; exact hK.out _ (Below.refl _ _)); simp only [nrm]
 refine aA 8 hst ?_ (h0 := fun _ h => ⟨_, h⟩)
 refine aA 9 hst ?_ (h0 := fun _ h => ⟨_, h⟩)
 refine aA 10 hst ?_ (h0 := fun _ h => ⟨_, h⟩)
 refine bH (v := ?_) 11 hst (fun _ h => ⟨(prL pr0).toArray, h⟩) rfl ?_ ?_; rotate_left; (intro W hS K hK; have ld : W.cell? ⟨g, 118, none⟩ = some (u) := hS.choose_spec.b0.cell 118; clear hS; go_simp; exact hK.out _ (Below.refl _ _)); simp only [nrm]
 refine dP (S' := fun W => Mem w W base S.sent S.told v u ((g, 92, (sdL S v u).toArray) :: (q, 37, (prL S.p).toArray) :: bx)) 12 (.agg (prL S.p).toArray) rfl rfl rfl rfl (fun W hS => by obtain ⟨w9, h1, h2⟩ := hS.swap.hole (P := Tryz.prog) (ty := 37) 0 (prL S.p).toArray (prL S.p).toArray (by kernel_rfl) rfl (of_decide_eq_true rfl) (by kernel_rfl); exact ⟨w9, h1, h2.swap⟩) (bD _ _ _ _ _ _ _) (fun W h => ⟨(prL S.p).toArray, h⟩) ?_; simp only [nrm]
 clear hst
 have hst : aO fun W => Mem w W base S.sent S.told v u ((g, 92, (sdL S v u).toArray) :: (q, 37, (prL S.p).toArray) :: bx) := bD _ _ _ _ _ _ _
 refine aA 13 hst ?_ (h0 := fun _ h => ⟨(prL S.p).toArray, h⟩)
 refine aA 14 hst ?_ (h0 := fun _ h => ⟨(prL S.p).toArray, h⟩)
 refine aE (fun C hS => ?_)
 have HM := hS
 clear hst
 go_wp2_with with_reducible refine so ?_
 refine rc3 HM.b1 U37 ?_
 exact ⟨rfl, HM.drop1⟩
theorem uI (base g : Nat) (S : Sd) (v u : Value) (bx : List Bk) (w : World) (HM : Mem w w base S.sent S.told v u ((g, cQ, (sdL S v u).toArray) :: bx)) (ls : S.sent.length ≤ 980) (hh : S.first = true) :
    Calls Tryz.prog 59 #[.pointer (some ⟨g, 0, none⟩)] w (fun e w' => e = .returned (.tuple #[]) ∧ eA w w' base g ((S.put_phase 5).send { cL with kind := 13, value := S.check }) bx) := by
  have h := fN base g S v u bx w HM ls
  have e : S.toChecks = ((S.put_phase 5).send { cL with kind := 13, value := S.check }) := by unfold Sd.toChecks; rw [hh]; rfl
  rw [e] at h
  exact h
theorem uH (base g : Nat) (S : Sd) (v u : Value) (bx : List Bk) (w : World) (HM : Mem w w base S.sent S.told v u ((g, cQ, (sdL S v u).toArray) :: bx)) (ls : S.sent.length ≤ 980) (hh : S.first = false) :
    Calls Tryz.prog 59 #[.pointer (some ⟨g, 0, none⟩)] w (fun e w' => e = .returned (.tuple #[]) ∧ eA w w' base g (S.put_phase 5) bx) := by
  have h := fN base g S v u bx w HM ls
  have e : S.toChecks = (S.put_phase 5) := by unfold Sd.toChecks; rw [hh]; rfl
  rw [e] at h
  exact h
end Go.Proofs.YtihmbcnccdiecaaGreatDoor
