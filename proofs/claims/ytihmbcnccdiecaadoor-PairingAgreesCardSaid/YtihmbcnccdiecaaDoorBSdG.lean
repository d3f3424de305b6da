/- Part of the proofs of the laws of pairing. -/
import Derived.Test.YtihmbcnccdiecaaDoorA2
import Derived.Test.YtihmbcnccdiecaaDoorBLowB
import Derived.Test.YtihmbcnccdiecaaDoorBLowC
import Derived.Test.YtihmbcnccdiecaaDoorBSdA
import Derived.Test.YtihmbcnccdiecaaDoorBSdB
import Derived.Test.YtihmbcnccdiecaaDoorBSdC
import Derived.Test.YtihmbcnccdiecaaDoorBSdD
import Derived.Test.YtihmbcnccdiecaaDoorBSdE
import Derived.Test.YtihmbcnccdiecaaDoorBSdF
namespace Go.Proofs.YtihmbcnccdiecaaDoor
set_option maxRecDepth 100000
open Go.ChangeShapes Go.WideShapes Go.ChangeAt Go.RowKit
set_option linter.unusedVariables false
set_option linter.unusedSimpArgs false
theorem sd_handle (base : Nat) (p : Pr) (now : Int) (bx : List Bk) (w : World) (HM : Mem w w base [] [] (.slice none 0 0) (.slice none 0 0) bx) :
  Calls Tryd.prog 40 #[.agg (prL p).toArray, .int .i64 now] w (fun e w' => ∃ g, e = .returned (.pointer (some ⟨g, 0, none⟩)) ∧ Mem w w' base [] [] (.slice none 0 0) (.slice none 0 0) ((g, SideT, (sdL (handleK p now) (.slice none 0 0) (.slice none 0 0)).toArray) :: bx)) := by
 go_enter Tryd.func40, Tryd.ntmps40
 go_wp2_with (with_reducible refine sb ?_)
 refine HM.nw (ty := 37) (cs := (prL p).toArray) ?_; clear HM; intro g_1 w_2 HM
 go_wp2_with (first | (with_reducible refine sb ?_) | (with_reducible refine ld 0 (prL p) HM.b0 Tryd.underlying37 ?_))
 unfold Kept
 refine wpList_bld [(0, .agg (prL p).toArray), (1, .agg (prL p).toArray), (2, .int .i64 now)] (sdL (handleK p now) (.slice none 0 0) (.slice none 0 0)).toArray (by simp only [List.map_toArray, List.map_cons, List.map_nil]; rfl) (by kernel_rfl) ?_
 go_wp2_with (with_reducible refine sb ?_)
 refine HM.nw (ty := 109) (cs := (sdL (handleK p now) (.slice none 0 0) (.slice none 0 0)).toArray) ?_; clear HM; intro g_8 w_9 HM
 go_wp2_with (with_reducible refine sb ?_)
 go_returns
 exact ⟨g_8, rfl, HM.drop1⟩
theorem sd_done (base g : Nat) (S : Sd) (v u : Value) (bx : List Bk) (w : World) (HM : Mem w w base S.sent S.told v u ((g, SideT, (sdL S v u).toArray) :: bx)) :
  Calls Tryd.prog 53 #[.pointer (some ⟨g, 0, none⟩)] w (fun e w' => e = .returned (.tuple #[.agg (prL S.p).toArray, v, u]) ∧ Mem w w' base S.sent S.told v u ((g, SideT, (sdL S v u).toArray) :: bx)) := by
 go_enter Tryd.func53, Tryd.ntmps53
 go_wp2_with (with_reducible refine so ?_)
 refine HM.nw1 (ty := 37) (cs := (prL pr0).toArray) ?_; clear HM; intro g_1 w_2 HM
 go_wp2_with (with_reducible refine so ?_)
 try simp only [nrm]
 have hst : Stable fun W => Mem w W base S.sent S.told v u ((g, 109, (sdL S v u).toArray) :: (g_1, 37, (prL pr0).toArray) :: bx) := stable_mem _ _ _ _ _ _ _
 refine wp_region_u (fun W => Mem w W base S.sent S.told v u ((g, 109, (sdL S v u).toArray) :: (g_1, 37, (prL pr0).toArray) :: bx)) (fun W => ∃ x0, Mem w W base S.sent S.told v u ((g, 109, (sdL S v u).toArray) :: (g_1, 37, x0) :: bx)) hst (fun W h => ⟨(prL pr0).toArray, h⟩) HM.drew 15 ?_
 clear HM
 refine wpU_p 0 hst ?_ (h0 := fun _ h => ⟨_, h⟩)
 refine wpU_p 1 hst ?_ (h0 := fun _ h => ⟨_, h⟩)
 refine wpU_p 2 hst ?_ (h0 := fun _ h => ⟨_, h⟩)
 refine wpU_take (v := .agg (prL S.p).toArray) 3 hst (fun _ h => ⟨(prL pr0).toArray, h⟩) rfl (fun W hS K hK => calm_load rfl rfl (load_part hS.choose_spec.b0 0 (prL S.p) rfl Tryd.underlying37 rfl (by kernel_rfl)) (hK.out _ (Below.refl _ _))) ?_; simp only [nrm]
 refine wpU_p 4 hst ?_ (h0 := fun _ h => ⟨_, h⟩)
 refine wpU_p 5 hst ?_ (h0 := fun _ h => ⟨_, h⟩)
 refine wpU_p 6 hst ?_ (h0 := fun _ h => ⟨_, h⟩)
 refine wpU_take (v := ?_) 7 hst (fun _ h => ⟨(prL pr0).toArray, h⟩) rfl ?_ ?_; rotate_left; (intro W hS K hK; have ld : W.cell? ⟨g, 117, none⟩ = some (v) := hS.choose_spec.b0.cell 117; clear hS; go_simp; exact hK.out _ (Below.refl _ _)); simp only [nrm]
 refine wpU_p 8 hst ?_ (h0 := fun _ h => ⟨_, h⟩)
 refine wpU_p 9 hst ?_ (h0 := fun _ h => ⟨_, h⟩)
 refine wpU_p 10 hst ?_ (h0 := fun _ h => ⟨_, h⟩)
 refine wpU_take (v := ?_) 11 hst (fun _ h => ⟨(prL pr0).toArray, h⟩) rfl ?_ ?_; rotate_left; (intro W hS K hK; have ld : W.cell? ⟨g, 118, none⟩ = some (u) := hS.choose_spec.b0.cell 118; clear hS; go_simp; exact hK.out _ (Below.refl _ _)); simp only [nrm]
 refine wpU_hole (S' := fun W => Mem w W base S.sent S.told v u ((g, 109, (sdL S v u).toArray) :: (g_1, 37, (prL S.p).toArray) :: bx)) 12 (.agg (prL S.p).toArray) rfl rfl rfl rfl (fun W hS => by obtain ⟨w9, h1, h2⟩ := hS.swap.hole (P := Tryd.prog) (ty := 37) 0 (prL S.p).toArray (prL S.p).toArray (by kernel_rfl) rfl (of_decide_eq_true rfl) (by kernel_rfl); exact ⟨w9, h1, h2.swap⟩) (stable_mem _ _ _ _ _ _ _) (fun W h => ⟨(prL S.p).toArray, h⟩) ?_; simp only [nrm]
 clear hst
 have hst : Stable fun W => Mem w W base S.sent S.told v u ((g, 109, (sdL S v u).toArray) :: (g_1, 37, (prL S.p).toArray) :: bx) := stable_mem _ _ _ _ _ _ _
 refine wpU_p 13 hst ?_ (h0 := fun _ h => ⟨(prL S.p).toArray, h⟩)
 refine wpU_p 14 hst ?_ (h0 := fun _ h => ⟨(prL S.p).toArray, h⟩)
 refine wpU_done (fun w_7 hS => ?_)
 have HM := hS
 clear hst
 go_wp2_with (with_reducible refine so ?_)
 refine bodyPost_ret (results_ctt rfl rfl (load_blk HM.b1 Tryd.underlying37 rfl (by kernel_rfl))) rfl ?_
 exact ⟨rfl, HM.drop1⟩
theorem sd_toChecks_t (base g : Nat) (S : Sd) (v u : Value) (bx : List Bk) (w : World) (HM : Mem w w base S.sent S.told v u ((g, SideT, (sdL S v u).toArray) :: bx)) (ls : S.sent.length ≤ 980) (hh : S.first = true) :
    Calls Tryd.prog 56 #[.pointer (some ⟨g, 0, none⟩)] w (fun e w' => e = .returned (.tuple #[]) ∧ SideR w w' base g ((S.put_phase 5).send { sec0 with kind := 13, value := S.check }) bx) := by
  have h := sd_toChecks base g S v u bx w HM ls
  have e : S.toChecks = ((S.put_phase 5).send { sec0 with kind := 13, value := S.check }) := by unfold Sd.toChecks; rw [hh]; rfl
  rw [e] at h
  exact h
theorem sd_toChecks_f (base g : Nat) (S : Sd) (v u : Value) (bx : List Bk) (w : World) (HM : Mem w w base S.sent S.told v u ((g, SideT, (sdL S v u).toArray) :: bx)) (ls : S.sent.length ≤ 980) (hh : S.first = false) :
    Calls Tryd.prog 56 #[.pointer (some ⟨g, 0, none⟩)] w (fun e w' => e = .returned (.tuple #[]) ∧ SideR w w' base g (S.put_phase 5) bx) := by
  have h := sd_toChecks base g S v u bx w HM ls
  have e : S.toChecks = (S.put_phase 5) := by unfold Sd.toChecks; rw [hh]; rfl
  rw [e] at h
  exact h
end Go.Proofs.YtihmbcnccdiecaaDoor
