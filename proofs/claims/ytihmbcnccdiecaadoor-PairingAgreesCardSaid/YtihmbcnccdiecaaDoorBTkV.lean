/- Part of the proofs of the laws of pairing. -/
import Derived.Test.YtihmbcnccdiecaaDoorA2
import Derived.Test.YtihmbcnccdiecaaDoorBLowB
import Derived.Test.YtihmbcnccdiecaaDoorBLowC
import Derived.Test.YtihmbcnccdiecaaDoorBSdA
import Derived.Test.YtihmbcnccdiecaaDoorBSdB
import Derived.Test.YtihmbcnccdiecaaDoorBSdC
import Derived.Test.YtihmbcnccdiecaaDoorBSdD
import Derived.Test.YtihmbcnccdiecaaDoorBSdE
import Derived.Test.YtihmbcnccdiecaaDoorBSdF
import Derived.Test.YtihmbcnccdiecaaDoorBSdG
import Derived.Test.YtihmbcnccdiecaaDoorBSdH
import Derived.Test.YtihmbcnccdiecaaDoorBSdIe
import Derived.Test.YtihmbcnccdiecaaDoorBSdIs
import Derived.Test.YtihmbcnccdiecaaDoorBSdIu
import Derived.Test.YtihmbcnccdiecaaDoorBSdJ
import Derived.Test.YtihmbcnccdiecaaDoorBSdK
import Derived.Test.YtihmbcnccdiecaaDoorBSdL
import Derived.Test.YtihmbcnccdiecaaDoorBSdM
import Derived.Test.YtihmbcnccdiecaaDoorBSdN
import Derived.Test.YtihmbcnccdiecaaDoorBTkP
import Derived.Test.YtihmbcnccdiecaaDoorBTkY
namespace Go.Proofs.YtihmbcnccdiecaaDoor
set_option maxRecDepth 100000
open Go.ChangeShapes Go.WideShapes Go.ChangeAt Go.RowKit
set_option linter.unusedVariables false
set_option linter.unusedSimpArgs false
theorem tk_done1_f (X : Tk) (ee : Evt) (bk off c : Nat) (v1 va vl : Value) (w : World) (HL : Laid w) (hg : X.g0 = [ee]) (HE : Rg bk off (evtL ee) w) :
  Calls Tryd.prog 14 #[.agg (tkL X (.slice ((some ⟨bk, off, none⟩)) 1 c) v1 va vl).toArray, .int .i64 0] w (fun e w' => e = .returned (.bool (X.done false)) ∧ Below w.heap.size w w') := by
 have HM := MR.start HL
 obtain ⟨base, hbs⟩ : ∃ b, w.heap.size = b := ⟨_, rfl⟩
 rw [hbs] at HM
 have HG := Lib.hid hg
 clear hg
 go_enter Tryd.func14, Tryd.ntmps14
 go_wp2_with (with_reducible refine so ?_)
 refine go_mem (ty := 58) (cs := (tkL X (.slice ((some ⟨bk, off, none⟩)) 1 c) v1 va vl).toArray) (fun g => .pointer (some ⟨g, 0, none⟩)) rfl (by kernel_rfl) ?_
 intro g_1 w_2 z_6 l_5 hb_3 G_4
 replace HM := HM.alloc l_5 hb_3 G_4
 replace HE := Rg.to HE hb_3
 clear hb_3 l_5 z_6 G_4
 rcases hc_7 : X.ok with _ | _
 ·
  skip
  have ld_8 := HM.b0.c 123 (.slice ((some ⟨bk, off, none⟩)) 1 c)
  go_wp2_with (with_reducible refine so ?_)
  clear ld_8
  have hst : Stable fun W => MR w W base ([]) ((g_1, 58, (tkL X (.slice ((some ⟨bk, off, none⟩)) 1 c) v1 va vl).toArray) :: []) ∧ Rg bk off (evtL ee) W := stable_and (stable_mr _ _ _ _) (stable_rg _ _ _)
  refine wp_region_v _ 35 hst ⟨HM.drew, HE⟩ ?_
  clear HM HE
  refine wpU_p 0 hst ?_
  refine wpU_take (v := ?_) 1 hst (fun _ h => h) rfl ?_ ?_; rotate_left; (intro W hS K hK; have ld : W.cell? ⟨g_1, 116, none⟩ = some (.bool X.ok) := hS.1.b0.cell 116; clear hS; go_simp; exact hK.out _ (Below.refl _ _)); simp only [nrm]
  refine wpU_p 2 hst ?_
  refine wpU_s 3 hst ?_
  refine wpU_s 4 hst ?_
  refine wpU_s 5 hst ?_
  refine wpU_p 6 hst ?_
  refine wpU_p 7 hst ?_
  refine wpU_s 8 hst ?_
  refine wpU_s 9 hst ?_
  refine wpU_s 10 hst ?_
  refine wpU_s 11 hst ?_
  refine wpU_s 12 hst ?_
  refine wpU_p 13 hst ?_
  refine wpU_p 14 hst ?_
  refine wpU_s 15 hst ?_
  refine wpU_s 16 hst ?_
  refine wpU_s 17 hst ?_
  refine wpU_s 18 hst ?_
  refine wpU_s 19 hst ?_
  refine wpU_s 20 hst ?_
  refine wpU_s 21 hst ?_
  refine wpU_s 22 hst ?_
  refine wpU_s 23 hst ?_
  refine wpU_s 24 hst ?_
  refine wpU_p 25 hst ?_
  refine wpU_p 26 hst ?_
  refine wpU_s 27 hst ?_
  refine wpU_s 28 hst ?_
  refine wpU_s 29 hst ?_
  refine wpU_s 30 hst ?_
  refine wpU_s 31 hst ?_
  refine wpU_s 32 hst ?_
  refine wpU_p 33 hst ?_
  refine wpU_p 34 hst ?_
  refine wpU_done (fun w_9 hS => ?_)
  obtain ⟨HM, HE⟩ := hS
  clear hst
  go_wp2_with (with_reducible refine so ?_)
  go_returns
  have er : X.done false = false := by unfold Tk.done Tk.side; simp [HG.out, hc_7] <;> rfl
  rw [er]; first | exact ⟨rfl, HM.below⟩ | (rw [hbs]; exact ⟨rfl, HM.below⟩)
 skip
 by_cases hc_10 : (ee.kind : Int) = 3
 ·
  obtain ⟨ec_10, ec_10n, kc_10⟩ := fT hc_10; clear hc_10
  by_cases hc_11 : ee.key = X.s0.ltk
  ·
   obtain ⟨ec_11, ec_11n, kc_11⟩ := gT hc_11; clear hc_11
   have ld_12 := HM.b0.c 123 (.slice ((some ⟨bk, off, none⟩)) 1 c)
   go_wp2_with (with_reducible refine so ?_)
   clear ld_12
   have hst : Stable fun W => MR w W base ([]) ((g_1, 58, (tkL X (.slice ((some ⟨bk, off, none⟩)) 1 c) v1 va vl).toArray) :: []) ∧ Rg bk off (evtL ee) W := stable_and (stable_mr _ _ _ _) (stable_rg _ _ _)
   refine wp_region_v _ 35 hst ⟨HM.drew, HE⟩ ?_
   clear HM HE
   refine wpU_p 0 hst ?_
   refine wpU_take (v := ?_) 1 hst (fun _ h => h) rfl ?_ ?_; rotate_left; (intro W hS K hK; have ld : W.cell? ⟨g_1, 116, none⟩ = some (.bool X.ok) := hS.1.b0.cell 116; clear hS; go_simp; exact hK.out _ (Below.refl _ _)); simp only [nrm]
   refine wpU_p 2 hst ?_
   refine wpU_p 3 hst ?_
   refine wpU_p 4 hst ?_
   refine wpU_p 5 hst ?_
   refine wpU_p 6 hst ?_
   refine wpU_p 7 hst ?_
   refine wpU_p 8 hst ?_
   refine wpU_p 9 hst ?_
   refine wpU_p 10 hst ?_
   refine wpU_take (v := ?_) 11 hst (fun _ h => h) rfl ?_ ?_; rotate_left; (intro W hS K hK; have ld : W.cell? ⟨bk, off, none⟩ = some (.int .i64 ee.kind) := hS.2.2 0 _ rfl; clear hS; go_simp; exact hK.out _ (Below.refl _ _)); simp only [nrm]
   refine wpU_p 12 hst ?_
   refine wpU_p 13 hst ?_
   refine wpU_p 14 hst ?_
   refine wpU_p 15 hst ?_
   refine wpU_p 16 hst ?_
   refine wpU_p 17 hst ?_
   refine wpU_take (v := ?_) 18 hst (fun _ h => h) rfl ?_ ?_; rotate_left; (intro W hS K hK; have ld : W.cell? ⟨bk, off + 2, none⟩ = some (.int .u64 (W64 ee.key)) := hS.2.2 2 _ rfl; clear hS; go_simp; exact hK.out _ (Below.refl _ _)); simp only [nrm]
   refine wpU_p 19 hst ?_
   refine wpU_p 20 hst ?_
   refine wpU_p 21 hst ?_
   refine wpU_p 22 hst ?_
   refine wpU_c 23 (.int .u64 (W64 X.s0.ltk)) hst (fun W hS => hS.1.b0.cell 52) ?_
   refine wpU_p 24 hst ?_
   refine wpU_p 25 hst ?_
   refine wpU_p 26 hst ?_
   refine wpU_p 27 hst ?_
   refine wpU_p 28 hst ?_
   refine wpU_p 29 hst ?_
   refine wpU_p 30 hst ?_
   refine wpU_c 31 (.int .i64 X.s0.phase) hst (fun W hS => hS.1.b0.cell 19) ?_
   refine wpU_p 32 hst ?_
   refine wpU_p 33 hst ?_
   refine wpU_p 34 hst ?_
   refine wpU_done (fun w_13 hS => ?_)
   obtain ⟨HM, HE⟩ := hS
   clear hst
   go_wp2_with (with_reducible refine so ?_)
   go_returns
   have q1 := kc_10.out
   have q2 := kc_11.out
   have er : X.done false = (X.s0.phase == 7) := by unfold Tk.done Tk.side; simp [HG.out, hc_7, q1, q2] <;> rfl
   rw [er]; first | exact ⟨rfl, HM.below⟩ | (rw [hbs]; exact ⟨rfl, HM.below⟩)
  obtain ⟨ec_11, ec_11n, kc_11⟩ := gF hc_11; clear hc_11
  have ld_14 := HM.b0.c 123 (.slice ((some ⟨bk, off, none⟩)) 1 c)
  go_wp2_with (with_reducible refine so ?_)
  clear ld_14
  have hst : Stable fun W => MR w W base ([]) ((g_1, 58, (tkL X (.slice ((some ⟨bk, off, none⟩)) 1 c) v1 va vl).toArray) :: []) ∧ Rg bk off (evtL ee) W := stable_and (stable_mr _ _ _ _) (stable_rg _ _ _)
  refine wp_region_v _ 35 hst ⟨HM.drew, HE⟩ ?_
  clear HM HE
  refine wpU_p 0 hst ?_
  refine wpU_take (v := ?_) 1 hst (fun _ h => h) rfl ?_ ?_; rotate_left; (intro W hS K hK; have ld : W.cell? ⟨g_1, 116, none⟩ = some (.bool X.ok) := hS.1.b0.cell 116; clear hS; go_simp; exact hK.out _ (Below.refl _ _)); simp only [nrm]
  refine wpU_p 2 hst ?_
  refine wpU_p 3 hst ?_
  refine wpU_p 4 hst ?_
  refine wpU_p 5 hst ?_
  refine wpU_p 6 hst ?_
  refine wpU_p 7 hst ?_
  refine wpU_p 8 hst ?_
  refine wpU_p 9 hst ?_
  refine wpU_p 10 hst ?_
  refine wpU_take (v := ?_) 11 hst (fun _ h => h) rfl ?_ ?_; rotate_left; (intro W hS K hK; have ld : W.cell? ⟨bk, off, none⟩ = some (.int .i64 ee.kind) := hS.2.2 0 _ rfl; clear hS; go_simp; exact hK.out _ (Below.refl _ _)); simp only [nrm]
  refine wpU_p 12 hst ?_
  refine wpU_p 13 hst ?_
  refine wpU_p 14 hst ?_
  refine wpU_p 15 hst ?_
  refine wpU_p 16 hst ?_
  refine wpU_p 17 hst ?_
  refine wpU_take (v := ?_) 18 hst (fun _ h => h) rfl ?_ ?_; rotate_left; (intro W hS K hK; have ld : W.cell? ⟨bk, off + 2, none⟩ = some (.int .u64 (W64 ee.key)) := hS.2.2 2 _ rfl; clear hS; go_simp; exact hK.out _ (Below.refl _ _)); simp only [nrm]
  refine wpU_p 19 hst ?_
  refine wpU_p 20 hst ?_
  refine wpU_p 21 hst ?_
  refine wpU_p 22 hst ?_
  refine wpU_c 23 (.int .u64 (W64 X.s0.ltk)) hst (fun W hS => hS.1.b0.cell 52) ?_
  refine wpU_p 24 hst ?_
  refine wpU_p 25 hst ?_
  refine wpU_p 26 hst ?_
  refine wpU_s 27 hst ?_
  refine wpU_s 28 hst ?_
  refine wpU_s 29 hst ?_
  refine wpU_s 30 hst ?_
  refine wpU_s 31 hst ?_
  refine wpU_s 32 hst ?_
  refine wpU_p 33 hst ?_
  refine wpU_p 34 hst ?_
  refine wpU_done (fun w_15 hS => ?_)
  obtain ⟨HM, HE⟩ := hS
  clear hst
  go_wp2_with (with_reducible refine so ?_)
  go_returns
  have q1 := kc_10.out
  have q2 := kc_11.out
  have er : X.done false = false := by unfold Tk.done Tk.side; simp [HG.out, hc_7, q1, q2] <;> rfl
  rw [er]; first | exact ⟨rfl, HM.below⟩ | (rw [hbs]; exact ⟨rfl, HM.below⟩)
 obtain ⟨ec_10, ec_10n, kc_10⟩ := fF hc_10; clear hc_10
 have ld_16 := HM.b0.c 123 (.slice ((some ⟨bk, off, none⟩)) 1 c)
 go_wp2_with (with_reducible refine so ?_)
 clear ld_16
 have hst : Stable fun W => MR w W base ([]) ((g_1, 58, (tkL X (.slice ((some ⟨bk, off, none⟩)) 1 c) v1 va vl).toArray) :: []) ∧ Rg bk off (evtL ee) W := stable_and (stable_mr _ _ _ _) (stable_rg _ _ _)
 refine wp_region_v _ 35 hst ⟨HM.drew, HE⟩ ?_
 clear HM HE
 refine wpU_p 0 hst ?_
 refine wpU_take (v := ?_) 1 hst (fun _ h => h) rfl ?_ ?_; rotate_left; (intro W hS K hK; have ld : W.cell? ⟨g_1, 116, none⟩ = some (.bool X.ok) := hS.1.b0.cell 116; clear hS; go_simp; exact hK.out _ (Below.refl _ _)); simp only [nrm]
 refine wpU_p 2 hst ?_
 refine wpU_p 3 hst ?_
 refine wpU_p 4 hst ?_
 refine wpU_p 5 hst ?_
 refine wpU_p 6 hst ?_
 refine wpU_p 7 hst ?_
 refine wpU_p 8 hst ?_
 refine wpU_p 9 hst ?_
 refine wpU_p 10 hst ?_
 refine wpU_take (v := ?_) 11 hst (fun _ h => h) rfl ?_ ?_; rotate_left; (intro W hS K hK; have ld : W.cell? ⟨bk, off, none⟩ = some (.int .i64 ee.kind) := hS.2.2 0 _ rfl; clear hS; go_simp; exact hK.out _ (Below.refl _ _)); simp only [nrm]
 refine wpU_p 12 hst ?_
 refine wpU_p 13 hst ?_
 refine wpU_p 14 hst ?_
 refine wpU_s 15 hst ?_
 refine wpU_s 16 hst ?_
 refine wpU_s 17 hst ?_
 refine wpU_s 18 hst ?_
 refine wpU_s 19 hst ?_
 refine wpU_s 20 hst ?_
 refine wpU_s 21 hst ?_
 refine wpU_s 22 hst ?_
 refine wpU_s 23 hst ?_
 refine wpU_s 24 hst ?_
 refine wpU_p 25 hst ?_
 refine wpU_p 26 hst ?_
 refine wpU_s 27 hst ?_
 refine wpU_s 28 hst ?_
 refine wpU_s 29 hst ?_
 refine wpU_s 30 hst ?_
 refine wpU_s 31 hst ?_
 refine wpU_s 32 hst ?_
 refine wpU_p 33 hst ?_
 refine wpU_p 34 hst ?_
 refine wpU_done (fun w_17 hS => ?_)
 obtain ⟨HM, HE⟩ := hS
 clear hst
 go_wp2_with (with_reducible refine so ?_)
 go_returns
 have q1 := kc_10.out
 have er : X.done false = false := by unfold Tk.done Tk.side; simp [HG.out, hc_7, q1] <;> rfl
 rw [er]; first | exact ⟨rfl, HM.below⟩ | (rw [hbs]; exact ⟨rfl, HM.below⟩)
theorem tk_done1_t (X : Tk) (ee : Evt) (bk off c : Nat) (v0 va vl : Value) (w : World) (HL : Laid w) (hg : X.g1 = [ee]) (HE : Rg bk off (evtL ee) w) :
  Calls Tryd.prog 14 #[.agg (tkL X v0 (.slice ((some ⟨bk, off, none⟩)) 1 c) va vl).toArray, .int .i64 1] w (fun e w' => e = .returned (.bool (X.done true)) ∧ Below w.heap.size w w') := by
 have HM := MR.start HL
 obtain ⟨base, hbs⟩ : ∃ b, w.heap.size = b := ⟨_, rfl⟩
 rw [hbs] at HM
 have HG := Lib.hid hg
 clear hg
 go_enter Tryd.func14, Tryd.ntmps14
 go_wp2_with (with_reducible refine so ?_)
 refine go_mem (ty := 58) (cs := (tkL X v0 (.slice ((some ⟨bk, off, none⟩)) 1 c) va vl).toArray) (fun g => .pointer (some ⟨g, 0, none⟩)) rfl (by kernel_rfl) ?_
 intro g_1 w_2 z_6 l_5 hb_3 G_4
 replace HM := HM.alloc l_5 hb_3 G_4
 replace HE := Rg.to HE hb_3
 clear hb_3 l_5 z_6 G_4
 rcases hc_7 : X.ok with _ | _
 ·
  skip
  have ld_8 := HM.b0.c 124 (.slice ((some ⟨bk, off, none⟩)) 1 c)
  go_wp2_with (with_reducible refine so ?_)
  clear ld_8
  have hst : Stable fun W => MR w W base ([]) ((g_1, 58, (tkL X v0 (.slice ((some ⟨bk, off, none⟩)) 1 c) va vl).toArray) :: []) ∧ Rg bk off (evtL ee) W := stable_and (stable_mr _ _ _ _) (stable_rg _ _ _)
  refine wp_region_v _ 35 hst ⟨HM.drew, HE⟩ ?_
  clear HM HE
  refine wpU_p 0 hst ?_
  refine wpU_take (v := ?_) 1 hst (fun _ h => h) rfl ?_ ?_; rotate_left; (intro W hS K hK; have ld : W.cell? ⟨g_1, 116, none⟩ = some (.bool X.ok) := hS.1.b0.cell 116; clear hS; go_simp; exact hK.out _ (Below.refl _ _)); simp only [nrm]
  refine wpU_p 2 hst ?_
  refine wpU_s 3 hst ?_
  refine wpU_s 4 hst ?_
  refine wpU_s 5 hst ?_
  refine wpU_p 6 hst ?_
  refine wpU_p 7 hst ?_
  refine wpU_s 8 hst ?_
  refine wpU_s 9 hst ?_
  refine wpU_s 10 hst ?_
  refine wpU_s 11 hst ?_
  refine wpU_s 12 hst ?_
  refine wpU_p 13 hst ?_
  refine wpU_p 14 hst ?_
  refine wpU_s 15 hst ?_
  refine wpU_s 16 hst ?_
  refine wpU_s 17 hst ?_
  refine wpU_s 18 hst ?_
  refine wpU_s 19 hst ?_
  refine wpU_s 20 hst ?_
  refine wpU_s 21 hst ?_
  refine wpU_s 22 hst ?_
  refine wpU_s 23 hst ?_
  refine wpU_s 24 hst ?_
  refine wpU_p 25 hst ?_
  refine wpU_p 26 hst ?_
  refine wpU_s 27 hst ?_
  refine wpU_s 28 hst ?_
  refine wpU_s 29 hst ?_
  refine wpU_s 30 hst ?_
  refine wpU_s 31 hst ?_
  refine wpU_s 32 hst ?_
  refine wpU_p 33 hst ?_
  refine wpU_p 34 hst ?_
  refine wpU_done (fun w_9 hS => ?_)
  obtain ⟨HM, HE⟩ := hS
  clear hst
  go_wp2_with (with_reducible refine so ?_)
  go_returns
  have er : X.done true = false := by unfold Tk.done Tk.side; simp [HG.out, hc_7] <;> rfl
  rw [er]; first | exact ⟨rfl, HM.below⟩ | (rw [hbs]; exact ⟨rfl, HM.below⟩)
 skip
 by_cases hc_10 : (ee.kind : Int) = 3
 ·
  obtain ⟨ec_10, ec_10n, kc_10⟩ := fT hc_10; clear hc_10
  by_cases hc_11 : ee.key = X.s1.ltk
  ·
   obtain ⟨ec_11, ec_11n, kc_11⟩ := gT hc_11; clear hc_11
   have ld_12 := HM.b0.c 124 (.slice ((some ⟨bk, off, none⟩)) 1 c)
   go_wp2_with (with_reducible refine so ?_)
   clear ld_12
   have hst : Stable fun W => MR w W base ([]) ((g_1, 58, (tkL X v0 (.slice ((some ⟨bk, off, none⟩)) 1 c) va vl).toArray) :: []) ∧ Rg bk off (evtL ee) W := stable_and (stable_mr _ _ _ _) (stable_rg _ _ _)
   refine wp_region_v _ 35 hst ⟨HM.drew, HE⟩ ?_
   clear HM HE
   refine wpU_p 0 hst ?_
   refine wpU_take (v := ?_) 1 hst (fun _ h => h) rfl ?_ ?_; rotate_left; (intro W hS K hK; have ld : W.cell? ⟨g_1, 116, none⟩ = some (.bool X.ok) := hS.1.b0.cell 116; clear hS; go_simp; exact hK.out _ (Below.refl _ _)); simp only [nrm]
   refine wpU_p 2 hst ?_
   refine wpU_p 3 hst ?_
   refine wpU_p 4 hst ?_
   refine wpU_p 5 hst ?_
   refine wpU_p 6 hst ?_
   refine wpU_p 7 hst ?_
   refine wpU_p 8 hst ?_
   refine wpU_p 9 hst ?_
   refine wpU_p 10 hst ?_
   refine wpU_take (v := ?_) 11 hst (fun _ h => h) rfl ?_ ?_; rotate_left; (intro W hS K hK; have ld : W.cell? ⟨bk, off, none⟩ = some (.int .i64 ee.kind) := hS.2.2 0 _ rfl; clear hS; go_simp; exact hK.out _ (Below.refl _ _)); simp only [nrm]
   refine wpU_p 12 hst ?_
   refine wpU_p 13 hst ?_
   refine wpU_p 14 hst ?_
   refine wpU_p 15 hst ?_
   refine wpU_p 16 hst ?_
   refine wpU_p 17 hst ?_
   refine wpU_take (v := ?_) 18 hst (fun _ h => h) rfl ?_ ?_; rotate_left; (intro W hS K hK; have ld : W.cell? ⟨bk, off + 2, none⟩ = some (.int .u64 (W64 ee.key)) := hS.2.2 2 _ rfl; clear hS; go_simp; exact hK.out _ (Below.refl _ _)); simp only [nrm]
   refine wpU_p 19 hst ?_
   refine wpU_p 20 hst ?_
   refine wpU_p 21 hst ?_
   refine wpU_p 22 hst ?_
   refine wpU_c 23 (.int .u64 (W64 X.s1.ltk)) hst (fun W hS => hS.1.b0.cell 110) ?_
   refine wpU_p 24 hst ?_
   refine wpU_p 25 hst ?_
   refine wpU_p 26 hst ?_
   refine wpU_p 27 hst ?_
   refine wpU_p 28 hst ?_
   refine wpU_p 29 hst ?_
   refine wpU_p 30 hst ?_
   refine wpU_c 31 (.int .i64 X.s1.phase) hst (fun W hS => hS.1.b0.cell 77) ?_
   refine wpU_p 32 hst ?_
   refine wpU_p 33 hst ?_
   refine wpU_p 34 hst ?_
   refine wpU_done (fun w_13 hS => ?_)
   obtain ⟨HM, HE⟩ := hS
   clear hst
   go_wp2_with (with_reducible refine so ?_)
   go_returns
   have q1 := kc_10.out
   have q2 := kc_11.out
   have er : X.done true = (X.s1.phase == 7) := by unfold Tk.done Tk.side; simp [HG.out, hc_7, q1, q2] <;> rfl
   rw [er]; first | exact ⟨rfl, HM.below⟩ | (rw [hbs]; exact ⟨rfl, HM.below⟩)
  obtain ⟨ec_11, ec_11n, kc_11⟩ := gF hc_11; clear hc_11
  have ld_14 := HM.b0.c 124 (.slice ((some ⟨bk, off, none⟩)) 1 c)
  go_wp2_with (with_reducible refine so ?_)
  clear ld_14
  have hst : Stable fun W => MR w W base ([]) ((g_1, 58, (tkL X v0 (.slice ((some ⟨bk, off, none⟩)) 1 c) va vl).toArray) :: []) ∧ Rg bk off (evtL ee) W := stable_and (stable_mr _ _ _ _) (stable_rg _ _ _)
  refine wp_region_v _ 35 hst ⟨HM.drew, HE⟩ ?_
  clear HM HE
  refine wpU_p 0 hst ?_
  refine wpU_take (v := ?_) 1 hst (fun _ h => h) rfl ?_ ?_; rotate_left; (intro W hS K hK; have ld : W.cell? ⟨g_1, 116, none⟩ = some (.bool X.ok) := hS.1.b0.cell 116; clear hS; go_simp; exact hK.out _ (Below.refl _ _)); simp only [nrm]
  refine wpU_p 2 hst ?_
  refine wpU_p 3 hst ?_
  refine wpU_p 4 hst ?_
  refine wpU_p 5 hst ?_
  refine wpU_p 6 hst ?_
  refine wpU_p 7 hst ?_
  refine wpU_p 8 hst ?_
  refine wpU_p 9 hst ?_
  refine wpU_p 10 hst ?_
  refine wpU_take (v := ?_) 11 hst (fun _ h => h) rfl ?_ ?_; rotate_left; (intro W hS K hK; have ld : W.cell? ⟨bk, off, none⟩ = some (.int .i64 ee.kind) := hS.2.2 0 _ rfl; clear hS; go_simp; exact hK.out _ (Below.refl _ _)); simp only [nrm]
  refine wpU_p 12 hst ?_
  refine wpU_p 13 hst ?_
  refine wpU_p 14 hst ?_
  refine wpU_p 15 hst ?_
  refine wpU_p 16 hst ?_
  refine wpU_p 17 hst ?_
  refine wpU_take (v := ?_) 18 hst (fun _ h => h) rfl ?_ ?_; rotate_left; (intro W hS K hK; have ld : W.cell? ⟨bk, off + 2, none⟩ = some (.int .u64 (W64 ee.key)) := hS.2.2 2 _ rfl; clear hS; go_simp; exact hK.out _ (Below.refl _ _)); simp only [nrm]
  refine wpU_p 19 hst ?_
  refine wpU_p 20 hst ?_
  refine wpU_p 21 hst ?_
  refine wpU_p 22 hst ?_
  refine wpU_c 23 (.int .u64 (W64 X.s1.ltk)) hst (fun W hS => hS.1.b0.cell 110) ?_
  refine wpU_p 24 hst ?_
  refine wpU_p 25 hst ?_
  refine wpU_p 26 hst ?_
  refine wpU_s 27 hst ?_
  refine wpU_s 28 hst ?_
  refine wpU_s 29 hst ?_
  refine wpU_s 30 hst ?_
  refine wpU_s 31 hst ?_
  refine wpU_s 32 hst ?_
  refine wpU_p 33 hst ?_
  refine wpU_p 34 hst ?_
  refine wpU_done (fun w_15 hS => ?_)
  obtain ⟨HM, HE⟩ := hS
  clear hst
  go_wp2_with (with_reducible refine so ?_)
  go_returns
  have q1 := kc_10.out
  have q2 := kc_11.out
  have er : X.done true = false := by unfold Tk.done Tk.side; simp [HG.out, hc_7, q1, q2] <;> rfl
  rw [er]; first | exact ⟨rfl, HM.below⟩ | (rw [hbs]; exact ⟨rfl, HM.below⟩)
 obtain ⟨ec_10, ec_10n, kc_10⟩ := fF hc_10; clear hc_10
 have ld_16 := HM.b0.c 124 (.slice ((some ⟨bk, off, none⟩)) 1 c)
 go_wp2_with (with_reducible refine so ?_)
 clear ld_16
 have hst : Stable fun W => MR w W base ([]) ((g_1, 58, (tkL X v0 (.slice ((some ⟨bk, off, none⟩)) 1 c) va vl).toArray) :: []) ∧ Rg bk off (evtL ee) W := stable_and (stable_mr _ _ _ _) (stable_rg _ _ _)
 refine wp_region_v _ 35 hst ⟨HM.drew, HE⟩ ?_
 clear HM HE
 refine wpU_p 0 hst ?_
 refine wpU_take (v := ?_) 1 hst (fun _ h => h) rfl ?_ ?_; rotate_left; (intro W hS K hK; have ld : W.cell? ⟨g_1, 116, none⟩ = some (.bool X.ok) := hS.1.b0.cell 116; clear hS; go_simp; exact hK.out _ (Below.refl _ _)); simp only [nrm]
 refine wpU_p 2 hst ?_
 refine wpU_p 3 hst ?_
 refine wpU_p 4 hst ?_
 refine wpU_p 5 hst ?_
 refine wpU_p 6 hst ?_
 refine wpU_p 7 hst ?_
 refine wpU_p 8 hst ?_
 refine wpU_p 9 hst ?_
 refine wpU_p 10 hst ?_
 refine wpU_take (v := ?_) 11 hst (fun _ h => h) rfl ?_ ?_; rotate_left; (intro W hS K hK; have ld : W.cell? ⟨bk, off, none⟩ = some (.int .i64 ee.kind) := hS.2.2 0 _ rfl; clear hS; go_simp; exact hK.out _ (Below.refl _ _)); simp only [nrm]
 refine wpU_p 12 hst ?_
 refine wpU_p 13 hst ?_
 refine wpU_p 14 hst ?_
 refine wpU_s 15 hst ?_
 refine wpU_s 16 hst ?_
 refine wpU_s 17 hst ?_
 refine wpU_s 18 hst ?_
 refine wpU_s 19 hst ?_
 refine wpU_s 20 hst ?_
 refine wpU_s 21 hst ?_
 refine wpU_s 22 hst ?_
 refine wpU_s 23 hst ?_
 refine wpU_s 24 hst ?_
 refine wpU_p 25 hst ?_
 refine wpU_p 26 hst ?_
 refine wpU_s 27 hst ?_
 refine wpU_s 28 hst ?_
 refine wpU_s 29 hst ?_
 refine wpU_s 30 hst ?_
 refine wpU_s 31 hst ?_
 refine wpU_s 32 hst ?_
 refine wpU_p 33 hst ?_
 refine wpU_p 34 hst ?_
 refine wpU_done (fun w_17 hS => ?_)
 obtain ⟨HM, HE⟩ := hS
 clear hst
 go_wp2_with (with_reducible refine so ?_)
 go_returns
 have q1 := kc_10.out
 have er : X.done true = false := by unfold Tk.done Tk.side; simp [HG.out, hc_7, q1] <;> rfl
 rw [er]; first | exact ⟨rfl, HM.below⟩ | (rw [hbs]; exact ⟨rfl, HM.below⟩)
end Go.Proofs.YtihmbcnccdiecaaDoor
