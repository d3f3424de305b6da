/- Part of the proofs of the laws of pairing. -/
import Derived.Test.YtihmbcnccdiecaaGreatDoorBTkY
namespace Go.Proofs.YtihmbcnccdiecaaGreatDoor
set_option maxRecDepth 100000
set_option linter.unusedVariables false
set_option linter.unusedSimpArgs false
open Go.ChangeShapes Go.WideShapes Go.ChangeAt Go.RowKit
theorem AQ (X : Tk) (ee : Evt) (bk off c : Nat) (v1 va vl : Value) (w : World) (HL : bW w) (hg : X.g0 = [ee]) (HE : Rg bk off (dS ee) w) :
  Calls Tryz.prog 25 #[.agg (tkL X (.slice ((some ⟨bk, off, none⟩)) 1 c) v1 va vl).toArray, .int .i64 0] w (fun e w' => e = .returned (.bool (X.done false)) ∧ Below w.heap.size w w') := by
 have HM := MR.start HL
 obtain ⟨base, hbs⟩ : ∃ b, w.heap.size = b := ⟨_, rfl⟩
 rw [hbs] at HM
 have HG := Lib.hid hg
 clear hg
 go_enter Tryz.func25, Tryz.ntmps25
 go_wp2_with with_reducible refine so ?_
 refine bF (ty := 70) (cs := (tkL X (.slice ((some ⟨bk, off, none⟩)) 1 c) v1 va vl).toArray) (fun g => .pointer (some ⟨g, 0, none⟩)) rfl (by kernel_rfl) ?_
 intro q a7 U L I O
 replace HM := HM.alloc L I O
 replace HE := Rg.to HE I
 clear I L U O
 rcases z : X.ok with _ | _
 ·
  have Z := HM.b0.c 123 (.slice ((some ⟨bk, off, none⟩)) 1 c)
  go_wp2_with with_reducible refine so ?_
  clear Z
  have hst := aB (bR HM) (bG HE)
  refine aD _ 35 hst ⟨HM.drew, HE⟩ ?_
  clear HM HE
  refine aA 0 hst ?_
  refine aF 1 rfl hst (fun W hS K hK => by have ld : W.cell? ⟨q, 116, none⟩ = some (.bool X.ok) := hS.1.b0.cell 116; clear hS; go_simp; exact hk hK) ?_
  refine aA 2 hst ?_
  refine aG 3 hst ?_
  refine aG 4 hst ?_
  refine aG 5 hst ?_
  refine aA 6 hst ?_
  refine aA 7 hst ?_
  refine aG 8 hst ?_
  refine aG 9 hst ?_
  refine aG 10 hst ?_
  refine aG 11 hst ?_
  refine aG 12 hst ?_
  refine aA 13 hst ?_
  refine aA 14 hst ?_
  refine aG 15 hst ?_
  refine aG 16 hst ?_
  refine aG 17 hst ?_
  refine aG 18 hst ?_
  refine aG 19 hst ?_
  refine aG 20 hst ?_
  refine aG 21 hst ?_
  refine aG 22 hst ?_
  refine aG 23 hst ?_
  refine aG 24 hst ?_
  refine aA 25 hst ?_
  refine aA 26 hst ?_
  refine aG 27 hst ?_
  refine aG 28 hst ?_
  refine aG 29 hst ?_
  refine aG 30 hst ?_
  refine aG 31 hst ?_
  refine aG 32 hst ?_
  refine aA 33 hst ?_
  refine aA 34 hst ?_
  refine aE (fun a8 hS => ?_)
  obtain ⟨HM, HE⟩ := hS
  clear hst
  go_wp2_with with_reducible refine so ?_
  go_returns
  have er : X.done false = false := by unfold Tk.done Tk.side; simp [HG.out, z] <;> rfl
  rw [er]; first | exact ⟨rfl, HM.below⟩ | (rw [hbs]; exact ⟨rfl, HM.below⟩)
 by_cases C : (ee.kind : Int) = 3
 rotate_left
 ·
  obtain ⟨a0, a1, D⟩ := fF C; clear C
  have a2 := HM.b0.c 123 (.slice ((some ⟨bk, off, none⟩)) 1 c)
  go_wp2_with with_reducible refine so ?_
  clear a2
  have hst := aB (bR HM) (bG HE)
  refine aD _ 35 hst ⟨HM.drew, HE⟩ ?_
  clear HM HE
  refine aA 0 hst ?_
  refine aF 1 rfl hst (fun W hS K hK => by have ld : W.cell? ⟨q, 116, none⟩ = some (.bool X.ok) := hS.1.b0.cell 116; clear hS; go_simp; exact hk hK) ?_
  refine aA 2 hst ?_
  refine aA 3 hst ?_
  refine aA 4 hst ?_
  refine aA 5 hst ?_
  refine aA 6 hst ?_
  refine aA 7 hst ?_
  refine aA 8 hst ?_
  refine aA 9 hst ?_
  refine aA 10 hst ?_
  refine aF 11 rfl hst (fun W hS K hK => by have ld : W.cell? ⟨bk, off, none⟩ = some (.int .i64 ee.kind) := hS.2.2 0 _ rfl; clear hS; go_simp; exact hk hK) ?_
  refine aA 12 hst ?_
  refine aA 13 hst ?_
  refine aA 14 hst ?_
  refine aG 15 hst ?_
  refine aG 16 hst ?_
  refine aG 17 hst ?_
  refine aG 18 hst ?_
  refine aG 19 hst ?_
  refine aG 20 hst ?_
  refine aG 21 hst ?_
  refine aG 22 hst ?_
  refine aG 23 hst ?_
  refine aG 24 hst ?_
  refine aA 25 hst ?_
  refine aA 26 hst ?_
  refine aG 27 hst ?_
  refine aG 28 hst ?_
  refine aG 29 hst ?_
  refine aG 30 hst ?_
  refine aG 31 hst ?_
  refine aG 32 hst ?_
  refine aA 33 hst ?_
  refine aA 34 hst ?_
  refine aE (fun a9 hS => ?_)
  obtain ⟨HM, HE⟩ := hS
  clear hst
  go_wp2_with with_reducible refine so ?_
  go_returns
  have q1 := D.out
  have er : X.done false = false := by unfold Tk.done Tk.side; simp [HG.out, z, q1] <;> rfl
  rw [er]; first | exact ⟨rfl, HM.below⟩ | (rw [hbs]; exact ⟨rfl, HM.below⟩)
 obtain ⟨a0, a1, D⟩ := fT C; clear C
 by_cases F : ee.key = X.s0.ltk
 ·
  obtain ⟨a3, a4, J⟩ := gT F; clear F
  have a5 := HM.b0.c 123 (.slice ((some ⟨bk, off, none⟩)) 1 c)
  go_wp2_with with_reducible refine so ?_
  clear a5
  have hst := aB (bR HM) (bG HE)
  refine aD _ 35 hst ⟨HM.drew, HE⟩ ?_
  clear HM HE
  refine aA 0 hst ?_
  refine aF 1 rfl hst (fun W hS K hK => by have ld : W.cell? ⟨q, 116, none⟩ = some (.bool X.ok) := hS.1.b0.cell 116; clear hS; go_simp; exact hk hK) ?_
  refine aA 2 hst ?_
  refine aA 3 hst ?_
  refine aA 4 hst ?_
  refine aA 5 hst ?_
  refine aA 6 hst ?_
  refine aA 7 hst ?_
  refine aA 8 hst ?_
  refine aA 9 hst ?_
  refine aA 10 hst ?_
  refine aF 11 rfl hst (fun W hS K hK => by have ld : W.cell? ⟨bk, off, none⟩ = some (.int .i64 ee.kind) := hS.2.2 0 _ rfl; clear hS; go_simp; exact hk hK) ?_
  refine aA 12 hst ?_
  refine aA 13 hst ?_
  refine aA 14 hst ?_
  refine aA 15 hst ?_
  refine aA 16 hst ?_
  refine aA 17 hst ?_
  refine aF 18 rfl hst (fun W hS K hK => by have ld : W.cell? ⟨bk, off + 2, none⟩ = some (.int .u64 (W64 ee.key)) := hS.2.2 2 _ rfl; clear hS; go_simp; exact hk hK) ?_
  refine aA 19 hst ?_
  refine aA 20 hst ?_
  refine aA 21 hst ?_
  refine aA 22 hst ?_
  refine bS 23 (.int .u64 (W64 X.s0.ltk)) hst (fun W hS => hS.1.b0.cell 52) ?_
  refine aA 24 hst ?_
  refine aA 25 hst ?_
  refine aA 26 hst ?_
  refine aA 27 hst ?_
  refine aA 28 hst ?_
  refine aA 29 hst ?_
  refine aA 30 hst ?_
  refine bS 31 (.int .i64 X.s0.phase) hst (fun W hS => hS.1.b0.cell 19) ?_
  refine aA 32 hst ?_
  refine aA 33 hst ?_
  refine aA 34 hst ?_
  refine aE (fun b1 hS => ?_)
  obtain ⟨HM, HE⟩ := hS
  clear hst
  go_wp2_with with_reducible refine so ?_
  go_returns
  have q1 := D.out
  have q2 := J.out
  have er : X.done false = (X.s0.phase == 7) := by unfold Tk.done Tk.side; simp [HG.out, z, q1, q2] <;> rfl
  rw [er]; first | exact ⟨rfl, HM.below⟩ | (rw [hbs]; exact ⟨rfl, HM.below⟩)
 obtain ⟨a3, a4, J⟩ := gF F; clear F
 have a6 := HM.b0.c 123 (.slice ((some ⟨bk, off, none⟩)) 1 c)
 go_wp2_with with_reducible refine so ?_
 clear a6
 have hst := aB (bR HM) (bG HE)
 refine aD _ 35 hst ⟨HM.drew, HE⟩ ?_
 clear HM HE
 refine aA 0 hst ?_
 refine aF 1 rfl hst (fun W hS K hK => by have ld : W.cell? ⟨q, 116, none⟩ = some (.bool X.ok) := hS.1.b0.cell 116; clear hS; go_simp; exact hk hK) ?_
 refine aA 2 hst ?_
 refine aA 3 hst ?_
 refine aA 4 hst ?_
 refine aA 5 hst ?_
 refine aA 6 hst ?_
 refine aA 7 hst ?_
 refine aA 8 hst ?_
 refine aA 9 hst ?_
 refine aA 10 hst ?_
 refine aF 11 rfl hst (fun W hS K hK => by have ld : W.cell? ⟨bk, off, none⟩ = some (.int .i64 ee.kind) := hS.2.2 0 _ rfl; clear hS; go_simp; exact hk hK) ?_
 refine aA 12 hst ?_
 refine aA 13 hst ?_
 refine aA 14 hst ?_
 refine aA 15 hst ?_
 refine aA 16 hst ?_
 refine aA 17 hst ?_
 refine aF 18 rfl hst (fun W hS K hK => by have ld : W.cell? ⟨bk, off + 2, none⟩ = some (.int .u64 (W64 ee.key)) := hS.2.2 2 _ rfl; clear hS; go_simp; exact hk hK) ?_
 refine aA 19 hst ?_
 refine aA 20 hst ?_
 refine aA 21 hst ?_
 refine aA 22 hst ?_
 refine bS 23 (.int .u64 (W64 X.s0.ltk)) hst (fun W hS => hS.1.b0.cell 52) ?_
 refine aA 24 hst ?_
 refine aA 25 hst ?_
 refine aA 26 hst ?_
 refine aG 27 hst ?_
 refine aG 28 hst ?_
 refine aG 29 hst ?_
 refine aG 30 hst ?_
 refine aG 31 hst ?_
 refine aG 32 hst ?_
 refine aA 33 hst ?_
 refine aA 34 hst ?_
 refine aE (fun b2 hS => ?_)
 obtain ⟨HM, HE⟩ := hS
 clear hst
 go_wp2_with with_reducible refine so ?_
 go_returns
 have q1 := D.out
 have q2 := J.out
 have er : X.done false = false := by unfold Tk.done Tk.side; simp [HG.out, z, q1, q2] <;> rfl
 rw [er]; first | exact ⟨rfl, HM.below⟩ | (rw [hbs]; exact ⟨rfl, HM.below⟩)
theorem CM (X : Tk) (ee : Evt) (bk off c : Nat) (v0 va vl : Value) (w : World) (HL : bW w) (hg : X.g1 = [ee]) (HE : Rg bk off (dS ee) w) :
  Calls Tryz.prog 25 #[.agg (tkL X v0 (.slice ((some ⟨bk, off, none⟩)) 1 c) va vl).toArray, .int .i64 1] w (fun e w' => e = .returned (.bool (X.done true)) ∧ Below w.heap.size w w') := by
 have HM := MR.start HL
 obtain ⟨base, hbs⟩ : ∃ b, w.heap.size = b := ⟨_, rfl⟩
 rw [hbs] at HM
 have HG := Lib.hid hg
 clear hg
 go_enter Tryz.func25, Tryz.ntmps25
 go_wp2_with with_reducible refine so ?_
 refine bF (ty := 70) (cs := (tkL X v0 (.slice ((some ⟨bk, off, none⟩)) 1 c) va vl).toArray) (fun g => .pointer (some ⟨g, 0, none⟩)) rfl (by kernel_rfl) ?_
 intro q a7 U L I O
 replace HM := HM.alloc L I O
 replace HE := Rg.to HE I
 clear I L U O
 rcases z : X.ok with _ | _
 ·
  have Z := HM.b0.c 124 (.slice ((some ⟨bk, off, none⟩)) 1 c)
  go_wp2_with with_reducible refine so ?_
  clear Z
  have hst := aB (bR HM) (bG HE)
  refine aD _ 35 hst ⟨HM.drew, HE⟩ ?_
  clear HM HE
  refine aA 0 hst ?_
  refine aF 1 rfl hst (fun W hS K hK => by have ld : W.cell? ⟨q, 116, none⟩ = some (.bool X.ok) := hS.1.b0.cell 116; clear hS; go_simp; exact hk hK) ?_
  refine aA 2 hst ?_
  refine aG 3 hst ?_
  refine aG 4 hst ?_
  refine aG 5 hst ?_
  refine aA 6 hst ?_
  refine aA 7 hst ?_
  refine aG 8 hst ?_
  refine aG 9 hst ?_
  refine aG 10 hst ?_
  refine aG 11 hst ?_
  refine aG 12 hst ?_
  refine aA 13 hst ?_
  refine aA 14 hst ?_
  refine aG 15 hst ?_
  refine aG 16 hst ?_
  refine aG 17 hst ?_
  refine aG 18 hst ?_
  refine aG 19 hst ?_
  refine aG 20 hst ?_
  refine aG 21 hst ?_
  refine aG 22 hst ?_
  refine aG 23 hst ?_
  refine aG 24 hst ?_
  refine aA 25 hst ?_
  refine aA 26 hst ?_
  refine aG 27 hst ?_
  refine aG 28 hst ?_
  refine aG 29 hst ?_
  refine aG 30 hst ?_
  refine aG 31 hst ?_
  refine aG 32 hst ?_
  refine aA 33 hst ?_
  refine aA 34 hst ?_
  refine aE (fun a8 hS => ?_)
  obtain ⟨HM, HE⟩ := hS
  clear hst
  go_wp2_with with_reducible refine so ?_
  go_returns
  have er : X.done true = false := by unfold Tk.done Tk.side; simp [HG.out, z] <;> rfl
  rw [er]; first | exact ⟨rfl, HM.below⟩ | (rw [hbs]; exact ⟨rfl, HM.below⟩)
 by_cases C : (ee.kind : Int) = 3
 rotate_left
 ·
  obtain ⟨a0, a1, D⟩ := fF C; clear C
  have a2 := HM.b0.c 124 (.slice ((some ⟨bk, off, none⟩)) 1 c)
  go_wp2_with with_reducible refine so ?_
  clear a2
  have hst := aB (bR HM) (bG HE)
  refine aD _ 35 hst ⟨HM.drew, HE⟩ ?_
  clear HM HE
  refine aA 0 hst ?_
  refine aF 1 rfl hst (fun W hS K hK => by have ld : W.cell? ⟨q, 116, none⟩ = some (.bool X.ok) := hS.1.b0.cell 116; clear hS; go_simp; exact hk hK) ?_
  refine aA 2 hst ?_
  refine aA 3 hst ?_
  refine aA 4 hst ?_
  refine aA 5 hst ?_
  refine aA 6 hst ?_
  refine aA 7 hst ?_
  refine aA 8 hst ?_
  refine aA 9 hst ?_
  refine aA 10 hst ?_
  refine aF 11 rfl hst (fun W hS K hK => by have ld : W.cell? ⟨bk, off, none⟩ = some (.int .i64 ee.kind) := hS.2.2 0 _ rfl; clear hS; go_simp; exact hk hK) ?_
  refine aA 12 hst ?_
  refine aA 13 hst ?_
  refine aA 14 hst ?_
  refine aG 15 hst ?_
  refine aG 16 hst ?_
  refine aG 17 hst ?_
  refine aG 18 hst ?_
  refine aG 19 hst ?_
  refine aG 20 hst ?_
  refine aG 21 hst ?_
  refine aG 22 hst ?_
  refine aG 23 hst ?_
  refine aG 24 hst ?_
  refine aA 25 hst ?_
  refine aA 26 hst ?_
  refine aG 27 hst ?_
  refine aG 28 hst ?_
  refine aG 29 hst ?_
  refine aG 30 hst ?_
  refine aG 31 hst ?_
  refine aG 32 hst ?_
  refine aA 33 hst ?_
  refine aA 34 hst ?_
  refine aE (fun a9 hS => ?_)
  obtain ⟨HM, HE⟩ := hS
  clear hst
  go_wp2_with with_reducible refine so ?_
  go_returns
  have q1 := D.out
  have er : X.done true = false := by unfold Tk.done Tk.side; simp [HG.out, z, q1] <;> rfl
  rw [er]; first | exact ⟨rfl, HM.below⟩ | (rw [hbs]; exact ⟨rfl, HM.below⟩)
 obtain ⟨a0, a1, D⟩ := fT C; clear C
 by_cases F : ee.key = X.s1.ltk
 ·
  obtain ⟨a3, a4, J⟩ := gT F; clear F
  have a5 := HM.b0.c 124 (.slice ((some ⟨bk, off, none⟩)) 1 c)
  go_wp2_with with_reducible refine so ?_
  clear a5
  have hst := aB (bR HM) (bG HE)
  refine aD _ 35 hst ⟨HM.drew, HE⟩ ?_
  clear HM HE
  refine aA 0 hst ?_
  refine aF 1 rfl hst (fun W hS K hK => by have ld : W.cell? ⟨q, 116, none⟩ = some (.bool X.ok) := hS.1.b0.cell 116; clear hS; go_simp; exact hk hK) ?_
  refine aA 2 hst ?_
  refine aA 3 hst ?_
  refine aA 4 hst ?_
  refine aA 5 hst ?_
  refine aA 6 hst ?_
  refine aA 7 hst ?_
  refine aA 8 hst ?_
  refine aA 9 hst ?_
  refine aA 10 hst ?_
  refine aF 11 rfl hst (fun W hS K hK => by have ld : W.cell? ⟨bk, off, none⟩ = some (.int .i64 ee.kind) := hS.2.2 0 _ rfl; clear hS; go_simp; exact hk hK) ?_
  refine aA 12 hst ?_
  refine aA 13 hst ?_
  refine aA 14 hst ?_
  refine aA 15 hst ?_
  refine aA 16 hst ?_
  refine aA 17 hst ?_
  refine aF 18 rfl hst (fun W hS K hK => by have ld : W.cell? ⟨bk, off + 2, none⟩ = some (.int .u64 (W64 ee.key)) := hS.2.2 2 _ rfl; clear hS; go_simp; exact hk hK) ?_
  refine aA 19 hst ?_
  refine aA 20 hst ?_
  refine aA 21 hst ?_
  refine aA 22 hst ?_
  refine bS 23 (.int .u64 (W64 X.s1.ltk)) hst (fun W hS => hS.1.b0.cell 110) ?_
  refine aA 24 hst ?_
  refine aA 25 hst ?_
  refine aA 26 hst ?_
  refine aA 27 hst ?_
  refine aA 28 hst ?_
  refine aA 29 hst ?_
  refine aA 30 hst ?_
  refine bS 31 (.int .i64 X.s1.phase) hst (fun W hS => hS.1.b0.cell 77) ?_
  refine aA 32 hst ?_
  refine aA 33 hst ?_
  refine aA 34 hst ?_
  refine aE (fun b1 hS => ?_)
  obtain ⟨HM, HE⟩ := hS
  clear hst
  go_wp2_with with_reducible refine so ?_
  go_returns
  have q1 := D.out
  have q2 := J.out
  have er : X.done true = (X.s1.phase == 7) := by unfold Tk.done Tk.side; simp [HG.out, z, q1, q2] <;> rfl
  rw [er]; first | exact ⟨rfl, HM.below⟩ | (rw [hbs]; exact ⟨rfl, HM.below⟩)
 obtain ⟨a3, a4, J⟩ := gF F; clear F
 have a6 := HM.b0.c 124 (.slice ((some ⟨bk, off, none⟩)) 1 c)
 go_wp2_with with_reducible refine so ?_
 clear a6
 have hst := aB (bR HM) (bG HE)
 refine aD _ 35 hst ⟨HM.drew, HE⟩ ?_
 clear HM HE
 refine aA 0 hst ?_
 refine aF 1 rfl hst (fun W hS K hK => by have ld : W.cell? ⟨q, 116, none⟩ = some (.bool X.ok) := hS.1.b0.cell 116; clear hS; go_simp; exact hk hK) ?_
 refine aA 2 hst ?_
 refine aA 3 hst ?_
 refine aA 4 hst ?_
 refine aA 5 hst ?_
 refine aA 6 hst ?_
 refine aA 7 hst ?_
 refine aA 8 hst ?_
 refine aA 9 hst ?_
 refine aA 10 hst ?_
 refine aF 11 rfl hst (fun W hS K hK => by have ld : W.cell? ⟨bk, off, none⟩ = some (.int .i64 ee.kind) := hS.2.2 0 _ rfl; clear hS; go_simp; exact hk hK) ?_
 refine aA 12 hst ?_
 refine aA 13 hst ?_
 refine aA 14 hst ?_
 refine aA 15 hst ?_
 refine aA 16 hst ?_
 refine aA 17 hst ?_
 refine aF 18 rfl hst (fun W hS K hK => by have ld : W.cell? ⟨bk, off + 2, none⟩ = some (.int .u64 (W64 ee.key)) := hS.2.2 2 _ rfl; clear hS; go_simp; exact hk hK) ?_
 refine aA 19 hst ?_
 refine aA 20 hst ?_
 refine aA 21 hst ?_
 refine aA 22 hst ?_
 refine bS 23 (.int .u64 (W64 X.s1.ltk)) hst (fun W hS => hS.1.b0.cell 110) ?_
 refine aA 24 hst ?_
 refine aA 25 hst ?_
 refine aA 26 hst ?_
 refine aG 27 hst ?_
 refine aG 28 hst ?_
 refine aG 29 hst ?_
 refine aG 30 hst ?_
 refine aG 31 hst ?_
 refine aG 32 hst ?_
 refine aA 33 hst ?_
 refine aA 34 hst ?_
 refine aE (fun b2 hS => ?_)
 obtain ⟨HM, HE⟩ := hS
 clear hst
 go_wp2_with with_reducible refine so ?_
 go_returns
 have q1 := D.out
 have q2 := J.out
 have er : X.done true = false := by unfold Tk.done Tk.side; simp [HG.out, z, q1, q2] <;> rfl
 rw [er]; first | exact ⟨rfl, HM.below⟩ | (rw [hbs]; exact ⟨rfl, HM.below⟩)
end Go.Proofs.YtihmbcnccdiecaaGreatDoor
