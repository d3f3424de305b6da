/- Part of the proofs of the laws of pairing. -/
import Derived.Test.YtihmbcnccdiecaaGreatDoorBRsL
namespace Go.Proofs.YtihmbcnccdiecaaGreatDoor
set_option maxRecDepth 100000
set_option linter.unusedVariables false
set_option linter.unusedSimpArgs false
open Go.ChangeShapes Go.WideShapes Go.ChangeAt Go.RowKit
set_option maxHeartbeats 2000000 in
theorem FI (base : Nat) (p : Pr) (d : Sec) (now : Int) (bx : List Bk) (w : World) (HM : Mem w w base [] [] (.slice none 0 0) (.slice none 0 0) bx) (hq : p.phase = 3 → aU p.method = true → 0 ≤ p.passkey ∧ p.passkey ≤ 999999) (h0 : 0 ≤ p.round) (h1 : p.round ≤ 64) (h2 : p.round ≤ 60) :
  Calls Tryz.prog 64 #[.agg (prL p).toArray, .agg (aI d).toArray, .int .i64 now] w (fun e w' => gJ w w' base (bN p d now) bx e) := by
 go_enter Tryz.func64, Tryz.ntmps64
 go_wp2_with with_reducible refine sy ?_
 refine HM.nw (ty := 37) (cs := (prL p).toArray) ?_; clear HM; intro c6 c7 HM
 go_wp2_with with_reducible refine sy ?_
 refine HM.nw (ty := 43) (cs := (aI d).toArray) ?_; clear HM; intro c8 c9 HM
 go_wp2_with with_reducible refine sy ?_
 refine HM.nw (ty := 106) (cs := (stL fY (.slice none 0 0) (.slice none 0 0)).toArray) ?_; clear HM; intro d0 d1 HM
 by_cases D : (p.phase : Int) = 7
 ·
  obtain ⟨Z, a0, q⟩ := fT D; clear D
  have a1 := HM.b2.c 19 (.int .i64 p.phase)
  go_wp2_with first | with_reducible refine sy ?_ | with_reducible refine lw HM.b2 U37 ?_
  unfold bA
  clear a1
  refine aN [(0, .agg (prL p).toArray)] (stL (mkS p [] []) (.slice none 0 0) (.slice none 0 0)).toArray (by simp only [List.map_toArray, List.map_cons, List.map_nil]; rfl) (by kernel_rfl) ?_
  go_wp2_with with_reducible refine sy ?_
  refine yv HM.b0 HM.s0 ?_; clear HM; intro d2 HM
  go_wp2_with with_reducible refine sy ?_
  refine rc1 HM.b0 aQ ?_
  have q0 := q.out
  exact stE (by unfold bN; exact es8) HM.drop.drop.drop
 obtain ⟨Z, a0, q⟩ := fF D; clear D
 by_cases F : (p.phase : Int) = 8
 ·
  obtain ⟨a2, a3, z⟩ := fT F; clear F
  have a4 := HM.b2.c 19 (.int .i64 p.phase)
  go_wp2_with first | with_reducible refine sy ?_ | with_reducible refine lw HM.b2 U37 ?_
  unfold bA
  clear a4
  refine aN [(0, .agg (prL p).toArray)] (stL (mkS p [] []) (.slice none 0 0) (.slice none 0 0)).toArray (by simp only [List.map_toArray, List.map_cons, List.map_nil]; rfl) (by kernel_rfl) ?_
  go_wp2_with with_reducible refine sy ?_
  refine yv HM.b0 HM.s0 ?_; clear HM; intro d3 HM
  go_wp2_with with_reducible refine sy ?_
  refine rc1 HM.b0 aQ ?_
  have q0 := q.out
  have q1 := z.out
  exact stE (by unfold bN; exact es8) HM.drop.drop.drop
 obtain ⟨a2, a3, z⟩ := fF F; clear F
 have a5 := HM.b2.c 19 (.int .i64 p.phase)
 go_wp2_with first | with_reducible refine sy ?_ | with_reducible refine ld 0 (aI d) HM.b1 U43 ?_
 refine bt HM.to (EP d _) ?_; clear HM; intro d4 HM; clear a5
 by_cases I : ((gD d) : Int) = 0
 rotate_left
 ·
  obtain ⟨a6, a7, C⟩ := fF I; clear I
  go_wp2_with first | with_reducible refine sy ?_ | with_reducible refine lw HM.b2 U37 ?_
  refine bs HM (bY _ p 7 now _ _ HM.here) ?_; clear HM; intro d5 d6 d7 d8 d9 HM
  go_wp2_with with_reducible refine sy ?_
  refine yv HM.b0 HM.s0 ?_; clear HM; intro e0 HM
  go_wp2_with with_reducible refine sy ?_
  refine rc1 HM.b0 aQ ?_
  have q0 := q.out
  have q1 := z.out
  have q2 := C.out
  exact stE (by unfold bN; exact es8) HM.drop.drop.drop
 obtain ⟨a6, a7, C⟩ := fT I; clear I
 by_cases J : (d.kind : Int) = 5
 rotate_left
 ·
  obtain ⟨a8, a9, L⟩ := fF J; clear J
  have b3 := HM.b1.c 0 (.int .i64 d.kind)
  go_wp2_with first | with_reducible refine sy ?_ | with_reducible refine lw HM.b2 U37 ?_ | with_reducible refine ld 0 (aI d) HM.b1 U43 ?_
  refine bs HM (GG _ p d now _ _ HM.here hq h0 h1 h2) ?_; clear HM; intro e1 e2 e3 e4 e5 HM; clear b3
  go_wp2_with with_reducible refine sy ?_
  refine yv HM.b0 HM.s0 ?_; clear HM; intro e6 HM
  go_wp2_with with_reducible refine sy ?_
  refine rc1 HM.b0 aQ ?_
  have q0 := q.out
  have q1 := z.out
  have q2 := C.out
  have q3 := L.out
  exact stE (by unfold bN; exact es8) HM.drop.drop.drop
 obtain ⟨a8, a9, L⟩ := fT J; clear J
 by_cases O : (p.phase : Int) = 0
 ·
  obtain ⟨b4, b5, U⟩ := fT O; clear O
  have b6 := HM.b1.c 0 (.int .i64 d.kind)
  have b7 := HM.b2.c 19 (.int .i64 p.phase)
  go_wp2_with first | with_reducible refine sy ?_ | with_reducible refine lw HM.b2 U37 ?_
  unfold bA
  clear b6 b7
  refine aN [(0, .agg (prL p).toArray)] (stL (mkS p [] []) (.slice none 0 0) (.slice none 0 0)).toArray (by simp only [List.map_toArray, List.map_cons, List.map_nil]; rfl) (by kernel_rfl) ?_
  go_wp2_with with_reducible refine sy ?_
  refine yv HM.b0 HM.s0 ?_; clear HM; intro e7 HM
  go_wp2_with with_reducible refine sy ?_
  refine rc1 HM.b0 aQ ?_
  have q0 := q.out
  have q1 := z.out
  have q2 := C.out
  have q3 := L.out
  have q4 := U.out
  exact stE (by unfold bN; exact es8) HM.drop.drop.drop
 obtain ⟨b4, b5, U⟩ := fF O; clear O
 have b8 := HM.b1.c 0 (.int .i64 d.kind)
 have b9 := HM.b2.c 19 (.int .i64 p.phase)
 have c0 := HM.b1.c 12 (.int .i64 d.reason)
 go_wp2_with first | with_reducible refine sy ?_ | with_reducible refine lw HM.b2 U37 ?_
 refine bs HM (bY _ p d.reason now _ _ HM.here) ?_; clear HM; intro e8 e9 c4 c5 f0 HM; clear b8 b9 c0
 go_wp2_with with_reducible refine sy ?_
 refine HM.nw (ty := 106) (cs := (stL fY (.slice none 0 0) (.slice none 0 0)).toArray) ?_; clear HM; intro f1 f2 HM
 go_wp2_with with_reducible refine sy ?_
 refine yv HM.b0 HM.s0 ?_; clear HM; intro f3 HM
 go_wp2_with with_reducible refine sy ?_
 replace HM := HM.nilS
 go_wp2_with with_reducible refine sy ?_
 refine yk 58 (stL ((cE p d.reason now).put_out ([])) (.slice none 0 0) (.slice c4 ((cE p d.reason now).ev.length) c5)).toArray HM.b0 HM.s0 ?_; clear HM; intro f4 HM
 go_wp2_with first | with_reducible refine sy ?_ | with_reducible refine lw HM.b0 aQ ?_
 refine yv HM.b1 HM.s1 ?_; clear HM; intro f5 HM
 go_wp2_with with_reducible refine sy ?_
 refine rc1 HM.b1 aQ ?_
 have q0 := q.out
 have q1 := z.out
 have q2 := C.out
 have q3 := L.out
 have q4 := U.out
 exact stE (by unfold bN; exact es8) HM.drop.drop.drop.drop
end Go.Proofs.YtihmbcnccdiecaaGreatDoor
