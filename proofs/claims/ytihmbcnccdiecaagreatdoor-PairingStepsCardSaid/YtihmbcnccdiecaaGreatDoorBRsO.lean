/- Part of the proofs of the laws of pairing. -/
import Derived.Test.YtihmbcnccdiecaaGreatDoorBRsC
import Derived.Test.YtihmbcnccdiecaaGreatDoorBRsE
namespace Go.Proofs.YtihmbcnccdiecaaGreatDoor
set_option maxRecDepth 100000
set_option linter.unusedVariables false
set_option linter.unusedSimpArgs false
open Go.ChangeShapes Go.WideShapes Go.ChangeAt Go.RowKit
set_option maxHeartbeats 2000000 in
theorem JH (base : Nat) (p : Pr) (answer now : Int) (bx : List Bk) (w : World) (HM : Mem w w base [] [] (.slice none 0 0) (.slice none 0 0) bx) (h0 : 0 ≤ p.round) (h1 : p.round ≤ 64) :
  Calls Tryz.prog 65 #[.agg (prL p).toArray, .int .i64 answer, .int .i64 now] w (fun e w' => gJ w w' base (bZ p answer now) bx e) := by
 go_enter Tryz.func65, Tryz.ntmps65
 go_wp2_with with_reducible refine sy ?_
 refine HM.nw (ty := 37) (cs := (prL p).toArray) ?_; clear HM; intro d8 d9 HM
 go_wp2_with with_reducible refine sy ?_
 refine HM.nw (ty := 106) (cs := (stL fY (.slice none 0 0) (.slice none 0 0)).toArray) ?_; clear HM; intro e0 e1 HM
 by_cases I : (p.phase : Int) = 4
 rotate_left
 ·
  obtain ⟨a5, a6, q⟩ := fF I; clear I
  have a7 := HM.b1.c 19 (.int .i64 p.phase)
  go_wp2_with first | with_reducible refine sy ?_ | with_reducible refine lw HM.b1 U37 ?_
  unfold bA
  clear a7
  refine aN [(0, .agg (prL p).toArray)] (stL (mkS p [] []) (.slice none 0 0) (.slice none 0 0)).toArray (by simp only [List.map_toArray, List.map_cons, List.map_nil]; rfl) (by kernel_rfl) ?_
  go_wp2_with with_reducible refine sy ?_
  refine yv HM.b0 HM.s0 ?_; clear HM; intro e2 HM
  go_wp2_with with_reducible refine sy ?_
  refine rc1 HM.b0 aQ ?_
  have q0 := q.out
  exact stE (by unfold bZ; exact es8) HM.drop.drop
 obtain ⟨a5, a6, q⟩ := fT I; clear I
 by_cases J : (answer : Int) < -1
 ·
  obtain ⟨a8, a9, b3, C⟩ := lT J; clear J
  have b4 := HM.b1.c 19 (.int .i64 p.phase)
  go_wp2_with first | with_reducible refine sy ?_ | with_reducible refine lw HM.b1 U37 ?_
  unfold bA
  clear b4
  refine aN [(0, .agg (prL p).toArray)] (stL (mkS p [] []) (.slice none 0 0) (.slice none 0 0)).toArray (by simp only [List.map_toArray, List.map_cons, List.map_nil]; rfl) (by kernel_rfl) ?_
  go_wp2_with with_reducible refine sy ?_
  refine yv HM.b0 HM.s0 ?_; clear HM; intro e3 HM
  go_wp2_with with_reducible refine sy ?_
  refine rc1 HM.b0 aQ ?_
  have q0 := q.out
  have q1 := C.out
  exact stE (by unfold bZ; exact es8) HM.drop.drop
 obtain ⟨a8, a9, b3, C⟩ := lF J; clear J
 by_cases L : (999999 : Int) < answer
 ·
  obtain ⟨b5, b6, b7, z⟩ := lT L; clear L
  have b8 := HM.b1.c 19 (.int .i64 p.phase)
  go_wp2_with first | with_reducible refine sy ?_ | with_reducible refine lw HM.b1 U37 ?_
  unfold bA
  clear b8
  refine aN [(0, .agg (prL p).toArray)] (stL (mkS p [] []) (.slice none 0 0) (.slice none 0 0)).toArray (by simp only [List.map_toArray, List.map_cons, List.map_nil]; rfl) (by kernel_rfl) ?_
  go_wp2_with with_reducible refine sy ?_
  refine yv HM.b0 HM.s0 ?_; clear HM; intro e4 HM
  go_wp2_with with_reducible refine sy ?_
  refine rc1 HM.b0 aQ ?_
  have q0 := q.out
  have q1 := C.out
  have q2 := z.out
  exact stE (by unfold bZ; exact es8) HM.drop.drop
 obtain ⟨b5, b6, b7, z⟩ := lF L; clear L
 have b9 := HM.b1.c 19 (.int .i64 p.phase)
 go_wp2_with first | with_reducible refine sy ?_ | with_reducible refine lw HM.b1 U37 ?_
 refine bt HM.to (fW p now _ HM.laid) ?_; clear HM; intro e5 HM; clear b9
 go_wp2_with with_reducible refine sy ?_
 refine HM.nw (ty := 106) (cs := (stL fY (.slice none 0 0) (.slice none 0 0)).toArray) ?_; clear HM; intro e6 e7 HM
 go_wp2_with with_reducible refine sy ?_
 refine yv HM.b0 HM.s0 ?_; clear HM; intro e8 HM
 have c0 := HM.b2.c 21 (.int .i64 p.method)
 go_wp2_with with_reducible refine sy ?_
 refine bt HM.to (mK _ _ (aU p.method) rfl) ?_; clear HM; intro e9 HM; clear c0
 rcases f0 : (aU p.method) with _ | _
 rotate_left
 ·
  by_cases O : (answer : Int) < 0
  ·
   obtain ⟨c4, c5, c6, D⟩ := lT O; clear O
   go_wp2_with first | with_reducible refine sy ?_ | with_reducible refine lw HM.b2 U37 ?_
   refine bs HM (bY _ p 1 now _ _ HM.here) ?_; clear HM; intro f1 f2 f3 f4 f5 HM
   go_wp2_with with_reducible refine sy ?_
   refine yv HM.b1 HM.s1 ?_; clear HM; intro f6 HM
   go_wp2_with with_reducible refine sy ?_
   refine rc1 HM.b1 aQ ?_
   have q0 := q.out
   have q1 := C.out
   have q2 := z.out
   have q4 := D.out
   exact stE (by unfold bZ; exact es8) HM.drop.drop.drop
  obtain ⟨c4, c5, c6, D⟩ := lF O; clear O
  go_wp2_with with_reducible refine sy ?_
  refine yk 46 (stL ((aC p now).put_passkey answer) (.slice none 0 0) (.slice none 0 0)).toArray HM.b0 HM.s0 ?_; clear HM; intro f7 HM
  go_wp2_with with_reducible refine sy ?_
  refine yk 19 (stL (((aC p now).put_passkey answer).put_phase 3) (.slice none 0 0) (.slice none 0 0)).toArray HM.b0 HM.s0 ?_; clear HM; intro f8 HM
  go_wp2_with first | with_reducible refine sy ?_ | with_reducible refine lw HM.b2 U37 ?_
  refine bt HM.to (cB p _ (aP p) rfl) ?_; clear HM; intro f9 HM
  rcases g0 : (aP p) with _ | _
  rotate_left
  ·
   go_wp2_with first | with_reducible refine sy ?_ | with_reducible refine lw HM.b0 aQ ?_
   refine bs HM (jE _ (((aC p now).put_passkey answer).put_phase 3) _ _ _ _ _ _ HM.here ln9 (fun _ => ⟨D.out, z.out⟩) h0 h1) ?_; clear HM; intro g3 g4 g5 g6 g7 HM
   go_wp2_with with_reducible refine sy ?_
   refine yv HM.b0 HM.s0 ?_; clear HM; intro g8 HM
   go_wp2_with first | with_reducible refine sy ?_ | with_reducible refine lw HM.b0 aQ ?_
   refine yv HM.b1 HM.s1 ?_; clear HM; intro g9 HM
   go_wp2_with with_reducible refine sy ?_
   refine rc1 HM.b1 aQ ?_
   have q0 := q.out
   have q1 := C.out
   have q2 := z.out
   have q4 := D.out
   exact stE (by unfold bZ; exact es8) HM.drop.drop.drop
  rcases h6 : p.have_ with _ | _
  ·
   have c7 := HM.b2.c 45 (.bool p.have_)
   go_wp2_with first | with_reducible refine sy ?_ | with_reducible refine lw HM.b0 aQ ?_
   refine yv HM.b1 HM.s1 ?_; clear HM; intro h7 HM; clear c7
   go_wp2_with with_reducible refine sy ?_
   refine rc1 HM.b1 aQ ?_
   have q0 := q.out
   have q1 := C.out
   have q2 := z.out
   have q4 := D.out
   exact stE (by unfold bZ; exact es8) HM.drop.drop.drop
  have c8 := HM.b2.c 45 (.bool p.have_)
  go_wp2_with first | with_reducible refine sy ?_ | with_reducible refine lw HM.b0 aQ ?_
  refine bs HM (jE _ (((aC p now).put_passkey answer).put_phase 3) _ _ _ _ _ _ HM.here ln9 (fun _ => ⟨D.out, z.out⟩) h0 h1) ?_; clear HM; intro h8 h9 i0 i1 i2 HM; clear c8
  go_wp2_with with_reducible refine sy ?_
  refine yv HM.b0 HM.s0 ?_; clear HM; intro i3 HM
  go_wp2_with first | with_reducible refine sy ?_ | with_reducible refine lw HM.b0 aQ ?_
  refine yv HM.b1 HM.s1 ?_; clear HM; intro i4 HM
  go_wp2_with with_reducible refine sy ?_
  refine rc1 HM.b1 aQ ?_
  have q0 := q.out
  have q1 := C.out
  have q2 := z.out
  have q4 := D.out
  exact stE (by unfold bZ; exact es8) HM.drop.drop.drop
 by_cases U : (1 : Int) < answer
 ·
  obtain ⟨c9, d0, d1, F⟩ := lT U; clear U
  go_wp2_with first | with_reducible refine sy ?_ | with_reducible refine lw HM.b2 U37 ?_
  unfold bA
  refine aN [(0, .agg (prL p).toArray)] (stL (mkS p [] []) (.slice none 0 0) (.slice none 0 0)).toArray (by simp only [List.map_toArray, List.map_cons, List.map_nil]; rfl) (by kernel_rfl) ?_
  go_wp2_with with_reducible refine sy ?_
  refine yv HM.b1 HM.s1 ?_; clear HM; intro i5 HM
  go_wp2_with with_reducible refine sy ?_
  refine rc1 HM.b1 aQ ?_
  have q0 := q.out
  have q1 := C.out
  have q2 := z.out
  have q4 := F.out
  exact stE (by unfold bZ; exact es8) HM.drop.drop.drop
 obtain ⟨c9, d0, d1, F⟩ := lF U; clear U
 by_cases Z : (answer : Int) < 1
 ·
  obtain ⟨d2, d3, d4, a0⟩ := lT Z; clear Z
  go_wp2_with first | with_reducible refine sy ?_ | with_reducible refine lw HM.b2 U37 ?_
  refine bs HM (bY _ p 12 now _ _ HM.here) ?_; clear HM; intro i6 i7 i8 i9 j0 HM
  go_wp2_with with_reducible refine sy ?_
  refine yv HM.b1 HM.s1 ?_; clear HM; intro j1 HM
  go_wp2_with with_reducible refine sy ?_
  refine rc1 HM.b1 aQ ?_
  have q0 := q.out
  have q1 := C.out
  have q2 := z.out
  have q4 := F.out
  have q5 := a0.out
  exact stE (by unfold bZ; exact es8) HM.drop.drop.drop
 obtain ⟨d2, d3, d4, a0⟩ := lF Z; clear Z
 go_wp2_with with_reducible refine sy ?_
 refine yk 48 (stL ((aC p now).put_agreed true) (.slice none 0 0) (.slice none 0 0)).toArray HM.b0 HM.s0 ?_; clear HM; intro j2 HM
 go_wp2_with first | with_reducible refine sy ?_ | with_reducible refine lw HM.b0 aQ ?_
 refine bs HM (hF _ ((aC p now).put_agreed true) _ _ _ _ _ _ HM.here ln9) ?_; clear HM; intro a1 a2 a3 a4 j3 HM
 go_wp2_with with_reducible refine sy ?_
 refine yv HM.b0 HM.s0 ?_; clear HM; intro j4 HM
 rcases j5 : p.haveIn with _ | _
 ·
  have d5 := HM.b2.c 50 (.bool p.haveIn)
  go_wp2_with first | with_reducible refine sy ?_ | with_reducible refine lw HM.b0 aQ ?_
  refine yv HM.b1 HM.s1 ?_; clear HM; intro j6 HM; clear d5
  go_wp2_with with_reducible refine sy ?_
  refine rc1 HM.b1 aQ ?_
  have q0 := q.out
  have q1 := C.out
  have q2 := z.out
  have q4 := F.out
  have q5 := a0.out
  exact stE (by unfold bZ; exact es8) HM.drop.drop.drop
 have d6 := HM.b2.c 50 (.bool p.haveIn)
 go_wp2_with with_reducible refine sy ?_
 refine yk 50 (stL ((cF ((aC p now).put_agreed true)).put_haveIn false) (.slice a1 ((cF ((aC p now).put_agreed true)).out.length) a2) (.slice a3 ((cF ((aC p now).put_agreed true)).ev.length) a4)).toArray HM.b0 HM.s0 ?_; clear HM; intro j7 HM; clear d6
 go_wp2_with with_reducible refine sy ?_
 refine yk 49 (stL (((cF ((aC p now).put_agreed true)).put_haveIn false).put_checkIn (0#64)) (.slice a1 ((cF ((aC p now).put_agreed true)).out.length) a2) (.slice a3 ((cF ((aC p now).put_agreed true)).ev.length) a4)).toArray HM.b0 HM.s0 ?_; clear HM; intro j8 HM
 have d7 := HM.b2.c 49 (.int .u64 (W64 p.checkIn))
 go_wp2_with first | with_reducible refine sy ?_ | with_reducible refine lw HM.b2 U37 ?_ | with_reducible refine lw HM.b0 aQ ?_
 refine bs HM (sS _ p (((cF ((aC p now).put_agreed true)).put_haveIn false).put_checkIn (0#64)) _ _ _ _ p.checkIn now _ _ HM.here (Nat.le_trans (AC _) (show 0 + 1 ≤ 980 by omega))) ?_; clear HM; intro j9 k0 k1 k2 k3 HM; clear d7
 go_wp2_with with_reducible refine sy ?_
 refine yv HM.b1 HM.s1 ?_; clear HM; intro k4 HM
 go_wp2_with with_reducible refine sy ?_
 refine rc1 HM.b1 aQ ?_
 have q0 := q.out
 have q1 := C.out
 have q2 := z.out
 have q4 := F.out
 have q5 := a0.out
 exact stE (by unfold bZ; exact es8) HM.drop.drop.drop
set_option maxHeartbeats 2000000 in
theorem vN (base : Nat) (p : Pr) (now : Int) (bx : List Bk) (w : World) (HM : Mem w w base [] [] (.slice none 0 0) (.slice none 0 0) bx) :
  Calls Tryz.prog 66 #[.agg (prL p).toArray, .int .i64 now] w (fun e w' => gJ w w' base (dX p now) bx e) := by
 go_enter Tryz.func66, Tryz.ntmps66
 go_wp2_with with_reducible refine sy ?_
 refine HM.nw (ty := 37) (cs := (prL p).toArray) ?_; clear HM; intro U Z HM
 go_wp2_with with_reducible refine sy ?_
 refine HM.nw (ty := 106) (cs := (stL fY (.slice none 0 0) (.slice none 0 0)).toArray) ?_; clear HM; intro a0 a1 HM
 by_cases z : (p.phase : Int) = 6
 rotate_left
 ·
  obtain ⟨C, D, q⟩ := fF z; clear z
  have F := HM.b1.c 19 (.int .i64 p.phase)
  go_wp2_with first | with_reducible refine sy ?_ | with_reducible refine lw HM.b1 U37 ?_
  unfold bA
  clear F
  refine aN [(0, .agg (prL p).toArray)] (stL (mkS p [] []) (.slice none 0 0) (.slice none 0 0)).toArray (by simp only [List.map_toArray, List.map_cons, List.map_nil]; rfl) (by kernel_rfl) ?_
  go_wp2_with with_reducible refine sy ?_
  refine yv HM.b0 HM.s0 ?_; clear HM; intro a2 HM
  go_wp2_with with_reducible refine sy ?_
  refine rc1 HM.b0 aQ ?_
  have q0 := q.out
  exact stE (by unfold dX; exact es8) HM.drop.drop
 obtain ⟨C, D, q⟩ := fT z; clear z
 rcases a3 : p.crypt with _ | _
 rotate_left
 ·
  have I := HM.b1.c 19 (.int .i64 p.phase)
  have J := HM.b1.c 51 (.bool p.crypt)
  go_wp2_with first | with_reducible refine sy ?_ | with_reducible refine lw HM.b1 U37 ?_
  unfold bA
  clear I J
  refine aN [(0, .agg (prL p).toArray)] (stL (mkS p [] []) (.slice none 0 0) (.slice none 0 0)).toArray (by simp only [List.map_toArray, List.map_cons, List.map_nil]; rfl) (by kernel_rfl) ?_
  go_wp2_with with_reducible refine sy ?_
  refine yv HM.b0 HM.s0 ?_; clear HM; intro a4 HM
  go_wp2_with with_reducible refine sy ?_
  refine rc1 HM.b0 aQ ?_
  have q0 := q.out
  exact stE (by unfold dX; exact es8) HM.drop.drop
 have L := HM.b1.c 19 (.int .i64 p.phase)
 have O := HM.b1.c 51 (.bool p.crypt)
 go_wp2_with first | with_reducible refine sy ?_ | with_reducible refine lw HM.b1 U37 ?_
 refine bt HM.to (xS p _ (cU p) rfl) ?_; clear HM; intro a5 HM; clear L O
 go_wp2_with first | with_reducible refine sy ?_ | with_reducible refine lw HM.b1 U37 ?_
 refine bt HM.to (fW p now _ HM.laid) ?_; clear HM; intro a6 HM
 go_wp2_with with_reducible refine sy ?_
 refine HM.nw (ty := 106) (cs := (stL fY (.slice none 0 0) (.slice none 0 0)).toArray) ?_; clear HM; intro a7 a8 HM
 go_wp2_with with_reducible refine sy ?_
 refine yv HM.b0 HM.s0 ?_; clear HM; intro a9 HM
 go_wp2_with with_reducible refine sy ?_
 refine yk 51 (stL ((aC p now).put_crypt true) (.slice none 0 0) (.slice none 0 0)).toArray HM.b0 HM.s0 ?_; clear HM; intro b3 HM
 go_wp2_with first | with_reducible refine sy ?_ | with_reducible refine lw HM.b2 U37 ?_
 refine bt HM.to (cB p _ (aP p) rfl) ?_; clear HM; intro b4 HM
 rcases b5 : (aP p) with _ | _
 ·
  go_wp2_with first | with_reducible refine sy ?_ | with_reducible refine lw HM.b0 aQ ?_
  refine bs HM (sG _ ((aC p now).put_crypt true) _ _ _ _ ((cU p).1) _ _ HM.here ln9) ?_; clear HM; intro b6 b7 b8 b9 c0 HM
  go_wp2_with with_reducible refine sy ?_
  refine yv HM.b0 HM.s0 ?_; clear HM; intro c4 HM
  rcases c5 : (cU p).2 with _ | _
  ·
   go_wp2_with first | with_reducible refine sy ?_ | with_reducible refine lw HM.b0 aQ ?_
   refine bs HM (oG _ (iL ((aC p now).put_crypt true) ((cU p).1)) _ _ _ _ _ _ HM.here ln9) ?_; clear HM; intro c6 c7 c8 c9 d0 HM
   go_wp2_with with_reducible refine sy ?_
   refine yv HM.b1 HM.s1 ?_; clear HM; intro d1 HM
   go_wp2_with with_reducible refine sy ?_
   refine rc1 HM.b1 aQ ?_
   have q0 := q.out
   exact stE (by unfold dX; exact es8) HM.drop.drop.drop
  go_wp2_with first | with_reducible refine sy ?_ | with_reducible refine lw HM.b0 aQ ?_
  refine yv HM.b1 HM.s1 ?_; clear HM; intro d2 HM
  go_wp2_with with_reducible refine sy ?_
  refine rc1 HM.b1 aQ ?_
  have q0 := q.out
  exact stE (by unfold dX; exact es8) HM.drop.drop.drop
 rcases d3 : (cU p).2 with _ | _
 rotate_left
 ·
  go_wp2_with first | with_reducible refine sy ?_ | with_reducible refine lw HM.b0 aQ ?_
  refine yv HM.b1 HM.s1 ?_; clear HM; intro d4 HM
  go_wp2_with with_reducible refine sy ?_
  refine rc1 HM.b1 aQ ?_
  have q0 := q.out
  exact stE (by unfold dX; exact es8) HM.drop.drop.drop
 go_wp2_with first | with_reducible refine sy ?_ | with_reducible refine lw HM.b0 aQ ?_
 refine bs HM (sG _ ((aC p now).put_crypt true) _ _ _ _ ((cU p).1) _ _ HM.here ln9) ?_; clear HM; intro d5 d6 d7 d8 d9 HM
 go_wp2_with with_reducible refine sy ?_
 refine yv HM.b0 HM.s0 ?_; clear HM; intro e0 HM
 go_wp2_with first | with_reducible refine sy ?_ | with_reducible refine lw HM.b0 aQ ?_
 refine bs HM (oG _ (iL ((aC p now).put_crypt true) ((cU p).1)) _ _ _ _ _ _ HM.here ln9) ?_; clear HM; intro e1 e2 e3 e4 e5 HM
 go_wp2_with with_reducible refine sy ?_
 refine yv HM.b1 HM.s1 ?_; clear HM; intro e6 HM
 go_wp2_with with_reducible refine sy ?_
 refine rc1 HM.b1 aQ ?_
 have q0 := q.out
 exact stE (by unfold dX; exact es8) HM.drop.drop.drop
end Go.Proofs.YtihmbcnccdiecaaGreatDoor
