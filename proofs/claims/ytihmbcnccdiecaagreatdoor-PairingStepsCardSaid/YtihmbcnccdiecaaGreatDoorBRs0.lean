/- Part of the proofs of the laws of pairing. -/
import Derived.Test.YtihmbcnccdiecaaGreatDoorBLowC
import Derived.Test.YtihmbcnccdiecaaGreatDoorBRfA
namespace Go.Proofs.YtihmbcnccdiecaaGreatDoor
set_option maxRecDepth 100000
set_option linter.unusedVariables false
set_option linter.unusedSimpArgs false
open Go.ChangeShapes Go.WideShapes Go.ChangeAt Go.RowKit
theorem vV (i j : fQ) (w : World)  (hi : ¬ bO i = 0) :
  Calls Tryz.prog 131 #[.agg (bL i).toArray, .agg (bL j).toArray] w (fun e w' => e = .returned (.tuple #[.int .i64 (bC i j).1, .bool (bC i j).2]) ∧ Below w.heap.size w w') := by
 obtain ⟨r, hr⟩ : ∃ r, bC i j = r := ⟨_, rfl⟩
 rw [hr]
 have HR := Lib.hid hr
 clear hr
 have eei : (bO i == 0) = false := by simpa using hi
 have eni : (bO i != 0) = true := by simpa using hi
 have Ki := Lib.hid hi
 clear hi
 go_enter Tryz.func131, Tryz.ntmps131
 have hB := Below.refl w.heap.size w
 go_wp2_with with_reducible refine so ?_
 refine bF (ty := 23) (cs := (bL i).toArray) (fun g => .pointer (some ⟨g, 0, none⟩)) rfl (by kernel_rfl) ?_
 intro I a0 U J L q
 have a1 : w.heap.size ≤ I := Nat.le_trans hB.size J
 replace hB := hB.trans (L.mono hB.size)
 clear L J U
 go_wp2_with with_reducible refine so ?_
 refine bF (ty := 23) (cs := (bL j).toArray) (fun g => .pointer (some ⟨g, 0, none⟩)) rfl (by kernel_rfl) ?_
 intro O a2 Z C D F
 have a3 : I < O := Nat.lt_of_lt_of_le q.lt C
 have a4 : w.heap.size ≤ O := Nat.le_trans hB.size C
 replace q := q.to D q.lt
 replace hB := hB.trans (D.mono hB.size)
 clear D C Z
 go_wp2_with first | with_reducible refine so ?_ | with_reducible refine ld 0 [.int .i64 i.io, .bool i.oob, .bool i.bond, .bool i.mitm, .bool i.sid, .bool i.tid] q U23 ?_ | ((with_reducible refine bI 0 [.int .i64 i.io, .bool i.oob, .bool i.bond, .bool i.mitm, .bool i.sid, .bool i.tid] q ?_ ?_ U23 ?_ ?_ ?_ ?_); rfl; rfl; rfl; kernel_rfl; rfl)
 refine (jB i _).mono ?_; rintro e a5 ⟨rfl, z⟩
 replace q := q.to z q.lt
 replace F := F.to z F.lt
 replace hB := hB.trans (z.mono hB.size)
 clear z
 go_wp2_with with_reducible refine so ?_
 go_returns
 obtain rfl : r = (0, false) := by rw [← HR.out]; unfold bC; rw [if_pos (.inl Ki.out)]
 exact ⟨rfl, hB⟩
theorem vO (i j : fQ) (w : World)  (hi : bO i = 0) (hj : ¬ bO j = 0) :
  Calls Tryz.prog 131 #[.agg (bL i).toArray, .agg (bL j).toArray] w (fun e w' => e = .returned (.tuple #[.int .i64 (bC i j).1, .bool (bC i j).2]) ∧ Below w.heap.size w w') := by
 obtain ⟨r, hr⟩ : ∃ r, bC i j = r := ⟨_, rfl⟩
 rw [hr]
 have HR := Lib.hid hr
 clear hr
 have eei : (bO i == 0) = true := by simpa using hi
 have eni : (bO i != 0) = false := by simpa using hi
 have Ki := Lib.hid hi
 clear hi
 have eej : (bO j == 0) = false := by simpa using hj
 have enj : (bO j != 0) = true := by simpa using hj
 have Kj := Lib.hid hj
 clear hj
 go_enter Tryz.func131, Tryz.ntmps131
 have hB := Below.refl w.heap.size w
 go_wp2_with with_reducible refine so ?_
 refine bF (ty := 23) (cs := (bL i).toArray) (fun g => .pointer (some ⟨g, 0, none⟩)) rfl (by kernel_rfl) ?_
 intro J a1 Z L O q
 have a2 : w.heap.size ≤ J := Nat.le_trans hB.size L
 replace hB := hB.trans (O.mono hB.size)
 clear O L Z
 go_wp2_with with_reducible refine so ?_
 refine bF (ty := 23) (cs := (bL j).toArray) (fun g => .pointer (some ⟨g, 0, none⟩)) rfl (by kernel_rfl) ?_
 intro U a3 a0 F I z
 have a4 : J < U := Nat.lt_of_lt_of_le q.lt F
 have a5 : w.heap.size ≤ U := Nat.le_trans hB.size F
 replace q := q.to I q.lt
 replace hB := hB.trans (I.mono hB.size)
 clear I F a0
 go_wp2_with first | with_reducible refine so ?_ | with_reducible refine ld 0 [.int .i64 i.io, .bool i.oob, .bool i.bond, .bool i.mitm, .bool i.sid, .bool i.tid] q U23 ?_ | ((with_reducible refine bI 0 [.int .i64 i.io, .bool i.oob, .bool i.bond, .bool i.mitm, .bool i.sid, .bool i.tid] q ?_ ?_ U23 ?_ ?_ ?_ ?_); rfl; rfl; rfl; kernel_rfl; rfl)
 refine (jB i _).mono ?_; rintro e a6 ⟨rfl, C⟩
 replace q := q.to C q.lt
 replace z := z.to C z.lt
 replace hB := hB.trans (C.mono hB.size)
 clear C
 go_wp2_with first | with_reducible refine so ?_ | with_reducible refine ld 0 [.int .i64 j.io, .bool j.oob, .bool j.bond, .bool j.mitm, .bool j.sid, .bool j.tid] z U23 ?_ | ((with_reducible refine bI 0 [.int .i64 j.io, .bool j.oob, .bool j.bond, .bool j.mitm, .bool j.sid, .bool j.tid] z ?_ ?_ U23 ?_ ?_ ?_ ?_); rfl; rfl; rfl; kernel_rfl; rfl)
 refine (jB j _).mono ?_; rintro e a7 ⟨rfl, D⟩
 replace q := q.to D q.lt
 replace z := z.to D z.lt
 replace hB := hB.trans (D.mono hB.size)
 clear D
 go_wp2_with with_reducible refine so ?_
 go_returns
 obtain rfl : r = (0, false) := by rw [← HR.out]; unfold bC; rw [if_pos (.inr Kj.out)]
 exact ⟨rfl, hB⟩
set_option maxHeartbeats 16000000 in
theorem wR (n m : Int) (a0 a1 a2 a3 a4 b0 b1 b2 b3 b4 : Bool) (w : World) (hn : n = 0 ∨ n = 1 ∨ n = 2 ∨ n = 3 ∨ n = 4) (hm : m = 0 ∨ m = 1 ∨ m = 2 ∨ m = 3 ∨ m = 4) :
    Calls Tryz.prog 131 #[.agg #[.int .i64 n, .bool a0, .bool a1, .bool a2, .bool a3, .bool a4], .agg #[.int .i64 m, .bool b0, .bool b1, .bool b2, .bool b3, .bool b4]] w fun e w' => e = .returned (.tuple #[.int .i64 (bC ⟨n, a0, a1, a2, a3, a4⟩ ⟨m, b0, b1, b2, b3, b4⟩).1, .bool (bC ⟨n, a0, a1, a2, a3, a4⟩ ⟨m, b0, b1, b2, b3, b4⟩).2]) ∧ Below w.heap.size w w' := by
  rcases hn with rfl | rfl | rfl | rfl | rfl <;> rcases hm with rfl | rfl | rfl | rfl | rfl <;>
    (go_enter Tryz.func131, Tryz.ntmps131
     go_wp2
     all_goals go_returns
     all_goals refine ⟨?_, by go_grown⟩
     all_goals (simp_all [bC, bO, nN]; done))
theorem vC {f : fQ} (h : bO f = 0) : f.io = 0 ∨ f.io = 1 ∨ f.io = 2 ∨ f.io = 3 ∨ f.io = 4 := by
  unfold bO at h
  split at h
  · cases h
  · omega
theorem mP (i j : fQ) (w : World) : Calls Tryz.prog 131 #[.agg (bL i).toArray, .agg (bL j).toArray] w fun e w' => e = .returned (.tuple #[.int .i64 (bC i j).1, .bool (bC i j).2]) ∧ Below w.heap.size w w' := by
  by_cases hi : bO i = 0
  · by_cases hj : bO j = 0
    · exact wR i.io j.io i.oob i.bond i.mitm i.sid i.tid j.oob j.bond j.mitm j.sid j.tid w (vC hi) (vC hj)
    · exact vO i j w hi hj
  · exact vV i j w hi
theorem tC (i j : fQ) (w : World) :
  Calls Tryz.prog 140 #[.agg (bL i).toArray, .agg (bL j).toArray] w (fun e w' => e = .returned (.bool (cC i j)) ∧ Below w.heap.size w w') := by
 obtain ⟨r, hr⟩ : ∃ r, cC i j = r := ⟨_, rfl⟩
 rw [hr]
 have HR := Lib.hid hr
 clear hr
 go_enter Tryz.func140, Tryz.ntmps140
 have hB := Below.refl w.heap.size w
 go_wp2_with with_reducible refine so ?_
 refine bF (ty := 23) (cs := (bL i).toArray) (fun g => .pointer (some ⟨g, 0, none⟩)) rfl (by kernel_rfl) ?_
 intro Z a7 a3 a0 a1 C
 have a8 : w.heap.size ≤ Z := Nat.le_trans hB.size a0
 replace hB := hB.trans (a1.mono hB.size)
 clear a1 a0 a3
 go_wp2_with with_reducible refine so ?_
 refine bF (ty := 23) (cs := (bL j).toArray) (fun g => .pointer (some ⟨g, 0, none⟩)) rfl (by kernel_rfl) ?_
 intro a2 a9 a4 O U F
 have b0 : Z < a2 := Nat.lt_of_lt_of_le C.lt O
 have b1 : w.heap.size ≤ a2 := Nat.le_trans hB.size O
 replace C := C.to U C.lt
 replace hB := hB.trans (U.mono hB.size)
 clear U O a4
 go_wp2_with first | with_reducible refine so ?_ | with_reducible refine ld 0 [.int .i64 i.io, .bool i.oob, .bool i.bond, .bool i.mitm, .bool i.sid, .bool i.tid] C U23 ?_ | with_reducible refine ld 0 [.int .i64 j.io, .bool j.oob, .bool j.bond, .bool j.mitm, .bool j.sid, .bool j.tid] F U23 ?_
 refine (mP i j _).mono ?_; rintro e b2 ⟨rfl, J⟩
 replace C := C.to J C.lt
 replace F := F.to J F.lt
 replace hB := hB.trans (J.mono hB.size)
 clear J
 by_cases L : ((bC i j).1 : Int) = 0
 ·
  obtain ⟨a5, a6, I⟩ := fT L; clear L
  go_wp2_with with_reducible refine so ?_
  go_returns
  have q0 := I.out
  obtain rfl : r = false := by rw [← HR.out]; first | (simp only [cC]; simp [q0]; done) | simp [cC, q0] <;> rfl
  exact ⟨rfl, hB⟩
 obtain ⟨a5, a6, I⟩ := fF L; clear L
 rcases q : (bC i j).2 with _ | _
 rotate_left
 ·
  go_wp2_with with_reducible refine so ?_
  go_returns
  have q0 := I.out
  obtain rfl : r = true := by rw [← HR.out]; first | (simp only [cC, q]; simp [q0, q]; done) | simp [cC, q0, q] <;> rfl
  exact ⟨rfl, hB⟩
 rcases z : i.mitm with _ | _
 rotate_left
 ·
  have b3 := C.c 3 (.bool i.mitm)
  go_wp2_with with_reducible refine so ?_
  go_returns
  have q0 := I.out
  obtain rfl : r = false := by rw [← HR.out]; first | (simp only [cC, q, z]; simp [q0, q, z]; done) | simp [cC, q0, q, z] <;> rfl
  exact ⟨rfl, hB⟩
 rcases D : j.mitm with _ | _
 ·
  have b4 := C.c 3 (.bool i.mitm)
  have b5 := F.c 3 (.bool j.mitm)
  go_wp2_with with_reducible refine so ?_
  go_returns
  have q0 := I.out
  obtain rfl : r = true := by rw [← HR.out]; first | (simp only [cC, q, z, D]; simp [q0, q, z, D]; done) | simp [cC, q0, q, z, D] <;> rfl
  exact ⟨rfl, hB⟩
 have b6 := C.c 3 (.bool i.mitm)
 have b7 := F.c 3 (.bool j.mitm)
 go_wp2_with with_reducible refine so ?_
 go_returns
 have q0 := I.out
 obtain rfl : r = false := by rw [← HR.out]; first | (simp only [cC, q, z, D]; simp [q0, q, z, D]; done) | simp [cC, q0, q, z, D] <;> rfl
 exact ⟨rfl, hB⟩
end Go.Proofs.YtihmbcnccdiecaaGreatDoor
