/- Part of the proofs of the laws of pairing. -/
import Derived.Test.YtihmbcnccdiecaaGreatDoorA2
namespace Go.Proofs.YtihmbcnccdiecaaGreatDoor
set_option maxRecDepth 100000
set_option linter.unusedVariables false
set_option linter.unusedSimpArgs false
open Go.ChangeShapes Go.WideShapes Go.ChangeAt Go.RowKit
theorem bQ (g : Nat) (S : Sd) (v u : Value)  (w : World) (HG : Blk w g cQ (sdL S v u).toArray) (r : Bool) (hr : S.first = r) :
  Calls Tryz.prog 42 #[.pointer (some ⟨g, 0, none⟩)] w (fun e w' => e = .returned (.bool r) ∧ Below w.heap.size w w') := by
 have HR := Lib.hid hr
 clear hr
 go_enter Tryz.func42, Tryz.ntmps42
 have hB := Below.refl w.heap.size w
 have q := HG.c 0 (.int .i64 S.p.cfg.role)
 go_wp2_with with_reducible refine so ?_
 go_returns
 obtain rfl : r = (S.p.cfg.role == 0) := by rw [← HR.out]; first | (simp only [Sd.first]; simp []; done) | simp [Sd.first] <;> rfl
 exact ⟨rfl, hB⟩
theorem nT (g : Nat) (S : Sd) (v u : Value)  (w : World) (HG : Blk w g cQ (sdL S v u).toArray) (r : BitVec 32) (hr : S.own = r) :
  Calls Tryz.prog 70 #[.pointer (some ⟨g, 0, none⟩)] w (fun e w' => e = .returned (.int .u32 (W32 r)) ∧ Below w.heap.size w w') := by
 have HR := Lib.hid hr
 clear hr
 go_enter Tryz.func70, Tryz.ntmps70
 have hB := Below.refl w.heap.size w
 have z := HG.c 14 (.int .u32 (W32 S.p.cfg.secret))
 go_wp2_with with_reducible refine so ?_
 refine (rC S.p.cfg.secret _).mono ?_; rintro e C ⟨rfl, q⟩
 clear z
 replace HG := HG.to q HG.lt
 replace hB := hB.trans (q.mono hB.size)
 clear q
 go_wp2_with with_reducible refine so ?_
 go_returns
 obtain rfl : r = (cJ S.p.cfg.secret) := by rw [← HR.out]; first | (simp only [Sd.own]; simp []; done) | simp [Sd.own] <;> rfl
 exact ⟨rfl, hB⟩
theorem eY (g : Nat) (S : Sd) (v u : Value)  (w : World) (HG : Blk w g cQ (sdL S v u).toArray) (r : Bool) (hr : S.pass = r) :
  Calls Tryz.prog 57 #[.pointer (some ⟨g, 0, none⟩)] w (fun e w' => e = .returned (.bool r) ∧ Below w.heap.size w w') := by
 have HR := Lib.hid hr
 clear hr
 go_enter Tryz.func57, Tryz.ntmps57
 have hB := Below.refl w.heap.size w
 by_cases q : (S.p.method : Int) = 3
 ·
  obtain ⟨F, I, z⟩ := fT q; clear q
  have O := HG.c 21 (.int .i64 S.p.method)
  go_wp2_with with_reducible refine so ?_
  go_returns
  have q0 := z.out
  obtain rfl : r = true := by rw [← HR.out]; first | (simp only [Sd.pass, aU]; simp [q0]; done) | simp [Sd.pass, aU, q0] <;> rfl
  exact ⟨rfl, hB⟩
 obtain ⟨F, I, z⟩ := fF q; clear q
 by_cases C : (S.p.method : Int) = 4
 ·
  obtain ⟨J, L, D⟩ := fT C; clear C
  have U := HG.c 21 (.int .i64 S.p.method)
  go_wp2_with with_reducible refine so ?_
  go_returns
  have q0 := z.out
  have q1 := D.out
  obtain rfl : r = true := by rw [← HR.out]; first | (simp only [Sd.pass, aU]; simp [q0, q1]; done) | simp [Sd.pass, aU, q0, q1] <;> rfl
  exact ⟨rfl, hB⟩
 obtain ⟨J, L, D⟩ := fF C; clear C
 have Z := HG.c 21 (.int .i64 S.p.method)
 go_wp2_with with_reducible refine so ?_
 go_returns
 have q0 := z.out
 have q1 := D.out
 obtain rfl : r = (S.p.method == 5) := by rw [← HR.out]; first | (simp only [Sd.pass, aU]; simp [q0, q1]; done) | simp [Sd.pass, aU, q0, q1] <;> rfl
 exact ⟨rfl, hB⟩
theorem G0 (g : Nat) (S : Sd) (v u : Value)  (w : World) (HG : Blk w g cQ (sdL S v u).toArray) (r : Bool) (hr : S.shows = r) :
  Calls Tryz.prog 105 #[.pointer (some ⟨g, 0, none⟩)] w (fun e w' => e = .returned (.bool r) ∧ Below w.heap.size w w') := by
 have HR := Lib.hid hr
 clear hr
 go_enter Tryz.func105, Tryz.ntmps105
 have hB := Below.refl w.heap.size w
 go_wp2_with with_reducible refine so ?_
 refine (bQ _ _ _ _  _ HG S.first rfl).mono ?_; rintro e U ⟨rfl, C⟩
 replace HG := HG.to C HG.lt
 replace hB := hB.trans (C.mono hB.size)
 clear C
 rcases q : S.first with _ | _
 ·
  go_wp2_with with_reducible refine so ?_
  refine (bQ _ _ _ _  _ HG S.first rfl).mono ?_; rintro e Z ⟨rfl, D⟩
  replace HG := HG.to D HG.lt
  replace hB := hB.trans (D.mono hB.size)
  clear D
  have a0 := HG.c 21 (.int .i64 S.p.method)
  go_wp2_with with_reducible refine so ?_
  go_returns
  obtain rfl : r = (S.p.method == 4) := by rw [← HR.out]; first | (simp only [Sd.shows, q]; simp [q]; done) | simp [Sd.shows, q] <;> rfl
  exact ⟨rfl, hB⟩
 by_cases z : (S.p.method : Int) = 3
 ·
  obtain ⟨J, L, F⟩ := fT z; clear z
  have a1 := HG.c 21 (.int .i64 S.p.method)
  go_wp2_with with_reducible refine so ?_
  go_returns
  have q1 := F.out
  obtain rfl : r = true := by rw [← HR.out]; first | (simp only [Sd.shows, q]; simp [q, q1]; done) | simp [Sd.shows, q, q1] <;> rfl
  exact ⟨rfl, hB⟩
 obtain ⟨J, L, F⟩ := fF z; clear z
 have O := HG.c 21 (.int .i64 S.p.method)
 go_wp2_with with_reducible refine so ?_
 refine (bQ _ _ _ _  _ HG S.first rfl).mono ?_; rintro e a2 ⟨rfl, I⟩
 clear O
 replace HG := HG.to I HG.lt
 replace hB := hB.trans (I.mono hB.size)
 clear I
 go_wp2_with with_reducible refine so ?_
 go_returns
 have q1 := F.out
 obtain rfl : r = false := by rw [← HR.out]; first | (simp only [Sd.shows, q]; simp [q, q1]; done) | simp [Sd.shows, q, q1] <;> rfl
 exact ⟨rfl, hB⟩
theorem hP (g : Nat) (S : Sd) (v u : Value) (a b : BitVec 64) (w : World) (HG : Blk w g cQ (sdL S v u).toArray) (r : BitVec 64) (hr : byR S a b = r) :
  Calls Tryz.prog 82 #[.pointer (some ⟨g, 0, none⟩), .int .u64 (W64 a), .int .u64 (W64 b)] w (fun e w' => e = .returned (.int .u64 (W64 r)) ∧ Below w.heap.size w w') := by
 have HR := Lib.hid hr
 clear hr
 go_enter Tryz.func82, Tryz.ntmps82
 have hB := Below.refl w.heap.size w
 go_wp2_with with_reducible refine so ?_
 refine (bQ _ _ _ _  _ HG S.first rfl).mono ?_; rintro e C ⟨rfl, z⟩
 replace HG := HG.to z HG.lt
 replace hB := hB.trans (z.mono hB.size)
 clear z
 rcases q : S.first with _ | _
 ·
  go_wp2_with with_reducible refine so ?_
  go_returns
  obtain rfl : r = b := by rw [← HR.out]; first | (simp only [byR, q]; simp [q]; done) | simp [byR, q] <;> rfl
  exact ⟨rfl, hB⟩
 go_wp2_with with_reducible refine so ?_
 go_returns
 obtain rfl : r = a := by rw [← HR.out]; first | (simp only [byR, q]; simp [q]; done) | simp [byR, q] <;> rfl
 exact ⟨rfl, hB⟩
theorem lU (g : Nat) (S : Sd) (v u : Value) (a b : BitVec 32) (w : World) (HG : Blk w g cQ (sdL S v u).toArray) (r : BitVec 32) (hr : byR S a b = r) :
  Calls Tryz.prog 108 #[.pointer (some ⟨g, 0, none⟩), .int .u32 (W32 a), .int .u32 (W32 b)] w (fun e w' => e = .returned (.int .u32 (W32 r)) ∧ Below w.heap.size w w') := by
 have HR := Lib.hid hr
 clear hr
 go_enter Tryz.func108, Tryz.ntmps108
 have hB := Below.refl w.heap.size w
 go_wp2_with with_reducible refine so ?_
 refine (bQ _ _ _ _  _ HG S.first rfl).mono ?_; rintro e C ⟨rfl, z⟩
 replace HG := HG.to z HG.lt
 replace hB := hB.trans (z.mono hB.size)
 clear z
 rcases q : S.first with _ | _
 ·
  go_wp2_with with_reducible refine so ?_
  go_returns
  obtain rfl : r = b := by rw [← HR.out]; first | (simp only [byR, q]; simp [q]; done) | simp [byR, q] <;> rfl
  exact ⟨rfl, hB⟩
 go_wp2_with with_reducible refine so ?_
 go_returns
 obtain rfl : r = a := by rw [← HR.out]; first | (simp only [byR, q]; simp [q]; done) | simp [byR, q] <;> rfl
 exact ⟨rfl, hB⟩
theorem nO (g : Nat) (S : Sd) (v u : Value) (a b : Bool) (w : World) (HG : Blk w g cQ (sdL S v u).toArray) (r : Bool) (hr : byR S a b = r) :
  Calls Tryz.prog 88 #[.pointer (some ⟨g, 0, none⟩), .bool a, .bool b] w (fun e w' => e = .returned (.bool r) ∧ Below w.heap.size w w') := by
 have HR := Lib.hid hr
 clear hr
 go_enter Tryz.func88, Tryz.ntmps88
 have hB := Below.refl w.heap.size w
 go_wp2_with with_reducible refine so ?_
 refine (bQ _ _ _ _  _ HG S.first rfl).mono ?_; rintro e C ⟨rfl, z⟩
 replace HG := HG.to z HG.lt
 replace hB := hB.trans (z.mono hB.size)
 clear z
 rcases q : S.first with _ | _
 ·
  go_wp2_with with_reducible refine so ?_
  go_returns
  obtain rfl : r = b := by rw [← HR.out]; first | (simp only [byR, q]; simp [q]; done) | simp [byR, q] <;> rfl
  exact ⟨rfl, hB⟩
 go_wp2_with with_reducible refine so ?_
 go_returns
 obtain rfl : r = a := by rw [← HR.out]; first | (simp only [byR, q]; simp [q]; done) | simp [byR, q] <;> rfl
 exact ⟨rfl, hB⟩
theorem oX (g : Nat) (S : Sd) (v u : Value) (a b : Adr) (w : World) (HG : Blk w g cQ (sdL S v u).toArray) (r : Adr) (hr : byR S a b = r) :
  Calls Tryz.prog 83 #[.pointer (some ⟨g, 0, none⟩), .agg (nR a).toArray, .agg (nR b).toArray] w (fun e w' => e = .returned (.agg (nR r).toArray) ∧ Below w.heap.size w w') := by
 have HR := Lib.hid hr
 clear hr
 go_enter Tryz.func83, Tryz.ntmps83
 have hB := Below.refl w.heap.size w
 go_wp2_with with_reducible refine so ?_
 refine bF (ty := 26) (cs := #[.int .i64 a.kind, .int .u64 (W64 a.bits)]) (fun g => .pointer (some ⟨g, 0, none⟩)) rfl (by kernel_rfl) ?_
 intro U b0 a5 Z a0 q
 have b1 : g < U := Nat.lt_of_lt_of_le HG.lt Z
 have b2 : w.heap.size ≤ U := Nat.le_trans hB.size Z
 replace HG := HG.to a0 HG.lt
 replace hB := hB.trans (a0.mono hB.size)
 clear a0 Z a5
 go_wp2_with with_reducible refine so ?_
 refine bF (ty := 26) (cs := #[.int .i64 b.kind, .int .u64 (W64 b.bits)]) (fun g => .pointer (some ⟨g, 0, none⟩)) rfl (by kernel_rfl) ?_
 intro a1 b3 a6 a2 O z
 have b4 : U < a1 := Nat.lt_of_lt_of_le q.lt a2
 have b5 : w.heap.size ≤ a1 := Nat.le_trans hB.size a2
 replace HG := HG.to O HG.lt
 replace q := q.to O q.lt
 replace hB := hB.trans (O.mono hB.size)
 clear O a2 a6
 go_wp2_with with_reducible refine so ?_
 refine bF (ty := 26) (cs := #[.int .i64 0, .int .u64 0]) (fun g => .pointer (some ⟨g, 0, none⟩)) rfl (by kernel_rfl) ?_
 intro a4 b6 a7 a3 I D
 have b7 : a1 < a4 := Nat.lt_of_lt_of_le z.lt a3
 have b8 : w.heap.size ≤ a4 := Nat.le_trans hB.size a3
 replace HG := HG.to I HG.lt
 replace q := q.to I q.lt
 replace z := z.to I z.lt
 replace hB := hB.trans (I.mono hB.size)
 clear I a3 a7
 go_wp2_with with_reducible refine so ?_
 refine (bQ _ _ _ _  _ HG S.first rfl).mono ?_; rintro e b9 ⟨rfl, F⟩
 replace HG := HG.to F HG.lt
 replace q := q.to F q.lt
 replace z := z.to F z.lt
 replace D := D.to F D.lt
 replace hB := hB.trans (F.mono hB.size)
 clear F
 rcases C : S.first with _ | _
 ·
  go_wp2_with first | with_reducible refine so ?_ | with_reducible refine ld 0 (nR b) z U26 ?_
  refine sv _ D ?_
  intro c0 a8 J
  replace HG := J.blk HG (by omega)
  replace q := J.blk q (by omega)
  replace z := J.blk z (by omega)
  replace hB := J.below hB (by omega)
  clear D J
  go_wp2_with with_reducible refine so ?_
  refine rc1 a8 U26 ?_
  obtain rfl : r = b := by rw [← HR.out]; first | (simp only [byR, C]; simp [C]; done) | simp [byR, C] <;> rfl
  exact ⟨rfl, hB⟩
 go_wp2_with first | with_reducible refine so ?_ | with_reducible refine ld 0 (nR a) q U26 ?_
 refine sv _ D ?_
 intro c4 a9 L
 replace HG := L.blk HG (by omega)
 replace q := L.blk q (by omega)
 replace z := L.blk z (by omega)
 replace hB := L.below hB (by omega)
 clear D L
 go_wp2_with with_reducible refine so ?_
 refine rc1 a9 U26 ?_
 obtain rfl : r = a := by rw [← HR.out]; first | (simp only [byR, C]; simp [C]; done) | simp [byR, C] <;> rfl
 exact ⟨rfl, hB⟩
theorem yK (g : Nat) (S : Sd) (v u : Value) (has : Bool) (oob : BitVec 64) (w : World) (HG : Blk w g cQ (sdL S v u).toArray) (r : BitVec 64) (hr : S.extra has oob = r) :
  Calls Tryz.prog 110 #[.pointer (some ⟨g, 0, none⟩), .bool has, .int .u64 (W64 oob)] w (fun e w' => e = .returned (.int .u64 (W64 r)) ∧ Below w.heap.size w w') := by
 have HR := Lib.hid hr
 clear hr
 go_enter Tryz.func110, Tryz.ntmps110
 have hB := Below.refl w.heap.size w
 go_wp2_with with_reducible refine so ?_
 refine (eY _ _ _ _  _ HG (aU S.p.method) rfl).mono ?_; rintro e J ⟨rfl, D⟩
 replace HG := HG.to D HG.lt
 replace hB := hB.trans (D.mono hB.size)
 clear D
 rcases q : aU S.p.method with _ | _
 rotate_left
 ·
  have L := HG.c 46 (.int .i64 S.p.passkey)
  go_wp2_with with_reducible refine so ?_
  go_returns
  obtain rfl : r = (BitVec.ofInt 64 S.p.passkey) := by rw [← HR.out]; first | (simp only [Sd.extra, Sd.pass, q]; simp [q]; done) | simp [Sd.extra, Sd.pass, q] <;> rfl
  exact ⟨rfl, hB⟩
 by_cases z : (S.p.method : Int) = 6
 rotate_left
 ·
  obtain ⟨F, I, C⟩ := fF z; clear z
  have O := HG.c 21 (.int .i64 S.p.method)
  go_wp2_with with_reducible refine so ?_
  go_returns
  have q1 := C.out
  obtain rfl : r = 0#64 := by rw [← HR.out]; first | (simp only [Sd.extra, Sd.pass, q]; simp [q, q1]; done) | simp [Sd.extra, Sd.pass, q, q1] <;> rfl
  exact ⟨rfl, hB⟩
 obtain ⟨F, I, C⟩ := fT z; clear z
 cases has
 case false =>
  have U := HG.c 21 (.int .i64 S.p.method)
  go_wp2_with with_reducible refine so ?_
  go_returns
  have q1 := C.out
  obtain rfl : r = 0#64 := by rw [← HR.out]; first | (simp only [Sd.extra, Sd.pass, q]; simp [q, q1]; done) | simp [Sd.extra, Sd.pass, q, q1] <;> rfl
  exact ⟨rfl, hB⟩
 case true =>
  have Z := HG.c 21 (.int .i64 S.p.method)
  go_wp2_with with_reducible refine so ?_
  go_returns
  have q1 := C.out
  obtain rfl : r = oob := by rw [← HR.out]; first | (simp only [Sd.extra, Sd.pass, q]; simp [q, q1]; done) | simp [Sd.extra, Sd.pass, q, q1] <;> rfl
  exact ⟨rfl, hB⟩
end Go.Proofs.YtihmbcnccdiecaaGreatDoor
