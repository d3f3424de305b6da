/- Part of the proofs of the laws of pairing. -/
import Derived.Test.YtihmbcnccdiecaaGreatDoorBRfA
import Derived.Test.YtihmbcnccdiecaaGreatDoorBRsM
namespace Go.Proofs.YtihmbcnccdiecaaGreatDoor
set_option maxRecDepth 100000
set_option linter.unusedVariables false
set_option linter.unusedSimpArgs false
open Go.ChangeShapes Go.WideShapes Go.ChangeAt Go.RowKit
theorem tI (i j : fQ) (w : World) :
  Calls Tryz.prog 130 #[.agg (bL i).toArray, .agg (bL j).toArray] w (fun e w' => e = .returned (.tuple #[.bool (aT i j).1, .bool (aT i j).2]) ∧ Below w.heap.size w w') := by
 obtain ⟨r, hr⟩ : ∃ r, aT i j = r := ⟨_, rfl⟩
 rw [hr]
 have HR := Lib.hid hr
 clear hr
 go_enter Tryz.func130, Tryz.ntmps130
 have hB := Below.refl w.heap.size w
 go_wp2_with with_reducible refine so ?_
 refine bF (ty := 23) (cs := (bL i).toArray) (fun g => .pointer (some ⟨g, 0, none⟩)) rfl (by kernel_rfl) ?_
 intro D a2 a0 U Z q
 have a3 : w.heap.size ≤ D := Nat.le_trans hB.size U
 replace hB := hB.trans (Z.mono hB.size)
 clear Z U a0
 go_wp2_with with_reducible refine so ?_
 refine bF (ty := 23) (cs := (bL j).toArray) (fun g => .pointer (some ⟨g, 0, none⟩)) rfl (by kernel_rfl) ?_
 intro F a4 a1 L O z
 have a5 : D < F := Nat.lt_of_lt_of_le q.lt L
 have a6 : w.heap.size ≤ F := Nat.le_trans hB.size L
 replace q := q.to O q.lt
 replace hB := hB.trans (O.mono hB.size)
 clear O L a1
 rcases C : i.sid with _ | _
 ·
  rcases I : j.sid with _ | _
  ·
   go_wp2_with with_reducible refine so ?_
   have hst := aB (bB hB) (aB (bK q) (bK z))
   refine aD _ 14 hst ⟨hB.drew, q, z⟩ ?_
   clear hB q z
   refine aA 0 hst ?_
   refine aF 1 rfl hst (fun W hS K hK => by have ld : W.cell? ⟨D, 4, none⟩ = some (.bool i.sid) := hS.2.1.cell 4; clear hS; go_simp; exact hk hK) ?_
   refine aA 2 hst ?_
   refine aG 3 hst ?_
   refine aG 4 hst ?_
   refine aA 5 hst ?_
   refine aA 6 hst ?_
   refine aF 7 rfl hst (fun W hS K hK => by have ld : W.cell? ⟨F, 4, none⟩ = some (.bool j.sid) := hS.2.2.cell 4; clear hS; go_simp; exact hk hK) ?_
   refine aA 8 hst ?_
   refine aG 9 hst ?_
   refine aG 10 hst ?_
   refine aA 11 hst ?_
   refine aA 12 hst ?_
   refine aA 13 hst ?_
   refine aE (fun a7 hS => ?_)
   obtain ⟨hB, q, z⟩ := hS
   clear hst
   go_wp2_with with_reducible refine so ?_
   go_returns
   obtain rfl : r = (false, false) := by rw [← HR.out]; first | (simp only [aT, C, I]; simp [C, I]; done) | simp [aT, C, I] <;> rfl
   exact ⟨rfl, hB⟩
  go_wp2_with with_reducible refine so ?_
  have hst := aB (bB hB) (aB (bK q) (bK z))
  refine aD _ 14 hst ⟨hB.drew, q, z⟩ ?_
  clear hB q z
  refine aA 0 hst ?_
  refine aF 1 rfl hst (fun W hS K hK => by have ld : W.cell? ⟨D, 4, none⟩ = some (.bool i.sid) := hS.2.1.cell 4; clear hS; go_simp; exact hk hK) ?_
  refine aA 2 hst ?_
  refine aG 3 hst ?_
  refine aG 4 hst ?_
  refine aA 5 hst ?_
  refine aA 6 hst ?_
  refine aF 7 rfl hst (fun W hS K hK => by have ld : W.cell? ⟨F, 4, none⟩ = some (.bool j.sid) := hS.2.2.cell 4; clear hS; go_simp; exact hk hK) ?_
  refine aA 8 hst ?_
  refine aA 9 hst ?_
  refine aF 10 rfl hst (fun W hS K hK => by have ld : W.cell? ⟨D, 5, none⟩ = some (.bool i.tid) := hS.2.1.cell 5; clear hS; go_simp; exact hk hK) ?_
  refine aA 11 hst ?_
  refine aA 12 hst ?_
  refine aA 13 hst ?_
  refine aE (fun a8 hS => ?_)
  obtain ⟨hB, q, z⟩ := hS
  clear hst
  go_wp2_with with_reducible refine so ?_
  go_returns
  obtain rfl : r = (false, i.tid) := by rw [← HR.out]; first | (simp only [aT, C, I]; simp [C, I]; done) | simp [aT, C, I] <;> rfl
  exact ⟨rfl, hB⟩
 rcases J : j.sid with _ | _
 ·
  go_wp2_with with_reducible refine so ?_
  have hst := aB (bB hB) (aB (bK q) (bK z))
  refine aD _ 14 hst ⟨hB.drew, q, z⟩ ?_
  clear hB q z
  refine aA 0 hst ?_
  refine aF 1 rfl hst (fun W hS K hK => by have ld : W.cell? ⟨D, 4, none⟩ = some (.bool i.sid) := hS.2.1.cell 4; clear hS; go_simp; exact hk hK) ?_
  refine aA 2 hst ?_
  refine aA 3 hst ?_
  refine aF 4 rfl hst (fun W hS K hK => by have ld : W.cell? ⟨F, 5, none⟩ = some (.bool j.tid) := hS.2.2.cell 5; clear hS; go_simp; exact hk hK) ?_
  refine aA 5 hst ?_
  refine aA 6 hst ?_
  refine aF 7 rfl hst (fun W hS K hK => by have ld : W.cell? ⟨F, 4, none⟩ = some (.bool j.sid) := hS.2.2.cell 4; clear hS; go_simp; exact hk hK) ?_
  refine aA 8 hst ?_
  refine aG 9 hst ?_
  refine aG 10 hst ?_
  refine aA 11 hst ?_
  refine aA 12 hst ?_
  refine aA 13 hst ?_
  refine aE (fun a9 hS => ?_)
  obtain ⟨hB, q, z⟩ := hS
  clear hst
  go_wp2_with with_reducible refine so ?_
  go_returns
  obtain rfl : r = (j.tid, false) := by rw [← HR.out]; first | (simp only [aT, C, J]; simp [C, J]; done) | simp [aT, C, J] <;> rfl
  exact ⟨rfl, hB⟩
 go_wp2_with with_reducible refine so ?_
 have hst := aB (bB hB) (aB (bK q) (bK z))
 refine aD _ 14 hst ⟨hB.drew, q, z⟩ ?_
 clear hB q z
 refine aA 0 hst ?_
 refine aF 1 rfl hst (fun W hS K hK => by have ld : W.cell? ⟨D, 4, none⟩ = some (.bool i.sid) := hS.2.1.cell 4; clear hS; go_simp; exact hk hK) ?_
 refine aA 2 hst ?_
 refine aA 3 hst ?_
 refine aF 4 rfl hst (fun W hS K hK => by have ld : W.cell? ⟨F, 5, none⟩ = some (.bool j.tid) := hS.2.2.cell 5; clear hS; go_simp; exact hk hK) ?_
 refine aA 5 hst ?_
 refine aA 6 hst ?_
 refine aF 7 rfl hst (fun W hS K hK => by have ld : W.cell? ⟨F, 4, none⟩ = some (.bool j.sid) := hS.2.2.cell 4; clear hS; go_simp; exact hk hK) ?_
 refine aA 8 hst ?_
 refine aA 9 hst ?_
 refine aF 10 rfl hst (fun W hS K hK => by have ld : W.cell? ⟨D, 5, none⟩ = some (.bool i.tid) := hS.2.1.cell 5; clear hS; go_simp; exact hk hK) ?_
 refine aA 11 hst ?_
 refine aA 12 hst ?_
 refine aA 13 hst ?_
 refine aE (fun b0 hS => ?_)
 obtain ⟨hB, q, z⟩ := hS
 clear hst
 go_wp2_with with_reducible refine so ?_
 go_returns
 obtain rfl : r = (j.tid, i.tid) := by rw [← HR.out]; first | (simp only [aT, C, J]; simp [C, J]; done) | simp [aT, C, J] <;> rfl
 exact ⟨rfl, hB⟩
theorem cB (p : Pr) (w : World)  (r : Bool) (hr : aP p = r) :
  Calls Tryz.prog 63 #[.agg (prL p).toArray] w (fun e w' => e = .returned (.bool r) ∧ Below w.heap.size w w') := by
 have HR := Lib.hid hr
 clear hr
 go_enter Tryz.func63, Tryz.ntmps63
 have hB := Below.refl w.heap.size w
 go_wp2_with with_reducible refine so ?_
 refine bF (ty := 37) (cs := (prL p).toArray) (fun g => .pointer (some ⟨g, 0, none⟩)) rfl (by kernel_rfl) ?_
 intro C I D q z F
 have J : w.heap.size ≤ C := Nat.le_trans hB.size q
 replace hB := hB.trans (z.mono hB.size)
 clear z q D
 have L := F.c 0 (.int .i64 p.cfg.role)
 go_wp2_with with_reducible refine so ?_
 go_returns
 obtain rfl : r = (p.cfg.role == 0) := by rw [← HR.out]; first | (simp only [aP]; simp []; done) | simp [aP] <;> rfl
 exact ⟨rfl, hB⟩
theorem mK (m : Int) (w : World)  (r : Bool) (hr : aU m = r) :
  Calls Tryz.prog 94 #[.int .i64 m] w (fun e w' => e = .returned (.bool r) ∧ Below w.heap.size w w') := by
 have HR := Lib.hid hr
 clear hr
 go_enter Tryz.func94, Tryz.ntmps94
 have hB := Below.refl w.heap.size w
 by_cases q : (m : Int) = 3
 ·
  subst q
  go_wp2_with with_reducible refine so ?_
  go_returns
  obtain rfl : r = true := by rw [← HR.out]; first | (simp only [aU]; simp []; done) | simp [aU] <;> rfl
  exact ⟨rfl, hB⟩
 obtain ⟨F, I, C⟩ := fF q; clear q
 by_cases z : (m : Int) = 4
 ·
  subst z
  go_wp2_with with_reducible refine so ?_
  go_returns
  have q0 := C.out
  obtain rfl : r = true := by rw [← HR.out]; first | (simp only [aU]; simp [q0]; done) | simp [aU, q0] <;> rfl
  exact ⟨rfl, hB⟩
 obtain ⟨J, L, D⟩ := fF z; clear z
 go_wp2_with with_reducible refine so ?_
 go_returns
 have q0 := C.out
 have q1 := D.out
 obtain rfl : r = (m == 5) := by rw [← HR.out]; first | (simp only [aU]; simp [q0, q1]; done) | simp [aU, q0, q1] <;> rfl
 exact ⟨rfl, hB⟩
theorem nJ (p : Pr) (w : World)  (r : BitVec 32) (hr : tT p = r) :
  Calls Tryz.prog 125 #[.agg (prL p).toArray] w (fun e w' => e = .returned (.int .u32 (W32 r)) ∧ Below w.heap.size w w') := by
 have HR := Lib.hid hr
 clear hr
 go_enter Tryz.func125, Tryz.ntmps125
 have hB := Below.refl w.heap.size w
 go_wp2_with with_reducible refine so ?_
 refine bF (ty := 37) (cs := (prL p).toArray) (fun g => .pointer (some ⟨g, 0, none⟩)) rfl (by kernel_rfl) ?_
 intro F L I C D q
 have O : w.heap.size ≤ F := Nat.le_trans hB.size C
 replace hB := hB.trans (D.mono hB.size)
 clear D C I
 have J := q.c 14 (.int .u32 (W32 p.cfg.secret))
 go_wp2_with with_reducible refine so ?_
 refine (pC p.cfg.secret _).mono ?_; rintro e U ⟨rfl, z⟩
 clear J
 replace q := q.to z q.lt
 replace hB := hB.trans (z.mono hB.size)
 clear z
 go_wp2_with with_reducible refine so ?_
 go_returns
 obtain rfl : r = (cJ p.cfg.secret) := by rw [← HR.out]; rfl
 exact ⟨rfl, hB⟩
theorem FU (p : Pr) (w : World)  (r : Bool) (hr : eS p = r) :
  Calls Tryz.prog 162 #[.agg (prL p).toArray] w (fun e w' => e = .returned (.bool r) ∧ Below w.heap.size w w') := by
 have HR := Lib.hid hr
 clear hr
 go_enter Tryz.func162, Tryz.ntmps162
 have hB := Below.refl w.heap.size w
 go_wp2_with with_reducible refine so ?_
 refine bF (ty := 37) (cs := (prL p).toArray) (fun g => .pointer (some ⟨g, 0, none⟩)) rfl (by kernel_rfl) ?_
 intro a3 b4 a4 a1 a2 q
 have b5 : w.heap.size ≤ a3 := Nat.le_trans hB.size a1
 replace hB := hB.trans (a2.mono hB.size)
 clear a2 a1 a4
 by_cases F : (p.method : Int) = 3
 rotate_left
 ·
  obtain ⟨a5, a6, D⟩ := fF F; clear F
  by_cases I : (p.method : Int) = 4
  rotate_left
  ·
   obtain ⟨a7, a8, J⟩ := fF I; clear I
   have b6 := q.c 21 (.int .i64 p.method)
   go_wp2_with with_reducible refine so ?_
   go_returns
   have q0 := D.out
   have q1 := J.out
   obtain rfl : r = false := by rw [← HR.out]; first | (exfalso; omega) | first | (simp [eS, q0, q1]; done) | (simp only [eS]; simp [q0, q1]; done) | ((simp [eS, q0, q1]) <;> rfl)
   exact ⟨rfl, hB⟩
  obtain ⟨a7, a8, J⟩ := fT I; clear I
  have a9 := q.c 21 (.int .i64 p.method)
  go_wp2_with first | with_reducible refine so ?_ | with_reducible refine lw q U37 ?_ | ((with_reducible refine bI 0 (prL p) q ?_ ?_ U37 ?_ ?_ ?_ ?_); rfl; rfl; rfl; kernel_rfl; rfl)
  refine (cB _ _ (aP p) rfl).mono ?_; rintro e b7 ⟨rfl, O⟩
  clear a9
  replace q := q.to O q.lt
  replace hB := hB.trans (O.mono hB.size)
  clear O
  rcases C : (aP p) with _ | _
  ·
   go_wp2_with with_reducible refine so ?_
   go_returns
   have q0 := D.out
   have q1 := J.out
   obtain rfl : r = true := by rw [← HR.out]; first | (exfalso; omega) | first | (simp [eS, q0, q1, C]; done) | (simp only [eS, C]; simp [q0, q1, C]; done) | ((simp [eS, q0, q1, C]) <;> rfl)
   exact ⟨rfl, hB⟩
  go_wp2_with with_reducible refine so ?_
  go_returns
  have q0 := D.out
  have q1 := J.out
  obtain rfl : r = false := by rw [← HR.out]; first | (exfalso; omega) | first | (simp [eS, q0, q1, C]; done) | (simp only [eS, C]; simp [q0, q1, C]; done) | ((simp [eS, q0, q1, C]) <;> rfl)
  exact ⟨rfl, hB⟩
 obtain ⟨a5, a6, D⟩ := fT F; clear F
 have b0 := q.c 21 (.int .i64 p.method)
 go_wp2_with first | with_reducible refine so ?_ | with_reducible refine lw q U37 ?_ | ((with_reducible refine bI 0 (prL p) q ?_ ?_ U37 ?_ ?_ ?_ ?_); rfl; rfl; rfl; kernel_rfl; rfl)
 refine (cB _ _ (aP p) rfl).mono ?_; rintro e b8 ⟨rfl, U⟩
 clear b0
 replace q := q.to U q.lt
 replace hB := hB.trans (U.mono hB.size)
 clear U
 rcases z : (aP p) with _ | _
 rotate_left
 ·
  go_wp2_with with_reducible refine so ?_
  go_returns
  have q0 := D.out
  obtain rfl : r = true := by rw [← HR.out]; first | (exfalso; omega) | first | (simp [eS, q0, z]; done) | (simp only [eS, z]; simp [q0, z]; done) | ((simp [eS, q0, z]) <;> rfl)
  exact ⟨rfl, hB⟩
 by_cases L : (p.method : Int) = 4
 rotate_left
 ·
  obtain ⟨b1, b2, Z⟩ := fF L; clear L
  have b9 := q.c 21 (.int .i64 p.method)
  go_wp2_with with_reducible refine so ?_
  go_returns
  have q0 := D.out
  have q2 := Z.out
  obtain rfl : r = false := by rw [← HR.out]; first | (exfalso; omega) | first | (simp [eS, q0, z, q2]; done) | (simp only [eS, z]; simp [q0, z, q2]; done) | ((simp [eS, q0, z, q2]) <;> rfl)
  exact ⟨rfl, hB⟩
 obtain ⟨b1, b2, Z⟩ := fT L; clear L
 have b3 := q.c 21 (.int .i64 p.method)
 go_wp2_with first | with_reducible refine so ?_ | with_reducible refine lw q U37 ?_ | ((with_reducible refine bI 0 (prL p) q ?_ ?_ U37 ?_ ?_ ?_ ?_); rfl; rfl; rfl; kernel_rfl; rfl)
 refine (cB _ _ (aP p) rfl).mono ?_; rintro e c0 ⟨rfl, a0⟩
 clear b3
 replace q := q.to a0 q.lt
 replace hB := hB.trans (a0.mono hB.size)
 clear a0
 go_wp2_with with_reducible refine so ?_
 go_returns
 have q0 := D.out
 have q2 := Z.out
 obtain rfl : r = true := by rw [← HR.out]; first | (exfalso; omega) | first | (simp [eS, q0, z, q2]; done) | (simp only [eS, z]; simp [q0, z, q2]; done) | ((simp [eS, q0, z, q2]) <;> rfl)
 exact ⟨rfl, hB⟩
theorem zY (p : Pr) (has : Bool) (x : BitVec 64) (w : World)  (r : BitVec 64) (hr : gV p has x = r) :
  Calls Tryz.prog 151 #[.agg (prL p).toArray, .bool has, .int .u64 (W64 x)] w (fun e w' => e = .returned (.int .u64 (W64 r)) ∧ Below w.heap.size w w') := by
 have HR := Lib.hid hr
 clear hr
 go_enter Tryz.func151, Tryz.ntmps151
 have hB := Below.refl w.heap.size w
 go_wp2_with with_reducible refine so ?_
 refine bF (ty := 37) (cs := (prL p).toArray) (fun g => .pointer (some ⟨g, 0, none⟩)) rfl (by kernel_rfl) ?_
 intro L a1 O I J z
 have a2 : w.heap.size ≤ L := Nat.le_trans hB.size I
 replace hB := hB.trans (J.mono hB.size)
 clear J I O
 have U := z.c 21 (.int .i64 p.method)
 go_wp2_with with_reducible refine so ?_
 refine (mK _ _ (aU p.method) rfl).mono ?_; rintro e a3 ⟨rfl, F⟩
 clear U
 replace z := z.to F z.lt
 replace hB := hB.trans (F.mono hB.size)
 clear F
 rcases q : (aU p.method) with _ | _
 rotate_left
 ·
  have a4 := z.c 46 (.int .i64 p.passkey)
  go_wp2_with with_reducible refine so ?_
  go_returns
  obtain rfl : r = (BitVec.ofInt 64 p.passkey) := by rw [← HR.out]; first | (simp only [gV, q]; simp [q]; done) | simp [gV, q] <;> rfl
  exact ⟨rfl, hB⟩
 by_cases C : (p.method : Int) = 6
 rotate_left
 ·
  obtain ⟨Z, a0, D⟩ := fF C; clear C
  have a5 := z.c 21 (.int .i64 p.method)
  go_wp2_with with_reducible refine so ?_
  go_returns
  have q1 := D.out
  obtain rfl : r = 0#64 := by rw [← HR.out]; first | (simp only [gV, q]; simp [q, q1]; done) | simp [gV, q, q1] <;> rfl
  exact ⟨rfl, hB⟩
 obtain ⟨Z, a0, D⟩ := fT C; clear C
 cases has
 case false =>
  have a6 := z.c 21 (.int .i64 p.method)
  go_wp2_with with_reducible refine so ?_
  go_returns
  have q1 := D.out
  obtain rfl : r = 0#64 := by rw [← HR.out]; first | (simp only [gV, q]; simp [q, q1]; done) | simp [gV, q, q1] <;> rfl
  exact ⟨rfl, hB⟩
 case true =>
  have a7 := z.c 21 (.int .i64 p.method)
  go_wp2_with with_reducible refine so ?_
  go_returns
  have q1 := D.out
  obtain rfl : r = x := by rw [← HR.out]; first | (simp only [gV, q]; simp [q, q1]; done) | simp [gV, q, q1] <;> rfl
  exact ⟨rfl, hB⟩
theorem uZ (sh : BitVec 32) (n r : BitVec 64) (f : fQ) (a b : Adr) (w : World) : Calls Tryz.prog 150 #[.int .u32 (W32 sh), .int .u64 (W64 n), .int .u64 (W64 r), .agg (bL f).toArray, .agg (nR a).toArray, .agg (nR b).toArray] w fun e w' => e = .returned (.int .u64 (W64 (lI sh n r f a b))) ∧ Below w.heap.size w w' :=
  xT sh n r f.io f.oob f.bond f.mitm f.sid f.tid a.kind a.bits b.kind b.bits w
theorem pU (sh : BitVec 32) (na nb : BitVec 64) (a b : Adr) (w : World) : Calls Tryz.prog 129 #[.int .u32 (W32 sh), .int .u64 (W64 na), .int .u64 (W64 nb), .agg (nR a).toArray, .agg (nR b).toArray] w fun e w' => e = .returned (.int .u64 (W64 (mS sh na nb a b))) ∧ Below w.heap.size w w' :=
  tW sh na nb a.kind a.bits b.kind b.bits w
theorem G8 (P k : Nat) : Int.tdiv ((P / 2 ^ k : Nat) : Int) 2 = ((P / 2 ^ (k + 1) : Nat) : Int) := by
  rw [Int.tdiv_eq_ediv_of_nonneg (Int.natCast_nonneg _), Nat.pow_succ, ← Nat.div_div_eq_div_mul]
  omega
theorem w64 {x : Int} (h : 0 ≤ x) (h2 : x ≤ 1000000000) : RowKit.wrap64 x = x := by
  unfold RowKit.wrap64
  omega
theorem LX (Q k : Nat) (h : Q ≤ 999999) : RowKit.wrap64 (((Q : Int) / 2 ^ k).tdiv 2) = ((Q / 2 ^ (k + 1) : Nat) : Int) := by
  have e : ((Q : Int) / 2 ^ k) = ((Q / 2 ^ k : Nat) : Int) := by push_cast; rfl
  have := Nat.div_le_self Q (2 ^ (k + 1))
  rw [e, G8, w64 (Int.natCast_nonneg _) (by omega)]
theorem LN (Q k : Nat) : RowKit.wrap64 (128 + ((Q : Int) / 2 ^ k).tmod 2) = 128 + (Q : Int) / 2 ^ k % 2 := by
  have e : ((Q : Int) / 2 ^ k) = ((Q / 2 ^ k : Nat) : Int) := by push_cast; rfl
  rw [e, Int.tmod_eq_emod_of_nonneg (Int.natCast_nonneg _), w64 (by omega) (by omega)]
theorem xR (p : Pr) (w : World) (hq : aU p.method = true → 0 ≤ p.passkey ∧ p.passkey ≤ 999999) (h0 : 0 ≤ p.round) (h1 : p.round ≤ 64) (r : BitVec 8) (hr : gB p = r) :
  Calls Tryz.prog 126 #[.agg (prL p).toArray] w (fun e w' => e = .returned (.int .u8 (W8 r)) ∧ Below w.heap.size w w') := by
 have HR := Lib.hid hr
 have HQ := Lib.hid hq
 clear hr hq
 obtain ⟨R, hR⟩ : ∃ R : Nat, p.round = R := ⟨p.round.toNat, by omega⟩
 rw [hR] at h0 h1
 have HR2 := Lib.hid hR
 clear hR
 go_enter Tryz.func126, Tryz.ntmps126
 go_wp2_with with_reducible refine so ?_
 refine bF (ty := 37) (cs := (prL p).toArray) (fun g => .pointer (some ⟨g, 0, none⟩)) rfl (by kernel_rfl) ?_
 intro g w2 z l hb G
 have hB := (Below.refl w.heap.size w).trans hb
 clear hb l z
 have ld0 := G.c 21 (.int .i64 p.method)
 have ld1 := G.c 46 (.int .i64 p.passkey)
 have ld2 : w2.cell? ⟨g, 47, none⟩ = some (.int .i64 (R : Int)) := G.c 47 (.int .i64 (R : Int)) (by rw [← HR2.out]; rfl)
 have hg := G.lt
 clear G
 by_cases hc : aU p.method = true
 rotate_left
 ·
  have hc' : aU p.method = false := by simpa using hc
  go_wp2_with fail
  refine (mK p.method w2 (aU p.method) rfl).mono ?_; rintro e w3 ⟨rfl, hb3⟩
  have hB3 := hB.trans (hb3.mono hB.size)
  go_wp2
  go_ret
  refine ⟨?_, hB3⟩
  rw [← HR.out]
  unfold gB
  rw [if_neg hc]
  rfl
 go_wp2_with fail
 refine (mK p.method w2 (aU p.method) rfl).mono ?_; rintro e w3 ⟨rfl, hb3⟩
 have hB3 := hB.trans (hb3.mono hB.size)
 have k1 := (hb3.cell (p := ⟨g, 46, none⟩) hg).trans ld1
 have k2 := (hb3.cell (p := ⟨g, 47, none⟩) hg).trans ld2
 clear hb3 hB ld0 ld1 ld2
 obtain ⟨Q, hQ⟩ : ∃ Q : Nat, p.passkey = Q := ⟨p.passkey.toNat, by have := HQ.out hc; omega⟩
 rw [hQ] at k1
 have hq9 : Q ≤ 999999 := by have := HQ.out hc; omega
 have HQ9 := Lib.hid hq9
 have HQ2 := Lib.hid hQ
 clear hQ hq9
 go_wp2
 go_loop [3, 4] (fun n i => ∃ k : Nat, k ≤ R ∧ i = .int .i64 (k : Int) ∧ n = .int .i64 ((Q / 2 ^ k : Nat) : Int)) (fun _ i => R - (intOf i).toNat)
 case atStart => exact ⟨0, Nat.zero_le _, rfl, by rw [Nat.pow_zero, Nat.div_one]⟩
 case round =>
  obtain ⟨k, hk, rfl, rfl⟩ := hrel
  by_cases hlt : k < R
  ·
   go_wp2
   go_round
   case rel => exact ⟨k + 1, by omega, by go_num, by show Value.int .i64 _ = Value.int .i64 _; rw [LX _ _ HQ9.out]⟩
   case measure => simp [intOf]; omega
  obtain rfl : k = R := by omega
  go_wp2
  go_ret
  refine ⟨?_, hB3⟩
  rw [← HR.out]
  unfold gB
  rw [if_pos hc, HQ2.out, HR2.out, Int.toNat_natCast, ← LN]
  rfl
theorem pQ (p : Pr) (x : BitVec 64) (w : World)  (hq : aU p.method = true → 0 ≤ p.passkey ∧ p.passkey ≤ 999999) (h0 : 0 ≤ p.round) (h1 : p.round ≤ 64) (r : Bool) (hr : gN p x = r) :
  Calls Tryz.prog 143 #[.agg (prL p).toArray, .int .u64 (W64 x)] w (fun e w' => e = .returned (.bool r) ∧ Below w.heap.size w w') := by
 have HR := Lib.hid hr
 clear hr
 go_enter Tryz.func143, Tryz.ntmps143
 have hB := Below.refl w.heap.size w
 go_wp2_with with_reducible refine so ?_
 refine bF (ty := 37) (cs := (prL p).toArray) (fun g => .pointer (some ⟨g, 0, none⟩)) rfl (by kernel_rfl) ?_
 intro D I F z C q
 have J : w.heap.size ≤ D := Nat.le_trans hB.size z
 replace hB := hB.trans (C.mono hB.size)
 clear C z F
 go_wp2_with with_reducible refine so ?_
 have hst := aB (bB hB) (bK q)
 refine aD _ 12 hst ⟨hB.drew, q⟩ ?_
 clear hB q
 refine aA 0 hst ?_
 refine bS 1 (.int .u32 (W32 p.peerKey)) hst (fun W hS => hS.2.cell 40) ?_
 refine dA 2 0 (prL p) (fun W hS => hS.2) U37 hst ?_
 refine aA 4 hst ?_
 refine dA 5 0 (prL p) (fun W hS => hS.2) U37 hst ?_
 refine aA 8 hst ?_
 refine bS 9 (.int .u64 (W64 p.commit)) hst (fun W hS => hS.2.cell 44) ?_
 refine aF 3 rfl hst (fun W hS K hK => by clear hS; go_simp; exact cl (nJ _ _ (cJ p.cfg.secret) rfl) hK) ?_
 refine aF 6 rfl hst (fun W hS K hK => by clear hS; go_simp; exact cl (xR p _ hq h0 h1 (gB p) rfl) hK) ?_
 refine aF 7 rfl hst (fun W hS K hK => by clear hS; go_simp; exact cl (mN p.peerKey ((cJ p.cfg.secret)) x ((gB p)) _) hK) ?_
 refine aA 10 hst ?_
 refine aA 11 hst ?_
 refine aE (fun L hS => ?_)
 obtain ⟨hB, q⟩ := hS
 clear hst
 go_wp2_with with_reducible refine so ?_
 go_returns
 obtain rfl : r = (W64 (eF p.peerKey ((cJ p.cfg.secret)) x ((gB p))) == W64 p.commit) := by rw [← HR.out]; unfold gN tT; rw [cG, Bool.eq_iff_iff]; simp
 exact ⟨rfl, hB⟩
theorem xS (p : Pr) (w : World)  (r : Bool × Bool) (hr : cU p = r) :
  Calls Tryz.prog 98 #[.agg (prL p).toArray] w (fun e w' => e = .returned (.tuple #[.bool r.1, .bool r.2]) ∧ Below w.heap.size w w') := by
 have HR := Lib.hid hr
 clear hr
 go_enter Tryz.func98, Tryz.ntmps98
 have hB := Below.refl w.heap.size w
 go_wp2_with with_reducible refine so ?_
 refine bF (ty := 37) (cs := (prL p).toArray) (fun g => .pointer (some ⟨g, 0, none⟩)) rfl (by kernel_rfl) ?_
 intro J O L D F q
 have U : w.heap.size ≤ J := Nat.le_trans hB.size D
 replace hB := hB.trans (F.mono hB.size)
 clear F D L
 go_wp2_with first | with_reducible refine so ?_ | with_reducible refine ld 28 [.int .i64 p.req.io, .bool p.req.oob, .bool p.req.bond, .bool p.req.mitm, .bool p.req.sid, .bool p.req.tid] q U23 ?_ | with_reducible refine ld 34 [.int .i64 p.res.io, .bool p.res.oob, .bool p.res.bond, .bool p.res.mitm, .bool p.res.sid, .bool p.res.tid] q U23 ?_
 refine (tI p.req p.res _).mono ?_; rintro e Z ⟨rfl, z⟩
 replace q := q.to z q.lt
 replace hB := hB.trans (z.mono hB.size)
 clear z
 go_wp2_with first | with_reducible refine so ?_ | with_reducible refine lw q U37 ?_
 refine (cB _ _ (aP p) rfl).mono ?_; rintro e a0 ⟨rfl, C⟩
 replace q := q.to C q.lt
 replace hB := hB.trans (C.mono hB.size)
 clear C
 rcases I : (aP p) with _ | _
 ·
  go_wp2_with with_reducible refine so ?_
  go_returns
  obtain rfl : r = ((aT p.req p.res).2, (aT p.req p.res).1) := by rw [← HR.out]; unfold cU; simp [I]
  exact ⟨rfl, hB⟩
 go_wp2_with with_reducible refine so ?_
 go_returns
 obtain rfl : r = ((aT p.req p.res).1, (aT p.req p.res).2) := by rw [← HR.out]; unfold cU; simp [I]
 exact ⟨rfl, hB⟩
theorem rP (p : Pr) (w : World)  (r : BitVec 64) (hr : eJ p = r) :
  Calls Tryz.prog 127 #[.agg (prL p).toArray] w (fun e w' => e = .returned (.int .u64 (W64 r)) ∧ Below w.heap.size w w') := by
 have HR := Lib.hid hr
 clear hr
 go_enter Tryz.func127, Tryz.ntmps127
 have hB := Below.refl w.heap.size w
 go_wp2_with with_reducible refine so ?_
 refine bF (ty := 37) (cs := (prL p).toArray) (fun g => .pointer (some ⟨g, 0, none⟩)) rfl (by kernel_rfl) ?_
 intro J a1 Z L O q
 have a2 : w.heap.size ≤ J := Nat.le_trans hB.size L
 replace hB := hB.trans (O.mono hB.size)
 clear O L Z
 go_wp2_with first | with_reducible refine so ?_ | with_reducible refine ld 0 (cT p.cfg) q U34 ?_
 refine bF (ty := 34) (cs := (cT pN).toArray) (fun g => .pointer (some ⟨g, 0, none⟩)) rfl (by kernel_rfl) ?_
 intro C a3 a0 D F U
 have a4 : J < C := Nat.lt_of_lt_of_le q.lt D
 have a5 : w.heap.size ≤ C := Nat.le_trans hB.size D
 replace q := q.to F q.lt
 replace hB := hB.trans (F.mono hB.size)
 clear F D a0
 go_wp2_with with_reducible refine so ?_
 refine sv _ U ?_
 intro a6 z I
 replace q := I.blk q (by omega)
 replace hB := I.below hB (by omega)
 clear U I
 go_wp2_with with_reducible refine so ?_
 have hst := aB (bB hB) (aB (bK q) (bK z))
 refine aD _ 20 hst ⟨hB.drew, q, z⟩ ?_
 clear hB q z
 refine aA 0 hst ?_
 refine bS 1 (.int .u32 (W32 p.shared)) hst (fun W hS => hS.2.1.cell 41) ?_
 refine aA 2 hst ?_
 refine bS 3 (.int .u64 (W64 p.nonce)) hst (fun W hS => hS.2.1.cell 42) ?_
 refine dA 4 0 (prL p) (fun W hS => hS.2.1) U37 hst ?_
 refine aA 5 hst ?_
 refine aA 6 hst ?_
 refine aF 7 rfl hst (fun W hS K hK => by have ld : W.cell? ⟨C, 2, none⟩ = some (.bool p.cfg.feat.oob) := hS.2.2.cell 2; clear hS; go_simp; exact hk hK) ?_
 refine aA 8 hst ?_
 refine aA 9 hst ?_
 refine bS 10 (.int .u64 (W64 p.cfg.oob.random)) hst (fun W hS => hS.2.2.cell 18) ?_
 refine aA 12 hst ?_
 refine dA 13 1 (bL p.cfg.feat) (fun W hS => hS.2.2) U23 hst ?_
 refine aA 14 hst ?_
 refine dA 15 7 [.int .i64 p.cfg.own.kind, .int .u64 (W64 p.cfg.own.bits)] (fun W hS => hS.2.2) U26 hst ?_
 refine aA 16 hst ?_
 refine dA 17 9 [.int .i64 p.cfg.peer.kind, .int .u64 (W64 p.cfg.peer.bits)] (fun W hS => hS.2.2) U26 hst ?_
 refine aF 11 rfl hst (fun W hS K hK => by clear hS; go_simp; exact cl (zY p p.cfg.feat.oob p.cfg.oob.random _ (gV p p.cfg.feat.oob p.cfg.oob.random) rfl) hK) ?_
 refine aF 18 rfl hst (fun W hS K hK => by clear hS; go_simp; exact cl (uZ p.shared p.nonce ((gV p p.cfg.feat.oob p.cfg.oob.random)) p.cfg.feat p.cfg.own p.cfg.peer _) hK) ?_
 refine aA 19 hst ?_
 refine aE (fun a7 hS => ?_)
 obtain ⟨hB, q, z⟩ := hS
 clear hst
 go_wp2_with with_reducible refine so ?_
 go_returns
 obtain rfl : r = (lI p.shared p.nonce ((gV p p.cfg.feat.oob p.cfg.oob.random)) p.cfg.feat p.cfg.own p.cfg.peer) := by rw [← HR.out]; rfl
 exact ⟨rfl, hB⟩
theorem uG (p : Pr) (w : World)  (r : BitVec 64) (hr : eU p = r) :
  Calls Tryz.prog 128 #[.agg (prL p).toArray] w (fun e w' => e = .returned (.int .u64 (W64 r)) ∧ Below w.heap.size w w') := by
 have HR := Lib.hid hr
 clear hr
 go_enter Tryz.func128, Tryz.ntmps128
 have hB := Below.refl w.heap.size w
 go_wp2_with with_reducible refine so ?_
 refine bF (ty := 37) (cs := (prL p).toArray) (fun g => .pointer (some ⟨g, 0, none⟩)) rfl (by kernel_rfl) ?_
 intro C a1 Z J L q
 have a2 : w.heap.size ≤ C := Nat.le_trans hB.size J
 replace hB := hB.trans (L.mono hB.size)
 clear L J Z
 go_wp2_with first | with_reducible refine so ?_ | with_reducible refine ld 0 (cT p.cfg) q U34 ?_
 refine bF (ty := 34) (cs := (cT pN).toArray) (fun g => .pointer (some ⟨g, 0, none⟩)) rfl (by kernel_rfl) ?_
 intro O a3 a0 D F U
 have a4 : C < O := Nat.lt_of_lt_of_le q.lt D
 have a5 : w.heap.size ≤ O := Nat.le_trans hB.size D
 replace q := q.to F q.lt
 replace hB := hB.trans (F.mono hB.size)
 clear F D a0
 go_wp2_with with_reducible refine so ?_
 refine sv _ U ?_
 intro a6 z I
 replace q := I.blk q (by omega)
 replace hB := I.below hB (by omega)
 clear U I
 go_wp2_with with_reducible refine so ?_
 have hst := aB (bB hB) (aB (bK q) (bK z))
 refine aD _ 19 hst ⟨hB.drew, q, z⟩ ?_
 clear hB q z
 refine aA 0 hst ?_
 refine bS 1 (.int .u32 (W32 p.shared)) hst (fun W hS => hS.2.1.cell 41) ?_
 refine aA 2 hst ?_
 refine bS 3 (.int .u64 (W64 p.other)) hst (fun W hS => hS.2.1.cell 43) ?_
 refine dA 4 0 (prL p) (fun W hS => hS.2.1) U37 hst ?_
 refine aA 5 hst ?_
 refine aA 6 hst ?_
 refine aF 7 rfl hst (fun W hS K hK => by have ld : W.cell? ⟨C, 23, none⟩ = some (.bool p.peer.oob) := hS.2.1.cell 23; clear hS; go_simp; exact hk hK) ?_
 refine aA 8 hst ?_
 refine bS 9 (.int .u64 (W64 p.cfg.mine)) hst (fun W hS => hS.2.2.cell 16) ?_
 refine aA 11 hst ?_
 refine dA 12 22 (bL p.peer) (fun W hS => hS.2.1) U23 hst ?_
 refine aA 13 hst ?_
 refine dA 14 9 [.int .i64 p.cfg.peer.kind, .int .u64 (W64 p.cfg.peer.bits)] (fun W hS => hS.2.2) U26 hst ?_
 refine aA 15 hst ?_
 refine dA 16 7 [.int .i64 p.cfg.own.kind, .int .u64 (W64 p.cfg.own.bits)] (fun W hS => hS.2.2) U26 hst ?_
 refine aF 10 rfl hst (fun W hS K hK => by clear hS; go_simp; exact cl (zY p p.peer.oob p.cfg.mine _ (gV p p.peer.oob p.cfg.mine) rfl) hK) ?_
 refine aF 17 rfl hst (fun W hS K hK => by clear hS; go_simp; exact cl (uZ p.shared p.other ((gV p p.peer.oob p.cfg.mine)) p.peer p.cfg.peer p.cfg.own _) hK) ?_
 refine aA 18 hst ?_
 refine aE (fun a7 hS => ?_)
 obtain ⟨hB, q, z⟩ := hS
 clear hst
 go_wp2_with with_reducible refine so ?_
 go_returns
 obtain rfl : r = (lI p.shared p.other ((gV p p.peer.oob p.cfg.mine)) p.peer p.cfg.peer p.cfg.own) := by rw [← HR.out]; rfl
 exact ⟨rfl, hB⟩
end Go.Proofs.YtihmbcnccdiecaaGreatDoor
