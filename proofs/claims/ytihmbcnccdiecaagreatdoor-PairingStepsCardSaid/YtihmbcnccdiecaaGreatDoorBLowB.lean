/- Part of the proofs of the laws of pairing. -/
import Derived.Test.YtihmbcnccdiecaaGreatDoorA2
namespace Go.Proofs.YtihmbcnccdiecaaGreatDoor
set_option maxRecDepth 100000
set_option linter.unusedVariables false
set_option linter.unusedSimpArgs false
open Go.ChangeShapes Go.WideShapes Go.ChangeAt Go.RowKit
theorem iT (f : fQ) (w : World) :
  Calls Tryz.prog 12 #[.agg (bL f).toArray] w (fun e w' => e = .returned (.int .i64 (bO f)) ∧ Below w.heap.size w w') := by
 obtain ⟨r, hr⟩ : ∃ r, bO f = r := ⟨_, rfl⟩
 rw [hr]
 have HR := Lib.hid hr
 clear hr
 go_enter Tryz.func12, Tryz.ntmps12
 have hB := Below.refl w.heap.size w
 go_wp2_with with_reducible refine so ?_
 refine bF (ty := 23) (cs := (bL f).toArray) (fun g => .pointer (some ⟨g, 0, none⟩)) rfl (by kernel_rfl) ?_
 intro L a4 O I J D
 have a5 : w.heap.size ≤ L := Nat.le_trans hB.size I
 replace hB := hB.trans (J.mono hB.size)
 clear J I O
 by_cases q : (f.io : Int) < 0
 ·
  obtain ⟨U, Z, a0, z⟩ := lT q; clear q
  have a6 := D.c 0 (.int .i64 f.io)
  go_wp2_with with_reducible refine so ?_
  go_returns
  have q0 := z.out
  obtain rfl : r = 5 := by rw [← HR.out]; unfold bO; first | (rw [if_pos (by omega)]; done) | (rw [if_neg (by omega)]; done)
  exact ⟨rfl, hB⟩
 obtain ⟨U, Z, a0, z⟩ := lF q; clear q
 by_cases C : (f.io : Int) < 5
 ·
  obtain ⟨a1, a2, a3, F⟩ := lT C; clear C
  have a7 := D.c 0 (.int .i64 f.io)
  go_wp2_with with_reducible refine so ?_
  go_returns
  have q0 := z.out
  have q1 := F.out
  obtain rfl : r = 0 := by rw [← HR.out]; unfold bO; first | (rw [if_pos (by omega)]; done) | (rw [if_neg (by omega)]; done)
  exact ⟨rfl, hB⟩
 obtain ⟨a1, a2, a3, F⟩ := lF C; clear C
 have a8 := D.c 0 (.int .i64 f.io)
 go_wp2_with with_reducible refine so ?_
 go_returns
 have q0 := z.out
 have q1 := F.out
 obtain rfl : r = 5 := by rw [← HR.out]; unfold bO; first | (rw [if_pos (by omega)]; done) | (rw [if_neg (by omega)]; done)
 exact ⟨rfl, hB⟩
theorem uA (i j : fQ) (w : World) :
  Calls Tryz.prog 87 #[.agg (bL i).toArray, .agg (bL j).toArray] w (fun e w' => e = .returned (.tuple #[.bool (aT i j).1, .bool (aT i j).2]) ∧ Below w.heap.size w w') := by
 obtain ⟨r, hr⟩ : ∃ r, aT i j = r := ⟨_, rfl⟩
 rw [hr]
 have HR := Lib.hid hr
 clear hr
 go_enter Tryz.func87, Tryz.ntmps87
 have hB := Below.refl w.heap.size w
 go_wp2_with with_reducible refine so ?_
 refine bF (ty := 23) (cs := (bL i).toArray) (fun g => .pointer (some ⟨g, 0, none⟩)) rfl (by kernel_rfl) ?_
 intro D a2 a0 U Z q
 have a3 : w.heap.size ≤ D := Nat.le_trans hB.size U
 replace hB := hB.trans (Z.mono hB.size)
 clear Z U a0
 go_wp2_with with_reducible refine so ?_
 refine bF (ty := 23) (cs := (bL j).toArray) (fun g => .pointer (some ⟨g, 0, none⟩)) rfl (by kernel_rfl) ?_
 intro F a4 a1 L O z
 have a5 : D < F := Nat.lt_of_lt_of_le q.lt L
 have a6 : w.heap.size ≤ F := Nat.le_trans hB.size L
 replace q := q.to O q.lt
 replace hB := hB.trans (O.mono hB.size)
 clear O L a1
 rcases C : i.sid with _ | _
 ·
  rcases I : j.sid with _ | _
  ·
   go_wp2_with with_reducible refine so ?_
   have hst := aB (bB hB) (aB (bK q) (bK z))
   refine aD _ 14 hst ⟨hB.drew, q, z⟩ ?_
   clear hB q z
   refine aA 0 hst ?_
   refine aF 1 rfl hst (fun W hS K hK => by have ld : W.cell? ⟨D, 4, none⟩ = some (.bool i.sid) := hS.2.1.cell 4; clear hS; go_simp; exact hk hK) ?_
   refine aA 2 hst ?_
   refine aG 3 hst ?_
   refine aG 4 hst ?_
   refine aA 5 hst ?_
   refine aA 6 hst ?_
   refine aF 7 rfl hst (fun W hS K hK => by have ld : W.cell? ⟨F, 4, none⟩ = some (.bool j.sid) := hS.2.2.cell 4; clear hS; go_simp; exact hk hK) ?_
   refine aA 8 hst ?_
   refine aG 9 hst ?_
   refine aG 10 hst ?_
   refine aA 11 hst ?_
   refine aA 12 hst ?_
   refine aA 13 hst ?_
   refine aE (fun a7 hS => ?_)
   obtain ⟨hB, q, z⟩ := hS
   clear hst
   go_wp2_with with_reducible refine so ?_
   go_returns
   obtain rfl : r = (false, false) := by rw [← HR.out]; first | (simp only [aT, C, I]; simp [C, I]; done) | simp [aT, C, I] <;> rfl
   exact ⟨rfl, hB⟩
  go_wp2_with with_reducible refine so ?_
  have hst := aB (bB hB) (aB (bK q) (bK z))
  refine aD _ 14 hst ⟨hB.drew, q, z⟩ ?_
  clear hB q z
  refine aA 0 hst ?_
  refine aF 1 rfl hst (fun W hS K hK => by have ld : W.cell? ⟨D, 4, none⟩ = some (.bool i.sid) := hS.2.1.cell 4; clear hS; go_simp; exact hk hK) ?_
  refine aA 2 hst ?_
  refine aG 3 hst ?_
  refine aG 4 hst ?_
  refine aA 5 hst ?_
  refine aA 6 hst ?_
  refine aF 7 rfl hst (fun W hS K hK => by have ld : W.cell? ⟨F, 4, none⟩ = some (.bool j.sid) := hS.2.2.cell 4; clear hS; go_simp; exact hk hK) ?_
  refine aA 8 hst ?_
  refine aA 9 hst ?_
  refine aF 10 rfl hst (fun W hS K hK => by have ld : W.cell? ⟨D, 5, none⟩ = some (.bool i.tid) := hS.2.1.cell 5; clear hS; go_simp; exact hk hK) ?_
  refine aA 11 hst ?_
  refine aA 12 hst ?_
  refine aA 13 hst ?_
  refine aE (fun a8 hS => ?_)
  obtain ⟨hB, q, z⟩ := hS
  clear hst
  go_wp2_with with_reducible refine so ?_
  go_returns
  obtain rfl : r = (false, i.tid) := by rw [← HR.out]; first | (simp only [aT, C, I]; simp [C, I]; done) | simp [aT, C, I] <;> rfl
  exact ⟨rfl, hB⟩
 rcases J : j.sid with _ | _
 ·
  go_wp2_with with_reducible refine so ?_
  have hst := aB (bB hB) (aB (bK q) (bK z))
  refine aD _ 14 hst ⟨hB.drew, q, z⟩ ?_
  clear hB q z
  refine aA 0 hst ?_
  refine aF 1 rfl hst (fun W hS K hK => by have ld : W.cell? ⟨D, 4, none⟩ = some (.bool i.sid) := hS.2.1.cell 4; clear hS; go_simp; exact hk hK) ?_
  refine aA 2 hst ?_
  refine aA 3 hst ?_
  refine aF 4 rfl hst (fun W hS K hK => by have ld : W.cell? ⟨F, 5, none⟩ = some (.bool j.tid) := hS.2.2.cell 5; clear hS; go_simp; exact hk hK) ?_
  refine aA 5 hst ?_
  refine aA 6 hst ?_
  refine aF 7 rfl hst (fun W hS K hK => by have ld : W.cell? ⟨F, 4, none⟩ = some (.bool j.sid) := hS.2.2.cell 4; clear hS; go_simp; exact hk hK) ?_
  refine aA 8 hst ?_
  refine aG 9 hst ?_
  refine aG 10 hst ?_
  refine aA 11 hst ?_
  refine aA 12 hst ?_
  refine aA 13 hst ?_
  refine aE (fun a9 hS => ?_)
  obtain ⟨hB, q, z⟩ := hS
  clear hst
  go_wp2_with with_reducible refine so ?_
  go_returns
  obtain rfl : r = (j.tid, false) := by rw [← HR.out]; first | (simp only [aT, C, J]; simp [C, J]; done) | simp [aT, C, J] <;> rfl
  exact ⟨rfl, hB⟩
 go_wp2_with with_reducible refine so ?_
 have hst := aB (bB hB) (aB (bK q) (bK z))
 refine aD _ 14 hst ⟨hB.drew, q, z⟩ ?_
 clear hB q z
 refine aA 0 hst ?_
 refine aF 1 rfl hst (fun W hS K hK => by have ld : W.cell? ⟨D, 4, none⟩ = some (.bool i.sid) := hS.2.1.cell 4; clear hS; go_simp; exact hk hK) ?_
 refine aA 2 hst ?_
 refine aA 3 hst ?_
 refine aF 4 rfl hst (fun W hS K hK => by have ld : W.cell? ⟨F, 5, none⟩ = some (.bool j.tid) := hS.2.2.cell 5; clear hS; go_simp; exact hk hK) ?_
 refine aA 5 hst ?_
 refine aA 6 hst ?_
 refine aF 7 rfl hst (fun W hS K hK => by have ld : W.cell? ⟨F, 4, none⟩ = some (.bool j.sid) := hS.2.2.cell 4; clear hS; go_simp; exact hk hK) ?_
 refine aA 8 hst ?_
 refine aA 9 hst ?_
 refine aF 10 rfl hst (fun W hS K hK => by have ld : W.cell? ⟨D, 5, none⟩ = some (.bool i.tid) := hS.2.1.cell 5; clear hS; go_simp; exact hk hK) ?_
 refine aA 11 hst ?_
 refine aA 12 hst ?_
 refine aA 13 hst ?_
 refine aE (fun b0 hS => ?_)
 obtain ⟨hB, q, z⟩ := hS
 clear hst
 go_wp2_with with_reducible refine so ?_
 go_returns
 obtain rfl : r = (j.tid, i.tid) := by rw [← HR.out]; first | (simp only [aT, C, J]; simp [C, J]; done) | simp [aT, C, J] <;> rfl
 exact ⟨rfl, hB⟩
theorem sC {n : Nat} {a b c d e : Bool} (f : fQ) (hn : n < 5) (hf : f = ⟨(n : Int), a, b, c, d, e⟩ := by rfl) : bO f = 0 := by
  subst hf
  unfold bO
  rw [if_neg (by show ¬ ((n : Int) < 0 ∨ 4 < (n : Int)); omega)]
theorem zR (f : fQ) (h : bO f = 0) : ∃ n : Nat, n < 5 ∧ f.io = (n : Int) := by
  unfold bO at h
  split at h
  · cases h
  · exact ⟨f.io.toNat, by omega, by omega⟩
theorem K4 (n m : Nat) (hn : n < 5) (hm : m < 5) : GW[n * 5 + m]? = some (.int .i64 (nN (n : Int) (m : Int))) := by
  have h : ∀ n : Nat, n < 5 → ∀ m : Nat, m < 5 → ([1, 1, 3, 1, 3, 1, 2, 3, 1, 2, 4, 4, 5, 1, 4, 1, 1, 1, 1, 1, 4, 2, 3, 1, 2] : List Int)[n * 5 + m]? = some (nN (n : Int) (m : Int)) := by decide +kernel
  unfold GW
  rw [List.getElem?_map, h n hn m hm]
  rfl
theorem zG (i j : fQ) (w : World)  (hi : ¬ bO i = 0) :
  Calls Tryz.prog 89 #[.agg (bL i).toArray, .agg (bL j).toArray] w (fun e w' => e = .returned (.tuple #[.int .i64 (bC i j).1, .bool (bC i j).2]) ∧ Below w.heap.size w w') := by
 obtain ⟨r, hr⟩ : ∃ r, bC i j = r := ⟨_, rfl⟩
 rw [hr]
 have HR := Lib.hid hr
 clear hr
 have eei : (bO i == 0) = false := by simpa using hi
 have eni : (bO i != 0) = true := by simpa using hi
 have Ki := Lib.hid hi
 clear hi
 go_enter Tryz.func89, Tryz.ntmps89
 have hB := Below.refl w.heap.size w
 go_wp2_with with_reducible refine so ?_
 refine bF (ty := 23) (cs := (bL i).toArray) (fun g => .pointer (some ⟨g, 0, none⟩)) rfl (by kernel_rfl) ?_
 intro I a0 U J L q
 have a1 : w.heap.size ≤ I := Nat.le_trans hB.size J
 replace hB := hB.trans (L.mono hB.size)
 clear L J U
 go_wp2_with with_reducible refine so ?_
 refine bF (ty := 23) (cs := (bL j).toArray) (fun g => .pointer (some ⟨g, 0, none⟩)) rfl (by kernel_rfl) ?_
 intro O a2 Z C D F
 have a3 : I < O := Nat.lt_of_lt_of_le q.lt C
 have a4 : w.heap.size ≤ O := Nat.le_trans hB.size C
 replace q := q.to D q.lt
 replace hB := hB.trans (D.mono hB.size)
 clear D C Z
 go_wp2_with first | with_reducible refine so ?_ | with_reducible refine ld 0 (bL i) q U23 ?_ | ((with_reducible refine bI 0 (bL i) q ?_ ?_ U23 ?_ ?_ ?_ ?_); rfl; rfl; rfl; kernel_rfl; rfl)
 refine (iT i _).mono ?_; rintro e a5 ⟨rfl, z⟩
 replace q := q.to z q.lt
 replace F := F.to z F.lt
 replace hB := hB.trans (z.mono hB.size)
 clear z
 go_wp2_with with_reducible refine so ?_
 go_returns
 obtain rfl : r = (0, false) := by rw [← HR.out]; unfold bC; rw [if_pos (.inl Ki.out)]
 exact ⟨rfl, hB⟩
theorem yD (i j : fQ) (w : World)  (hi : bO i = 0) (hj : ¬ bO j = 0) :
  Calls Tryz.prog 89 #[.agg (bL i).toArray, .agg (bL j).toArray] w (fun e w' => e = .returned (.tuple #[.int .i64 (bC i j).1, .bool (bC i j).2]) ∧ Below w.heap.size w w') := by
 obtain ⟨r, hr⟩ : ∃ r, bC i j = r := ⟨_, rfl⟩
 rw [hr]
 have HR := Lib.hid hr
 clear hr
 have eei : (bO i == 0) = true := by simpa using hi
 have eni : (bO i != 0) = false := by simpa using hi
 have Ki := Lib.hid hi
 clear hi
 have eej : (bO j == 0) = false := by simpa using hj
 have enj : (bO j != 0) = true := by simpa using hj
 have Kj := Lib.hid hj
 clear hj
 go_enter Tryz.func89, Tryz.ntmps89
 have hB := Below.refl w.heap.size w
 go_wp2_with with_reducible refine so ?_
 refine bF (ty := 23) (cs := (bL i).toArray) (fun g => .pointer (some ⟨g, 0, none⟩)) rfl (by kernel_rfl) ?_
 intro J a1 Z L O q
 have a2 : w.heap.size ≤ J := Nat.le_trans hB.size L
 replace hB := hB.trans (O.mono hB.size)
 clear O L Z
 go_wp2_with with_reducible refine so ?_
 refine bF (ty := 23) (cs := (bL j).toArray) (fun g => .pointer (some ⟨g, 0, none⟩)) rfl (by kernel_rfl) ?_
 intro U a3 a0 F I z
 have a4 : J < U := Nat.lt_of_lt_of_le q.lt F
 have a5 : w.heap.size ≤ U := Nat.le_trans hB.size F
 replace q := q.to I q.lt
 replace hB := hB.trans (I.mono hB.size)
 clear I F a0
 go_wp2_with first | with_reducible refine so ?_ | with_reducible refine ld 0 (bL i) q U23 ?_ | ((with_reducible refine bI 0 (bL i) q ?_ ?_ U23 ?_ ?_ ?_ ?_); rfl; rfl; rfl; kernel_rfl; rfl)
 refine (iT i _).mono ?_; rintro e a6 ⟨rfl, C⟩
 replace q := q.to C q.lt
 replace z := z.to C z.lt
 replace hB := hB.trans (C.mono hB.size)
 clear C
 go_wp2_with first | with_reducible refine so ?_ | with_reducible refine ld 0 (bL j) z U23 ?_ | ((with_reducible refine bI 0 (bL j) z ?_ ?_ U23 ?_ ?_ ?_ ?_); rfl; rfl; rfl; kernel_rfl; rfl)
 refine (iT j _).mono ?_; rintro e a7 ⟨rfl, D⟩
 replace q := q.to D q.lt
 replace z := z.to D z.lt
 replace hB := hB.trans (D.mono hB.size)
 clear D
 go_wp2_with with_reducible refine so ?_
 go_returns
 obtain rfl : r = (0, false) := by rw [← HR.out]; unfold bC; rw [if_pos (.inr Kj.out)]
 exact ⟨rfl, hB⟩
theorem yI (n m : Nat) (a0 a1 a2 a3 a4 b0 b1 b2 b3 b4 : Bool) (w : World)  (HL : bW w) (hn : n < 5) (hm : m < 5) :
  Calls Tryz.prog 89 #[.agg #[.int .i64 (((n : Nat) : Int)), .bool a0, .bool a1, .bool a2, .bool a3, .bool a4], .agg #[.int .i64 (((m : Nat) : Int)), .bool b0, .bool b1, .bool b2, .bool b3, .bool b4]] w (fun e w' => e = .returned (.tuple #[.int .i64 (bC ⟨((n : Nat) : Int), a0, a1, a2, a3, a4⟩ ⟨((m : Nat) : Int), b0, b1, b2, b3, b4⟩).1, .bool (bC ⟨((n : Nat) : Int), a0, a1, a2, a3, a4⟩ ⟨((m : Nat) : Int), b0, b1, b2, b3, b4⟩).2]) ∧ Below w.heap.size w w') := by
 obtain ⟨r, hr⟩ : ∃ r, bC ⟨((n : Nat) : Int), a0, a1, a2, a3, a4⟩ ⟨((m : Nat) : Int), b0, b1, b2, b3, b4⟩ = r := ⟨_, rfl⟩
 rw [hr]
 have HR := Lib.hid hr
 clear hr
 have CA := Lib.hid (fun W => show Calls Tryz.prog 12 #[.agg #[.int .i64 (((n : Nat) : Int)), .bool a0, .bool a1, .bool a2, .bool a3, .bool a4]] W fun e w' => e = .returned (.int .i64 0) ∧ Below W.heap.size W w' from by
  have := iT ⟨((n : Nat) : Int), a0, a1, a2, a3, a4⟩ W
  rw [sC _ hn] at this
  exact this)
 have CB := Lib.hid (fun W => show Calls Tryz.prog 12 #[.agg #[.int .i64 (((m : Nat) : Int)), .bool b0, .bool b1, .bool b2, .bool b3, .bool b4]] W fun e w' => e = .returned (.int .i64 0) ∧ Below W.heap.size W w' from by
  have := iT ⟨((m : Nat) : Int), b0, b1, b2, b3, b4⟩ W
  rw [sC _ hm] at this
  exact this)
 have FK := Lib.hid (show bO ⟨((n : Nat) : Int), a0, a1, a2, a3, a4⟩ = 0 ∧ bO ⟨((m : Nat) : Int), b0, b1, b2, b3, b4⟩ = 0 from ⟨sC _ hn, sC _ hm⟩)
 have TB := Lib.hid (fun W (hB : Below w.heap.size w W) => show W.rangeAt 1 (n * 5 + m) [.int .i64 (nN n m)] from fun j v hj => by
  match j, hj with
  | 0, hj =>
   have := (HL.to hB).tab (n * 5 + m) _ (K4 n m hn hm)
   rw [Nat.zero_add] at this
   simp only [List.getElem?_cons_zero, Option.some.injEq] at hj
   rw [← hj]
   exact this)
 obtain ⟨tk, htk⟩ : ∃ t, nN n m = t := ⟨_, rfl⟩
 rw [htk] at TB
 have TK := Lib.hid htk
 have i1 : (n : Int) < 5 := by omega
 have i2 : (m : Int) < 5 := by omega
 clear htk HL
 go_enter Tryz.func89, Tryz.ntmps89
 have hB := Below.refl w.heap.size w
 go_wp2_with with_reducible refine so ?_
 refine bF (ty := 23) (cs := #[.int .i64 (((n : Nat) : Int)), .bool a0, .bool a1, .bool a2, .bool a3, .bool a4]) (fun g => .pointer (some ⟨g, 0, none⟩)) rfl (by kernel_rfl) ?_
 intro J b8 Z L O q
 have b9 : w.heap.size ≤ J := Nat.le_trans hB.size L
 replace hB := hB.trans (O.mono hB.size)
 clear O L Z
 go_wp2_with with_reducible refine so ?_
 refine bF (ty := 23) (cs := #[.int .i64 (((m : Nat) : Int)), .bool b0, .bool b1, .bool b2, .bool b3, .bool b4]) (fun g => .pointer (some ⟨g, 0, none⟩)) rfl (by kernel_rfl) ?_
 intro U c0 a5 F I z
 have c4 : J < U := Nat.lt_of_lt_of_le q.lt F
 have c5 : w.heap.size ≤ U := Nat.le_trans hB.size F
 replace q := q.to I q.lt
 replace hB := hB.trans (I.mono hB.size)
 clear I F a5
 go_wp2_with first | with_reducible refine so ?_ | with_reducible refine ld 0 [.int .i64 (((n : Nat) : Int)), .bool a0, .bool a1, .bool a2, .bool a3, .bool a4] q U23 ?_ | ((with_reducible refine bI 0 [.int .i64 (((n : Nat) : Int)), .bool a0, .bool a1, .bool a2, .bool a3, .bool a4] q ?_ ?_ U23 ?_ ?_ ?_ ?_); rfl; rfl; rfl; kernel_rfl; rfl)
 refine (CA.out _).mono ?_; rintro e c6 ⟨rfl, C⟩
 replace q := q.to C q.lt
 replace z := z.to C z.lt
 replace hB := hB.trans (C.mono hB.size)
 clear C
 go_wp2_with first | with_reducible refine so ?_ | with_reducible refine ld 0 [.int .i64 (((m : Nat) : Int)), .bool b0, .bool b1, .bool b2, .bool b3, .bool b4] z U23 ?_ | ((with_reducible refine bI 0 [.int .i64 (((m : Nat) : Int)), .bool b0, .bool b1, .bool b2, .bool b3, .bool b4] z ?_ ?_ U23 ?_ ?_ ?_ ?_); rfl; rfl; rfl; kernel_rfl; rfl)
 refine (CB.out _).mono ?_; rintro e c7 ⟨rfl, D⟩
 replace q := q.to D q.lt
 replace z := z.to D z.lt
 replace hB := hB.trans (D.mono hB.size)
 clear D
 cases a0
 case false =>
  cases b0
  case false =>
   cases a2
   case false =>
    cases b2
    case false =>
     have c8 := q.c 1 (.bool false)
     have c9 := z.c 1 (.bool false)
     have d0 := q.c 3 (.bool false)
     have d1 := z.c 3 (.bool false)
     go_wp2_with with_reducible refine so ?_
     go_returns
     obtain rfl : r = (1, false) := by rw [← HR.out]; have fk := FK.out; have tk1 := TK.out; unfold bC; rw [if_neg (by rw [fk.1, fk.2]; decide)]; simp [tk1] <;> rfl
     exact ⟨rfl, hB⟩
    case true =>
     have a6 := q.c 1 (.bool false)
     have a7 := z.c 1 (.bool false)
     have a8 := q.c 3 (.bool false)
     have a9 := z.c 3 (.bool true)
     go_wp2_with with_reducible refine so ?_
     clear a6 a7 a8 a9
     have hst := aB (bB hB) (aB (bK q) (bK z))
     refine aD _ 8 hst ⟨hB.drew, q, z⟩ ?_
     clear hB q z
     refine aA 0 hst ?_
     refine bS 1 (.int .i64 (((n : Nat) : Int))) hst (fun W hS => hS.2.1.cell 0) ?_
     refine aA 2 hst ?_
     refine bS 3 (.int .i64 (((m : Nat) : Int))) hst (fun W hS => hS.2.2.cell 0) ?_
     refine aA 4 hst ?_
     refine aA 5 hst ?_
     refine aF 6 rfl hst (fun W hS K hK => by have ld : W.cell? ⟨1, n * 5 + m, none⟩ = some (.int .i64 tk) := (TB.out _ hS.1) 0 _ rfl; clear hS; go_simp; exact hk hK) ?_
     refine aA 7 hst ?_
     refine aE (fun d2 hS => ?_)
     obtain ⟨hB, q, z⟩ := hS
     clear hst
     go_wp2_with with_reducible refine so ?_
     go_returns
     obtain rfl : r = (tk, !(tk == 1)) := by rw [← HR.out]; have fk := FK.out; have tk1 := TK.out; unfold bC; rw [if_neg (by rw [fk.1, fk.2]; decide)]; simp [tk1] <;> rfl
     exact ⟨rfl, hB⟩
   case true =>
    have b5 := q.c 1 (.bool false)
    have b6 := z.c 1 (.bool false)
    have b7 := q.c 3 (.bool true)
    go_wp2_with with_reducible refine so ?_
    clear b5 b6 b7
    have hst := aB (bB hB) (aB (bK q) (bK z))
    refine aD _ 8 hst ⟨hB.drew, q, z⟩ ?_
    clear hB q z
    refine aA 0 hst ?_
    refine bS 1 (.int .i64 (((n : Nat) : Int))) hst (fun W hS => hS.2.1.cell 0) ?_
    refine aA 2 hst ?_
    refine bS 3 (.int .i64 (((m : Nat) : Int))) hst (fun W hS => hS.2.2.cell 0) ?_
    refine aA 4 hst ?_
    refine aA 5 hst ?_
    refine aF 6 rfl hst (fun W hS K hK => by have ld : W.cell? ⟨1, n * 5 + m, none⟩ = some (.int .i64 tk) := (TB.out _ hS.1) 0 _ rfl; clear hS; go_simp; exact hk hK) ?_
    refine aA 7 hst ?_
    refine aE (fun d3 hS => ?_)
    obtain ⟨hB, q, z⟩ := hS
    clear hst
    go_wp2_with with_reducible refine so ?_
    go_returns
    obtain rfl : r = (tk, !(tk == 1)) := by rw [← HR.out]; have fk := FK.out; have tk1 := TK.out; unfold bC; rw [if_neg (by rw [fk.1, fk.2]; decide)]; simp [tk1] <;> rfl
    exact ⟨rfl, hB⟩
  case true =>
   have d4 := q.c 1 (.bool false)
   have d5 := z.c 1 (.bool true)
   go_wp2_with with_reducible refine so ?_
   go_returns
   obtain rfl : r = (6, true) := by rw [← HR.out]; have fk := FK.out; have tk1 := TK.out; unfold bC; rw [if_neg (by rw [fk.1, fk.2]; decide)]; simp [tk1] <;> rfl
   exact ⟨rfl, hB⟩
 case true =>
  have d6 := q.c 1 (.bool true)
  go_wp2_with with_reducible refine so ?_
  go_returns
  obtain rfl : r = (6, true) := by rw [← HR.out]; have fk := FK.out; have tk1 := TK.out; unfold bC; rw [if_neg (by rw [fk.1, fk.2]; decide)]; simp [tk1] <;> rfl
  exact ⟨rfl, hB⟩
theorem rB (i j : fQ) (w : World) (HL : bW w) : Calls Tryz.prog 89 #[.agg (bL i).toArray, .agg (bL j).toArray] w fun e w' => e = .returned (.tuple #[.int .i64 (bC i j).1, .bool (bC i j).2]) ∧ Below w.heap.size w w' := by
  by_cases hi : bO i = 0
  · by_cases hj : bO j = 0
    · obtain ⟨n, hn, h1⟩ := zR i hi
      obtain ⟨m, hm, h2⟩ := zR j hj
      obtain ⟨io, a0, a1, a2, a3, a4⟩ := i
      obtain ⟨jo, b0, b1, b2, b3, b4⟩ := j
      obtain rfl : io = n := h1
      obtain rfl : jo = m := h2
      exact yI n m a0 a1 a2 a3 a4 b0 b1 b2 b3 b4 w HL hn hm
    · exact yD i j w hi hj
  · exact zG i j w hi
theorem uS (i j : fQ) (w : World) (HL : bW w) :
  Calls Tryz.prog 101 #[.agg (bL i).toArray, .agg (bL j).toArray] w (fun e w' => e = .returned (.bool (cC i j)) ∧ Below w.heap.size w w') := by
 obtain ⟨r, hr⟩ : ∃ r, cC i j = r := ⟨_, rfl⟩
 rw [hr]
 have HR := Lib.hid hr
 clear hr
 go_enter Tryz.func101, Tryz.ntmps101
 have hB := Below.refl w.heap.size w
 go_wp2_with with_reducible refine so ?_
 refine bF (ty := 23) (cs := (bL i).toArray) (fun g => .pointer (some ⟨g, 0, none⟩)) rfl (by kernel_rfl) ?_
 intro a0 a7 a3 a1 U C
 have a8 : w.heap.size ≤ a0 := Nat.le_trans hB.size a1
 replace HL := bW.to HL U
 replace hB := hB.trans (U.mono hB.size)
 clear U a1 a3
 go_wp2_with with_reducible refine so ?_
 refine bF (ty := 23) (cs := (bL j).toArray) (fun g => .pointer (some ⟨g, 0, none⟩)) rfl (by kernel_rfl) ?_
 intro a2 a9 a4 Z L F
 have b0 : a0 < a2 := Nat.lt_of_lt_of_le C.lt Z
 have b1 : w.heap.size ≤ a2 := Nat.le_trans hB.size Z
 replace C := C.to L C.lt
 replace HL := bW.to HL L
 replace hB := hB.trans (L.mono hB.size)
 clear L Z a4
 go_wp2_with first | with_reducible refine so ?_ | with_reducible refine ld 0 (bL i) C U23 ?_ | with_reducible refine ld 0 (bL j) F U23 ?_
 refine (rB i j _ HL).mono ?_; rintro e b2 ⟨rfl, J⟩
 replace C := C.to J C.lt
 replace F := F.to J F.lt
 replace HL := bW.to HL J
 replace hB := hB.trans (J.mono hB.size)
 clear J
 by_cases O : ((bC i j).1 : Int) = 0
 ·
  obtain ⟨a5, a6, I⟩ := fT O; clear O
  go_wp2_with with_reducible refine so ?_
  go_returns
  have q0 := I.out
  obtain rfl : r = false := by rw [← HR.out]; first | (simp only [cC]; simp [q0]; done) | simp [cC, q0] <;> rfl
  exact ⟨rfl, hB⟩
 obtain ⟨a5, a6, I⟩ := fF O; clear O
 rcases q : (bC i j).2 with _ | _
 rotate_left
 ·
  go_wp2_with with_reducible refine so ?_
  go_returns
  have q0 := I.out
  obtain rfl : r = true := by rw [← HR.out]; first | (simp only [cC, q]; simp [q0, q]; done) | simp [cC, q0, q] <;> rfl
  exact ⟨rfl, hB⟩
 rcases z : i.mitm with _ | _
 rotate_left
 ·
  have b3 := C.c 3 (.bool i.mitm)
  go_wp2_with with_reducible refine so ?_
  go_returns
  have q0 := I.out
  obtain rfl : r = false := by rw [← HR.out]; first | (simp only [cC, q, z]; simp [q0, q, z]; done) | simp [cC, q0, q, z] <;> rfl
  exact ⟨rfl, hB⟩
 rcases D : j.mitm with _ | _
 ·
  have b4 := C.c 3 (.bool i.mitm)
  have b5 := F.c 3 (.bool j.mitm)
  go_wp2_with with_reducible refine so ?_
  go_returns
  have q0 := I.out
  obtain rfl : r = true := by rw [← HR.out]; first | (simp only [cC, q, z, D]; simp [q0, q, z, D]; done) | simp [cC, q0, q, z, D] <;> rfl
  exact ⟨rfl, hB⟩
 have b6 := C.c 3 (.bool i.mitm)
 have b7 := F.c 3 (.bool j.mitm)
 go_wp2_with with_reducible refine so ?_
 go_returns
 have q0 := I.out
 obtain rfl : r = false := by rw [← HR.out]; first | (simp only [cC, q, z, D]; simp [q0, q, z, D]; done) | simp [cC, q0, q, z, D] <;> rfl
 exact ⟨rfl, hB⟩
theorem vJ (w : World) : Calls Tryz.prog 36 #[.int .i64 22] w fun e w' => e = .returned (.int .u64 (W64 4194303#64)) ∧ Below w.heap.size w w' := by
 go_enter Tryz.func36, Tryz.ntmps36
 go_wp2
 go_ret
 exact ⟨rfl, Below.refl _ _⟩
theorem rE (w : World) : Calls Tryz.prog 36 #[.int .i64 46] w fun e w' => e = .returned (.int .u64 (W64 70368744177663#64)) ∧ Below w.heap.size w w' := by
 go_enter Tryz.func36, Tryz.ntmps36
 go_wp2
 go_ret
 exact ⟨rfl, Below.refl _ _⟩
def dR (a : Adr) : BitVec 64 × Int := if a.kind = 3 then (a.bits >>> 24 &&& 4194303#64, 22) else (a.bits &&& 70368744177663#64, 46)
def iQ (k : Int) (x : BitVec 64) : Int :=
  if k ≤ 0 ∨ 5 ≤ k then 12
  else if x >>> 48 ≠ 0#64 then 5
  else if k = 1 then 0
  else if x >>> 46 ≠ BitVec.ofInt 64 (cA k) ∨ (dR ⟨k, x⟩).1 = 0#64 ∨ (dR ⟨k, x⟩).1 = (if k = 3 then 4194303#64 else 70368744177663#64) then 1 else 0
theorem DN (x : BitVec 64) (n : Nat) (m : BitVec 64) (hm : m.toNat = 2 ^ n - 1) : (x &&& m).toNat = x.toNat % 2 ^ n := by
  rw [BitVec.toNat_and, hm, Nat.and_two_pow_sub_one_eq_mod]
theorem nZ {x y : BitVec 64} : x = y ↔ x.toNat = y.toNat := BitVec.toNat_inj.symm
theorem JZ (a : Adr) : iQ a.kind a.bits = eW a := by
  obtain ⟨k, x⟩ := a
  unfold iQ eW dR
  dsimp only
  have hx := x.isLt
  by_cases h1 : k < 1 ∨ 4 < k
  · rw [if_pos (by omega), if_pos h1]
  rw [if_neg (by omega), if_neg h1]
  have e48 : (x >>> 48).toNat = x.toNat / 281474976710656 := by rw [BitVec.toNat_ushiftRight, Nat.shiftRight_eq_div_pow]
  have e46 : (x >>> 46).toNat = x.toNat / 70368744177664 := by rw [BitVec.toNat_ushiftRight, Nat.shiftRight_eq_div_pow]
  by_cases h2 : 281474976710656 ≤ x.toNat
  · rw [if_pos (by rw [Ne, nZ, e48]; simp; omega), if_pos h2]
  rw [if_neg (by rw [Ne, nZ, e48]; simp; omega), if_neg h2]
  by_cases h3 : k = 1
  · rw [if_pos h3, if_pos h3]
  rw [if_neg h3, if_neg h3]
  have e3 : ((x >>> 24) &&& 4194303#64).toNat = x.toNat % 70368744177664 / 16777216 := by
    rw [DN _ 22 _ rfl, BitVec.toNat_ushiftRight, Nat.shiftRight_eq_div_pow]
    omega
  have e0 : (x &&& 70368744177663#64).toNat = x.toNat % 70368744177664 := DN _ 46 _ rfl
  rcases (by omega : k = 2 ∨ k = 3 ∨ k = 4) with rfl | rfl | rfl
  · simp only [nZ, Ne, e46, e0, reduceIte, Int.reduceEq, show cA 2 = 3 from rfl]
    norm_cast
  · simp only [nZ, Ne, e46, e3, reduceIte, Int.reduceEq, show cA 3 = 1 from rfl]
    norm_cast
  · simp only [nZ, Ne, e46, e0, reduceIte, Int.reduceEq, show cA 4 = 0 from rfl]
    norm_cast
theorem wD (a : Adr) (w : World) :
  Calls Tryz.prog 35 #[.agg (nR a).toArray] w (fun e w' => e = .returned (.tuple #[.int .u64 (W64 (dR a).1), .int .i64 (dR a).2]) ∧ Below w.heap.size w w') := by
 obtain ⟨r, hr⟩ : ∃ r, dR a = r := ⟨_, rfl⟩
 rw [hr]
 have HR := Lib.hid hr
 clear hr
 go_enter Tryz.func35, Tryz.ntmps35
 have hB := Below.refl w.heap.size w
 go_wp2_with with_reducible refine so ?_
 refine bF (ty := 26) (cs := #[.int .i64 a.kind, .int .u64 (W64 a.bits)]) (fun g => .pointer (some ⟨g, 0, none⟩)) rfl (by kernel_rfl) ?_
 intro I a0 J D F q
 have a1 : w.heap.size ≤ I := Nat.le_trans hB.size D
 replace hB := hB.trans (F.mono hB.size)
 clear F D J
 by_cases z : (a.kind : Int) = 3
 ·
  obtain ⟨L, O, C⟩ := fT z; clear z
  have U := q.c 0 (.int .i64 a.kind)
  go_wp2_with with_reducible refine so ?_
  clear U
  have hst := aB (bB hB) (bK q)
  refine aD _ 7 hst ⟨hB.drew, q⟩ ?_
  clear hB q
  refine aA 0 hst ?_
  refine bS 1 (.int .u64 (W64 a.bits)) hst (fun W hS => hS.2.cell 1) ?_
  refine aA 2 hst ?_
  refine aF 3 rfl hst (fun W hS K hK => by clear hS; go_simp; exact cl (vJ _) hK) ?_
  refine aA 4 hst ?_
  refine aA 5 hst ?_
  refine aA 6 hst ?_
  refine aE (fun a2 hS => ?_)
  obtain ⟨hB, q⟩ := hS
  clear hst
  go_wp2_with with_reducible refine so ?_
  go_returns
  have q0 := C.out
  obtain rfl : r = (((a.bits >>> 24) &&& (4194303#64)), 22) := by rw [← HR.out]; first | (simp only [dR]; simp [q0]; done) | simp [dR, q0] <;> rfl
  exact ⟨rfl, hB⟩
 obtain ⟨L, O, C⟩ := fF z; clear z
 have Z := q.c 0 (.int .i64 a.kind)
 go_wp2_with with_reducible refine so ?_
 clear Z
 have hst := aB (bB hB) (bK q)
 refine aD _ 6 hst ⟨hB.drew, q⟩ ?_
 clear hB q
 refine aA 0 hst ?_
 refine bS 1 (.int .u64 (W64 a.bits)) hst (fun W hS => hS.2.cell 1) ?_
 refine aF 2 rfl hst (fun W hS K hK => by clear hS; go_simp; exact cl (rE _) hK) ?_
 refine aA 3 hst ?_
 refine aA 4 hst ?_
 refine aA 5 hst ?_
 refine aE (fun a3 hS => ?_)
 obtain ⟨hB, q⟩ := hS
 clear hst
 go_wp2_with with_reducible refine so ?_
 go_returns
 have q0 := C.out
 obtain rfl : r = ((a.bits &&& (70368744177663#64)), 46) := by rw [← HR.out]; first | (simp only [dR]; simp [q0]; done) | simp [dR, q0] <;> rfl
 exact ⟨rfl, hB⟩
theorem wJ (k : Int) (x : BitVec 64) (w : World) (hk : k ≤ 0 ∨ 5 ≤ k) : Calls Tryz.prog 13 #[.agg #[.int .i64 k, .int .u64 (W64 x)]] w fun e w' => e = .returned (.int .i64 12) ∧ Below w.heap.size w w' := by
 rcases hk with h | h
 ·
  go_enter Tryz.func13, Tryz.ntmps13
  go_wp2
  go_ret
  exact ⟨rfl, (Below.refl _ _).alloc (Nat.le_refl _) _⟩
 have h0 : ¬ k ≤ 0 := by omega
 go_enter Tryz.func13, Tryz.ntmps13
 go_wp2
 go_ret
 exact ⟨rfl, (Below.refl _ _).alloc (Nat.le_refl _) _⟩
theorem CI (x : BitVec 64) (w : World) :
  Calls Tryz.prog 13 #[.agg #[.int .i64 1, .int .u64 (W64 x)]] w (fun e w' => e = .returned (.int .i64 (iQ 1 x)) ∧ Below w.heap.size w w') := by
 obtain ⟨r, hr⟩ : ∃ r, iQ 1 x = r := ⟨_, rfl⟩
 rw [hr]
 have HR := Lib.hid hr
 clear hr
 go_enter Tryz.func13, Tryz.ntmps13
 have hB := Below.refl w.heap.size w
 go_wp2_with with_reducible refine so ?_
 refine bF (ty := 26) (cs := #[.int .i64 1, .int .u64 (W64 x)]) (fun g => .pointer (some ⟨g, 0, none⟩)) rfl (by kernel_rfl) ?_
 intro I U J D F z
 have Z : w.heap.size ≤ I := Nat.le_trans hB.size D
 replace hB := hB.trans (F.mono hB.size)
 clear F D J
 by_cases q : x >>> 48 = 0#64
 ·
  have L : ((W64 (x >>> 48) : Int) == 0) = true := by have this : (W64 (x >>> 48) == W64 (0#64)) = true := (by rw [cG]; simpa using q); exact this
  have O : ((W64 (x >>> 48) : Int) != 0) = false := by have this : (W64 (x >>> 48) != W64 (0#64)) = false := (by rw [cM]; simpa using q); exact this
  have C := Lib.hid q
  clear q
  have a0 := z.c 0 (.int .i64 1)
  have a1 := z.c 1 (.int .u64 (W64 x))
  go_wp2_with with_reducible refine so ?_
  go_returns
  have q0 := C.out
  obtain rfl : r = 0 := by rw [← HR.out]; unfold iQ; rw [if_neg (by decide)]; simp [q0]
  exact ⟨rfl, hB⟩
 have L : ((W64 (x >>> 48) : Int) == 0) = false := by have this : (W64 (x >>> 48) == W64 (0#64)) = false := (by rw [cG]; simpa using q); exact this
 have O : ((W64 (x >>> 48) : Int) != 0) = true := by have this : (W64 (x >>> 48) != W64 (0#64)) = true := (by rw [cM]; simpa using q); exact this
 have C := Lib.hid q
 clear q
 have a2 := z.c 0 (.int .i64 1)
 have a3 := z.c 1 (.int .u64 (W64 x))
 go_wp2_with with_reducible refine so ?_
 go_returns
 have q0 := C.out
 obtain rfl : r = 5 := by rw [← HR.out]; unfold iQ; rw [if_neg (by decide)]; simp [q0]
 exact ⟨rfl, hB⟩
theorem CF (x : BitVec 64) (w : World)  (HL : bW w) :
  Calls Tryz.prog 13 #[.agg #[.int .i64 2, .int .u64 (W64 x)]] w (fun e w' => e = .returned (.int .i64 (iQ 2 x)) ∧ Below w.heap.size w w') := by
 obtain ⟨r, hr⟩ : ∃ r, iQ 2 x = r := ⟨_, rfl⟩
 rw [hr]
 have HR := Lib.hid hr
 clear hr
 have PB := Lib.hid (fun W (hB : Below w.heap.size w W) => show W.rangeAt 0 2 [.int .u64 3] from fun j v hj => by
  match j, hj with
  | 0, hj =>
   have := (HL.to hB).pre 2 _ (show H9[2]? = some (.int .u64 3) from rfl)
   rw [Nat.zero_add] at this
   simp only [List.getElem?_cons_zero, Option.some.injEq] at hj
   rw [← hj]
   exact this)
 clear HL
 go_enter Tryz.func13, Tryz.ntmps13
 have hB := Below.refl w.heap.size w
 go_wp2_with with_reducible refine so ?_
 refine bF (ty := 26) (cs := #[.int .i64 2, .int .u64 (W64 x)]) (fun g => .pointer (some ⟨g, 0, none⟩)) rfl (by kernel_rfl) ?_
 intro a1 b3 a2 Z a0 q
 have b4 : w.heap.size ≤ a1 := Nat.le_trans hB.size Z
 replace hB := hB.trans (a0.mono hB.size)
 clear a0 Z a2
 by_cases z : x >>> 48 = 0#64
 rotate_left
 ·
  have a3 : ((W64 (x >>> 48) : Int) == 0) = false := by have this : (W64 (x >>> 48) == W64 (0#64)) = false := (by rw [cG]; simpa using z); exact this
  have a4 : ((W64 (x >>> 48) : Int) != 0) = true := by have this : (W64 (x >>> 48) != W64 (0#64)) = true := (by rw [cM]; simpa using z); exact this
  have F := Lib.hid z
  clear z
  have b5 := q.c 0 (.int .i64 2)
  have b6 := q.c 1 (.int .u64 (W64 x))
  go_wp2_with with_reducible refine so ?_
  go_returns
  have q0 := F.out
  obtain rfl : r = 5 := by rw [← HR.out]; unfold iQ; rw [if_neg (by decide)]; simp [q0, show cA 2 = 3 from rfl] <;> simp_all
  exact ⟨rfl, hB⟩
 have a3 : ((W64 (x >>> 48) : Int) == 0) = true := by have this : (W64 (x >>> 48) == W64 (0#64)) = true := (by rw [cG]; simpa using z); exact this
 have a4 : ((W64 (x >>> 48) : Int) != 0) = false := by have this : (W64 (x >>> 48) != W64 (0#64)) = false := (by rw [cM]; simpa using z); exact this
 have F := Lib.hid z
 clear z
 have a5 := q.c 0 (.int .i64 2)
 have a6 := q.c 1 (.int .u64 (W64 x))
 go_wp2_with first | with_reducible refine so ?_ | with_reducible refine ld 0 [.int .i64 2, .int .u64 (W64 x)] q U26 ?_
 refine (wD ⟨2, x⟩ _).mono ?_; rintro e b7 ⟨rfl, O⟩
 clear a5 a6
 replace q := q.to O q.lt
 replace hB := hB.trans (O.mono hB.size)
 clear O
 by_cases C : x >>> 46 = 3#64
 rotate_left
 ·
  have a7 : ((W64 (x >>> 46) : Int) == 3) = false := by have this : (W64 (x >>> 46) == W64 (3#64)) = false := (by rw [cG]; simpa using C); exact this
  have a8 : ((W64 (x >>> 46) : Int) != 3) = true := by have this : (W64 (x >>> 46) != W64 (3#64)) = true := (by rw [cM]; simpa using C); exact this
  have I := Lib.hid C
  clear C
  go_wp2_with with_reducible refine so ?_
  have hst := aB (bB hB) (bK q)
  refine aD _ 18 hst ⟨hB.drew, q⟩ ?_
  clear hB q
  refine aA 0 hst ?_
  refine bS 1 (.int .u64 (W64 x)) hst (fun W hS => hS.2.cell 1) ?_
  refine aA 2 hst ?_
  refine aA 3 hst ?_
  refine bS 4 (.int .i64 2) hst (fun W hS => hS.2.cell 0) ?_
  refine aA 5 hst ?_
  refine aF 6 rfl hst (fun W hS K hK => by have ld : W.cell? ⟨0, 2, none⟩ = some (.int .u64 3) := (PB.out _ hS.1) 0 _ rfl; clear hS; go_simp; exact hk hK) ?_
  refine aA 7 hst ?_
  refine aA 8 hst ?_
  refine aG 9 hst ?_
  refine aG 10 hst ?_
  refine aA 11 hst ?_
  refine aA 12 hst ?_
  refine aG 13 hst ?_
  refine aG 14 hst ?_
  refine aG 15 hst ?_
  refine aG 16 hst ?_
  refine aA 17 hst ?_
  refine aE (fun b8 hS => ?_)
  obtain ⟨hB, q⟩ := hS
  clear hst
  go_wp2_with with_reducible refine so ?_
  go_returns
  have q0 := F.out
  have q1 := I.out
  obtain rfl : r = 1 := by rw [← HR.out]; unfold iQ; rw [if_neg (by decide)]; simp [q0, q1, show cA 2 = 3 from rfl] <;> simp_all
  exact ⟨rfl, hB⟩
 have a7 : ((W64 (x >>> 46) : Int) == 3) = true := by have this : (W64 (x >>> 46) == W64 (3#64)) = true := (by rw [cG]; simpa using C); exact this
 have a8 : ((W64 (x >>> 46) : Int) != 3) = false := by have this : (W64 (x >>> 46) != W64 (3#64)) = false := (by rw [cM]; simpa using C); exact this
 have I := Lib.hid C
 clear C
 by_cases D : (dR ⟨2, x⟩).1 = 0#64
 ·
  have a9 : ((W64 (dR ⟨2, x⟩).1 : Int) == 0) = true := by have this : (W64 ((dR ⟨2, x⟩).1) == W64 (0#64)) = true := (by rw [cG]; simpa using D); exact this
  have b0 : ((W64 (dR ⟨2, x⟩).1 : Int) != 0) = false := by have this : (W64 ((dR ⟨2, x⟩).1) != W64 (0#64)) = false := (by rw [cM]; simpa using D); exact this
  have J := Lib.hid D
  clear D
  go_wp2_with with_reducible refine so ?_
  have hst := aB (bB hB) (bK q)
  refine aD _ 18 hst ⟨hB.drew, q⟩ ?_
  clear hB q
  refine aA 0 hst ?_
  refine bS 1 (.int .u64 (W64 x)) hst (fun W hS => hS.2.cell 1) ?_
  refine aA 2 hst ?_
  refine aA 3 hst ?_
  refine bS 4 (.int .i64 2) hst (fun W hS => hS.2.cell 0) ?_
  refine aA 5 hst ?_
  refine aF 6 rfl hst (fun W hS K hK => by have ld : W.cell? ⟨0, 2, none⟩ = some (.int .u64 3) := (PB.out _ hS.1) 0 _ rfl; clear hS; go_simp; exact hk hK) ?_
  refine aA 7 hst ?_
  refine aA 8 hst ?_
  refine aA 9 hst ?_
  refine aA 10 hst ?_
  refine aA 11 hst ?_
  refine aA 12 hst ?_
  refine aG 13 hst ?_
  refine aG 14 hst ?_
  refine aG 15 hst ?_
  refine aG 16 hst ?_
  refine aA 17 hst ?_
  refine aE (fun b9 hS => ?_)
  obtain ⟨hB, q⟩ := hS
  clear hst
  go_wp2_with with_reducible refine so ?_
  go_returns
  have q0 := F.out
  have q1 := I.out
  have q2 := J.out
  obtain rfl : r = 1 := by rw [← HR.out]; unfold iQ; rw [if_neg (by decide)]; simp [q0, q1, q2, show cA 2 = 3 from rfl] <;> simp_all
  exact ⟨rfl, hB⟩
 have a9 : ((W64 (dR ⟨2, x⟩).1 : Int) == 0) = false := by have this : (W64 ((dR ⟨2, x⟩).1) == W64 (0#64)) = false := (by rw [cG]; simpa using D); exact this
 have b0 : ((W64 (dR ⟨2, x⟩).1 : Int) != 0) = true := by have this : (W64 ((dR ⟨2, x⟩).1) != W64 (0#64)) = true := (by rw [cM]; simpa using D); exact this
 have J := Lib.hid D
 clear D
 go_wp2_with with_reducible refine so ?_
 have hst := aB (bB hB) (bK q)
 refine aD _ 18 hst ⟨hB.drew, q⟩ ?_
 clear hB q
 refine aA 0 hst ?_
 refine bS 1 (.int .u64 (W64 x)) hst (fun W hS => hS.2.cell 1) ?_
 refine aA 2 hst ?_
 refine aA 3 hst ?_
 refine bS 4 (.int .i64 2) hst (fun W hS => hS.2.cell 0) ?_
 refine aA 5 hst ?_
 refine aF 6 rfl hst (fun W hS K hK => by have ld : W.cell? ⟨0, 2, none⟩ = some (.int .u64 3) := (PB.out _ hS.1) 0 _ rfl; clear hS; go_simp; exact hk hK) ?_
 refine aA 7 hst ?_
 refine aA 8 hst ?_
 refine aA 9 hst ?_
 refine aA 10 hst ?_
 refine aA 11 hst ?_
 refine aA 12 hst ?_
 refine aA 13 hst ?_
 refine aA 14 hst ?_
 refine aF 15 rfl hst (fun W hS K hK => by clear hS; go_simp; exact cl (rE _) hK) ?_
 refine aA 16 hst ?_
 refine aA 17 hst ?_
 refine aE (fun c0 hS => ?_)
 obtain ⟨hB, q⟩ := hS
 clear hst
 by_cases L : (dR ⟨2, x⟩).1 = 70368744177663#64
 ·
  obtain ⟨b1, b2, U⟩ := gT L; clear L
  go_wp2_with with_reducible refine so ?_
  go_returns
  have q0 := F.out
  have q1 := I.out
  have q2 := J.out
  have q3 := U.out
  obtain rfl : r = 1 := by rw [← HR.out]; unfold iQ; rw [if_neg (by decide)]; simp [q0, q1, q2, q3, show cA 2 = 3 from rfl] <;> simp_all
  exact ⟨rfl, hB⟩
 obtain ⟨b1, b2, U⟩ := gF L; clear L
 go_wp2_with with_reducible refine so ?_
 go_returns
 have q0 := F.out
 have q1 := I.out
 have q2 := J.out
 have q3 := U.out
 obtain rfl : r = 0 := by rw [← HR.out]; unfold iQ; rw [if_neg (by decide)]; simp [q0, q1, q2, q3, show cA 2 = 3 from rfl] <;> simp_all
 exact ⟨rfl, hB⟩
theorem AY (x : BitVec 64) (w : World)  (HL : bW w) :
  Calls Tryz.prog 13 #[.agg #[.int .i64 3, .int .u64 (W64 x)]] w (fun e w' => e = .returned (.int .i64 (iQ 3 x)) ∧ Below w.heap.size w w') := by
 obtain ⟨r, hr⟩ : ∃ r, iQ 3 x = r := ⟨_, rfl⟩
 rw [hr]
 have HR := Lib.hid hr
 clear hr
 have PB := Lib.hid (fun W (hB : Below w.heap.size w W) => show W.rangeAt 0 3 [.int .u64 1] from fun j v hj => by
  match j, hj with
  | 0, hj =>
   have := (HL.to hB).pre 3 _ (show H9[3]? = some (.int .u64 1) from rfl)
   rw [Nat.zero_add] at this
   simp only [List.getElem?_cons_zero, Option.some.injEq] at hj
   rw [← hj]
   exact this)
 clear HL
 go_enter Tryz.func13, Tryz.ntmps13
 have hB := Below.refl w.heap.size w
 go_wp2_with with_reducible refine so ?_
 refine bF (ty := 26) (cs := #[.int .i64 3, .int .u64 (W64 x)]) (fun g => .pointer (some ⟨g, 0, none⟩)) rfl (by kernel_rfl) ?_
 intro a1 b3 a2 Z a0 q
 have b4 : w.heap.size ≤ a1 := Nat.le_trans hB.size Z
 replace hB := hB.trans (a0.mono hB.size)
 clear a0 Z a2
 by_cases z : x >>> 48 = 0#64
 rotate_left
 ·
  have a3 : ((W64 (x >>> 48) : Int) == 0) = false := by have this : (W64 (x >>> 48) == W64 (0#64)) = false := (by rw [cG]; simpa using z); exact this
  have a4 : ((W64 (x >>> 48) : Int) != 0) = true := by have this : (W64 (x >>> 48) != W64 (0#64)) = true := (by rw [cM]; simpa using z); exact this
  have F := Lib.hid z
  clear z
  have b5 := q.c 0 (.int .i64 3)
  have b6 := q.c 1 (.int .u64 (W64 x))
  go_wp2_with with_reducible refine so ?_
  go_returns
  have q0 := F.out
  obtain rfl : r = 5 := by rw [← HR.out]; unfold iQ; rw [if_neg (by decide)]; simp [q0, show cA 3 = 1 from rfl] <;> simp_all
  exact ⟨rfl, hB⟩
 have a3 : ((W64 (x >>> 48) : Int) == 0) = true := by have this : (W64 (x >>> 48) == W64 (0#64)) = true := (by rw [cG]; simpa using z); exact this
 have a4 : ((W64 (x >>> 48) : Int) != 0) = false := by have this : (W64 (x >>> 48) != W64 (0#64)) = false := (by rw [cM]; simpa using z); exact this
 have F := Lib.hid z
 clear z
 have a5 := q.c 0 (.int .i64 3)
 have a6 := q.c 1 (.int .u64 (W64 x))
 go_wp2_with first | with_reducible refine so ?_ | with_reducible refine ld 0 [.int .i64 3, .int .u64 (W64 x)] q U26 ?_
 refine (wD ⟨3, x⟩ _).mono ?_; rintro e b7 ⟨rfl, O⟩
 clear a5 a6
 replace q := q.to O q.lt
 replace hB := hB.trans (O.mono hB.size)
 clear O
 by_cases C : x >>> 46 = 1#64
 rotate_left
 ·
  have a7 : ((W64 (x >>> 46) : Int) == 1) = false := by have this : (W64 (x >>> 46) == W64 (1#64)) = false := (by rw [cG]; simpa using C); exact this
  have a8 : ((W64 (x >>> 46) : Int) != 1) = true := by have this : (W64 (x >>> 46) != W64 (1#64)) = true := (by rw [cM]; simpa using C); exact this
  have I := Lib.hid C
  clear C
  go_wp2_with with_reducible refine so ?_
  have hst := aB (bB hB) (bK q)
  refine aD _ 18 hst ⟨hB.drew, q⟩ ?_
  clear hB q
  refine aA 0 hst ?_
  refine bS 1 (.int .u64 (W64 x)) hst (fun W hS => hS.2.cell 1) ?_
  refine aA 2 hst ?_
  refine aA 3 hst ?_
  refine bS 4 (.int .i64 3) hst (fun W hS => hS.2.cell 0) ?_
  refine aA 5 hst ?_
  refine aF 6 rfl hst (fun W hS K hK => by have ld : W.cell? ⟨0, 3, none⟩ = some (.int .u64 1) := (PB.out _ hS.1) 0 _ rfl; clear hS; go_simp; exact hk hK) ?_
  refine aA 7 hst ?_
  refine aA 8 hst ?_
  refine aG 9 hst ?_
  refine aG 10 hst ?_
  refine aA 11 hst ?_
  refine aA 12 hst ?_
  refine aG 13 hst ?_
  refine aG 14 hst ?_
  refine aG 15 hst ?_
  refine aG 16 hst ?_
  refine aA 17 hst ?_
  refine aE (fun b8 hS => ?_)
  obtain ⟨hB, q⟩ := hS
  clear hst
  go_wp2_with with_reducible refine so ?_
  go_returns
  have q0 := F.out
  have q1 := I.out
  obtain rfl : r = 1 := by rw [← HR.out]; unfold iQ; rw [if_neg (by decide)]; simp [q0, q1, show cA 3 = 1 from rfl] <;> simp_all
  exact ⟨rfl, hB⟩
 have a7 : ((W64 (x >>> 46) : Int) == 1) = true := by have this : (W64 (x >>> 46) == W64 (1#64)) = true := (by rw [cG]; simpa using C); exact this
 have a8 : ((W64 (x >>> 46) : Int) != 1) = false := by have this : (W64 (x >>> 46) != W64 (1#64)) = false := (by rw [cM]; simpa using C); exact this
 have I := Lib.hid C
 clear C
 by_cases D : (dR ⟨3, x⟩).1 = 0#64
 ·
  have a9 : ((W64 (dR ⟨3, x⟩).1 : Int) == 0) = true := by have this : (W64 ((dR ⟨3, x⟩).1) == W64 (0#64)) = true := (by rw [cG]; simpa using D); exact this
  have b0 : ((W64 (dR ⟨3, x⟩).1 : Int) != 0) = false := by have this : (W64 ((dR ⟨3, x⟩).1) != W64 (0#64)) = false := (by rw [cM]; simpa using D); exact this
  have J := Lib.hid D
  clear D
  go_wp2_with with_reducible refine so ?_
  have hst := aB (bB hB) (bK q)
  refine aD _ 18 hst ⟨hB.drew, q⟩ ?_
  clear hB q
  refine aA 0 hst ?_
  refine bS 1 (.int .u64 (W64 x)) hst (fun W hS => hS.2.cell 1) ?_
  refine aA 2 hst ?_
  refine aA 3 hst ?_
  refine bS 4 (.int .i64 3) hst (fun W hS => hS.2.cell 0) ?_
  refine aA 5 hst ?_
  refine aF 6 rfl hst (fun W hS K hK => by have ld : W.cell? ⟨0, 3, none⟩ = some (.int .u64 1) := (PB.out _ hS.1) 0 _ rfl; clear hS; go_simp; exact hk hK) ?_
  refine aA 7 hst ?_
  refine aA 8 hst ?_
  refine aA 9 hst ?_
  refine aA 10 hst ?_
  refine aA 11 hst ?_
  refine aA 12 hst ?_
  refine aG 13 hst ?_
  refine aG 14 hst ?_
  refine aG 15 hst ?_
  refine aG 16 hst ?_
  refine aA 17 hst ?_
  refine aE (fun b9 hS => ?_)
  obtain ⟨hB, q⟩ := hS
  clear hst
  go_wp2_with with_reducible refine so ?_
  go_returns
  have q0 := F.out
  have q1 := I.out
  have q2 := J.out
  obtain rfl : r = 1 := by rw [← HR.out]; unfold iQ; rw [if_neg (by decide)]; simp [q0, q1, q2, show cA 3 = 1 from rfl] <;> simp_all
  exact ⟨rfl, hB⟩
 have a9 : ((W64 (dR ⟨3, x⟩).1 : Int) == 0) = false := by have this : (W64 ((dR ⟨3, x⟩).1) == W64 (0#64)) = false := (by rw [cG]; simpa using D); exact this
 have b0 : ((W64 (dR ⟨3, x⟩).1 : Int) != 0) = true := by have this : (W64 ((dR ⟨3, x⟩).1) != W64 (0#64)) = true := (by rw [cM]; simpa using D); exact this
 have J := Lib.hid D
 clear D
 go_wp2_with with_reducible refine so ?_
 have hst := aB (bB hB) (bK q)
 refine aD _ 18 hst ⟨hB.drew, q⟩ ?_
 clear hB q
 refine aA 0 hst ?_
 refine bS 1 (.int .u64 (W64 x)) hst (fun W hS => hS.2.cell 1) ?_
 refine aA 2 hst ?_
 refine aA 3 hst ?_
 refine bS 4 (.int .i64 3) hst (fun W hS => hS.2.cell 0) ?_
 refine aA 5 hst ?_
 refine aF 6 rfl hst (fun W hS K hK => by have ld : W.cell? ⟨0, 3, none⟩ = some (.int .u64 1) := (PB.out _ hS.1) 0 _ rfl; clear hS; go_simp; exact hk hK) ?_
 refine aA 7 hst ?_
 refine aA 8 hst ?_
 refine aA 9 hst ?_
 refine aA 10 hst ?_
 refine aA 11 hst ?_
 refine aA 12 hst ?_
 refine aA 13 hst ?_
 refine aA 14 hst ?_
 refine aF 15 rfl hst (fun W hS K hK => by clear hS; go_simp; exact cl (vJ _) hK) ?_
 refine aA 16 hst ?_
 refine aA 17 hst ?_
 refine aE (fun c0 hS => ?_)
 obtain ⟨hB, q⟩ := hS
 clear hst
 by_cases L : (dR ⟨3, x⟩).1 = 4194303#64
 ·
  obtain ⟨b1, b2, U⟩ := gT L; clear L
  go_wp2_with with_reducible refine so ?_
  go_returns
  have q0 := F.out
  have q1 := I.out
  have q2 := J.out
  have q3 := U.out
  obtain rfl : r = 1 := by rw [← HR.out]; unfold iQ; rw [if_neg (by decide)]; simp [q0, q1, q2, q3, show cA 3 = 1 from rfl] <;> simp_all
  exact ⟨rfl, hB⟩
 obtain ⟨b1, b2, U⟩ := gF L; clear L
 go_wp2_with with_reducible refine so ?_
 go_returns
 have q0 := F.out
 have q1 := I.out
 have q2 := J.out
 have q3 := U.out
 obtain rfl : r = 0 := by rw [← HR.out]; unfold iQ; rw [if_neg (by decide)]; simp [q0, q1, q2, q3, show cA 3 = 1 from rfl] <;> simp_all
 exact ⟨rfl, hB⟩
theorem AM (x : BitVec 64) (w : World)  (HL : bW w) :
  Calls Tryz.prog 13 #[.agg #[.int .i64 4, .int .u64 (W64 x)]] w (fun e w' => e = .returned (.int .i64 (iQ 4 x)) ∧ Below w.heap.size w w') := by
 obtain ⟨r, hr⟩ : ∃ r, iQ 4 x = r := ⟨_, rfl⟩
 rw [hr]
 have HR := Lib.hid hr
 clear hr
 have PB := Lib.hid (fun W (hB : Below w.heap.size w W) => show W.rangeAt 0 4 [.int .u64 0] from fun j v hj => by
  match j, hj with
  | 0, hj =>
   have := (HL.to hB).pre 4 _ (show H9[4]? = some (.int .u64 0) from rfl)
   rw [Nat.zero_add] at this
   simp only [List.getElem?_cons_zero, Option.some.injEq] at hj
   rw [← hj]
   exact this)
 clear HL
 go_enter Tryz.func13, Tryz.ntmps13
 have hB := Below.refl w.heap.size w
 go_wp2_with with_reducible refine so ?_
 refine bF (ty := 26) (cs := #[.int .i64 4, .int .u64 (W64 x)]) (fun g => .pointer (some ⟨g, 0, none⟩)) rfl (by kernel_rfl) ?_
 intro a1 b3 a2 Z a0 q
 have b4 : w.heap.size ≤ a1 := Nat.le_trans hB.size Z
 replace hB := hB.trans (a0.mono hB.size)
 clear a0 Z a2
 by_cases z : x >>> 48 = 0#64
 rotate_left
 ·
  have a3 : ((W64 (x >>> 48) : Int) == 0) = false := by have this : (W64 (x >>> 48) == W64 (0#64)) = false := (by rw [cG]; simpa using z); exact this
  have a4 : ((W64 (x >>> 48) : Int) != 0) = true := by have this : (W64 (x >>> 48) != W64 (0#64)) = true := (by rw [cM]; simpa using z); exact this
  have F := Lib.hid z
  clear z
  have b5 := q.c 0 (.int .i64 4)
  have b6 := q.c 1 (.int .u64 (W64 x))
  go_wp2_with with_reducible refine so ?_
  go_returns
  have q0 := F.out
  obtain rfl : r = 5 := by rw [← HR.out]; unfold iQ; rw [if_neg (by decide)]; simp [q0, show cA 4 = 0 from rfl] <;> simp_all
  exact ⟨rfl, hB⟩
 have a3 : ((W64 (x >>> 48) : Int) == 0) = true := by have this : (W64 (x >>> 48) == W64 (0#64)) = true := (by rw [cG]; simpa using z); exact this
 have a4 : ((W64 (x >>> 48) : Int) != 0) = false := by have this : (W64 (x >>> 48) != W64 (0#64)) = false := (by rw [cM]; simpa using z); exact this
 have F := Lib.hid z
 clear z
 have a5 := q.c 0 (.int .i64 4)
 have a6 := q.c 1 (.int .u64 (W64 x))
 go_wp2_with first | with_reducible refine so ?_ | with_reducible refine ld 0 [.int .i64 4, .int .u64 (W64 x)] q U26 ?_
 refine (wD ⟨4, x⟩ _).mono ?_; rintro e b7 ⟨rfl, O⟩
 clear a5 a6
 replace q := q.to O q.lt
 replace hB := hB.trans (O.mono hB.size)
 clear O
 by_cases C : x >>> 46 = 0#64
 rotate_left
 ·
  have a7 : ((W64 (x >>> 46) : Int) == 0) = false := by have this : (W64 (x >>> 46) == W64 (0#64)) = false := (by rw [cG]; simpa using C); exact this
  have a8 : ((W64 (x >>> 46) : Int) != 0) = true := by have this : (W64 (x >>> 46) != W64 (0#64)) = true := (by rw [cM]; simpa using C); exact this
  have I := Lib.hid C
  clear C
  go_wp2_with with_reducible refine so ?_
  have hst := aB (bB hB) (bK q)
  refine aD _ 18 hst ⟨hB.drew, q⟩ ?_
  clear hB q
  refine aA 0 hst ?_
  refine bS 1 (.int .u64 (W64 x)) hst (fun W hS => hS.2.cell 1) ?_
  refine aA 2 hst ?_
  refine aA 3 hst ?_
  refine bS 4 (.int .i64 4) hst (fun W hS => hS.2.cell 0) ?_
  refine aA 5 hst ?_
  refine aF 6 rfl hst (fun W hS K hK => by have ld : W.cell? ⟨0, 4, none⟩ = some (.int .u64 0) := (PB.out _ hS.1) 0 _ rfl; clear hS; go_simp; exact hk hK) ?_
  refine aA 7 hst ?_
  refine aA 8 hst ?_
  refine aG 9 hst ?_
  refine aG 10 hst ?_
  refine aA 11 hst ?_
  refine aA 12 hst ?_
  refine aG 13 hst ?_
  refine aG 14 hst ?_
  refine aG 15 hst ?_
  refine aG 16 hst ?_
  refine aA 17 hst ?_
  refine aE (fun b8 hS => ?_)
  obtain ⟨hB, q⟩ := hS
  clear hst
  go_wp2_with with_reducible refine so ?_
  go_returns
  have q0 := F.out
  have q1 := I.out
  obtain rfl : r = 1 := by rw [← HR.out]; unfold iQ; rw [if_neg (by decide)]; simp [q0, q1, show cA 4 = 0 from rfl] <;> simp_all
  exact ⟨rfl, hB⟩
 have a7 : ((W64 (x >>> 46) : Int) == 0) = true := by have this : (W64 (x >>> 46) == W64 (0#64)) = true := (by rw [cG]; simpa using C); exact this
 have a8 : ((W64 (x >>> 46) : Int) != 0) = false := by have this : (W64 (x >>> 46) != W64 (0#64)) = false := (by rw [cM]; simpa using C); exact this
 have I := Lib.hid C
 clear C
 by_cases D : (dR ⟨4, x⟩).1 = 0#64
 ·
  have a9 : ((W64 (dR ⟨4, x⟩).1 : Int) == 0) = true := by have this : (W64 ((dR ⟨4, x⟩).1) == W64 (0#64)) = true := (by rw [cG]; simpa using D); exact this
  have b0 : ((W64 (dR ⟨4, x⟩).1 : Int) != 0) = false := by have this : (W64 ((dR ⟨4, x⟩).1) != W64 (0#64)) = false := (by rw [cM]; simpa using D); exact this
  have J := Lib.hid D
  clear D
  go_wp2_with with_reducible refine so ?_
  have hst := aB (bB hB) (bK q)
  refine aD _ 18 hst ⟨hB.drew, q⟩ ?_
  clear hB q
  refine aA 0 hst ?_
  refine bS 1 (.int .u64 (W64 x)) hst (fun W hS => hS.2.cell 1) ?_
  refine aA 2 hst ?_
  refine aA 3 hst ?_
  refine bS 4 (.int .i64 4) hst (fun W hS => hS.2.cell 0) ?_
  refine aA 5 hst ?_
  refine aF 6 rfl hst (fun W hS K hK => by have ld : W.cell? ⟨0, 4, none⟩ = some (.int .u64 0) := (PB.out _ hS.1) 0 _ rfl; clear hS; go_simp; exact hk hK) ?_
  refine aA 7 hst ?_
  refine aA 8 hst ?_
  refine aA 9 hst ?_
  refine aA 10 hst ?_
  refine aA 11 hst ?_
  refine aA 12 hst ?_
  refine aG 13 hst ?_
  refine aG 14 hst ?_
  refine aG 15 hst ?_
  refine aG 16 hst ?_
  refine aA 17 hst ?_
  refine aE (fun b9 hS => ?_)
  obtain ⟨hB, q⟩ := hS
  clear hst
  go_wp2_with with_reducible refine so ?_
  go_returns
  have q0 := F.out
  have q1 := I.out
  have q2 := J.out
  obtain rfl : r = 1 := by rw [← HR.out]; unfold iQ; rw [if_neg (by decide)]; simp [q0, q1, q2, show cA 4 = 0 from rfl] <;> simp_all
  exact ⟨rfl, hB⟩
 have a9 : ((W64 (dR ⟨4, x⟩).1 : Int) == 0) = false := by have this : (W64 ((dR ⟨4, x⟩).1) == W64 (0#64)) = false := (by rw [cG]; simpa using D); exact this
 have b0 : ((W64 (dR ⟨4, x⟩).1 : Int) != 0) = true := by have this : (W64 ((dR ⟨4, x⟩).1) != W64 (0#64)) = true := (by rw [cM]; simpa using D); exact this
 have J := Lib.hid D
 clear D
 go_wp2_with with_reducible refine so ?_
 have hst := aB (bB hB) (bK q)
 refine aD _ 18 hst ⟨hB.drew, q⟩ ?_
 clear hB q
 refine aA 0 hst ?_
 refine bS 1 (.int .u64 (W64 x)) hst (fun W hS => hS.2.cell 1) ?_
 refine aA 2 hst ?_
 refine aA 3 hst ?_
 refine bS 4 (.int .i64 4) hst (fun W hS => hS.2.cell 0) ?_
 refine aA 5 hst ?_
 refine aF 6 rfl hst (fun W hS K hK => by have ld : W.cell? ⟨0, 4, none⟩ = some (.int .u64 0) := (PB.out _ hS.1) 0 _ rfl; clear hS; go_simp; exact hk hK) ?_
 refine aA 7 hst ?_
 refine aA 8 hst ?_
 refine aA 9 hst ?_
 refine aA 10 hst ?_
 refine aA 11 hst ?_
 refine aA 12 hst ?_
 refine aA 13 hst ?_
 refine aA 14 hst ?_
 refine aF 15 rfl hst (fun W hS K hK => by clear hS; go_simp; exact cl (rE _) hK) ?_
 refine aA 16 hst ?_
 refine aA 17 hst ?_
 refine aE (fun c0 hS => ?_)
 obtain ⟨hB, q⟩ := hS
 clear hst
 by_cases L : (dR ⟨4, x⟩).1 = 70368744177663#64
 ·
  obtain ⟨b1, b2, U⟩ := gT L; clear L
  go_wp2_with with_reducible refine so ?_
  go_returns
  have q0 := F.out
  have q1 := I.out
  have q2 := J.out
  have q3 := U.out
  obtain rfl : r = 1 := by rw [← HR.out]; unfold iQ; rw [if_neg (by decide)]; simp [q0, q1, q2, q3, show cA 4 = 0 from rfl] <;> simp_all
  exact ⟨rfl, hB⟩
 obtain ⟨b1, b2, U⟩ := gF L; clear L
 go_wp2_with with_reducible refine so ?_
 go_returns
 have q0 := F.out
 have q1 := I.out
 have q2 := J.out
 have q3 := U.out
 obtain rfl : r = 0 := by rw [← HR.out]; unfold iQ; rw [if_neg (by decide)]; simp [q0, q1, q2, q3, show cA 4 = 0 from rfl] <;> simp_all
 exact ⟨rfl, hB⟩
theorem nL (a : Adr) (w : World) (HL : bW w) : Calls Tryz.prog 13 #[.agg (nR a).toArray] w fun e w' => e = .returned (.int .i64 (eW a)) ∧ Below w.heap.size w w' := by
  rw [← JZ]
  obtain ⟨k, x⟩ := a
  by_cases hk : k ≤ 0 ∨ 5 ≤ k
  · have := wJ k x w hk
    show Calls _ _ _ w fun e w' => e = .returned (.int .i64 (iQ k x)) ∧ _
    rw [show iQ k x = 12 from if_pos hk]
    exact this
  · rcases (by omega : k = 1 ∨ k = 2 ∨ k = 3 ∨ k = 4) with rfl | rfl | rfl | rfl
    · exact CI x w
    · exact CF x w HL
    · exact AY x w HL
    · exact AM x w HL
end Go.Proofs.YtihmbcnccdiecaaGreatDoor
