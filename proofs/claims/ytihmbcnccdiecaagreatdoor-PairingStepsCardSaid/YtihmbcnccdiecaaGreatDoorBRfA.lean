/- Part of the proofs of the laws of pairing. -/
import Derived.Test.YtihmbcnccdiecaaGreatDoorBLowB
namespace Go.Proofs.YtihmbcnccdiecaaGreatDoor
set_option maxRecDepth 100000
set_option linter.unusedVariables false
set_option linter.unusedSimpArgs false
open Go.ChangeShapes Go.WideShapes Go.ChangeAt Go.RowKit
theorem jB (f : fQ) (w : World) :
  Calls Tryz.prog 17 #[.agg (bL f).toArray] w (fun e w' => e = .returned (.int .i64 (bO f)) ∧ Below w.heap.size w w') := by
 obtain ⟨r, hr⟩ : ∃ r, bO f = r := ⟨_, rfl⟩
 rw [hr]
 have HR := Lib.hid hr
 clear hr
 go_enter Tryz.func17, Tryz.ntmps17
 have hB := Below.refl w.heap.size w
 go_wp2_with with_reducible refine so ?_
 refine bF (ty := 23) (cs := (bL f).toArray) (fun g => .pointer (some ⟨g, 0, none⟩)) rfl (by kernel_rfl) ?_
 intro L a4 O I J D
 have a5 : w.heap.size ≤ L := Nat.le_trans hB.size I
 replace hB := hB.trans (J.mono hB.size)
 clear J I O
 by_cases q : (f.io : Int) < 0
 ·
  obtain ⟨U, Z, a0, z⟩ := lT q; clear q
  have a6 := D.c 0 (.int .i64 f.io)
  go_wp2_with with_reducible refine so ?_
  go_returns
  have q0 := z.out
  obtain rfl : r = 5 := by rw [← HR.out]; unfold bO; first | (rw [if_pos (by omega)]; done) | (rw [if_neg (by omega)]; done)
  exact ⟨rfl, hB⟩
 obtain ⟨U, Z, a0, z⟩ := lF q; clear q
 by_cases C : (4 : Int) < f.io
 ·
  obtain ⟨a1, a2, a3, F⟩ := lT C; clear C
  have a7 := D.c 0 (.int .i64 f.io)
  go_wp2_with with_reducible refine so ?_
  go_returns
  have q0 := z.out
  have q1 := F.out
  obtain rfl : r = 5 := by rw [← HR.out]; unfold bO; first | (rw [if_pos (by omega)]; done) | (rw [if_neg (by omega)]; done)
  exact ⟨rfl, hB⟩
 obtain ⟨a1, a2, a3, F⟩ := lF C; clear C
 have a8 := D.c 0 (.int .i64 f.io)
 go_wp2_with with_reducible refine so ?_
 go_returns
 have q0 := z.out
 have q1 := F.out
 obtain rfl : r = 0 := by rw [← HR.out]; unfold bO; first | (rw [if_pos (by omega)]; done) | (rw [if_neg (by omega)]; done)
 exact ⟨rfl, hB⟩
theorem nC (w : World) : Calls Tryz.prog 39 #[.int .i64 2] w fun e w' => e = .returned (.int .u64 3) ∧ Below w.heap.size w w' := by
 go_enter Tryz.func39, Tryz.ntmps39
 go_wp2
 go_ret
 exact ⟨rfl, Below.refl _ _⟩
theorem nI (w : World) : Calls Tryz.prog 39 #[.int .i64 3] w fun e w' => e = .returned (.int .u64 1) ∧ Below w.heap.size w w' := by
 go_enter Tryz.func39, Tryz.ntmps39
 go_wp2
 go_ret
 exact ⟨rfl, Below.refl _ _⟩
theorem nB (w : World) : Calls Tryz.prog 39 #[.int .i64 4] w fun e w' => e = .returned (.int .u64 0) ∧ Below w.heap.size w w' := by
 go_enter Tryz.func39, Tryz.ntmps39
 go_wp2
 go_ret
 exact ⟨rfl, Below.refl _ _⟩
def iP (k : Int) (x : BitVec 64) : Int :=
  if k < 1 ∨ 4 < k then 12
  else if ¬ x < 281474976710656#64 then 5
  else if k = 1 then 0
  else
    let m := if k = 3 then x % 70368744177664#64 / 16777216#64 else x % 70368744177664#64
    let most := if k = 3 then 4194303#64 else 70368744177663#64
    if x / 70368744177664#64 ≠ BitVec.ofInt 64 (cA k) ∨ m = 0#64 ∨ m = most then 1 else 0
theorem JE (a : Adr) : iP a.kind a.bits = eW a := by
  obtain ⟨k, x⟩ := a
  unfold iP eW
  dsimp only
  have hx := x.isLt
  by_cases h1 : k < 1 ∨ 4 < k
  · rw [if_pos h1, if_pos h1]
  rw [if_neg h1, if_neg h1]
  have el : (¬ x < 281474976710656#64) ↔ 281474976710656 ≤ x.toNat := by rw [BitVec.not_lt, BitVec.le_def]; rfl
  by_cases h2 : 281474976710656 ≤ x.toNat
  · rw [if_pos (el.mpr h2), if_pos h2]
  rw [if_neg (fun h => h2 (el.mp h)), if_neg h2]
  by_cases h3 : k = 1
  · rw [if_pos h3, if_pos h3]
  rw [if_neg h3, if_neg h3]
  have e46 : (x / 70368744177664#64).toNat = x.toNat / 70368744177664 := by rw [BitVec.toNat_udiv]; rfl
  have e0 : (x % 70368744177664#64).toNat = x.toNat % 70368744177664 := by rw [BitVec.toNat_umod]; rfl
  have e3 : (x % 70368744177664#64 / 16777216#64).toNat = x.toNat % 70368744177664 / 16777216 := by rw [BitVec.toNat_udiv, e0]; rfl
  rcases (by omega : k = 2 ∨ k = 3 ∨ k = 4) with rfl | rfl | rfl
  · simp only [nZ, Ne, e46, e0, reduceIte, Int.reduceEq, show cA 2 = 3 from rfl]
    norm_cast
  · simp only [nZ, Ne, e46, e3, reduceIte, Int.reduceEq, show cA 3 = 1 from rfl]
    norm_cast
  · simp only [nZ, Ne, e46, e0, reduceIte, Int.reduceEq, show cA 4 = 0 from rfl]
    norm_cast
theorem uB (k : Int) (x : BitVec 64) (w : World) (hk : k < 1 ∨ 4 < k) : Calls Tryz.prog 18 #[.agg #[.int .i64 k, .int .u64 (W64 x)]] w fun e w' => e = .returned (.int .i64 12) ∧ Below w.heap.size w w' := by
 rcases hk with h | h
 ·
  go_enter Tryz.func18, Tryz.ntmps18
  go_wp2
  go_ret
  exact ⟨rfl, (Below.refl _ _).alloc (Nat.le_refl _) _⟩
 have h0 : ¬ k < 1 := by omega
 go_enter Tryz.func18, Tryz.ntmps18
 go_wp2
 go_ret
 exact ⟨rfl, (Below.refl _ _).alloc (Nat.le_refl _) _⟩
theorem xK (x : BitVec 64) (w : World) :
  Calls Tryz.prog 18 #[.agg #[.int .i64 1, .int .u64 (W64 x)]] w (fun e w' => e = .returned (.int .i64 (iP 1 x)) ∧ Below w.heap.size w w') := by
 obtain ⟨r, hr⟩ : ∃ r, iP 1 x = r := ⟨_, rfl⟩
 rw [hr]
 have HR := Lib.hid hr
 clear hr
 obtain ⟨mk, hmk⟩ : ∃ m : BitVec 64, 70368744177663#64 = m := ⟨_, rfl⟩
 have hM : (Value.int .u64 70368744177663) = .int .u64 (W64 mk) := by rw [← hmk]; rfl
 have HK := Lib.hid hmk
 clear hmk
 go_enter Tryz.func18, Tryz.ntmps18
 have hB := Below.refl w.heap.size w
 go_wp2_with with_reducible refine so ?_
 refine bF (ty := 26) (cs := #[.int .i64 1, .int .u64 (W64 x)]) (fun g => .pointer (some ⟨g, 0, none⟩)) rfl (by kernel_rfl) ?_
 intro I U J D F z
 have Z : w.heap.size ≤ I := Nat.le_trans hB.size D
 replace hB := hB.trans (F.mono hB.size)
 clear F D J
 by_cases q : x < 281474976710656#64
 ·
  have L : decide ((W64 x : Int) < 281474976710656) = true := decide_eq_true (show W64 x < W64 (281474976710656#64) by rw [kY]; exact q)
  have O : decide ((281474976710656 : Int) ≤ W64 x) = false := decide_eq_false (fun hh => absurd (show W64 (281474976710656#64) ≤ W64 x from hh) (by rw [lJ]; exact BitVec.not_le.2 q))
  have C := Lib.hid q
  clear q
  have a0 := z.c 0 (.int .i64 1)
  have a1 := z.c 1 (.int .u64 (W64 x))
  go_wp2_with with_reducible refine so ?_
  go_returns
  have q0 := C.out
  obtain rfl : r = 0 := by rw [← HR.out]; have mk0 := HK.out; unfold iP; rw [if_neg (by decide)]; simp [show cA 1 = 0 from rfl, mk0, q0] <;> simp_all
  exact ⟨rfl, hB⟩
 have L : decide ((W64 x : Int) < 281474976710656) = false := decide_eq_false (fun hh => q (by have h2 : W64 x < W64 (281474976710656#64) := hh; rw [kY] at h2; exact h2))
 have O : decide ((281474976710656 : Int) ≤ W64 x) = true := decide_eq_true (show W64 (281474976710656#64) ≤ W64 x by rw [lJ]; exact BitVec.not_lt.1 q)
 have C := Lib.hid q
 clear q
 have a2 := z.c 0 (.int .i64 1)
 have a3 := z.c 1 (.int .u64 (W64 x))
 go_wp2_with with_reducible refine so ?_
 go_returns
 have q0 := C.out
 obtain rfl : r = 5 := by rw [← HR.out]; have mk0 := HK.out; unfold iP; rw [if_neg (by decide)]; simp [show cA 1 = 0 from rfl, mk0, q0] <;> simp_all
 exact ⟨rfl, hB⟩
theorem xL (x : BitVec 64) (w : World) :
  Calls Tryz.prog 18 #[.agg #[.int .i64 2, .int .u64 (W64 x)]] w (fun e w' => e = .returned (.int .i64 (iP 2 x)) ∧ Below w.heap.size w w') := by
 obtain ⟨r, hr⟩ : ∃ r, iP 2 x = r := ⟨_, rfl⟩
 rw [hr]
 have HR := Lib.hid hr
 clear hr
 obtain ⟨mk, hmk⟩ : ∃ m : BitVec 64, 70368744177663#64 = m := ⟨_, rfl⟩
 have hM : (Value.int .u64 70368744177663) = .int .u64 (W64 mk) := by rw [← hmk]; rfl
 have HK := Lib.hid hmk
 clear hmk
 go_enter Tryz.func18, Tryz.ntmps18
 have hB := Below.refl w.heap.size w
 go_wp2_with with_reducible refine so ?_
 refine bF (ty := 26) (cs := #[.int .i64 2, .int .u64 (W64 x)]) (fun g => .pointer (some ⟨g, 0, none⟩)) rfl (by kernel_rfl) ?_
 intro a2 b6 a3 a0 a1 q
 have b7 : w.heap.size ≤ a2 := Nat.le_trans hB.size a0
 replace hB := hB.trans (a1.mono hB.size)
 clear a1 a0 a3
 by_cases z : x < 281474976710656#64
 rotate_left
 ·
  have a4 : decide ((W64 x : Int) < 281474976710656) = false := decide_eq_false (fun hh => z (by have h2 : W64 x < W64 (281474976710656#64) := hh; rw [kY] at h2; exact h2))
  have a5 : decide ((281474976710656 : Int) ≤ W64 x) = true := decide_eq_true (show W64 (281474976710656#64) ≤ W64 x by rw [lJ]; exact BitVec.not_lt.1 z)
  have F := Lib.hid z
  clear z
  have b8 := q.c 0 (.int .i64 2)
  have b9 := q.c 1 (.int .u64 (W64 x))
  go_wp2_with with_reducible refine so ?_
  go_returns
  have q0 := F.out
  obtain rfl : r = 5 := by rw [← HR.out]; have mk0 := HK.out; unfold iP; rw [if_neg (by decide)]; simp [show cA 2 = 3 from rfl, mk0, q0] <;> simp_all
  exact ⟨rfl, hB⟩
 have a4 : decide ((W64 x : Int) < 281474976710656) = true := decide_eq_true (show W64 x < W64 (281474976710656#64) by rw [kY]; exact z)
 have a5 : decide ((281474976710656 : Int) ≤ W64 x) = false := decide_eq_false (fun hh => absurd (show W64 (281474976710656#64) ≤ W64 x from hh) (by rw [lJ]; exact BitVec.not_le.2 z))
 have F := Lib.hid z
 clear z
 by_cases C : x / (70368744177664#64) = 3#64
 rotate_left
 ·
  have a6 : ((W64 (x / (70368744177664#64)) : Int) == 3) = false := by have this : (W64 (x / (70368744177664#64)) == W64 (3#64)) = false := (by rw [cG]; simpa using C); exact this
  have a7 : ((W64 (x / (70368744177664#64)) : Int) != 3) = true := by have this : (W64 (x / (70368744177664#64)) != W64 (3#64)) = true := (by rw [cM]; simpa using C); exact this
  have I := Lib.hid C
  clear C
  have a8 := q.c 0 (.int .i64 2)
  have a9 := q.c 1 (.int .u64 (W64 x))
  go_wp2_with with_reducible refine so ?_
  simp only [hM]
  clear a8 a9
  have hst := aB (bB hB) (bK q)
  refine aD _ 16 hst ⟨hB.drew, q⟩ ?_
  clear hB q
  refine aA 0 hst ?_
  refine bS 1 (.int .u64 (W64 x)) hst (fun W hS => hS.2.cell 1) ?_
  refine aA 2 hst ?_
  refine aA 3 hst ?_
  refine bS 4 (.int .i64 2) hst (fun W hS => hS.2.cell 0) ?_
  refine aF 5 rfl hst (fun W hS K hK => by clear hS; go_simp; exact cl (nC _) hK) ?_
  refine aA 6 hst ?_
  refine aA 7 hst ?_
  refine aG 8 hst ?_
  refine aG 9 hst ?_
  refine aA 10 hst ?_
  refine aA 11 hst ?_
  refine aG 12 hst ?_
  refine aG 13 hst ?_
  refine aG 14 hst ?_
  refine aA 15 hst ?_
  refine aE (fun c0 hS => ?_)
  obtain ⟨hB, q⟩ := hS
  clear hst
  go_wp2_with with_reducible refine so ?_
  go_returns
  have q0 := F.out
  have q1 := I.out
  obtain rfl : r = 1 := by rw [← HR.out]; have mk0 := HK.out; unfold iP; rw [if_neg (by decide)]; simp [show cA 2 = 3 from rfl, mk0, q0, q1] <;> simp_all
  exact ⟨rfl, hB⟩
 have a6 : ((W64 (x / (70368744177664#64)) : Int) == 3) = true := by have this : (W64 (x / (70368744177664#64)) == W64 (3#64)) = true := (by rw [cG]; simpa using C); exact this
 have a7 : ((W64 (x / (70368744177664#64)) : Int) != 3) = false := by have this : (W64 (x / (70368744177664#64)) != W64 (3#64)) = false := (by rw [cM]; simpa using C); exact this
 have I := Lib.hid C
 clear C
 by_cases D : x % (70368744177664#64) = 0#64
 ·
  have b0 : ((W64 (x % (70368744177664#64)) : Int) == 0) = true := by have this : (W64 (x % (70368744177664#64)) == W64 (0#64)) = true := (by rw [cG]; simpa using D); exact this
  have b1 : ((W64 (x % (70368744177664#64)) : Int) != 0) = false := by have this : (W64 (x % (70368744177664#64)) != W64 (0#64)) = false := (by rw [cM]; simpa using D); exact this
  have L := Lib.hid D
  clear D
  have b2 := q.c 0 (.int .i64 2)
  have b3 := q.c 1 (.int .u64 (W64 x))
  go_wp2_with with_reducible refine so ?_
  simp only [hM]
  clear b2 b3
  have hst := aB (bB hB) (bK q)
  refine aD _ 16 hst ⟨hB.drew, q⟩ ?_
  clear hB q
  refine aA 0 hst ?_
  refine bS 1 (.int .u64 (W64 x)) hst (fun W hS => hS.2.cell 1) ?_
  refine aA 2 hst ?_
  refine aA 3 hst ?_
  refine bS 4 (.int .i64 2) hst (fun W hS => hS.2.cell 0) ?_
  refine aF 5 rfl hst (fun W hS K hK => by clear hS; go_simp; exact cl (nC _) hK) ?_
  refine aA 6 hst ?_
  refine aA 7 hst ?_
  refine aA 8 hst ?_
  refine aA 9 hst ?_
  refine aA 10 hst ?_
  refine aA 11 hst ?_
  refine aG 12 hst ?_
  refine aG 13 hst ?_
  refine aG 14 hst ?_
  refine aA 15 hst ?_
  refine aE (fun c4 hS => ?_)
  obtain ⟨hB, q⟩ := hS
  clear hst
  go_wp2_with with_reducible refine so ?_
  go_returns
  have q0 := F.out
  have q1 := I.out
  have q2 := L.out
  obtain rfl : r = 1 := by rw [← HR.out]; have mk0 := HK.out; unfold iP; rw [if_neg (by decide)]; simp [show cA 2 = 3 from rfl, mk0, q0, q1, q2] <;> simp_all
  exact ⟨rfl, hB⟩
 have b0 : ((W64 (x % (70368744177664#64)) : Int) == 0) = false := by have this : (W64 (x % (70368744177664#64)) == W64 (0#64)) = false := (by rw [cG]; simpa using D); exact this
 have b1 : ((W64 (x % (70368744177664#64)) : Int) != 0) = true := by have this : (W64 (x % (70368744177664#64)) != W64 (0#64)) = true := (by rw [cM]; simpa using D); exact this
 have L := Lib.hid D
 clear D
 have b4 := q.c 0 (.int .i64 2)
 have b5 := q.c 1 (.int .u64 (W64 x))
 go_wp2_with with_reducible refine so ?_
 simp only [hM]
 clear b4 b5
 have hst := aB (bB hB) (bK q)
 refine aD _ 16 hst ⟨hB.drew, q⟩ ?_
 clear hB q
 refine aA 0 hst ?_
 refine bS 1 (.int .u64 (W64 x)) hst (fun W hS => hS.2.cell 1) ?_
 refine aA 2 hst ?_
 refine aA 3 hst ?_
 refine bS 4 (.int .i64 2) hst (fun W hS => hS.2.cell 0) ?_
 refine aF 5 rfl hst (fun W hS K hK => by clear hS; go_simp; exact cl (nC _) hK) ?_
 refine aA 6 hst ?_
 refine aA 7 hst ?_
 refine aA 8 hst ?_
 refine aA 9 hst ?_
 refine aA 10 hst ?_
 refine aA 11 hst ?_
 refine aA 12 hst ?_
 refine aA 13 hst ?_
 refine aA 14 hst ?_
 refine aA 15 hst ?_
 refine aE (fun c5 hS => ?_)
 obtain ⟨hB, q⟩ := hS
 clear hst
 by_cases O : x % (70368744177664#64) = mk
 ·
  obtain ⟨J, U, Z⟩ := gT O; clear O
  simp only [J]; clear J U
  go_wp2_with with_reducible refine so ?_
  go_returns
  have q0 := F.out
  have q1 := I.out
  have q2 := L.out
  have q3 := Z.out
  obtain rfl : r = 1 := by rw [← HR.out]; have mk0 := HK.out; unfold iP; rw [if_neg (by decide)]; simp [show cA 2 = 3 from rfl, mk0, q0, q1, q2, q3] <;> simp_all
  exact ⟨rfl, hB⟩
 obtain ⟨J, U, Z⟩ := gF O; clear O
 simp only [J]; clear J U
 go_wp2_with with_reducible refine so ?_
 go_returns
 have q0 := F.out
 have q1 := I.out
 have q2 := L.out
 have q3 := Z.out
 obtain rfl : r = 0 := by rw [← HR.out]; have mk0 := HK.out; unfold iP; rw [if_neg (by decide)]; simp [show cA 2 = 3 from rfl, mk0, q0, q1, q2, q3] <;> simp_all
 exact ⟨rfl, hB⟩
theorem yQ (x : BitVec 64) (w : World) :
  Calls Tryz.prog 18 #[.agg #[.int .i64 3, .int .u64 (W64 x)]] w (fun e w' => e = .returned (.int .i64 (iP 3 x)) ∧ Below w.heap.size w w') := by
 obtain ⟨r, hr⟩ : ∃ r, iP 3 x = r := ⟨_, rfl⟩
 rw [hr]
 have HR := Lib.hid hr
 clear hr
 obtain ⟨mk, hmk⟩ : ∃ m : BitVec 64, 4194303#64 = m := ⟨_, rfl⟩
 have hM : (Value.int .u64 4194303) = .int .u64 (W64 mk) := by rw [← hmk]; rfl
 have HK := Lib.hid hmk
 clear hmk
 go_enter Tryz.func18, Tryz.ntmps18
 have hB := Below.refl w.heap.size w
 go_wp2_with with_reducible refine so ?_
 refine bF (ty := 26) (cs := #[.int .i64 3, .int .u64 (W64 x)]) (fun g => .pointer (some ⟨g, 0, none⟩)) rfl (by kernel_rfl) ?_
 intro a2 b6 a3 a0 a1 q
 have b7 : w.heap.size ≤ a2 := Nat.le_trans hB.size a0
 replace hB := hB.trans (a1.mono hB.size)
 clear a1 a0 a3
 by_cases z : x < 281474976710656#64
 rotate_left
 ·
  have a4 : decide ((W64 x : Int) < 281474976710656) = false := decide_eq_false (fun hh => z (by have h2 : W64 x < W64 (281474976710656#64) := hh; rw [kY] at h2; exact h2))
  have a5 : decide ((281474976710656 : Int) ≤ W64 x) = true := decide_eq_true (show W64 (281474976710656#64) ≤ W64 x by rw [lJ]; exact BitVec.not_lt.1 z)
  have F := Lib.hid z
  clear z
  have b8 := q.c 0 (.int .i64 3)
  have b9 := q.c 1 (.int .u64 (W64 x))
  go_wp2_with with_reducible refine so ?_
  go_returns
  have q0 := F.out
  obtain rfl : r = 5 := by rw [← HR.out]; have mk0 := HK.out; unfold iP; rw [if_neg (by decide)]; simp [show cA 3 = 1 from rfl, mk0, q0] <;> simp_all
  exact ⟨rfl, hB⟩
 have a4 : decide ((W64 x : Int) < 281474976710656) = true := decide_eq_true (show W64 x < W64 (281474976710656#64) by rw [kY]; exact z)
 have a5 : decide ((281474976710656 : Int) ≤ W64 x) = false := decide_eq_false (fun hh => absurd (show W64 (281474976710656#64) ≤ W64 x from hh) (by rw [lJ]; exact BitVec.not_le.2 z))
 have F := Lib.hid z
 clear z
 by_cases C : x / (70368744177664#64) = 1#64
 rotate_left
 ·
  have a6 : ((W64 (x / (70368744177664#64)) : Int) == 1) = false := by have this : (W64 (x / (70368744177664#64)) == W64 (1#64)) = false := (by rw [cG]; simpa using C); exact this
  have a7 : ((W64 (x / (70368744177664#64)) : Int) != 1) = true := by have this : (W64 (x / (70368744177664#64)) != W64 (1#64)) = true := (by rw [cM]; simpa using C); exact this
  have I := Lib.hid C
  clear C
  have a8 := q.c 0 (.int .i64 3)
  have a9 := q.c 1 (.int .u64 (W64 x))
  go_wp2_with with_reducible refine so ?_
  simp only [hM]
  clear a8 a9
  have hst := aB (bB hB) (bK q)
  refine aD _ 16 hst ⟨hB.drew, q⟩ ?_
  clear hB q
  refine aA 0 hst ?_
  refine bS 1 (.int .u64 (W64 x)) hst (fun W hS => hS.2.cell 1) ?_
  refine aA 2 hst ?_
  refine aA 3 hst ?_
  refine bS 4 (.int .i64 3) hst (fun W hS => hS.2.cell 0) ?_
  refine aF 5 rfl hst (fun W hS K hK => by clear hS; go_simp; exact cl (nI _) hK) ?_
  refine aA 6 hst ?_
  refine aA 7 hst ?_
  refine aG 8 hst ?_
  refine aG 9 hst ?_
  refine aA 10 hst ?_
  refine aA 11 hst ?_
  refine aG 12 hst ?_
  refine aG 13 hst ?_
  refine aG 14 hst ?_
  refine aA 15 hst ?_
  refine aE (fun c0 hS => ?_)
  obtain ⟨hB, q⟩ := hS
  clear hst
  go_wp2_with with_reducible refine so ?_
  go_returns
  have q0 := F.out
  have q1 := I.out
  obtain rfl : r = 1 := by rw [← HR.out]; have mk0 := HK.out; unfold iP; rw [if_neg (by decide)]; simp [show cA 3 = 1 from rfl, mk0, q0, q1] <;> simp_all
  exact ⟨rfl, hB⟩
 have a6 : ((W64 (x / (70368744177664#64)) : Int) == 1) = true := by have this : (W64 (x / (70368744177664#64)) == W64 (1#64)) = true := (by rw [cG]; simpa using C); exact this
 have a7 : ((W64 (x / (70368744177664#64)) : Int) != 1) = false := by have this : (W64 (x / (70368744177664#64)) != W64 (1#64)) = false := (by rw [cM]; simpa using C); exact this
 have I := Lib.hid C
 clear C
 by_cases D : (x % (70368744177664#64)) / (16777216#64) = 0#64
 ·
  have b0 : ((W64 ((x % (70368744177664#64)) / (16777216#64)) : Int) == 0) = true := by have this : (W64 ((x % (70368744177664#64)) / (16777216#64)) == W64 (0#64)) = true := (by rw [cG]; simpa using D); exact this
  have b1 : ((W64 ((x % (70368744177664#64)) / (16777216#64)) : Int) != 0) = false := by have this : (W64 ((x % (70368744177664#64)) / (16777216#64)) != W64 (0#64)) = false := (by rw [cM]; simpa using D); exact this
  have L := Lib.hid D
  clear D
  have b2 := q.c 0 (.int .i64 3)
  have b3 := q.c 1 (.int .u64 (W64 x))
  go_wp2_with with_reducible refine so ?_
  simp only [hM]
  clear b2 b3
  have hst := aB (bB hB) (bK q)
  refine aD _ 16 hst ⟨hB.drew, q⟩ ?_
  clear hB q
  refine aA 0 hst ?_
  refine bS 1 (.int .u64 (W64 x)) hst (fun W hS => hS.2.cell 1) ?_
  refine aA 2 hst ?_
  refine aA 3 hst ?_
  refine bS 4 (.int .i64 3) hst (fun W hS => hS.2.cell 0) ?_
  refine aF 5 rfl hst (fun W hS K hK => by clear hS; go_simp; exact cl (nI _) hK) ?_
  refine aA 6 hst ?_
  refine aA 7 hst ?_
  refine aA 8 hst ?_
  refine aA 9 hst ?_
  refine aA 10 hst ?_
  refine aA 11 hst ?_
  refine aG 12 hst ?_
  refine aG 13 hst ?_
  refine aG 14 hst ?_
  refine aA 15 hst ?_
  refine aE (fun c4 hS => ?_)
  obtain ⟨hB, q⟩ := hS
  clear hst
  go_wp2_with with_reducible refine so ?_
  go_returns
  have q0 := F.out
  have q1 := I.out
  have q2 := L.out
  obtain rfl : r = 1 := by rw [← HR.out]; have mk0 := HK.out; unfold iP; rw [if_neg (by decide)]; simp [show cA 3 = 1 from rfl, mk0, q0, q1, q2] <;> simp_all
  exact ⟨rfl, hB⟩
 have b0 : ((W64 ((x % (70368744177664#64)) / (16777216#64)) : Int) == 0) = false := by have this : (W64 ((x % (70368744177664#64)) / (16777216#64)) == W64 (0#64)) = false := (by rw [cG]; simpa using D); exact this
 have b1 : ((W64 ((x % (70368744177664#64)) / (16777216#64)) : Int) != 0) = true := by have this : (W64 ((x % (70368744177664#64)) / (16777216#64)) != W64 (0#64)) = true := (by rw [cM]; simpa using D); exact this
 have L := Lib.hid D
 clear D
 have b4 := q.c 0 (.int .i64 3)
 have b5 := q.c 1 (.int .u64 (W64 x))
 go_wp2_with with_reducible refine so ?_
 simp only [hM]
 clear b4 b5
 have hst := aB (bB hB) (bK q)
 refine aD _ 16 hst ⟨hB.drew, q⟩ ?_
 clear hB q
 refine aA 0 hst ?_
 refine bS 1 (.int .u64 (W64 x)) hst (fun W hS => hS.2.cell 1) ?_
 refine aA 2 hst ?_
 refine aA 3 hst ?_
 refine bS 4 (.int .i64 3) hst (fun W hS => hS.2.cell 0) ?_
 refine aF 5 rfl hst (fun W hS K hK => by clear hS; go_simp; exact cl (nI _) hK) ?_
 refine aA 6 hst ?_
 refine aA 7 hst ?_
 refine aA 8 hst ?_
 refine aA 9 hst ?_
 refine aA 10 hst ?_
 refine aA 11 hst ?_
 refine aA 12 hst ?_
 refine aA 13 hst ?_
 refine aA 14 hst ?_
 refine aA 15 hst ?_
 refine aE (fun c5 hS => ?_)
 obtain ⟨hB, q⟩ := hS
 clear hst
 by_cases O : (x % (70368744177664#64)) / (16777216#64) = mk
 ·
  obtain ⟨J, U, Z⟩ := gT O; clear O
  simp only [J]; clear J U
  go_wp2_with with_reducible refine so ?_
  go_returns
  have q0 := F.out
  have q1 := I.out
  have q2 := L.out
  have q3 := Z.out
  obtain rfl : r = 1 := by rw [← HR.out]; have mk0 := HK.out; unfold iP; rw [if_neg (by decide)]; simp [show cA 3 = 1 from rfl, mk0, q0, q1, q2, q3] <;> simp_all
  exact ⟨rfl, hB⟩
 obtain ⟨J, U, Z⟩ := gF O; clear O
 simp only [J]; clear J U
 go_wp2_with with_reducible refine so ?_
 go_returns
 have q0 := F.out
 have q1 := I.out
 have q2 := L.out
 have q3 := Z.out
 obtain rfl : r = 0 := by rw [← HR.out]; have mk0 := HK.out; unfold iP; rw [if_neg (by decide)]; simp [show cA 3 = 1 from rfl, mk0, q0, q1, q2, q3] <;> simp_all
 exact ⟨rfl, hB⟩
theorem zX (x : BitVec 64) (w : World) :
  Calls Tryz.prog 18 #[.agg #[.int .i64 4, .int .u64 (W64 x)]] w (fun e w' => e = .returned (.int .i64 (iP 4 x)) ∧ Below w.heap.size w w') := by
 obtain ⟨r, hr⟩ : ∃ r, iP 4 x = r := ⟨_, rfl⟩
 rw [hr]
 have HR := Lib.hid hr
 clear hr
 obtain ⟨mk, hmk⟩ : ∃ m : BitVec 64, 70368744177663#64 = m := ⟨_, rfl⟩
 have hM : (Value.int .u64 70368744177663) = .int .u64 (W64 mk) := by rw [← hmk]; rfl
 have HK := Lib.hid hmk
 clear hmk
 go_enter Tryz.func18, Tryz.ntmps18
 have hB := Below.refl w.heap.size w
 go_wp2_with with_reducible refine so ?_
 refine bF (ty := 26) (cs := #[.int .i64 4, .int .u64 (W64 x)]) (fun g => .pointer (some ⟨g, 0, none⟩)) rfl (by kernel_rfl) ?_
 intro a2 b6 a3 a0 a1 q
 have b7 : w.heap.size ≤ a2 := Nat.le_trans hB.size a0
 replace hB := hB.trans (a1.mono hB.size)
 clear a1 a0 a3
 by_cases z : x < 281474976710656#64
 rotate_left
 ·
  have a4 : decide ((W64 x : Int) < 281474976710656) = false := decide_eq_false (fun hh => z (by have h2 : W64 x < W64 (281474976710656#64) := hh; rw [kY] at h2; exact h2))
  have a5 : decide ((281474976710656 : Int) ≤ W64 x) = true := decide_eq_true (show W64 (281474976710656#64) ≤ W64 x by rw [lJ]; exact BitVec.not_lt.1 z)
  have F := Lib.hid z
  clear z
  have b8 := q.c 0 (.int .i64 4)
  have b9 := q.c 1 (.int .u64 (W64 x))
  go_wp2_with with_reducible refine so ?_
  go_returns
  have q0 := F.out
  obtain rfl : r = 5 := by rw [← HR.out]; have mk0 := HK.out; unfold iP; rw [if_neg (by decide)]; simp [show cA 4 = 0 from rfl, mk0, q0] <;> simp_all
  exact ⟨rfl, hB⟩
 have a4 : decide ((W64 x : Int) < 281474976710656) = true := decide_eq_true (show W64 x < W64 (281474976710656#64) by rw [kY]; exact z)
 have a5 : decide ((281474976710656 : Int) ≤ W64 x) = false := decide_eq_false (fun hh => absurd (show W64 (281474976710656#64) ≤ W64 x from hh) (by rw [lJ]; exact BitVec.not_le.2 z))
 have F := Lib.hid z
 clear z
 by_cases C : x / (70368744177664#64) = 0#64
 rotate_left
 ·
  have a6 : ((W64 (x / (70368744177664#64)) : Int) == 0) = false := by have this : (W64 (x / (70368744177664#64)) == W64 (0#64)) = false := (by rw [cG]; simpa using C); exact this
  have a7 : ((W64 (x / (70368744177664#64)) : Int) != 0) = true := by have this : (W64 (x / (70368744177664#64)) != W64 (0#64)) = true := (by rw [cM]; simpa using C); exact this
  have I := Lib.hid C
  clear C
  have a8 := q.c 0 (.int .i64 4)
  have a9 := q.c 1 (.int .u64 (W64 x))
  go_wp2_with with_reducible refine so ?_
  simp only [hM]
  clear a8 a9
  have hst := aB (bB hB) (bK q)
  refine aD _ 16 hst ⟨hB.drew, q⟩ ?_
  clear hB q
  refine aA 0 hst ?_
  refine bS 1 (.int .u64 (W64 x)) hst (fun W hS => hS.2.cell 1) ?_
  refine aA 2 hst ?_
  refine aA 3 hst ?_
  refine bS 4 (.int .i64 4) hst (fun W hS => hS.2.cell 0) ?_
  refine aF 5 rfl hst (fun W hS K hK => by clear hS; go_simp; exact cl (nB _) hK) ?_
  refine aA 6 hst ?_
  refine aA 7 hst ?_
  refine aG 8 hst ?_
  refine aG 9 hst ?_
  refine aA 10 hst ?_
  refine aA 11 hst ?_
  refine aG 12 hst ?_
  refine aG 13 hst ?_
  refine aG 14 hst ?_
  refine aA 15 hst ?_
  refine aE (fun c0 hS => ?_)
  obtain ⟨hB, q⟩ := hS
  clear hst
  go_wp2_with with_reducible refine so ?_
  go_returns
  have q0 := F.out
  have q1 := I.out
  obtain rfl : r = 1 := by rw [← HR.out]; have mk0 := HK.out; unfold iP; rw [if_neg (by decide)]; simp [show cA 4 = 0 from rfl, mk0, q0, q1] <;> simp_all
  exact ⟨rfl, hB⟩
 have a6 : ((W64 (x / (70368744177664#64)) : Int) == 0) = true := by have this : (W64 (x / (70368744177664#64)) == W64 (0#64)) = true := (by rw [cG]; simpa using C); exact this
 have a7 : ((W64 (x / (70368744177664#64)) : Int) != 0) = false := by have this : (W64 (x / (70368744177664#64)) != W64 (0#64)) = false := (by rw [cM]; simpa using C); exact this
 have I := Lib.hid C
 clear C
 by_cases D : x % (70368744177664#64) = 0#64
 ·
  have b0 : ((W64 (x % (70368744177664#64)) : Int) == 0) = true := by have this : (W64 (x % (70368744177664#64)) == W64 (0#64)) = true := (by rw [cG]; simpa using D); exact this
  have b1 : ((W64 (x % (70368744177664#64)) : Int) != 0) = false := by have this : (W64 (x % (70368744177664#64)) != W64 (0#64)) = false := (by rw [cM]; simpa using D); exact this
  have L := Lib.hid D
  clear D
  have b2 := q.c 0 (.int .i64 4)
  have b3 := q.c 1 (.int .u64 (W64 x))
  go_wp2_with with_reducible refine so ?_
  simp only [hM]
  clear b2 b3
  have hst := aB (bB hB) (bK q)
  refine aD _ 16 hst ⟨hB.drew, q⟩ ?_
  clear hB q
  refine aA 0 hst ?_
  refine bS 1 (.int .u64 (W64 x)) hst (fun W hS => hS.2.cell 1) ?_
  refine aA 2 hst ?_
  refine aA 3 hst ?_
  refine bS 4 (.int .i64 4) hst (fun W hS => hS.2.cell 0) ?_
  refine aF 5 rfl hst (fun W hS K hK => by clear hS; go_simp; exact cl (nB _) hK) ?_
  refine aA 6 hst ?_
  refine aA 7 hst ?_
  refine aA 8 hst ?_
  refine aA 9 hst ?_
  refine aA 10 hst ?_
  refine aA 11 hst ?_
  refine aG 12 hst ?_
  refine aG 13 hst ?_
  refine aG 14 hst ?_
  refine aA 15 hst ?_
  refine aE (fun c4 hS => ?_)
  obtain ⟨hB, q⟩ := hS
  clear hst
  go_wp2_with with_reducible refine so ?_
  go_returns
  have q0 := F.out
  have q1 := I.out
  have q2 := L.out
  obtain rfl : r = 1 := by rw [← HR.out]; have mk0 := HK.out; unfold iP; rw [if_neg (by decide)]; simp [show cA 4 = 0 from rfl, mk0, q0, q1, q2] <;> simp_all
  exact ⟨rfl, hB⟩
 have b0 : ((W64 (x % (70368744177664#64)) : Int) == 0) = false := by have this : (W64 (x % (70368744177664#64)) == W64 (0#64)) = false := (by rw [cG]; simpa using D); exact this
 have b1 : ((W64 (x % (70368744177664#64)) : Int) != 0) = true := by have this : (W64 (x % (70368744177664#64)) != W64 (0#64)) = true := (by rw [cM]; simpa using D); exact this
 have L := Lib.hid D
 clear D
 have b4 := q.c 0 (.int .i64 4)
 have b5 := q.c 1 (.int .u64 (W64 x))
 go_wp2_with with_reducible refine so ?_
 simp only [hM]
 clear b4 b5
 have hst := aB (bB hB) (bK q)
 refine aD _ 16 hst ⟨hB.drew, q⟩ ?_
 clear hB q
 refine aA 0 hst ?_
 refine bS 1 (.int .u64 (W64 x)) hst (fun W hS => hS.2.cell 1) ?_
 refine aA 2 hst ?_
 refine aA 3 hst ?_
 refine bS 4 (.int .i64 4) hst (fun W hS => hS.2.cell 0) ?_
 refine aF 5 rfl hst (fun W hS K hK => by clear hS; go_simp; exact cl (nB _) hK) ?_
 refine aA 6 hst ?_
 refine aA 7 hst ?_
 refine aA 8 hst ?_
 refine aA 9 hst ?_
 refine aA 10 hst ?_
 refine aA 11 hst ?_
 refine aA 12 hst ?_
 refine aA 13 hst ?_
 refine aA 14 hst ?_
 refine aA 15 hst ?_
 refine aE (fun c5 hS => ?_)
 obtain ⟨hB, q⟩ := hS
 clear hst
 by_cases O : x % (70368744177664#64) = mk
 ·
  obtain ⟨J, U, Z⟩ := gT O; clear O
  simp only [J]; clear J U
  go_wp2_with with_reducible refine so ?_
  go_returns
  have q0 := F.out
  have q1 := I.out
  have q2 := L.out
  have q3 := Z.out
  obtain rfl : r = 1 := by rw [← HR.out]; have mk0 := HK.out; unfold iP; rw [if_neg (by decide)]; simp [show cA 4 = 0 from rfl, mk0, q0, q1, q2, q3] <;> simp_all
  exact ⟨rfl, hB⟩
 obtain ⟨J, U, Z⟩ := gF O; clear O
 simp only [J]; clear J U
 go_wp2_with with_reducible refine so ?_
 go_returns
 have q0 := F.out
 have q1 := I.out
 have q2 := L.out
 have q3 := Z.out
 obtain rfl : r = 0 := by rw [← HR.out]; have mk0 := HK.out; unfold iP; rw [if_neg (by decide)]; simp [show cA 4 = 0 from rfl, mk0, q0, q1, q2, q3] <;> simp_all
 exact ⟨rfl, hB⟩
theorem lK (a : Adr) (w : World) : Calls Tryz.prog 18 #[.agg (nR a).toArray] w fun e w' => e = .returned (.int .i64 (eW a)) ∧ Below w.heap.size w w' := by
  rw [← JE]
  obtain ⟨k, x⟩ := a
  by_cases hk : k < 1 ∨ 4 < k
  · have := uB k x w hk
    show Calls _ _ _ w fun e w' => e = .returned (.int .i64 (iP k x)) ∧ _
    rw [show iP k x = 12 from if_pos hk]
    exact this
  · rcases (by omega : k = 1 ∨ k = 2 ∨ k = 3 ∨ k = 4) with rfl | rfl | rfl | rfl
    · exact xK x w
    · exact xL x w
    · exact yQ x w
    · exact zX x w
theorem BD (i : Idn) (w : World) :
  Calls Tryz.prog 21 #[.agg (I0 i).toArray] w (fun e w' => e = .returned (.int .i64 (iA i)) ∧ Below w.heap.size w w') := by
 obtain ⟨r, hr⟩ : ∃ r, iA i = r := ⟨_, rfl⟩
 rw [hr]
 have HR := Lib.hid hr
 clear hr
 go_enter Tryz.func21, Tryz.ntmps21
 have hB := Below.refl w.heap.size w
 go_wp2_with with_reducible refine so ?_
 refine bF (ty := 29) (cs := #[.int .i64 i.adr.kind, .int .u64 (W64 i.adr.bits), .int .u64 (W64 i.irk)]) (fun g => .pointer (some ⟨g, 0, none⟩)) rfl (by kernel_rfl) ?_
 intro Z a7 a0 O U q
 have a8 : w.heap.size ≤ Z := Nat.le_trans hB.size O
 replace hB := hB.trans (U.mono hB.size)
 clear U O a0
 go_wp2_with first | with_reducible refine so ?_ | with_reducible refine ld 0 [.int .i64 i.adr.kind, .int .u64 (W64 i.adr.bits)] q U26 ?_
 refine (lK i.adr _).mono ?_; rintro e a9 ⟨rfl, J⟩
 replace q := q.to J q.lt
 replace hB := hB.trans (J.mono hB.size)
 clear J
 by_cases C : (eW i.adr : Int) = 0
 rotate_left
 ·
  obtain ⟨a1, a2, z⟩ := fF C; clear C
  go_wp2_with with_reducible refine so ?_
  go_returns
  have q0 := z.out
  obtain rfl : r = eW i.adr := by rw [← HR.out]; simp [iA, q0] <;> simp_all
  exact ⟨rfl, hB⟩
 obtain ⟨a1, a2, z⟩ := fT C; clear C
 by_cases D : (i.adr.kind : Int) = 1
 ·
  obtain ⟨a3, a4, F⟩ := fT D; clear D
  have b0 := q.c 0 (.int .i64 i.adr.kind)
  go_wp2_with with_reducible refine so ?_
  go_returns
  have q0 := z.out
  have q1 := F.out
  obtain rfl : r = 0 := by rw [← HR.out]; simp [iA, q0, q1] <;> simp_all
  exact ⟨rfl, hB⟩
 obtain ⟨a3, a4, F⟩ := fF D; clear D
 by_cases I : (i.adr.kind : Int) = 2
 ·
  obtain ⟨a5, a6, L⟩ := fT I; clear I
  have b1 := q.c 0 (.int .i64 i.adr.kind)
  go_wp2_with with_reducible refine so ?_
  go_returns
  have q0 := z.out
  have q1 := F.out
  have q2 := L.out
  obtain rfl : r = 0 := by rw [← HR.out]; simp [iA, q0, q1, q2] <;> simp_all
  exact ⟨rfl, hB⟩
 obtain ⟨a5, a6, L⟩ := fF I; clear I
 have b2 := q.c 0 (.int .i64 i.adr.kind)
 go_wp2_with with_reducible refine so ?_
 go_returns
 have q0 := z.out
 have q1 := F.out
 have q2 := L.out
 obtain rfl : r = 1 := by rw [← HR.out]; simp [iA, q0, q1, q2] <;> simp_all
 exact ⟨rfl, hB⟩
theorem qW (k : BitVec 32) (w : World) : Calls Tryz.prog 19 #[.int .u32 (W32 k)] w fun e w' => e = .returned (.bool (fB k)) ∧ Below w.heap.size w w' := by
 obtain ⟨r, hr⟩ : ∃ r, fB k = r := ⟨_, rfl⟩
 rw [hr]
 have HR := Lib.hid hr
 clear hr
 have e2 : W32 k = (k.toNat : Int) := rfl
 have HE := Lib.hid e2
 clear e2
 by_cases h1 : (2 : Int) ≤ W32 k
 rotate_left
 ·
  go_enter Tryz.func19, Tryz.ntmps19
  go_wp2
  go_ret
  refine ⟨?_, Below.refl _ _⟩
  rw [← HR.out]
  rw [HE.out] at h1
  unfold fB
  rw [decide_eq_false (show ¬ 2 ≤ k.toNat by omega)]
  rfl
 by_cases h2 : W32 k ≤ (2147483645 : Int)
 ·
  go_enter Tryz.func19, Tryz.ntmps19
  go_wp2
  go_ret
  refine ⟨?_, Below.refl _ _⟩
  rw [← HR.out]
  rw [HE.out] at h1 h2
  unfold fB
  rw [decide_eq_true (show 2 ≤ k.toNat by omega), decide_eq_true (show k.toNat ≤ 2147483645 by omega)]
  rfl
 go_enter Tryz.func19, Tryz.ntmps19
 go_wp2
 go_ret
 refine ⟨?_, Below.refl _ _⟩
 rw [← HR.out]
 rw [HE.out] at h1 h2
 unfold fB
 rw [decide_eq_true (show 2 ≤ k.toNat by omega), decide_eq_false (show ¬ k.toNat ≤ 2147483645 by omega)]
 rfl
theorem uK (e : BitVec 32) (k : Nat) (E : BitVec 32) (h : E.toNat = e.toNat / 2 ^ k) : (E / 2#32).toNat = e.toNat / 2 ^ (k + 1) := by
  rw [BitVec.toNat_udiv, h, Nat.pow_succ, Nat.div_div_eq_div_mul]
  rfl
theorem yJ (E : BitVec 32) : (W32 (E % 2#32) == 1) = decide (E.toNat % 2 = 1) := by
  rw [Bool.eq_iff_iff, beq_iff_eq, decide_eq_true_iff]
  show (((E % 2#32).toNat : Nat) : Int) = 1 ↔ _
  rw [BitVec.toNat_umod]
  show (((E.toNat % 2 : Nat)) : Int) = 1 ↔ _
  omega
set_option maxHeartbeats 1000000 in
theorem vD (b e : BitVec 32) (w : World) : Calls Tryz.prog 40 #[.int .u32 (W32 b), .int .u32 (W32 e)] w fun x w' => x = .returned (.int .u32 (W32 (BitVec.ofNat 32 (CW b.toNat e.toNat)))) ∧ Below w.heap.size w w' := by
 obtain ⟨B, hB⟩ : ∃ B, b.toNat = B := ⟨_, rfl⟩
 obtain ⟨X, hX⟩ : ∃ X, e.toNat = X := ⟨_, rfl⟩
 have h0 : b.setWidth 64 % 2147483647#64 = BitVec.ofNat 64 (qU B 0) := by
  rw [vK, ← hB]
  apply BitVec.eq_of_toNat_eq
  have := b.isLt
  have e : 2147483647 % 2 ^ 64 = 2147483647 := rfl
  have hg : gp = 2147483647 := rfl
  have hl : b.toNat % gp < gp := Nat.mod_lt _ (by decide)
  rw [BitVec.toNat_umod, BitVec.toNat_setWidth, BitVec.toNat_ofNat, BitVec.toNat_ofNat, e, Nat.mod_eq_of_lt (show b.toNat < 2 ^ 64 by omega), Nat.mod_eq_of_lt (show b.toNat % gp < 2 ^ 64 by omega), hg]
 have hE := e.isLt
 rw [hX] at hE
 rw [hB, hX]
 have HB := Lib.hid hB
 have HX := Lib.hid hX
 have H0 := Lib.hid h0
 have HE := Lib.hid hE
 clear hB hX h0 hE
 go_enter Tryz.func40, Tryz.ntmps40
 go_wp2
 go_loop [5, 6, 7] (fun o s i => ∃ (k : Nat) (E : BitVec 32), Hid (E.toNat = X / 2 ^ k) ∧ i = .int .u32 (W32 E) ∧ o = .int .u64 (W64 (BitVec.ofNat 64 (qL B X k))) ∧ s = .int .u64 (W64 (BitVec.ofNat 64 (qU B k)))) (fun _ _ i => (intOf i).toNat)
 case atStart => exact ⟨0, e, Lib.hid (by rw [HX.out, Nat.pow_zero, Nat.div_one]), rfl, by rw [uR]; rfl, by rw [← H0.out]⟩
 case round =>
  obtain ⟨k, E, hk, rfl, rfl, rfl⟩ := hrel
  by_cases hlt : 0 < W32 E
  rotate_left
  ·
   have HZ := Lib.hid hlt
   go_wp2
   go_ret
   refine ⟨?_, Below.refl _ _⟩
   have hz : E.toNat = 0 := by have := HZ.out; unfold W32 at this; omega
   have := DA B X
   have hg : gp = 2147483647 := rfl
   have hx : X < 2 ^ k := by
    have := hk.out
    rw [hz] at this
    exact (Nat.div_eq_zero_iff_lt (Nat.two_pow_pos k)).mp this.symm
   rw [yP _ _ _ hx]
   rfl
  have hlt' := Lib.hid hlt
  by_cases hbit : E.toNat % 2 = 1
  ·
   have hd : (W32 (E % 2#32) == 1) = true := by rw [yJ]; simpa using hbit
   have HS := Lib.hid hbit
   clear hbit
   go_wp2
   go_round
   case rel => exact ⟨k + 1, E / 2#32, Lib.hid (by rw [← HX.out]; exact uK e k E (by rw [HX.out]; exact hk.out)), rfl, by rw [yR _ _ _ (by rw [← hk.out]; exact HS.out), ← wY _ _ (wH _ _ _) (mQ _ _)], by rw [oI, ← wY _ _ (mQ _ _) (mQ _ _)]⟩
   case measure =>
    have h1 : 0 < E.toNat := by have := hlt'.out; unfold W32 at this; omega
    have h2 : (E / 2#32).toNat = E.toNat / 2 := by rw [BitVec.toNat_udiv]; rfl
    simp [intOf, W32]; omega
  have hd : (W32 (E % 2#32) == 1) = false := by rw [yJ]; simpa using hbit
  have HS := Lib.hid hbit
  clear hbit
  go_wp2
  go_round
  case rel => exact ⟨k + 1, E / 2#32, Lib.hid (by rw [← HX.out]; exact uK e k E (by rw [HX.out]; exact hk.out)), rfl, by rw [uV _ _ _ (by rw [← hk.out]; exact HS.out)], by rw [oI, ← wY _ _ (mQ _ _) (mQ _ _)]⟩
  case measure =>
   have h1 : 0 < E.toNat := by have := hlt'.out; unfold W32 at this; omega
   have h2 : (E / 2#32).toNat = E.toNat / 2 := by rw [BitVec.toNat_udiv]; rfl
   simp [intOf, W32]; omega
theorem pC (s : BitVec 32) (w : World) : Calls Tryz.prog 20 #[.int .u32 (W32 s)] w fun e w' => e = .returned (.int .u32 (W32 (cJ s))) ∧ Below w.heap.size w w' := by
 have H := Lib.hid (fun W => vD 7#32 s W)
 go_enter Tryz.func20, Tryz.ntmps20
 go_wp2_with fail
 refine (H.out _).mono ?_; rintro e w' ⟨rfl, hb⟩
 go_wp2
 go_ret
 exact ⟨rfl, hb⟩
end Go.Proofs.YtihmbcnccdiecaaGreatDoor
