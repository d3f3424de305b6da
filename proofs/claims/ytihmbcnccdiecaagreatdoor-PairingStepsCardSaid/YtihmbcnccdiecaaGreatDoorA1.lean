/- Part of the proofs of the laws of pairing. -/
import Derived.Below
import Derived.BigQuiet
import Derived.BigRegion
import Derived.Carry
import Derived.Deep.AppendLies
import Derived.Deep.AppendSrc
import Derived.Deep.Cut
import Derived.Deep.MidRow
import Derived.Deep.OwnShut
import Derived.Deep.QuietTactic
import Derived.Deep.RegionLaw
import Derived.Handy
import Derived.KernelRfl
import Derived.Laws.IdiomCopy
import Derived.Laws.IdiomStrings
import Derived.Laws.OwnMore
import Derived.Laws.Rows
import Derived.Laws.Tables
import Derived.Laws.World
import Derived.Lib.Hide
import Derived.LoopIn
import Derived.LoopNIn
import Derived.MapKept
import Derived.Maps.AppendAt
import Derived.OpenShut
import Derived.OrdersHeld
import Derived.OwnWalk
import Derived.OwnWalkIn
import Derived.ProofKit
import Derived.RangeFuncBound
import Derived.RangeFuncCalls
import Derived.RangeFuncFrom
import Derived.RangeFuncLeaves
import Derived.RangeFuncNested
import Derived.RegionTactic
import Derived.Shelf.Abstract
import Derived.Shelf.RegionOpen
import Derived.StillTail
import Derived.StillTailTactics
import Derived.Tactics
import Derived.TacticsInMore
import Derived.Test.YtihmbcnccdiecaaGreatDoorRows
import Derived.WalkKit
import Derived.WalkLawsBesides
import Derived.WalkSmall
namespace Go.Proofs.YtihmbcnccdiecaaGreatDoor
set_option maxRecDepth 100000
set_option linter.unusedVariables false
set_option linter.unusedSimpArgs false
section
open Go.RowKit
def W64 (x : BitVec 64) : Int := (x.toNat : Int)
def W32 (x : BitVec 32) : Int := (x.toNat : Int)
def W16 (x : BitVec 16) : Int := (x.toNat : Int)
def W8 (x : BitVec 8) : Int := (x.toNat : Int)
theorem DJ {x y : BitVec 64} (h : W64 x = W64 y) : x = y := by unfold W64 at h; apply BitVec.eq_of_toNat_eq; omega
theorem CR (x y : BitVec 64) : (W64 x = W64 y) = (x = y) := by apply propext; exact ⟨DJ, fun h => by rw [h]⟩
theorem cG (x y : BitVec 64) : (W64 x == W64 y) = (x == y) := by rw [Bool.eq_iff_iff, beq_iff_eq, beq_iff_eq]; exact ⟨DJ, fun h => by rw [h]⟩
theorem cM (x y : BitVec 64) : (W64 x != W64 y) = (x != y) := by unfold bne; rw [cG]
theorem kY (x y : BitVec 64) : (W64 x < W64 y) = (x < y) := by unfold W64; apply propext; rw [BitVec.lt_def]; omega
theorem lJ (x y : BitVec 64) : (W64 x ≤ W64 y) = (x ≤ y) := by unfold W64; apply propext; rw [BitVec.le_def]; omega
theorem EI (n : Int) (h : 0 ≤ n ∧ n ≤ 18446744073709551615) : W64 (BitVec.ofInt 64 n) = n := by unfold W64; rw [BitVec.toNat_ofInt]; omega
theorem DC {x y : BitVec 32} (h : W32 x = W32 y) : x = y := by unfold W32 at h; apply BitVec.eq_of_toNat_eq; omega
theorem CV (x y : BitVec 32) : (W32 x = W32 y) = (x = y) := by apply propext; exact ⟨DC, fun h => by rw [h]⟩
theorem mO (x y : BitVec 32) : (W32 x == W32 y) = (x == y) := by rw [Bool.eq_iff_iff, beq_iff_eq, beq_iff_eq]; exact ⟨DC, fun h => by rw [h]⟩
theorem sD (x y : BitVec 32) : (W32 x != W32 y) = (x != y) := by unfold bne; rw [mO]
theorem iD (x y : BitVec 32) : (W32 x < W32 y) = (x < y) := by unfold W32; apply propext; rw [BitVec.lt_def]; omega
theorem iG (x y : BitVec 32) : (W32 x ≤ W32 y) = (x ≤ y) := by unfold W32; apply propext; rw [BitVec.le_def]; omega
theorem ED (n : Int) (h : 0 ≤ n ∧ n ≤ 4294967295) : W32 (BitVec.ofInt 32 n) = n := by unfold W32; rw [BitVec.toNat_ofInt]; omega
@[go_sem] theorem pR (n : Int) : IntKind.u64.wrap n = W64 (BitVec.ofInt 64 n) := by rw [IntKind.wrap_u64]; unfold W64; rw [BitVec.toNat_ofInt]; omega
@[go_sem] theorem qC (n : Int) : IntKind.u32.wrap n = W32 (BitVec.ofInt 32 n) := by rw [IntKind.wrap_u32]; unfold W32; rw [BitVec.toNat_ofInt]; omega
@[go_sem] theorem LR (n : Int) : IntKind.u16.wrap n = W16 (BitVec.ofInt 16 n) := by unfold W16; rw [BitVec.toNat_ofInt]; simp [IntKind.wrap, IntKind.bits, IntKind.signed]; omega
@[go_sem] theorem L1 (n : Int) : IntKind.u8.wrap n = W8 (BitVec.ofInt 8 n) := by rw [IntKind.wrap_u8]; unfold W8; rw [BitVec.toNat_ofInt]; omega
@[go_sem] theorem kT (x : BitVec 64) : BitVec.ofInt 64 (W64 x) = x := by unfold W64; simp
@[go_sem] theorem J8 (x : BitVec 32) : BitVec.ofInt 64 (W32 x) = x.setWidth 64 := by unfold W32; apply BitVec.eq_of_toNat_eq; simp [BitVec.toNat_setWidth]
@[go_sem] theorem J7 (x : BitVec 16) : BitVec.ofInt 64 (W16 x) = x.setWidth 64 := by unfold W16; apply BitVec.eq_of_toNat_eq; simp [BitVec.toNat_setWidth]
@[go_sem] theorem K7 (x : BitVec 8) : BitVec.ofInt 64 (W8 x) = x.setWidth 64 := by unfold W8; apply BitVec.eq_of_toNat_eq; simp [BitVec.toNat_setWidth]
@[go_sem] theorem KH (x : BitVec 64) : BitVec.ofInt 32 (W64 x) = x.setWidth 32 := by unfold W64; apply BitVec.eq_of_toNat_eq; simp [BitVec.toNat_setWidth]
@[go_sem] theorem kX (x : BitVec 32) : BitVec.ofInt 32 (W32 x) = x := by unfold W32; simp
@[go_sem] theorem KE (x : BitVec 16) : BitVec.ofInt 32 (W16 x) = x.setWidth 32 := by unfold W16; apply BitVec.eq_of_toNat_eq; simp [BitVec.toNat_setWidth]
@[go_sem] theorem LA (x : BitVec 8) : BitVec.ofInt 32 (W8 x) = x.setWidth 32 := by unfold W8; apply BitVec.eq_of_toNat_eq; simp [BitVec.toNat_setWidth]
@[go_sem] theorem KD (x : BitVec 64) : BitVec.ofInt 16 (W64 x) = x.setWidth 16 := by unfold W64; apply BitVec.eq_of_toNat_eq; simp [BitVec.toNat_setWidth]
@[go_sem] theorem KG (x : BitVec 32) : BitVec.ofInt 16 (W32 x) = x.setWidth 16 := by unfold W32; apply BitVec.eq_of_toNat_eq; simp [BitVec.toNat_setWidth]
@[go_sem] theorem KI (x : BitVec 16) : BitVec.ofInt 16 (W16 x) = x := by unfold W16; simp
@[go_sem] theorem LB (x : BitVec 8) : BitVec.ofInt 16 (W8 x) = x.setWidth 16 := by unfold W8; apply BitVec.eq_of_toNat_eq; simp [BitVec.toNat_setWidth]
@[go_sem] theorem KV (x : BitVec 64) : BitVec.ofInt 8 (W64 x) = x.setWidth 8 := by unfold W64; apply BitVec.eq_of_toNat_eq; simp [BitVec.toNat_setWidth]
@[go_sem] theorem K9 (x : BitVec 32) : BitVec.ofInt 8 (W32 x) = x.setWidth 8 := by unfold W32; apply BitVec.eq_of_toNat_eq; simp [BitVec.toNat_setWidth]
@[go_sem] theorem KU (x : BitVec 16) : BitVec.ofInt 8 (W16 x) = x.setWidth 8 := by unfold W16; apply BitVec.eq_of_toNat_eq; simp [BitVec.toNat_setWidth]
@[go_sem] theorem LF (x : BitVec 8) : BitVec.ofInt 8 (W8 x) = x := by unfold W8; simp
theorem BT {n : Nat} (x y : Int) : BitVec.ofInt n (x - y) = BitVec.ofInt n x - BitVec.ofInt n y := by
  rw [Int.sub_eq_add_neg, BitVec.ofInt_add, BitVec.ofInt_neg, BitVec.sub_eq_add_neg]
theorem pB {n : Nat} (k : Nat) : BitVec.ofInt n (2 ^ k) = BitVec.twoPow n k := by
  apply BitVec.eq_of_toNat_eq
  rw [BitVec.toNat_twoPow, show ((2 : Int) ^ k) = ((2 ^ k : Nat) : Int) from by simp, BitVec.ofInt_natCast, BitVec.toNat_ofNat]
theorem kZ {n : Nat} (x : Int) (k : Nat) : BitVec.ofInt n (x * 2 ^ k) = BitVec.ofInt n x <<< k := by
  rw [BitVec.ofInt_mul, pB, BitVec.shiftLeft_eq_mul_twoPow]
attribute [go_sem] BitVec.ofInt_add BitVec.ofInt_mul BT pB
attribute [go_sem high] kZ
@[go_sem] theorem J0 (x y : Int) : bits .and .u64 x y = W64 (BitVec.ofInt 64 x &&& BitVec.ofInt 64 y) := by unfold bits; simp only [pR]; exact congrArg W64 (kT (BitVec.ofInt 64 x &&& BitVec.ofInt 64 y))
@[go_sem] theorem KB (x y : Int) : bits .or .u64 x y = W64 (BitVec.ofInt 64 x ||| BitVec.ofInt 64 y) := by unfold bits; simp only [pR]; exact congrArg W64 (kT (BitVec.ofInt 64 x ||| BitVec.ofInt 64 y))
@[go_sem] theorem J4 (x y : Int) : bits .xor .u64 x y = W64 (BitVec.ofInt 64 x ^^^ BitVec.ofInt 64 y) := by unfold bits; simp only [pR]; exact congrArg W64 (kT (BitVec.ofInt 64 x ^^^ BitVec.ofInt 64 y))
@[go_sem] theorem JK (x y : Int) : bits .and .u32 x y = W32 (BitVec.ofInt 32 x &&& BitVec.ofInt 32 y) := by unfold bits; simp only [qC]; exact congrArg W32 (kX (BitVec.ofInt 32 x &&& BitVec.ofInt 32 y))
@[go_sem] theorem KJ (x y : Int) : bits .or .u32 x y = W32 (BitVec.ofInt 32 x ||| BitVec.ofInt 32 y) := by unfold bits; simp only [qC]; exact congrArg W32 (kX (BitVec.ofInt 32 x ||| BitVec.ofInt 32 y))
@[go_sem] theorem JJ (x y : Int) : bits .xor .u32 x y = W32 (BitVec.ofInt 32 x ^^^ BitVec.ofInt 32 y) := by unfold bits; simp only [qC]; exact congrArg W32 (kX (BitVec.ofInt 32 x ^^^ BitVec.ofInt 32 y))
@[go_sem] theorem JR (x : BitVec 64) (k : Nat) : W64 x / 2 ^ k = W64 (x >>> k) := by unfold W64; rw [BitVec.toNat_ushiftRight, Nat.shiftRight_eq_div_pow]; simp
@[go_sem] theorem H3 (x y : BitVec 64) : (W64 x).tmod (W64 y) = W64 (x % y) := by unfold W64; rw [BitVec.toNat_umod]; rfl
@[go_sem] theorem H5 (x y : BitVec 64) : (W64 x).tdiv (W64 y) = W64 (x / y) := by unfold W64; rw [BitVec.toNat_udiv]; rfl
@[go_sem] theorem IP (x : BitVec 32) (k : Nat) : W32 x / 2 ^ k = W32 (x >>> k) := by unfold W32; rw [BitVec.toNat_ushiftRight, Nat.shiftRight_eq_div_pow]; simp
@[go_sem] theorem GC (x y : BitVec 32) : (W32 x).tmod (W32 y) = W32 (x % y) := by unfold W32; rw [BitVec.toNat_umod]; rfl
@[go_sem] theorem II (x y : BitVec 32) : (W32 x).tdiv (W32 y) = W32 (x / y) := by unfold W32; rw [BitVec.toNat_udiv]; rfl
theorem DR {a : Int} (h : (Lit.int .u64 a).wf = true) : ∃ x : BitVec 64, a = W64 x := ⟨BitVec.ofInt 64 a, by simp [Lit.wf, IntKind.min, IntKind.max, IntKind.signed, IntKind.bits] at h; exact (EI a (by omega)).symm⟩
theorem DS {a : Int} (h : (Lit.int .u32 a).wf = true) : ∃ x : BitVec 32, a = W32 x := ⟨BitVec.ofInt 32 a, by simp [Lit.wf, IntKind.min, IntKind.max, IntKind.signed, IntKind.bits] at h; exact (ED a (by omega)).symm⟩
@[go_sem] theorem JB (x : BitVec 64) (n : Nat) (h : n ≤ 18446744073709551615) : (W64 x).tmod (no_index (@OfNat.ofNat Int n instOfNat)) = W64 (x % BitVec.ofNat 64 n) := by
  rw [← H3]
  congr 1
  unfold W64
  rw [BitVec.toNat_ofNat, Nat.mod_eq_of_lt (by omega)]
  rfl
@[go_sem] theorem JP (x : BitVec 64) (n : Nat) (h : n ≤ 18446744073709551615) : (W64 x).tdiv (no_index (@OfNat.ofNat Int n instOfNat)) = W64 (x / BitVec.ofNat 64 n) := by
  rw [← H5]
  congr 1
  unfold W64
  rw [BitVec.toNat_ofNat, Nat.mod_eq_of_lt (by omega)]
  rfl
@[go_sem] theorem J5 (x : BitVec 32) (n : Nat) (h : n ≤ 4294967295) : (W32 x).tmod (no_index (@OfNat.ofNat Int n instOfNat)) = W32 (x % BitVec.ofNat 32 n) := by
  rw [← GC]
  congr 1
  unfold W32
  rw [BitVec.toNat_ofNat, Nat.mod_eq_of_lt (by omega)]
  rfl
@[go_sem] theorem JS (x : BitVec 32) (n : Nat) (h : n ≤ 4294967295) : (W32 x).tdiv (no_index (@OfNat.ofNat Int n instOfNat)) = W32 (x / BitVec.ofNat 32 n) := by
  rw [← II]
  congr 1
  unfold W32
  rw [BitVec.toNat_ofNat, Nat.mod_eq_of_lt (by omega)]
  rfl
def yN {n m : Nat} (x : BitVec n) (y : BitVec m) : BitVec n := x <<< y.toNat
def yE {n m : Nat} (x : BitVec n) (y : BitVec m) : BitVec n := x >>> y.toNat
theorem jY (x : BitVec 64) (yk : IntKind) (y : Nat) : Op.shift .shl .u64 (W64 x) yk (y : Int) = pure (.int .u64 (W64 (x <<< y))) := by
  unfold Op.shift
  rw [if_neg (by omega)]
  simp only [Int.toNat_natCast, IntKind.bits]
  rw [pR, kZ, kT]
  by_cases h : y ≤ 64
  · rw [Nat.min_eq_left h]
  · rw [Nat.min_eq_right (by omega), BitVec.shiftLeft_eq_zero (by omega), BitVec.shiftLeft_eq_zero (by omega)]
theorem jV (x : BitVec 64) (yk : IntKind) (y : Nat) : Op.shift .shr .u64 (W64 x) yk (y : Int) = pure (.int .u64 (W64 (x >>> y))) := by
  unfold Op.shift
  rw [if_neg (by omega)]
  simp only [Int.toNat_natCast, IntKind.bits]
  rw [Int.fdiv_eq_ediv_of_nonneg _ (Int.pow_nonneg (by decide)), JR]
  by_cases h : y ≤ 64
  · rw [Nat.min_eq_left h]
  · rw [Nat.min_eq_right (by omega), BitVec.ushiftRight_eq_zero (by omega), BitVec.ushiftRight_eq_zero (by omega)]
@[go_sem high] theorem FN (x : BitVec 64) (yk : IntKind) (y : Int) (h : 0 ≤ y) : Op.shift .shl .u64 (W64 x) yk y = pure (.int .u64 (W64 (x <<< y.toNat))) := by
  obtain ⟨k, rfl⟩ := Int.eq_ofNat_of_zero_le h
  exact jY x yk k
@[go_sem high] theorem FO (x : BitVec 64) (yk : IntKind) (y : Int) (h : 0 ≤ y) : Op.shift .shr .u64 (W64 x) yk y = pure (.int .u64 (W64 (x >>> y.toNat))) := by
  obtain ⟨k, rfl⟩ := Int.eq_ofNat_of_zero_le h
  exact jV x yk k
@[go_sem high] theorem EM (x : BitVec 64) (yk : IntKind) (y : BitVec 64) : Op.shift .shl .u64 (W64 x) yk (W64 y) = pure (.int .u64 (W64 (yN x y))) := jY x yk y.toNat
@[go_sem high] theorem E7 (x : BitVec 64) (yk : IntKind) (y : BitVec 64) : Op.shift .shr .u64 (W64 x) yk (W64 y) = pure (.int .u64 (W64 (yE x y))) := jV x yk y.toNat
@[go_sem high] theorem DX (x : BitVec 64) (yk : IntKind) (y : BitVec 32) : Op.shift .shl .u64 (W64 x) yk (W32 y) = pure (.int .u64 (W64 (yN x y))) := jY x yk y.toNat
@[go_sem high] theorem FA (x : BitVec 64) (yk : IntKind) (y : BitVec 32) : Op.shift .shr .u64 (W64 x) yk (W32 y) = pure (.int .u64 (W64 (yE x y))) := jV x yk y.toNat
theorem jU (x : BitVec 32) (yk : IntKind) (y : Nat) : Op.shift .shl .u32 (W32 x) yk (y : Int) = pure (.int .u32 (W32 (x <<< y))) := by
  unfold Op.shift
  rw [if_neg (by omega)]
  simp only [Int.toNat_natCast, IntKind.bits]
  rw [qC, kZ, kX]
  by_cases h : y ≤ 32
  · rw [Nat.min_eq_left h]
  · rw [Nat.min_eq_right (by omega), BitVec.shiftLeft_eq_zero (by omega), BitVec.shiftLeft_eq_zero (by omega)]
theorem jW (x : BitVec 32) (yk : IntKind) (y : Nat) : Op.shift .shr .u32 (W32 x) yk (y : Int) = pure (.int .u32 (W32 (x >>> y))) := by
  unfold Op.shift
  rw [if_neg (by omega)]
  simp only [Int.toNat_natCast, IntKind.bits]
  rw [Int.fdiv_eq_ediv_of_nonneg _ (Int.pow_nonneg (by decide)), IP]
  by_cases h : y ≤ 32
  · rw [Nat.min_eq_left h]
  · rw [Nat.min_eq_right (by omega), BitVec.ushiftRight_eq_zero (by omega), BitVec.ushiftRight_eq_zero (by omega)]
@[go_sem high] theorem FL (x : BitVec 32) (yk : IntKind) (y : Int) (h : 0 ≤ y) : Op.shift .shl .u32 (W32 x) yk y = pure (.int .u32 (W32 (x <<< y.toNat))) := by
  obtain ⟨k, rfl⟩ := Int.eq_ofNat_of_zero_le h
  exact jU x yk k
@[go_sem high] theorem FM (x : BitVec 32) (yk : IntKind) (y : Int) (h : 0 ≤ y) : Op.shift .shr .u32 (W32 x) yk y = pure (.int .u32 (W32 (x >>> y.toNat))) := by
  obtain ⟨k, rfl⟩ := Int.eq_ofNat_of_zero_le h
  exact jW x yk k
@[go_sem high] theorem D0 (x : BitVec 32) (yk : IntKind) (y : BitVec 64) : Op.shift .shl .u32 (W32 x) yk (W64 y) = pure (.int .u32 (W32 (yN x y))) := jU x yk y.toNat
@[go_sem high] theorem E5 (x : BitVec 32) (yk : IntKind) (y : BitVec 64) : Op.shift .shr .u32 (W32 x) yk (W64 y) = pure (.int .u32 (W32 (yE x y))) := jW x yk y.toNat
@[go_sem high] theorem E2 (x : BitVec 32) (yk : IntKind) (y : BitVec 32) : Op.shift .shl .u32 (W32 x) yk (W32 y) = pure (.int .u32 (W32 (yN x y))) := jU x yk y.toNat
@[go_sem high] theorem E3 (x : BitVec 32) (yk : IntKind) (y : BitVec 32) : Op.shift .shr .u32 (W32 x) yk (W32 y) = pure (.int .u32 (W32 (yE x y))) := jW x yk y.toNat
@[go_sem high] theorem J6 {P : Program} (w : World) (ts : Array TypeId) (t : TypeId) (k' : IntKind) (x y : Int) : (Builtin.min_ ts t #[.int .i64 x, .int k' y]).run P w = .ok (.int .i64 (min x y)) w := by
  rw [run_min_int2]; congr 2; split <;> omega
end
section
def low (n : BitVec 64) (b : Int) : BitVec 64 := if b ≤ 0 then 0#64 else if 64 ≤ b then n else n &&& (BitVec.twoPow 64 b.toNat - 1#64)
theorem nA (k : Nat) (h : k < 64) : (BitVec.twoPow 64 k - 1#64).toNat = 2 ^ k - 1 := by
  have hp : 2 ^ k < 2 ^ 64 := Nat.pow_lt_pow_right (by omega) h
  have h1 : 1 ≤ 2 ^ k := Nat.one_le_two_pow
  rw [BitVec.toNat_sub, BitVec.toNat_twoPow, Nat.mod_eq_of_lt hp]
  simp
  omega
theorem mL (k : Nat) (h : k < 64) : (BitVec.twoPow 64 k).toNat = 2 ^ k := by
  rw [BitVec.toNat_twoPow, Nat.mod_eq_of_lt (Nat.pow_lt_pow_right (by omega) h)]
theorem I4 (n : BitVec 64) (k : Nat) (h : k < 64) : n &&& (BitVec.twoPow 64 k - 1#64) = n % BitVec.twoPow 64 k := by
  apply BitVec.eq_of_toNat_eq
  rw [BitVec.toNat_and, nA k h, BitVec.toNat_umod, mL k h, Nat.and_two_pow_sub_one_eq_mod]
theorem AZ (n : BitVec 64) (b : Int) (h0 : 0 ≤ b) (h1 : b < 64) : n % BitVec.twoPow 64 b.toNat = low n b := by
  unfold low
  rw [if_neg (show ¬ 64 ≤ b by omega)]
  by_cases h : b ≤ 0
  · obtain rfl : b = 0 := by omega
    rw [if_pos (by omega)]
    apply BitVec.eq_of_toNat_eq
    rw [BitVec.toNat_umod, show (0 : Int).toNat = 0 from rfl, mL 0 (by omega)]
    simp [Nat.mod_one]
  · rw [if_neg h, I4 n _ (by omega)]
theorem KC (n : BitVec 64) : (low n 32).setWidth 32 = n.setWidth 32 := by
  rw [← AZ n 32 (by omega) (by omega)]
  apply BitVec.eq_of_toNat_eq
  rw [BitVec.toNat_setWidth, BitVec.toNat_setWidth, BitVec.toNat_umod, show ((32 : Int).toNat) = 32 from rfl, mL 32 (by omega)]
  omega
def dist (a b : BitVec 64) : BitVec 64 := if W64 a < W64 b then b - a else a - b
def same (last low p : BitVec 64) : BitVec 64 := last &&& ~~~(p - 1#64) ||| low &&& (p - 1#64)
def pK (x : BitVec 64) (s : Nat) : BitVec 64 := x <<< s ||| x >>> (64 - s)
def qP (x : BitVec 32) (s : Nat) : BitVec 32 := x <<< s ||| x >>> (32 - s)
def HP (k : BitVec 64) (i : Int) : BitVec 32 := (pK k ((11 * i) % 64).toNat).setWidth 32
def rnd (k : BitVec 64) (i : Int) (h : BitVec 32) : BitVec 32 := qP (h + HP k i) 7 * 2654435761#32 ^^^ qP (HP k i) 16
def hiW (x : BitVec 64) : BitVec 32 := (x >>> 32).setWidth 32
def loW (x : BitVec 64) : BitVec 32 := x.setWidth 32
def kB (l r : BitVec 32) : BitVec 64 := l.setWidth 64 <<< 32 ||| r.setWidth 64
def fwd (k : BitVec 64) (l r : BitVec 32) : Nat → BitVec 32 × BitVec 32
  | 0 => (l, r)
  | n + 1 => ((fwd k l r n).2, (fwd k l r n).1 ^^^ rnd k n (fwd k l r n).2)
def mix (k x : BitVec 64) : BitVec 64 := kB (fwd k (hiW x) (loW x) 8).1 (fwd k (hiW x) (loW x) 8).2
theorem LP (k : Int) : (BitVec.ofInt 64 k &&& 63#64).toNat = (k % 64).toNat := by
  rw [BitVec.toNat_and, BitVec.toNat_ofInt]
  have h := Nat.and_two_pow_sub_one_eq_mod (k % ((2 ^ 64 : Nat) : Int)).toNat 6
  have e : (63#64).toNat = 2 ^ 6 - 1 := rfl
  rw [e, h]
  omega
theorem LT (k : Int) : (BitVec.ofInt 64 k &&& 31#64).toNat = (k % 32).toNat := by
  rw [BitVec.toNat_and, BitVec.toNat_ofInt]
  have h := Nat.and_two_pow_sub_one_eq_mod (k % ((2 ^ 64 : Nat) : Int)).toNat 5
  have e : (31#64).toNat = 2 ^ 5 - 1 := rfl
  rw [e, h]
  omega
theorem GF (x : BitVec 64) (k : Int) : yN x (BitVec.ofInt 64 k &&& 63#64) ||| yE x (64#64 - (BitVec.ofInt 64 k &&& 63#64)) = pK x (k % 64).toNat := by
  have h := LP k
  have h2 : (64#64 - (BitVec.ofInt 64 k &&& 63#64)).toNat = 64 - (k % 64).toNat := by
    rw [BitVec.toNat_sub, h]
    have : (64#64).toNat = 64 := rfl
    omega
  unfold pK yN yE
  rw [h, h2]
theorem F8 (x : BitVec 32) (k : Int) : yN x (BitVec.ofInt 64 k &&& 31#64) ||| yE x (32#64 - (BitVec.ofInt 64 k &&& 31#64)) = qP x (k % 32).toNat := by
  have h := LT k
  have h2 : (32#64 - (BitVec.ofInt 64 k &&& 31#64)).toNat = 32 - (k % 32).toNat := by
    rw [BitVec.toNat_sub, h]
    have : (32#64).toNat = 32 := rfl
    omega
  unfold qP yN yE
  rw [h, h2]
theorem G7 (i : Int) : -63 ≤ i.tmod 64 ∧ i.tmod 64 ≤ 63 := by
  rw [Int.tmod_def]
  have h := Int.tdiv_eq_ediv (a := i) (b := 64)
  have h2 : Int.sign 64 = 1 := rfl
  rw [h2] at h
  split at h <;> omega
theorem JO (i : Int) : (11 * i.tmod 64).tmod 64 % 64 = (11 * i) % 64 := by
  have h1 : i.tmod 64 % 64 = i % 64 := by rw [Int.tmod_def]; omega
  have h2 : (11 * i.tmod 64).tmod 64 % 64 = (11 * i.tmod 64) % 64 := by rw [Int.tmod_def (11 * i.tmod 64)]; omega
  rw [h2]
  omega
theorem KP (x : BitVec 64) : BitVec.setWidth 32 (x / 4294967296#64) = hiW x := by
  unfold hiW
  apply BitVec.eq_of_toNat_eq
  rw [BitVec.toNat_setWidth, BitVec.toNat_setWidth, BitVec.toNat_udiv, BitVec.toNat_ushiftRight, Nat.shiftRight_eq_div_pow]
  rfl
theorem AS (x : BitVec 64) : BitVec.setWidth 32 (x % 4294967296#64) = loW x := by
  unfold loW
  apply BitVec.eq_of_toNat_eq
  rw [BitVec.toNat_setWidth, BitVec.toNat_setWidth, BitVec.toNat_umod]
  have : (4294967296#64).toNat = 4294967296 := rfl
  rw [this]
  omega
theorem zO (l r : BitVec 32) : BitVec.setWidth 64 l * 4294967296#64 + BitVec.setWidth 64 r = kB l r := by
  unfold kB
  have e : BitVec.setWidth 64 l * 4294967296#64 = BitVec.setWidth 64 l <<< 32 := by
    rw [BitVec.shiftLeft_eq_mul_twoPow]; rfl
  rw [e, BitVec.add_eq_or_of_and_eq_zero]
  apply BitVec.eq_of_getLsbD_eq
  intro i hi
  rw [BitVec.getLsbD_and, BitVec.getLsbD_shiftLeft, BitVec.getLsbD_setWidth, BitVec.getLsbD_setWidth]
  by_cases h : i < 32
  · simp [h]
  · have := BitVec.getLsbD_of_ge r i (by omega)
    simp [this]
theorem FY (i : Int) : ((i.tmod 64 + 64) * 11) % 64 = (11 * i) % 64 := by
  have h1 : i.tmod 64 % 64 = i % 64 := by rw [Int.tmod_def]; omega
  omega
theorem yZ (x : BitVec 64) : pK x 0 = x := by
  unfold pK
  apply BitVec.eq_of_getLsbD_eq
  intro i hi
  simp
def kA : List (BitVec 8) → BitVec 64
  | [] => 0#64
  | c :: cs => kA cs <<< 8 ||| c.setWidth 64
def nS (n : Nat) (x : BitVec 64) : List (BitVec 8) := (List.range n).map fun i => (x >>> (8 * i)).setWidth 8
theorem jQ (n : Nat) (x : BitVec 64) : (nS n x).length = n := by simp [nS]
theorem vB (n : Nat) (x : BitVec 64) : nS (n + 1) x = nS n x ++ [(x >>> (8 * n)).setWidth 8] := by simp [nS, List.range_succ]
theorem AE (l : List (BitVec 8)) (c : BitVec 8) : kA (l ++ [c]) = kA l ||| c.setWidth 64 <<< (8 * l.length) := by
  induction l with
  | nil => simp [kA]
  | cons a l ih =>
    simp only [List.cons_append, kA, ih, List.length_cons, BitVec.shiftLeft_or_distrib]
    rw [show 8 * (l.length + 1) = 8 * l.length + 8 by omega, BitVec.shiftLeft_add, BitVec.or_assoc, BitVec.or_assoc, BitVec.or_comm (BitVec.setWidth 64 a)]
theorem tN (c : BitVec 8) (cs : List (BitVec 8)) : kA (c :: cs) = kA cs * 256#64 + c.setWidth 64 := by
  have e : kA cs * 256#64 = kA cs <<< 8 := by rw [BitVec.shiftLeft_eq_mul_twoPow]; rfl
  rw [e, BitVec.add_eq_or_of_and_eq_zero]
  · rfl
  · apply BitVec.eq_of_getLsbD_eq
    intro i hi
    rw [BitVec.getLsbD_and, BitVec.getLsbD_shiftLeft, BitVec.getLsbD_setWidth]
    by_cases h : i < 8
    · simp [h]
    · have := BitVec.getLsbD_of_ge c i (by omega)
      simp [this]
theorem I5 (x : BitVec 64) (n : Nat) : (x >>> (8 * n)) / 256#64 = x >>> (8 * (n + 1)) := by
  apply BitVec.eq_of_toNat_eq
  rw [BitVec.toNat_udiv, BitVec.toNat_ushiftRight, BitVec.toNat_ushiftRight, Nat.shiftRight_eq_div_pow, Nat.shiftRight_eq_div_pow, show 8 * (n + 1) = 8 * n + 8 by omega, Nat.pow_add, ← Nat.div_div_eq_div_mul]
  rfl
theorem IH (x : BitVec 64) : BitVec.setWidth 8 (x % 256#64) = x.setWidth 8 := by
  apply BitVec.eq_of_toNat_eq
  rw [BitVec.toNat_setWidth, BitVec.toNat_setWidth, BitVec.toNat_umod]
  have : (256#64).toNat = 256 := rfl
  rw [this]
  omega
def oM (bs : List (BitVec 8)) (j : Nat) : BitVec 64 := kA (bs.drop j)
theorem zF (bs : List (BitVec 8)) : oM bs bs.length = 0#64 := by simp [oM, kA]
theorem vQ (bs : List (BitVec 8)) (j : Nat) (h : j < bs.length) : oM bs (j + 1) * 256#64 + (bs[j]).setWidth 64 = oM bs j := by
  unfold oM
  rw [List.drop_eq_getElem_cons h, tN]
def fO (n : Nat) : Nat := (n + 7) / 8
def oN (bs : List (BitVec 8)) (i : Nat) : BitVec 64 := kA ((bs.drop (8 * i)).take 8)
def gI (bs : List (BitVec 8)) (n : Nat) : List (BitVec 64) := (List.range n).map (oN bs)
theorem lB (bs : List (BitVec 8)) (n : Nat) : gI bs (n + 1) = gI bs n ++ [oN bs n] := by simp [gI, List.range_succ]
theorem rY (bs : List (BitVec 8)) (n : Nat) : (gI bs n).length = n := by simp [gI]
def oB (k x : BitVec 64) (gs : List (BitVec 64)) : BitVec 64 := gs.foldl (fun x g => mix k (x ^^^ g)) x
theorem qD (k x : BitVec 64) (gs : List (BitVec 64)) (g : BitVec 64) : oB k x (gs ++ [g]) = mix k (oB k x gs ^^^ g) := by simp [oB]
def nQ (k : BitVec 64) (n : Nat) : BitVec 64 := mix k (BitVec.ofNat 64 n)
def tag (k : BitVec 64) (bs : List (BitVec 8)) : BitVec 64 := oB k (nQ k bs.length) (gI bs (fO bs.length))
def iC (xs : List (BitVec 64)) : List (BitVec 8) := xs.flatMap (nS 8)
theorem wX (xs : List (BitVec 64)) : (iC xs).length = xs.length * 8 := by
  induction xs with
  | nil => rfl
  | cons x xs ih => simp only [iC, List.flatMap_cons, List.length_append, jQ, List.length_cons] at *; omega
theorem AH (xs : List (BitVec 64)) (x : BitVec 64) : iC (xs ++ [x]) = iC xs ++ nS 8 x := by simp [iC]
def fS (k : BitVec 64) (label : List (BitVec 8)) (parts : List (BitVec 64)) : BitVec 64 := tag k (label ++ [0#8] ++ iC parts)
def gP (bs : List (BitVec 8)) (k : Nat) : List (BitVec 8) := (bs.drop (8 * k)).take 8
theorem qG (bs : List (BitVec 8)) (k : Nat) : (gP bs k).length = min 8 (bs.length - 8 * k) := by simp [gP]
theorem E8 (bs : List (BitVec 8)) (k j : Nat) (h : j < (gP bs k).length) (h2 : 8 * k + j < bs.length) : (gP bs k)[j] = bs[8 * k + j] := by simp [gP]
def kQ (bs : List (BitVec 8)) (k j : Nat) : BitVec 64 := kA ((gP bs k).take j)
theorem vT (bs : List (BitVec 8)) (k : Nat) : kQ bs k 0 = 0#64 := by simp [kQ, kA]
theorem zI (bs : List (BitVec 8)) (k j : Nat) (h : (gP bs k).length ≤ j) : kQ bs k j = oN bs k := by unfold kQ; rw [List.take_of_length_le h]; rfl
theorem wO (bs : List (BitVec 8)) (k j : Nat) (h : j < (gP bs k).length) (h2 : 8 * k + j < bs.length) : kQ bs k (j + 1) = kQ bs k j ||| (bs[8 * k + j]).setWidth 64 <<< (8 * j) := by
  unfold kQ
  rw [List.take_succ_eq_append_getElem h, AE, E8 bs k j h h2, List.length_take, Nat.min_eq_left (by omega)]
def AV (k nonce : BitVec 64) (n : Nat) : List (BitVec 64) := (List.range n).map fun j => mix k (mix k nonce + BitVec.ofNat 64 j)
def KK (k nonce : BitVec 64) (n : Nat) : List (BitVec 8) := (iC (AV k nonce (fO n))).take n
def L9 (a b : List (BitVec 8)) : List (BitVec 8) := List.zipWith (· ^^^ ·) a b
def crypt (k nonce : BitVec 64) (plain : List (BitVec 8)) : List (BitVec 8) := L9 plain (KK k nonce plain.length)
def gM (kind : Int) (bits : BitVec 64) : BitVec 64 := BitVec.ofInt 64 kind <<< 48 + bits
theorem GR (kind : Int) (bits : BitVec 64) : BitVec.ofInt 64 kind * 281474976710656#64 + bits = gM kind bits := by
  unfold gM
  rw [BitVec.shiftLeft_eq_mul_twoPow]
  rfl
def kC (bs : List Bool) : Nat → BitVec 64
  | 0 => 0#64
  | k + 1 => if bs.getD k false then kC bs k ||| 1#64 <<< k else kC bs k
theorem wA (bs : List Bool) (k : Nat) : kC bs (k + 1) = if bs.getD k false then kC bs k ||| 1#64 <<< k else kC bs k := rfl
def mW (io : Int) (bs : List Bool) : BitVec 64 := (BitVec.ofInt 32 io).setWidth 64 ||| kC bs bs.length <<< 32
def AN (b : Bool) (n : BitVec 64) : BitVec 64 := if b then n else 0#64
def GO (b1 b2 b3 b4 b5 : Bool) : BitVec 64 := AN b1 1#64 + AN b2 2#64 + AN b3 4#64 + AN b4 8#64 + AN b5 16#64
theorem wE (b1 b2 b3 b4 b5 : Bool) : GO b1 b2 b3 b4 b5 = kC [b1, b2, b3, b4, b5] 5 := by
  cases b1 <;> cases b2 <;> cases b3 <;> cases b4 <;> cases b5 <;> decide
theorem KS (io : Int) : BitVec.ofInt 64 io % 4294967296#64 = (BitVec.ofInt 32 io).setWidth 64 := by
  apply BitVec.eq_of_toNat_eq
  rw [BitVec.toNat_umod, BitVec.toNat_setWidth, BitVec.toNat_ofInt, BitVec.toNat_ofInt]
  have e : (4294967296#64).toNat = 4294967296 := rfl
  rw [e]
  omega
theorem GE (x : BitVec 32) (y : BitVec 64) : x.setWidth 64 + y * 4294967296#64 = x.setWidth 64 ||| y <<< 32 := by
  have e : y * 4294967296#64 = y <<< 32 := by rw [BitVec.shiftLeft_eq_mul_twoPow]; rfl
  rw [e, BitVec.add_eq_or_of_and_eq_zero]
  apply BitVec.eq_of_getLsbD_eq
  intro i hi
  rw [BitVec.getLsbD_and, BitVec.getLsbD_shiftLeft, BitVec.getLsbD_setWidth]
  by_cases h : i < 32
  · simp [h]
  · have := BitVec.getLsbD_of_ge x i (by omega)
    simp [this]
theorem G5 (io : Int) (b1 b2 b3 b4 b5 : Bool) : BitVec.ofInt 64 io % 4294967296#64 + GO b1 b2 b3 b4 b5 * 4294967296#64 = mW io [b1, b2, b3, b4, b5] := by
  rw [KS, GE, wE]
  rfl
def lZ : ByteArray := ⟨#[99, 111, 109, 109, 105, 116]⟩
def lS : ByteArray := ⟨#[100, 105, 103, 105, 116, 115]⟩
def sR : ByteArray := ⟨#[108, 116, 107]⟩
def nD : ByteArray := ⟨#[99, 104, 101, 99, 107]⟩
def iE (s : ByteArray) : List (BitVec 8) := s.data.toList.map (·.toBitVec)
def eF (u v : BitVec 32) (nonce : BitVec 64) (z : BitVec 8) : BitVec 64 := mix (fS (kB u v) (iE lZ) [z.setWidth 64]) nonce
def gO (u v : BitVec 32) (na nb : BitVec 64) : BitVec 64 := fS (kB u v) (iE lS) [na, nb] % 1000000#64
def HO (sh : BitVec 32) (na nb x y : BitVec 64) : BitVec 64 := fS (sh.setWidth 64) (iE sR) [na, nb, x, y]
def pD (sh : BitVec 32) (n r f x y : BitVec 64) : BitVec 64 := mix (fS 0#64 (iE nD) [n, r, f, x, y]) (sh.setWidth 64)
theorem tP (u v : BitVec 32) (na nb : BitVec 64) : (gO u v na nb).toNat < 1000000 := by
  unfold gO
  rw [BitVec.toNat_umod]
  exact Nat.mod_lt _ (by decide)
structure Adr where
  kind : Int
  bits : BitVec 64
  deriving DecidableEq
structure fQ where
  io : Int
  oob : Bool
  bond : Bool
  mitm : Bool
  sid : Bool
  tid : Bool
  deriving DecidableEq
structure Idn where
  adr : Adr
  irk : BitVec 64
  deriving DecidableEq
structure Oob where
  value : BitVec 64
  random : BitVec 64
  deriving DecidableEq
structure Cfg where
  role : Int
  feat : fQ
  own : Adr
  peer : Adr
  idn : Idn
  secret : BitVec 32
  seed : BitVec 64
  mine : BitVec 64
  oob : Oob
  deriving DecidableEq
structure Pr where
  cfg : Cfg
  phase : Int
  since : Int
  method : Int
  peer : fQ
  req : fQ
  res : fQ
  peerKey : BitVec 32
  shared : BitVec 32
  nonce : BitVec 64
  other : BitVec 64
  commit : BitVec 64
  have_ : Bool
  passkey : Int
  round : Int
  agreed : Bool
  checkIn : BitVec 64
  haveIn : Bool
  crypt : Bool
  ltk : BitVec 64
  idn : Idn
  drawn : Int
  reason : Int
  deriving DecidableEq
structure Sec where
  kind : Int
  feat : fQ
  pub : BitVec 32
  value : BitVec 64
  idn : Idn
  reason : Int
  deriving DecidableEq
structure Evt where
  kind : Int
  number : Int
  key : BitVec 64
  strong : Bool
  idn : Idn
  reason : Int
  deriving DecidableEq
def lH : Adr := ⟨0, 0#64⟩
def gH : fQ := ⟨0, false, false, false, false, false⟩
def kE : Idn := ⟨lH, 0#64⟩
def LW : Oob := ⟨0#64, 0#64⟩
def pN : Cfg := ⟨0, gH, lH, lH, kE, 0#32, 0#64, 0#64, LW⟩
def pr0 : Pr := ⟨pN, 0, 0, 0, gH, gH, gH, 0#32, 0#32, 0#64, 0#64, 0#64, false, 0, 0, false, 0#64, false, false, 0#64, kE, 0, 0⟩
def cL : Sec := ⟨0, gH, 0#32, 0#64, kE, 0⟩
def sJ : Evt := ⟨0, 0, 0#64, false, kE, 0⟩
def gp : Nat := 2147483647
def CW (base exp : Nat) : Nat := base ^ exp % gp
def cJ (secret : BitVec 32) : BitVec 32 := BitVec.ofNat 32 (CW 7 secret.toNat)
def fB (k : BitVec 32) : Bool := decide (2 ≤ k.toNat) && decide (k.toNat ≤ 2147483645)
def dO (secret pub : BitVec 32) : BitVec 32 := BitVec.ofNat 32 (CW pub.toNat secret.toNat)
def cA (kind : Int) : Nat := if kind = 2 then 3 else if kind = 3 then 1 else 0
def eW (a : Adr) : Int :=
  if a.kind < 1 ∨ 4 < a.kind then 12
  else if 281474976710656 ≤ a.bits.toNat then 5
  else if a.kind = 1 then 0
  else
    let n := a.bits.toNat % 70368744177664
    let m := if a.kind = 3 then n / 16777216 else n
    let most := if a.kind = 3 then 4194303 else 70368744177663
    if a.bits.toNat / 70368744177664 ≠ cA a.kind ∨ m = 0 ∨ m = most then 1 else 0
def bO (f : fQ) : Int := if f.io < 0 ∨ 4 < f.io then 5 else 0
def nN (i r : Int) : Int :=
  if i = 3 ∨ r = 3 then 1
  else if (i = 1 ∨ i = 4) ∧ (r = 1 ∨ r = 4) then 2
  else if i = 2 ∧ r = 2 then 5
  else if (i = 2 ∨ i = 4) ∧ (r = 0 ∨ r = 1) ∨ i = 2 ∧ r = 4 then 4
  else if (i = 0 ∨ i = 1 ∨ i = 4) ∧ (r = 2 ∨ r = 4) then 3
  else 1
def bC (i r : fQ) : Int × Bool :=
  if bO i ≠ 0 ∨ bO r ≠ 0 then (0, false)
  else if i.oob || r.oob then (6, true)
  else if !i.mitm && !r.mitm then (1, false)
  else (nN i.io r.io, decide (nN i.io r.io ≠ 1))
def cC (i r : fQ) : Bool := decide ((bC i r).1 ≠ 0) && ((bC i r).2 || (!i.mitm && !r.mitm))
def aT (i r : fQ) : Bool × Bool := (i.sid && r.tid, r.sid && i.tid)
def iZ (p : Sec) : Option Sec :=
  if p.kind = 1 ∨ p.kind = 2 then some { cL with kind := p.kind, feat := p.feat }
  else if p.kind = 11 then some { cL with kind := p.kind, feat := { gH with bond := p.feat.bond, mitm := p.feat.mitm } }
  else if p.kind = 12 then some { cL with kind := p.kind, pub := p.pub }
  else if p.kind = 3 ∨ p.kind = 4 ∨ p.kind = 13 then some { cL with kind := p.kind, value := p.value }
  else if p.kind = 8 then some { cL with kind := p.kind, idn := p.idn }
  else if p.kind = 5 then some { cL with kind := p.kind, reason := p.reason }
  else none
def iA (i : Idn) : Int := if eW i.adr ≠ 0 then eW i.adr else if i.adr.kind ≠ 1 ∧ i.adr.kind ≠ 2 then 1 else 0
def gD (p : Sec) : Int :=
  if iZ p = none then 12
  else if iZ p ≠ some p then 1
  else if p.kind = 1 ∨ p.kind = 2 then bO p.feat
  else if p.kind = 8 then iA p.idn
  else if p.kind = 5 then (if p.reason < 1 ∨ 255 < p.reason then 5 else 0)
  else 0
def JY (a : Adr) : BitVec 64 := gM a.kind a.bits
def LI (f : fQ) : BitVec 64 := mW f.io [f.oob, f.bond, f.mitm, f.sid, f.tid]
def eN (seed : BitVec 64) (i : Int) : BitVec 64 := mix seed (BitVec.ofInt 64 i)
def lI (sh : BitVec 32) (n r : BitVec 64) (f : fQ) (a b : Adr) : BitVec 64 := pD sh n r (LI f) (JY a) (JY b)
def mS (sh : BitVec 32) (na nb : BitVec 64) (a b : Adr) : BitVec 64 := HO sh na nb (JY a) (JY b)
def F2 (n : Int) : Int := Go.RowKit.wrap64 (n + 1)
structure Sd where
  p : Pr
  was : Pr
  now : Int
  sent : List Sec
  told : List Evt
def aH (p : Pr) (now : Int) : Sd := ⟨p, p, now, [], []⟩
def Sd.first (s : Sd) : Bool := decide (s.p.cfg.role = 0)
def Sd.own (s : Sd) : BitVec 32 := cJ s.p.cfg.secret
def aU (m : Int) : Bool := decide (m = 3) || decide (m = 4) || decide (m = 5)
def Sd.pass (s : Sd) : Bool := aU s.p.method
def Sd.shows (s : Sd) : Bool := (s.first && decide (s.p.method = 3)) || (!s.first && decide (s.p.method = 4))
def Sd.accept (s : Sd) : Sd := { s with p := { s.p with since := s.now } }
def Sd.send (s : Sd) (d : Sec) : Sd := { s with sent := s.sent ++ [d] }
def Sd.tell (s : Sd) (e : Evt) : Sd := { s with told := s.told ++ [e] }
def Sd.end_ (s : Sd) (reason : Int) : Sd := { s with p := { s.was with phase := 8, since := s.now, reason := reason }, sent := [], told := [{ sJ with kind := 4, reason := reason }] }
def Sd.fail (s : Sd) (reason : Int) : Sd := (s.end_ reason).send { cL with kind := 5, reason := reason }
def Sd.drawV (s : Sd) : BitVec 64 := eN s.p.cfg.seed s.p.drawn
def Sd.draw (s : Sd) : Sd := { s with p := { s.p with drawn := F2 s.p.drawn } }
def Sd.fresh (s : Sd) : Sd := { s.draw with p := { s.draw.p with nonce := s.drawV } }
def Sd.z (s : Sd) : BitVec 8 := if s.pass then 128#8 + BitVec.ofInt 8 (s.p.passkey / 2 ^ s.p.round.toNat % 2) else 0#8
def Sd.commit (s : Sd) : Sd := s.fresh.send { cL with kind := 3, value := eF s.own s.p.peerKey s.drawV s.z }
def Sd.random (s : Sd) : Sd := s.send { cL with kind := 4, value := s.p.nonce }
def Sd.opens (s : Sd) (v : BitVec 64) : Bool := decide (eF s.p.peerKey s.own v s.z = s.p.commit)
def Sd.extra (s : Sd) (has : Bool) (oob : BitVec 64) : BitVec 64 := if s.pass then BitVec.ofInt 64 s.p.passkey else if decide (s.p.method = 6) && has then oob else 0#64
def Sd.check (s : Sd) : BitVec 64 := lI s.p.shared s.p.nonce (s.extra s.p.cfg.feat.oob s.p.cfg.oob.random) s.p.cfg.feat s.p.cfg.own s.p.cfg.peer
def Sd.otherCheck (s : Sd) : BitVec 64 := lI s.p.shared s.p.other (s.extra s.p.peer.oob s.p.cfg.mine) s.p.peer s.p.cfg.peer s.p.cfg.own
def byR {α : Type} (s : Sd) (a b : α) : α := if s.first then a else b
def cP (c : Cfg) : Pr × Int :=
  if c.role ≠ 0 ∧ c.role ≠ 1 then (pr0, 5)
  else if bO c.feat ≠ 0 then (pr0, bO c.feat)
  else if eW c.own ≠ 0 then (pr0, eW c.own)
  else if eW c.peer ≠ 0 then (pr0, eW c.peer)
  else if c.secret.toNat < 1 ∨ 2147483645 < c.secret.toNat then (pr0, 5)
  else if fB (cJ c.secret) = false then (pr0, 1)
  else if c.feat.sid = true ∧ iA c.idn ≠ 0 then (pr0, iA c.idn)
  else ({ pr0 with cfg := c, passkey := -1 }, 0)
def Sd.setP (s : Sd) (p : Pr) : Sd := { s with p := p }
def Sd.choose (s : Sd) : Sd × Bool :=
  if cC s.p.req s.p.res = false then (s.fail 3, false) else (s.setP { s.p with method := (bC s.p.req s.p.res).1, phase := 2 }, true)
def Sd.idleS (s : Sd) (d : Sec) : Sd := s.accept.setP { s.accept.p with peer := d.feat, req := d.feat, res := s.p.cfg.feat }
def Sd.idle (s : Sd) (d : Sec) : Sd × Bool :=
  if s.first = true ∨ d.kind ≠ 1 then (s, false)
  else (if (s.idleS d).choose.2 then (s.idleS d).choose.1.send { cL with kind := 2, feat := (s.idleS d).choose.1.p.cfg.feat } else (s.idleS d).choose.1, true)
def Sd.featS (s : Sd) (d : Sec) : Sd := s.accept.setP { s.accept.p with peer := d.feat, res := d.feat }
def Sd.features (s : Sd) (d : Sec) : Sd × Bool :=
  if s.first = false ∨ d.kind ≠ 2 then (s, false)
  else (if (s.featS d).choose.2 then (s.featS d).choose.1.send { cL with kind := 12, pub := (s.featS d).choose.1.own } else (s.featS d).choose.1, true)
def Sd.begin_ (s : Sd) : Sd :=
  if s.p.method = 6 then
    (if s.first then ((s.setP { s.p with phase := 3 }).fresh).random else s.setP { s.p with phase := 3 })
  else if s.pass = false then
    (if s.first = false then (s.setP { s.p with phase := 3 }).commit else s.setP { s.p with phase := 3 })
  else if s.shows then
    (let t := (s.setP { s.p with phase := 3 }).draw
     let u := (t.setP { t.p with passkey := ((s.drawV % 1000000#64).toNat : Int) }).tell { sJ with kind := 1, number := ((s.drawV % 1000000#64).toNat : Int) }
     if s.first then u.commit else u)
  else (s.setP { s.p with phase := 4 }).tell { sJ with kind := 2 }
def Sd.keyed (s : Sd) (k : BitVec 32) : Sd := s.setP { s.p with peerKey := k, shared := dO s.p.cfg.secret k }
def Sd.public_ (s : Sd) (d : Sec) : Sd × Bool :=
  if d.kind ≠ 12 then (s, false)
  else if fB d.pub = false ∨ d.pub = s.own then (s.accept.fail 13, true)
  else if s.p.cfg.feat.oob = true ∧ s.p.cfg.oob.value ≠ eF d.pub d.pub s.p.cfg.oob.random 0#8 then (s.accept.fail 2, true)
  else (if s.first = false then ((s.accept.keyed d.pub).send { cL with kind := 12, pub := s.own }).begin_ else (s.accept.keyed d.pub).begin_, true)
def Sd.take (s : Sd) (d : Sec) : Sd × Bool :=
  if d.kind ≠ 3 ∨ s.p.have_ = true then (s, false) else (s.accept.setP { s.accept.p with commit := d.value, have_ := true }, true)
def Sd.open_ (s : Sd) (d : Sec) : Sd × Bool :=
  if s.opens d.value = false then (s.accept.fail 4, false) else (s.accept.setP { s.accept.p with have_ := false, commit := 0#64, other := d.value }, true)
def Sd.toChecks (s : Sd) : Sd :=
  if s.first then (s.setP { s.p with phase := 5 }).send { cL with kind := 13, value := s.check } else s.setP { s.p with phase := 5 }
def Sd.digits (s : Sd) : Int := ((gO (byR s s.own s.p.peerKey) (byR s s.p.peerKey s.own) (byR s s.p.nonce s.p.other) (byR s s.p.other s.p.nonce)).toNat : Int)
def Sd.exchanged (s : Sd) : Sd :=
  if s.p.method = 1 then s.toChecks else (s.setP { s.p with phase := 4 }).tell { sJ with kind := 1, number := s.digits }
def Sd.authFirst (s : Sd) (d : Sec) : Sd × Bool :=
  if (s.take d).2 then ((s.take d).1.fresh.random, true)
  else if d.kind ≠ 4 ∨ s.p.have_ = false then (s, false)
  else if (s.open_ d).2 then ((s.open_ d).1.exchanged, true) else ((s.open_ d).1, true)
def Sd.authOOB (s : Sd) (d : Sec) : Sd × Bool :=
  if d.kind ≠ 4 then (s, false)
  else
    let t := s.accept.setP { s.accept.p with other := d.value }
    (if s.first = false then t.fresh.random.toChecks else t.toChecks, true)
def Sd.authPasskey (s : Sd) (d : Sec) : Sd × Bool :=
  if (s.take d).2 then (if s.first then (s.take d).1.random else (s.take d).1.commit, true)
  else if d.kind ≠ 4 ∨ s.p.have_ = false then (s, false)
  else if (s.open_ d).2 = false then ((s.open_ d).1, true)
  else
    let t := (s.open_ d).1.setP { (s.open_ d).1.p with round := s.p.round + 1 }
    let u := if s.first = false then t.random else t
    (if s.p.round + 1 = 20 then u.toChecks else if s.first then u.commit else u, true)
def Sd.auth (s : Sd) (d : Sec) : Sd × Bool :=
  if s.p.method = 6 then s.authOOB d
  else if s.pass then s.authPasskey d
  else if s.first then s.authFirst d
  else if d.kind ≠ 4 then (s, false)
  else ((s.accept.setP { s.accept.p with other := d.value }).random.exchanged, true)
def Sd.early (s : Sd) (d : Sec) : Sd × Bool :=
  if s.first then (s, false)
  else if s.pass then s.take d
  else if d.kind ≠ 13 ∨ s.p.haveIn = true then (s, false)
  else (s.accept.setP { s.accept.p with checkIn := d.value, haveIn := true }, true)
def Sd.ltk (s : Sd) : BitVec 64 := mS s.p.shared (byR s s.p.nonce s.p.other) (byR s s.p.other s.p.nonce) (byR s s.p.cfg.own s.p.cfg.peer) (byR s s.p.cfg.peer s.p.cfg.own)
def Sd.checks (s : Sd) (d : Sec) : Sd × Bool :=
  if d.kind ≠ 13 then (s, false)
  else if d.value ≠ s.otherCheck then (s.accept.fail 11, true)
  else
    let t := s.accept.setP { s.accept.p with ltk := s.ltk, phase := 6 }
    (if s.first = false then t.send { cL with kind := 13, value := s.check } else t, true)
def Sd.dist (s : Sd) : Bool × Bool := (byR s (aT s.p.req s.p.res).1 (aT s.p.req s.p.res).2, byR s (aT s.p.req s.p.res).2 (aT s.p.req s.p.res).1)
def Sd.identity (s : Sd) : Sd := if s.dist.1 then s.send { cL with kind := 8, idn := s.p.cfg.idn } else s
def Sd.finish (s : Sd) : Sd := (s.setP { s.p with phase := 7 }).tell { sJ with kind := 3, key := s.p.ltk, strong := (bC s.p.req s.p.res).2, idn := s.p.idn }
def Sd.keys (s : Sd) (d : Sec) : Sd × Bool :=
  if d.kind ≠ 8 ∨ s.p.crypt = false ∨ s.dist.2 = false then (s, false)
  else
    let t := s.accept.setP { s.accept.p with idn := d.idn }
    (if s.first then t.identity.finish else t.finish, true)
def Sd.call (s : Sd) (d : Sec) : Sd × Bool :=
  if s.p.phase = 0 then s.idle d else if s.p.phase = 1 then s.features d else if s.p.phase = 2 then s.public_ d else if s.p.phase = 3 then s.auth d
  else if s.p.phase = 4 then s.early d else if s.p.phase = 5 then s.checks d else s.keys d
def Sd.out (s : Sd) : Pr × List Sec × List Evt := (s.p, s.sent, s.told)
def bX (p : Pr) (now : Int) : Pr × List Sec × Int :=
  if p.cfg.role ≠ 0 ∨ p.phase ≠ 0 then (p, [], 9)
  else ({ p with since := now, req := p.cfg.feat, phase := 1 }, [{ cL with kind := 1, feat := p.cfg.feat }], 0)
def bE (s : Sd) (d : Sec) : Sd :=
  if s.p.phase < 0 ∨ 6 < s.p.phase then s
  else if gD d ≠ 0 then s.fail 7
  else if d.kind = 5 then (if s.p.phase ≠ 0 then s.end_ d.reason else s)
  else if d.kind = 11 ∧ s.first = true ∧ s.p.phase = 0 then s
  else if (s.call d).2 then (s.call d).1 else (s.call d).1.fail 7
def bU (p : Pr) (d : Sec) (now : Int) : Pr × List Sec × List Evt := (bE (aH p now) d).out
def jP (s : Sd) (answer : Int) : Sd :=
  if s.p.phase ≠ 4 then s
  else if s.pass = true ∧ answer = -1 then s.fail 1
  else if s.pass = true ∧ 0 ≤ answer ∧ answer < 1000000 then
    (let t := s.accept.setP { s.accept.p with passkey := answer, phase := 3 }
     if s.first = true ∨ s.p.have_ = true then t.commit else t)
  else if s.pass = true then s
  else if answer = 0 ∨ answer = -1 then s.fail 12
  else if answer = 1 then
    (let t := (s.accept.setP { s.accept.p with agreed := true }).toChecks
     if s.p.haveIn then ((t.setP { t.p with checkIn := 0#64, haveIn := false }).checks { cL with kind := 13, value := s.p.checkIn }).1 else t)
  else s
def fU (p : Pr) (answer now : Int) : Pr × List Sec × List Evt := (jP (aH p now) answer).out
def rZ (s : Sd) : Sd :=
  if s.p.phase ≠ 6 ∨ s.p.crypt = true then s
  else
    let t := s.accept.setP { s.accept.p with crypt := true }
    if s.first = true ∧ s.dist.2 = true then t
    else if s.first = true ∨ s.dist.2 = false then t.identity.finish else t.identity
def kD (p : Pr) (now : Int) : Pr × List Sec × List Evt := (rZ (aH p now)).out
def kJ (p : Pr) (now : Int) : Pr × List Evt :=
  if p.phase = 0 ∨ p.phase = 7 ∨ p.phase = 8 then (p, [])
  else if p.since + 30000000 ≤ now then (((aH p now).end_ 14).p, ((aH p now).end_ 14).told) else (p, [])
end
section
open Go.RowKit
theorem oD (a : Addr) (n : Nat) : (a.add n).block = a.block := by unfold Addr.add; split <;> rfl
theorem F6 (a : Addr) (i j : Nat) : (a.add i).add j = a.add (i + j) := by
  unfold Addr.add
  by_cases hi : i = 0 <;> by_cases hj : j = 0 <;> simp [hi, hj, Nat.add_assoc]
def Rd (w : World) (A : Option Addr) (xs : List Value) : Prop :=
  ∀ (j : Nat) (u : Value), xs[j]? = some u → ∃ ad, A = some ad ∧ ad.block < w.heap.size ∧ w.cell? (ad.add j) = some u
theorem Rd.nil (w : World) (A : Option Addr) : Rd w A [] := fun j u h => by simp at h
theorem Rd.to {w w' : World} {A : Option Addr} {xs : List Value} (h : Rd w A xs) (hb : Below w.heap.size w w') : Rd w' A xs := fun j u hu => by
  obtain ⟨ad, rfl, hlt, hc⟩ := h j u hu
  exact ⟨ad, rfl, Nat.lt_of_lt_of_le hlt hb.size, (hb.cell (by rw [oD]; exact hlt)).trans hc⟩
theorem Rd.take {w : World} {A : Option Addr} {xs : List Value} (h : Rd w A xs) (n : Nat) : Rd w A (xs.take n) := fun j u hu => by
  rw [List.getElem?_take] at hu
  split at hu
  · exact h j u hu
  · cases hu
theorem Rd.of_own {w : World} {base : Nat} {e : TypeId} {size n c : Nat} {A : Option Addr} {xs : List Value} (h : w.ownsRow base e size (.slice A n c) n xs) : Rd w A xs := fun j u hu => by
  rcases h.2 with ⟨hv, rfl⟩ | ⟨g, cap, cur, hv, hb, hg, _⟩
  · have := h.1
    simp at this
    subst this
    simp at hu
  · have hA : A = some ⟨g, 0, none⟩ := by injection hv
    subst hA
    exact ⟨_, rfl, (Array.getElem?_eq_some_iff.1 hg).1, h.cells (g := g) rfl j u hu⟩
theorem Rd.src {P : Program} {w : World} {A : Option Addr} {xs : List Value} (h : Rd w A xs) {size n : Nat} {tx e' : TypeId} (hk : P.underlying tx = some (.slice e')) (c : Nat) (hl : xs.length = n * size) (h1 : ∀ u ∈ xs, u.oneCell' = true) (hs : 0 < size) : Src P size tx (.slice A n c) n xs w := by
  rcases xs with _ | ⟨x, xs⟩
  · have hn : n = 0 := by
      rcases Nat.eq_zero_or_pos n with h0 | h0
      · exact h0
      · have := Nat.mul_pos h0 hs; simp at hl; omega
    subst hn
    rcases A with _ | ad
    · exact Src.ofNil w hk c
    · exact Src.ofSlice w hk ad 0 c [] (by simp) (fun j u hu => by simp at hu) (fun u hu => by cases hu)
  · obtain ⟨ad, rfl, _, _⟩ := h 0 x rfl
    exact Src.ofSlice w hk ad n c _ hl (fun j u hu => by
      obtain ⟨ad', he, _, hc⟩ := h j u hu
      injection he with he
      subst he
      exact hc) h1
theorem uC {P : Program} (w : World) (base : Nat) (t ty e : TypeId) (i : TypeInfo) (z : Value) (size bytes : Nat) (ht : P.underlying t = some (.slice e)) (hi : P.info? e = some i) (hz : i.zero = some z)
    (hsize : i.size = size) (hby : i.bytes = bytes) (hzs : z.cells.size = size) (hsz : 0 < size)
    (v : Value) (n : Nat) (xs : List Value) (hown : w.ownsRow base e size v n xs) (A : Option Addr) (m c : Nat) (news : List Value) (hr : Rd w A news) (hl : news.length = m * size) (h1 : ∀ u ∈ news, u.oneCell' = true)
    (h63 : n + m ≤ maxLen) (hbytes : (n + m) * bytes ≤ 140737488355328) (hbase : base ≤ w.heap.size) :
    ∃ v' w', (Builtin.append_ #[t, t] ty #[v, .slice A m c]).run P w = .ok v' w' ∧ w'.ownsRow base e size v' (n + m) (xs ++ news) ∧ Below base w w' ∧ w.grownBy w' v.ownBlock := by
  have fin : ∀ v' w', w'.ownsRow base e size v' (n + m) (xs ++ news) → w.grownBy w' v.ownBlock → Below base w w' ∧ w.grownBy w' v.ownBlock := fun v' w' _ hg =>
    ⟨(Below.refl base w).grown hg hbase (fun k hk => (hown.lt k hk).1), hg⟩
  rcases news with _ | ⟨x, news⟩
  · have hm : m = 0 := by
      rcases Nat.eq_zero_or_pos m with h0 | h0
      · exact h0
      · have := Nat.mul_pos h0 hsz; simp at hl; omega
    subst hm
    rcases A with _ | ad
    · refine ⟨v, w, ?_, by simpa using hown, Below.refl _ _, ⟨rfl, rfl, rfl, Nat.le_refl _, fun _ _ _ => rfl⟩⟩
      rcases hown.2 with ⟨rfl, rfl⟩ | ⟨g, cap, cur, rfl, _, _, hnc, _⟩
      · simp [Builtin.append_, run_underlying ht, sizeOf, typeInfo, hi, Builtin.lenOf, Builtin.firstCells]
      · simp [Builtin.append_, run_underlying ht, sizeOf, typeInfo, hi, Builtin.lenOf, Builtin.firstCells, hnc, storeCells]
    · obtain ⟨v', w', h, h2, h3, _⟩ := run_append_own (P := P) w base t ty e i z size bytes ht hi hz hsize hby hzs hsz v n xs hown ad 0 c [] (by simp) (fun j u hu => by simp at hu) (fun u hu => by cases hu) h63 hbytes hbase
      exact ⟨v', w', h, h2, fin v' w' h2 h3⟩
  · obtain ⟨ad, rfl, _, _⟩ := hr 0 x rfl
    obtain ⟨v', w', h, h2, h3, _⟩ := run_append_own (P := P) w base t ty e i z size bytes ht hi hz hsize hby hzs hsz v n xs hown ad m c (x :: news) hl (fun j u hu => by
      obtain ⟨ad', he, _, hc⟩ := hr j u hu
      injection he with he
      subst he
      exact hc) h1 h63 hbytes hbase
    exact ⟨v', w', h, h2, fin v' w' h2 h3⟩
theorem hN {P : Program} (w : World) {ops : Array Oper} {rest : List Oper} {o : Oper} {a : Act} {Q : Exit → Act → World → Prop} (hgd : o.guard = none) (s x : Operand) (t : TypeId)
    (ho : o.op = .call { callee := .builtin .append, args := #[s, x], argTypes := #[t, t] })
    (base : Nat) (e : TypeId) (i : TypeInfo) (z : Value) (size bytes : Nat) (ht : P.underlying t = some (.slice e)) (hi : P.info? e = some i) (hz : i.zero = some z)
    (hsize : i.size = size) (hby : i.bytes = bytes) (hzs : z.cells.size = size) (hsz : 0 < size)
    (v : Value) (n : Nat) (xs : List Value) (hs : a.eval s = v) (hown : w.ownsRow base e size v n xs) (A : Option Addr) (m c : Nat) (news : List Value) (hx : a.eval x = .slice A m c) (hr : Rd w A news) (hl : news.length = m * size) (h1 : ∀ u ∈ news, u.oneCell' = true)
    (h63 : n + m ≤ maxLen) (hbytes : (n + m) * bytes ≤ 140737488355328) (hbase : base ≤ w.heap.size)
    (h : ∀ A' c' w', w'.ownsRow base e size (.slice A' (n + m) c') (n + m) (xs ++ news) → Below base w w' → w.grownBy w' v.ownBlock → wpList P ops Q rest (a.put o.dst (.slice A' (n + m) c')) w') : wpList P ops Q (o :: rest) a w :=
  wpList_plain hgd fun _ hK => by
    obtain ⟨v', w', hrun, h2, h3, h4⟩ := uC (P := P) w base t o.type e i z size bytes ht hi hz hsize hby hzs hsz v n xs hown A m c news hr hl h1 h63 hbytes hbase
    obtain ⟨A', c', rfl⟩ : ∃ A' c', v' = .slice A' (n + m) c' := by
      rcases h2.2 with ⟨rfl, h0⟩ | ⟨g, cap, cur, rfl, _⟩
      · exact ⟨none, 0, by rw [h0]⟩
      · exact ⟨_, _, rfl⟩
    unfold Oper.wp execOp
    simp only [ho, resolve, invoke, builtin, Sem.run_bind, Sem.run_pure, Result.andThen_ok, List.map_toArray, List.map_cons, List.map_nil, hs, hx, hrun]
    exact hK _ _ (h A' c' w' h2 h3 h4)
theorem AK {w w' : World} {base : Nat} {e : TypeId} {size n : Nat} {v : Value} {xs : List Value} (h : w.ownsRow base e size v n xs) (hb : Below w.heap.size w w') : w'.ownsRow base e size v n xs := by
  refine ⟨h.1, ?_⟩
  rcases h.2 with h2 | ⟨g, cap, cur, hv, hbg, hg, r⟩
  · exact .inl h2
  · exact .inr ⟨g, cap, cur, hv, hbg, (hb.block g (Array.getElem?_eq_some_iff.1 hg).1).trans hg, r⟩
theorem Rd.open_ {w : World} {A : Option Addr} {xs : List Value} (h : Rd w A xs) (hx : 0 < xs.length) :
    ∃ b off, A = some ⟨b, off, none⟩ ∧ b < w.heap.size ∧ ∀ (j : Nat) (u : Value), xs[j]? = some u → w.cell? ⟨b, off + j, none⟩ = some u := by
  obtain ⟨ad, rfl, hlt, hc⟩ := h 0 xs[0] (by simp)
  have hs : ad.spot = none := by
    have := World.cell?_spot hc
    simpa [Addr.add] using this
  obtain ⟨b, off, spot⟩ := ad
  dsimp only at hs
  subst hs
  refine ⟨b, off, rfl, hlt, fun j u hu => ?_⟩
  obtain ⟨ad, he, _, hc⟩ := h j u hu
  injection he with he
  subst he
  have e : (⟨b, off, none⟩ : Addr).add j = ⟨b, off + j, none⟩ := by unfold Addr.add; split <;> simp_all
  rwa [e] at hc
theorem Rd.new (w : World) (cs : Array Value) (e : TypeId) : Rd (w.alloc (.cells cs e)) (some ⟨w.heap.size, 0, none⟩) cs.toList := fun j u hu =>
  ⟨_, rfl, by simp, by
    have e : (⟨w.heap.size, 0, none⟩ : Addr).add j = ⟨w.heap.size, j, none⟩ := by unfold Addr.add; split <;> simp_all
    rw [e, cell_of_row _ w.heap.size j cs _ (0, 0) (heap_alloc_new w _)]
    simpa using hu⟩
def Blk (w : World) (g : Nat) (t : TypeId) (cs : Array Value) : Prop := w.heap[g]? = some (.cells cs t (0, 0))
section
variable {w w' : World} {g : Nat} {t : TypeId} {cs : Array Value}
theorem Blk.lt (h : Blk w g t cs) : g < w.heap.size := (Array.getElem?_eq_some_iff.1 h).1
theorem Blk.cell (h : Blk w g t cs) (i : Nat) : w.cell? ⟨g, i, none⟩ = cs[i]? := cell_of_row w g i cs t (0, 0) h
theorem Blk.free (h : Blk w g t cs) (i : Nat) : w.frozen? ⟨g, i, none⟩ = false := by unfold Blk at h; simp [World.frozen?, h]
theorem Blk.new (w : World) (t : TypeId) (cs : Array Value) : Blk (w.alloc (.cells cs t)) w.heap.size t cs := heap_alloc_new w _
theorem Blk.to {B : Nat} (h : Blk w g t cs) (hb : Below B w w') (hg : g < B) : Blk w' g t cs := (hb.block g hg).trans h
theorem Blk.alloc (h : Blk w g t cs) (o : Obj) : Blk (w.alloc o) g t cs := (Below.heap_alloc w o g h.lt).trans h
theorem Blk.set_ (h : Blk w g t cs) (i : Nat) (u : Value) : Blk (w.setCell ⟨g, i, none⟩ u) g t (cs.setIfInBounds i u) := by
  unfold Blk at h ⊢
  simp [World.setCell, Array.getElem?_modify, h]
theorem Blk.own {base size n : Nat} {e : TypeId} {v : Value} {xs : List Value} (h : Blk w g t cs) (ho : w.ownsRow base e size v n xs) (hne : e ≠ t) (hg : w.grownBy w' v.ownBlock) : Blk w' g t cs := by
  refine (hg.block g h.lt ?_).trans h
  rcases ho.2 with ⟨rfl, _⟩ | ⟨g', cap, cur, rfl, _, hh, _⟩
  · simp [Value.ownBlock]
  · intro he
    simp [Value.ownBlock] at he
    subst he
    unfold Blk at h
    rw [h] at hh
    injection hh with hh
    injection hh with _ ht
    exact hne ht.symm
end
theorem dH {w : World} {base base' : Nat} {e : TypeId} {size n : Nat} {v : Value} {xs : List Value} (h : w.ownsRow base e size v n xs) (hb : base' ≤ base) : w.ownsRow base' e size v n xs :=
  ⟨h.1, h.2.imp_right fun ⟨g, cap, cur, hv, hg, r⟩ => ⟨g, cap, cur, hv, Nat.le_trans hb hg, r⟩⟩
def cD (bs : List (BitVec 8)) : List Value := bs.map fun b => .int .u8 (W8 b)
def nH (xs : List (BitVec 64)) : List Value := xs.map fun x => .int .u64 (W64 x)
theorem dT (bs : List (BitVec 8)) : (cD bs).length = bs.length := by simp [cD]
theorem jL (a b : List (BitVec 8)) : cD (a ++ b) = cD a ++ cD b := by simp [cD]
theorem xW (a : List (BitVec 8)) (n : Nat) : (cD a).take n = cD (a.take n) := by simp [cD, List.map_take]
theorem mU (bs : List (BitVec 8)) : ∀ u ∈ cD bs, u.oneCell' = true := fun u hu => by
  obtain ⟨b, _, rfl⟩ := List.mem_map.1 hu
  rfl
abbrev RdB (w : World) (A : Option Addr) (bs : List (BitVec 8)) : Prop := Rd w A (cD bs)
abbrev RdU (w : World) (A : Option Addr) (xs : List (BitVec 64)) : Prop := Rd w A (nH xs)
theorem RdB.at_ {w : World} {A : Option Addr} {bs : List (BitVec 8)} (h : RdB w A bs) (k : Nat) (hk : k < bs.length) : ∃ ad, A = some ad ∧ ad.block < w.heap.size ∧ w.cell? (ad.add k) = some (.int .u8 (W8 bs[k])) :=
  h k _ (by simp [cD, hk])
theorem RdU.at_ {w : World} {A : Option Addr} {bs : List (BitVec 64)} (h : RdU w A bs) (k : Nat) (hk : k < bs.length) : ∃ ad, A = some ad ∧ ad.block < w.heap.size ∧ w.cell? (ad.add k) = some (.int .u64 (W64 bs[k])) :=
  h k _ (by simp [nH, hk])
theorem RdB.take {w : World} {A : Option Addr} {bs : List (BitVec 8)} (h : RdB w A bs) (n : Nat) : RdB w A (bs.take n) := by
  have := Rd.take h n
  rwa [xW] at this
def kM (P : Program) (K : Value → World → Prop) : Result Next → Prop
  | .ok (.value v) w' => K v w'
  | .ok (.enter f args) w' => Calls P f args w' fun e w'' => ∃ v, e = .returned v ∧ K v w''
  | _ => False
def lN (P : Program) (o : Oper) (a : Act) (w : World) (K : Value → World → Prop) : Prop := kM P K ((execOp a.eval o).run P w)
@[go_sem] theorem GX (P : Program) (K : Value → World → Prop) (v : Value) (w : World) : kM P K (.ok (.value v) w) = K v w := rfl
def fI (K : Value → World → Prop) (e : Ending) (w : World) : Prop := ∃ v, e = .returned v ∧ K v w
theorem fI.mk {K : Value → World → Prop} {v : Value} {w : World} (h : K v w) : fI K (.returned v) w := ⟨v, rfl, h⟩
@[go_sem] theorem F4 (P : Program) (K : Value → World → Prop) (f : FuncId) (args : Array Value) (w : World) : kM P K (.ok (.enter f args) w) = Calls P f args w (fI K) := rfl
attribute [go_sem] lN
theorem uO {P : Program} {o : Oper} {a : Act} {w : World} {K K' : Value → World → Prop} (h : ∀ v w, K v w → K' v w) (hh : lN P o a w K) : lN P o a w K' := by
  unfold lN at *
  generalize (execOp a.eval o).run P w = r at *
  cases r with
  | ok n w' =>
    cases n <;> simp only [kM] at hh ⊢
    case value v => exact h _ _ hh
    case enter f args => exact hh.mono fun e w'' ⟨v, hv, hk⟩ => ⟨v, hv, h _ _ hk⟩
  | halt x w' => simp only [kM] at hh
theorem fG {P : Program} {o : Oper} {a : Act} {w : World} {K : Act → World → Prop} {Q : Exit → Act → World → Prop} (hh : lN P o a w fun v w' => K (a.put o.dst v) w') : Oper.wp P o a w K Q := by
  unfold lN at hh
  unfold Oper.wp
  generalize (execOp a.eval o).run P w = r at *
  cases r with
  | ok n w' =>
    cases n <;> simp only [kM] at hh <;> simp only [Oper.upon]
    case value v => exact hh
    case enter f args => exact hh.mono fun e w'' ⟨v, hv, hk⟩ => by subst hv; exact hk
  | halt x w' => simp only [kM] at hh
def aO (S : World → Prop) : Prop := ∀ w w', S w → Below w.heap.size w w' → S w'
section
variable {P : Program} {ops : Array Oper} {Q : Exit → Act → World → Prop} {md : Region.Mode} {S0 : World → Prop}
def fR (P : Program) (ops : Array Oper) (S0 : World → Prop) (o : Oper) (v : Value) (a : Act) : Prop :=
  (Region.wanted o (yielded ops a.tmps) = true ∧ ∀ w, S0 w → lN P o a w fun u w' => u = v ∧ Below w.heap.size w w') ∨
  (Region.wanted o (yielded ops a.tmps) = false ∧ v = undef)
theorem fR.of_same {o : Oper} {v : Value} {a a' : Act} (hy : fR P ops S0 o v a) (he : execOp a'.eval o = execOp a.eval o)
    (hw : Region.wanted o (yielded ops a'.tmps) = Region.wanted o (yielded ops a.tmps)) : fR P ops S0 o v a' := by
  unfold fR lN at *
  rw [he, hw]
  exact hy
theorem fR.weak {S1 : World → Prop} {o : Oper} {v : Value} {a : Act} (hy : fR P ops S0 o v a) (h : ∀ w, S1 w → S0 w) : fR P ops S1 o v a :=
  hy.imp (fun ⟨hw, hv⟩ => ⟨hw, fun w hS => hv w (h w hS)⟩) id
theorem fR.wpOp {i : Nat} {o : Oper} {v : Value} {a : Act} (hi : ops[i]? = some o) (hy : fR P ops S0 o v a)
    {K : Act → World → Prop} {w : World} (hS : S0 w) (h : ∀ w', Below w.heap.size w w' → K (a.put o.dst v) w') : wpOp P ops Q i K a w := by
  unfold Go.wpOp
  simp only [hi]
  rcases hy with ⟨hw, hv⟩ | ⟨hw, rfl⟩
  · simp only [hw, if_true]
    exact .inl (fG (uO (fun u w' ⟨hu, hb⟩ => by subst hu; exact h w' hb) (hv w hS)))
  · simp only [hw, Bool.false_eq_true, if_false]
    exact h w (Below.refl _ _)
theorem uN {j : Nat} {oi oj : Oper} {v : Value} (hj : ops[j]? = some oj) (hap : oi.apart ops oj = true)
    (hsi : ∀ cs b, oi.op ≠ .select cs b) (hsj : ∀ cs b, oj.op ≠ .select cs b)
    (hQ : ∀ c a w, Q (.panic c) (a.put oi.dst v) w → Q (.panic c) a w) {K : Act → World → Prop} {a : Act} {w : World}
    (hy : fR P ops S0 oi v a) (h : wpOp P ops Q j K (a.put oi.dst v) w) :
    wpOp P ops Q j (fun a' w' => fR P ops S0 oi v a' ∧ K (a'.put oi.dst v) w') a w := by
  obtain ⟨h1, h2, h3⟩ := Oper.apart_spec hap
  have keep : ∀ (a : Act), fR P ops S0 oi v a → ∀ u, fR P ops S0 oi v (a.put oj.dst u) := fun a hy u =>
    hy.of_same (execOp_put oi hsi a oj.dst u h3) (wanted_put oi a oj.dst u h3)
  have keepD : ∀ d, fR P ops S0 oi v { a with defers := d :: a.defers } := fun d => hy.of_same rfl rfl
  unfold wpOp at *
  simp only [hj] at *
  rw [wanted_put oj a oi.dst v h1] at h
  split
  · rename_i hw
    simp only [hw, if_true] at h
    rcases h with h | ⟨hasks, hlets⟩
    case inr => exact .inr ⟨by unfold Oper.asks at *; rw [execOp_put oj hsj a oi.dst v h1] at hasks; exact hasks, hlets⟩
    refine .inl ?_
    unfold Oper.wp at *
    rw [execOp_put oj hsj a oi.dst v h1] at h
    generalize (execOp a.eval oj).run P w = r at *
    cases r with
    | ok n w' =>
      cases n <;> simp only [Oper.upon] at h ⊢
      case value u => exact ⟨keep a hy u, by rw [← Act.put_comm a v u h2]; exact h⟩
      case skip => exact ⟨keep a hy _, by rw [← Act.put_comm a v undef h2]; exact h⟩
      case defer d =>
        refine ⟨keep _ (keepD d) _, ?_⟩
        rw [← Act.put_comm _ v undef h2, ← Act.put_defers]
        exact h
      case enter f args =>
        refine Calls.mono h fun e w'' he => ?_
        cases e with
        | returned u => exact ⟨keep a hy u, by rw [← Act.put_comm a v u h2]; exact he⟩
        | panicked c => exact hQ _ _ _ he
        | outgrown => exact he
      case row row args => exact Rows.mono h fun u w'' he => ⟨keep a hy u, by rw [← Act.put_comm a v u h2]; exact he⟩
    | halt x w' =>
      cases x <;> simp only [Oper.upon] at h ⊢
      case panic u => exact hQ _ _ _ h
  · rename_i hw
    simp only [hw] at h
    exact ⟨keep a hy _, by rw [← Act.put_comm a v undef h2]; exact h⟩
def wpU (P : Program) (md : Region.Mode) (ops : Array Oper) (Q : Exit → Act → World → Prop) : Nat → (World → Prop) → (World → Prop) → Array Bool → Act → Prop
  | 0, _, S, listed, a => Region.ready md ops listed = [] ∧ ∀ w, S w → Q .normal a w
  | fuel + 1, S0, S, listed, a =>
    (Region.ready md ops listed = [] → ∀ w, S w → Q .normal a w) ∧
    ∀ i ∈ Region.ready md ops listed, ∀ w, S w → wpOp P ops Q i (fun a' w' => ∃ S0' S' : World → Prop, (∀ w, S0' w → S0 w) ∧ aO S' ∧ (∀ w, S' w → S0' w) ∧ S' w' ∧ wpU P md ops Q fuel S0' S' (listed.setIfInBounds i true) a') a w
theorem pE : ∀ (fuel : Nat) (S0 S : World → Prop) (listed : Array Bool) (a : Act) (w : World), S w → wpU P md ops Q fuel S0 S listed a → wpAny P md ops Q fuel listed a w
  | 0, _, _, _, _, w, hS, h => ⟨h.1, h.2 w hS⟩
  | fuel + 1, _, _, _, _, w, hS, h => ⟨fun h0 => h.1 h0 w hS, fun i hi => wpOp_mono (fun a' w' ⟨S0', S', _, _, _, hS', h'⟩ => pE fuel S0' S' _ a' w' hS' h') (h.2 i hi w hS)⟩
theorem uQ {i : Nat} {oi : Oper} {v : Value} (hi : ops[i]? = some oi) (hsel : ∀ (j : Nat) (o : Oper) cs b, ops[j]? = some o → o.op ≠ .select cs b)
    (hQ : ∀ c a w, Q (.panic c) (a.put oi.dst v) w → Q (.panic c) a w) :
    ∀ (fuel : Nat) (S0 S : World → Prop) (listed : Array Bool) (a : Act),
      (∀ j oj, ops[j]? = some oj → j ≠ i → listed.getD j true = false → (∀ e ∈ oj.after, Region.binds md e = true → e.on ≠ i) → oi.apart ops oj = true) →
      i ∈ Region.ready md ops listed → fR P ops S0 oi v a → aO S → (∀ w, S w → S0 w) →
      wpU P md ops Q fuel S0 S (listed.setIfInBounds i true) (a.put oi.dst v) → wpU P md ops Q (fuel + 1) S0 S listed a := by
  intro fuel
  induction fuel with
  | zero =>
    intro S0 S listed a _ hr hy hst h0 H
    refine ⟨fun h => (by rw [h] at hr; cases hr), fun j hj w hS => ?_⟩
    by_cases hji : j = i
    · subst hji; exact hy.wpOp hi (h0 w hS) fun w' hb => ⟨S0, S, fun _ h => h, hst, h0, hst w w' hS hb, H⟩
    · have := ready_mono hj hji
      rw [H.1] at this
      cases this
  | succ fuel ih =>
    intro S0 S listed a hfree hr hy hst h0 H
    refine ⟨fun h => (by rw [h] at hr; cases hr), fun j hj w hS => ?_⟩
    by_cases hji : j = i
    · subst hji; exact hy.wpOp hi (h0 w hS) fun w' hb => ⟨S0, S, fun _ h => h, hst, h0, hst w w' hS hb, H⟩
    · have h1 := H.2 j (ready_mono hj hji) w hS
      obtain ⟨hjun, oj, hoj, hall⟩ := mem_ready.1 hj
      have hnot : ∀ e ∈ oj.after, Region.binds md e = true → e.on ≠ i := fun e he hb heq => by
        have h1 := hall e he hb
        have h0 := (mem_ready.1 hr).1
        rw [heq] at h1
        rcases Nat.lt_or_ge i listed.size with h' | h'
        · simp [h'] at h0 h1; rw [h0] at h1; cases h1
        · simp [Array.getElem?_eq_none h'] at h1
      have h2 := uN hoj (hfree j oj hoj hji hjun hnot) (fun cs b => hsel i oi cs b hi) (fun cs b => hsel j oj cs b hoj) hQ hy h1
      have hfree' : ∀ k ok, ops[k]? = some ok → k ≠ i → (listed.setIfInBounds j true).getD k true = false →
          (∀ e ∈ ok.after, Region.binds md e = true → e.on ≠ i) → oi.apart ops ok = true := fun k ok hk hki hun hno => by
        refine hfree k ok hk hki ?_ hno
        by_cases hjk : j = k
        · subst hjk; exact hjun
        · rw [getD_set_ne true hjk] at hun; exact hun
      refine wpOp_mono (fun a' w' ⟨hya, S0', S', hs0, hst', h0', hS', hW'⟩ => ⟨S0', S', hs0, hst', h0', hS', ih S0' S' (listed.setIfInBounds j true) a' hfree' (ready_mono hr (Ne.symm hji)) (hya.weak hs0) hst' h0' ?_⟩) h2
      rw [Array.setIfInBounds_comm _ _ hji]
      exact hW'
def bA (p : Prop) : Prop := p
theorem bA.out {p : Prop} (h : bA p) : p := h
theorem bH {S : World → Prop} (i : Nat) {oi : Oper} {v : Value} {fuel : Nat} {listed : Array Bool} {a : Act} (hst : aO S) (h0 : ∀ w, S w → S0 w) (hi : ops.toList[i]? = some oi)
    (hy : ∀ w, S0 w → ∀ K : Value → World → Prop, bA (∀ w', Below w.heap.size w w' → K v w') → lN P oi a w K)
    (h : wpU P md ops Q fuel S0 S (listed.setIfInBounds i true) (a.put oi.dst v))
    (hs : Region.noSelect ops = true := by kernel_rfl) (hf : Region.free md ops listed i = true := by kernel_rfl) (hr : (Region.ready md ops listed).contains i = true := by kernel_rfl)
    (hQ : ∀ c a w, Q (.panic c) (a.put oi.dst v) w → Q (.panic c) a w := by exact fun _ _ _ h => h) (hw : Region.wanted oi (yielded ops a.tmps) = true := by rfl) : wpU P md ops Q (fuel + 1) S0 S listed a :=
  uQ (by rw [← hi, Array.getElem?_toList]) (Region.noSelect_spec hs) hQ fuel S0 S listed a (Region.free_spec (by rw [← hi, Array.getElem?_toList]) hf) (by simpa using hr) (.inl ⟨hw, fun w hS => hy w hS _ fun w' hb => ⟨rfl, hb⟩⟩) hst h0 h
theorem FQ {S : World → Prop} (i : Nat) {oi : Oper} {fuel : Nat} {listed : Array Bool} {a : Act} (hst : aO S) (h0 : ∀ w, S w → S0 w) (hi : ops.toList[i]? = some oi)
    (h : wpU P md ops Q fuel S0 S (listed.setIfInBounds i true) (a.put oi.dst undef))
    (hs : Region.noSelect ops = true := by kernel_rfl) (hf : Region.free md ops listed i = true := by kernel_rfl) (hr : (Region.ready md ops listed).contains i = true := by kernel_rfl)
    (hQ : ∀ c a w, Q (.panic c) (a.put oi.dst undef) w → Q (.panic c) a w := by exact fun _ _ _ h => h) (hw : Region.wanted oi (yielded ops a.tmps) = false := by rfl) : wpU P md ops Q (fuel + 1) S0 S listed a :=
  uQ (by rw [← hi, Array.getElem?_toList]) (Region.noSelect_spec hs) hQ fuel S0 S listed a (Region.free_spec (by rw [← hi, Array.getElem?_toList]) hf) (by simpa using hr) (.inr ⟨hw, rfl⟩) hst h0 h
theorem eK {S : World → Prop} (k : Nat) {o : Oper} {fuel : Nat} {listed : Array Bool} {a : Act} (ho : ops.toList[k]? = some o)
    (h : ∀ w, S w → ∀ K : Act → World → Prop, bA (∀ (S0' S' : World → Prop) a' w', (∀ w, S0' w → S0 w) → aO S' → (∀ w, S' w → S0' w) → S' w' → wpU P md ops Q fuel S0' S' (listed.setIfInBounds k true) a' → K a' w') →
      if Region.wanted o (yielded ops a.tmps) = true then Oper.wp P o a w K Q else K (a.put o.dst undef) w)
    (hr : Region.ready md ops listed = [k] := by kernel_rfl) : wpU P md ops Q (fuel + 1) S0 S listed a := by
  refine ⟨fun h0 => (by rw [hr] at h0; cases h0), fun i hi w hS => ?_⟩
  rw [hr] at hi
  obtain rfl : i = k := by simpa using hi
  exact wpOp_step (by rw [← ho, Array.getElem?_toList]) fun K' hK => h w hS K' fun S0' S' a' w' h1 h2 h3 h4 h5 => hK a' w' ⟨S0', S', h1, h2, h3, h4, h5⟩
theorem eH {S : World → Prop} (k : Nat) {o : Oper} {fuel : Nat} {listed : Array Bool} {a : Act} (hst : aO S) (ho : ops.toList[k]? = some o)
    (h : ∀ w, S w → ∀ K : Act → World → Prop, bA (∀ (T : World → Prop) a' w', aO T → Below w.heap.size w w' → T w' → (aO (fun w => S w ∧ T w) → wpU P md ops Q fuel (fun w => S w ∧ T w) (fun w => S w ∧ T w) (listed.setIfInBounds k true) a') → K a' w') →
      if Region.wanted o (yielded ops a.tmps) = true then Oper.wp P o a w K Q else K (a.put o.dst undef) w)
    (hr : Region.ready md ops listed = [k] := by kernel_rfl) : wpU P md ops Q (fuel + 1) S S listed a :=
  eK k ho (fun w hS K hK => h w hS K fun T a' w' hT hb ht hn =>
    have hs : aO fun w => S w ∧ T w := fun w w' ⟨a, b⟩ hb => ⟨hst w w' a hb, hT w w' b hb⟩
    hK _ _ a' w' (fun _ h => h.1) hs (fun _ h => h) ⟨hst _ _ hS hb, ht⟩ (hn hs)) hr
theorem aD {id : Nat} {a : Act} {w : World} (S : World → Prop) (n : Nat) (hst : aO S) (hS : S w.drew)
    (h : wpU P .any ops Q n S S (Array.replicate n false) a) (hn : ops.size = n := by rfl) (hm : P.follows .mixedOrders = true := by kernel_rfl) : (Code.region id ops true).wp P Q a w := by
  subst hn
  exact wp_region_any hm (pE _ S S _ _ _ hS h)
theorem aE {S : World → Prop} {fuel : Nat} {listed : Array Bool} {a : Act} (h : ∀ w, S w → Q .normal a w) (hr : Region.ready md ops listed = [] := by kernel_rfl) : wpU P md ops Q fuel S0 S listed a := by
  cases fuel with
  | zero => exact ⟨hr, h⟩
  | succ n => exact ⟨fun _ => h, by rw [hr]; simp⟩
theorem cY {id : Nat} {a : Act} {w : World} (S : World → Prop) (S0 : World → Prop) (hst : aO S) (h0 : ∀ w, S w → S0 w) (hS : S w.drew)
    (n : Nat) (h : wpU P .any ops Q n S0 S (Array.replicate n false) a) (hn : ops.size = n := by rfl) (hm : P.follows .mixedOrders = true := by kernel_rfl) : (Code.region id ops true).wp P Q a w := by
  subst hn
  exact wp_region_any hm (pE _ S0 S _ _ _ hS h)
end
theorem wM {P : Program} {fn : Func} {s : Tmp} {t : TypeId} {tmps : Array Value} {ad : Addr} {v : Value} {w : World} (h : fn.results = #[.cell s t]) (hs : tmps.getD s undef = .pointer (some ad)) (hl : (loadVar t ad).run P w = .ok v w) :
    (results fn tmps).run P w = .ok v w := by
  have hs' : tmps[s]?.getD undef = .pointer (some ad) := by simpa using hs
  simp [results, h, hs', hl, asAddr]
theorem BW {P : Program} {fn : Func} {s u : Tmp} {t : TypeId} {tmps : Array Value} {ad : Addr} {v : Value} {w : World} (h : fn.results = #[.cell s t, .tmp u]) (hs : tmps.getD s undef = .pointer (some ad)) (hl : (loadVar t ad).run P w = .ok v w) :
    (results fn tmps).run P w = .ok (.tuple #[v, tmps.getD u undef]) w := by
  have hs' : tmps[s]?.getD undef = .pointer (some ad) := by simpa using hs
  simp [results, h, hs', hl, asAddr]
theorem fV {P : Program} {w : World} {g : Nat} {t ty : TypeId} {cs : Array Value} {d : TypeDesc} (hG : Blk w g t cs) (hu : P.underlying ty = some d) (hd : (match d with | .struct _ | .array _ _ => true | _ => false) = true) (hi : (P.info? ty).map (·.size) = some cs.size) :
    (loadVar ty ⟨g, 0, none⟩).run P w = .ok (.agg cs) w := run_loadVar_row w g t ty cs (0, 0) d hG hu hd hi
theorem LY (w : World) (t1 : TypeId) (c1 : Array Value) : Below w.heap.size w (w.alloc (.cells c1 t1)) ∧ Blk (w.alloc (.cells c1 t1)) w.heap.size t1 c1 :=
  ⟨(Below.refl _ _).alloc (Nat.le_refl _) _, Blk.new _ _ _⟩
theorem KM (w : World) (t1 : TypeId) (c1 : Array Value) (t2 : TypeId) (c2 : Array Value) : Below w.heap.size w ((w.alloc (.cells c1 t1)).alloc (.cells c2 t2)) ∧
    Blk ((w.alloc (.cells c1 t1)).alloc (.cells c2 t2)) w.heap.size t1 c1 ∧ Blk ((w.alloc (.cells c1 t1)).alloc (.cells c2 t2)) (w.heap.size + 1) t2 c2 := by
  have h := Blk.new (w.alloc (.cells c1 t1)) t2 c2
  have e : (w.alloc (.cells c1 t1)).heap.size = w.heap.size + 1 := by simp
  rw [e] at h
  exact ⟨(LY w t1 c1).1.alloc (by simp) _, (LY w t1 c1).2.alloc _, h⟩
theorem LS (w : World) (t1 : TypeId) (c1 : Array Value) (t2 : TypeId) (c2 : Array Value) (t3 : TypeId) (c3 : Array Value) :
    Below w.heap.size w (((w.alloc (.cells c1 t1)).alloc (.cells c2 t2)).alloc (.cells c3 t3)) ∧ Blk (((w.alloc (.cells c1 t1)).alloc (.cells c2 t2)).alloc (.cells c3 t3)) w.heap.size t1 c1 ∧
    Blk (((w.alloc (.cells c1 t1)).alloc (.cells c2 t2)).alloc (.cells c3 t3)) (w.heap.size + 1) t2 c2 ∧ Blk (((w.alloc (.cells c1 t1)).alloc (.cells c2 t2)).alloc (.cells c3 t3)) (w.heap.size + 2) t3 c3 := by
  have h := Blk.new ((w.alloc (.cells c1 t1)).alloc (.cells c2 t2)) t3 c3
  have e : ((w.alloc (.cells c1 t1)).alloc (.cells c2 t2)).heap.size = w.heap.size + 2 := by simp
  rw [e] at h
  have b := KM w t1 c1 t2 c2
  exact ⟨b.1.alloc (by rw [e]; omega) _, b.2.1.alloc _, b.2.2.alloc _, h⟩
theorem lL {w w' : World} (h : w = w') : Below w.heap.size w w' := by rw [h]; exact Below.refl _ _
theorem aB {S T : World → Prop} (h : aO S) (k : aO T) : aO fun w => S w ∧ T w := fun w w' ⟨a, b⟩ hb => ⟨h w w' a hb, k w w' b hb⟩
theorem aJ (B : Nat) (w0 : World) (hB : B ≤ w0.heap.size) : aO fun w => Below B w0 w := fun w w' h hb => h.trans (hb.mono (Nat.le_trans hB h.size))
theorem EL (A : Option Addr) (xs : List Value) : aO fun w => Rd w A xs := fun w w' h hb => h.to hb
theorem mM (A : Option Addr) (bs : List (BitVec 64)) : aO fun w => RdU w A bs := fun w w' h hb => Rd.to h hb
theorem aW (g : Nat) (t : TypeId) (cs : Array Value) : aO fun w => Blk w g t cs := fun w w' h hb => h.to hb h.lt
theorem aK (base : Nat) (e : TypeId) (size : Nat) (v : Value) (n : Nat) (xs : List Value) : aO fun w => w.ownsRow base e size v n xs := fun w w' h hb => AK h hb
theorem bJ (p : Prop) : aO fun _ => p := fun _ _ h _ => h
theorem st2 (w : World) (t1 : TypeId) (c1 : Array Value) (t2 : TypeId) (c2 : Array Value) : aO fun W => Below w.heap.size w W ∧ Blk W w.heap.size t1 c1 ∧ Blk W (w.heap.size + 1) t2 c2 :=
  aB (aJ _ _ (Nat.le_refl _)) (aB (aW _ _ _) (aW _ _ _))
theorem st3 (w : World) (t1 : TypeId) (c1 : Array Value) (t2 : TypeId) (c2 : Array Value) (t3 : TypeId) (c3 : Array Value) : aO fun W => Below w.heap.size w W ∧ Blk W w.heap.size t1 c1 ∧ Blk W (w.heap.size + 1) t2 c2 ∧ Blk W (w.heap.size + 2) t3 c3 :=
  aB (aJ _ _ (Nat.le_refl _)) (aB (aW _ _ _) (aB (aW _ _ _) (aW _ _ _)))
structure Upd (g : Nat) (w w' : World) : Prop where
  os : w'.os = w.os
  tape : w'.tape = w.tape
  output : w'.output = w.output
  size : w'.heap.size = w.heap.size
  block : ∀ k, k ≠ g → w'.heap[k]? = w.heap[k]?
theorem Upd.below {g B : Nat} {w0 w w' : World} (h : Upd g w w') (hb : Below B w0 w) (hg : B ≤ g) : Below B w0 w' :=
  ⟨h.os.trans hb.os, h.tape.trans hb.tape, h.output.trans hb.output, by rw [h.size]; exact hb.size, fun k hk => (h.block k (by omega)).trans (hb.block k hk)⟩
theorem Upd.blk {g g' : Nat} {w w' : World} {t : TypeId} {cs : Array Value} (h : Upd g w w') (hG : Blk w g' t cs) (hne : g' ≠ g) : Blk w' g' t cs := (h.block g' hne).trans hG
theorem Upd.rd {g : Nat} {w w' : World} {A : Option Addr} {xs : List Value} (h : Upd g w w') (hr : Rd w A xs) (hne : ∀ ad, A = some ad → ad.block ≠ g) : Rd w' A xs := fun j u hu => by
  obtain ⟨ad, rfl, hlt, hc⟩ := hr j u hu
  exact ⟨ad, rfl, by rw [h.size]; exact hlt, (World.cell?_of_block (h.block _ (by rw [oD]; exact hne ad rfl))).trans hc⟩
theorem Upd.trans {g : Nat} {a b c : World} (h : Upd g a b) (k : Upd g b c) : Upd g a c :=
  ⟨k.os.trans h.os, k.tape.trans h.tape, k.output.trans h.output, k.size.trans h.size, fun i hi => (k.block i hi).trans (h.block i hi)⟩
def jR (cs : Array Value) (o : Nat) (vs : List Value) : Array Value := (cs.toList.take o ++ vs ++ cs.toList.drop (o + vs.length)).toArray
theorem mI {g : Nat} {t : TypeId} : ∀ (vs : List Value) (o : Nat) (w : World) (cs : Array Value), Blk w g t cs → o + vs.length ≤ cs.size → Blk (w.setCells g o vs) g t (jR cs o vs) ∧ Upd g w (w.setCells g o vs)
  | [], o, w, cs, h, _ => by
    refine ⟨?_, ⟨rfl, rfl, rfl, rfl, fun _ _ => rfl⟩⟩
    have : jR cs o [] = cs := by
      unfold jR
      simp
    rw [this]
    exact h
  | v :: vs, o, w, cs, h, hl => by
    have h1 := h.set_ o v
    rw [List.length_cons] at hl
    obtain ⟨h2, u2⟩ := mI vs (o + 1) (w.setCell ⟨g, o, none⟩ v) (cs.setIfInBounds o v) h1 (by simp; omega)
    have hu : Upd g w (w.setCell ⟨g, o, none⟩ v) := ⟨rfl, rfl, rfl, by simp [World.setCell], fun k hk => Below.heap_setCell w ⟨g, o, none⟩ v k hk⟩
    refine ⟨?_, hu.trans u2⟩
    have e : jR (cs.setIfInBounds o v) (o + 1) vs = jR cs o (v :: vs) := by
      unfold jR
      apply congrArg List.toArray
      rw [Array.toList_setIfInBounds, List.take_set, List.drop_set, if_pos (by omega), List.length_cons, show o + (vs.length + 1) = o + 1 + vs.length by omega]
      have ht : (cs.toList.take (o + 1)).set o v = cs.toList.take o ++ [v] := by
        have hlt : o < cs.toList.length := by rw [Array.length_toList]; omega
        rw [List.take_succ_eq_append_getElem hlt, List.set_append_right _ _ (by rw [List.length_take]; omega), List.length_take, Nat.min_eq_left (by omega), Nat.sub_self]
        rfl
      rw [ht]
      simp
    rw [← e]
    exact h2
theorem oS {w : World} {g : Nat} {t : TypeId} {cs : Array Value} (h : Blk w g t cs) (o n : Nat) (hn : o + n ≤ cs.size) : w.there g o n := fun j hj => by
  refine ⟨?_, h.free _⟩
  rw [h.cell, Array.getElem?_eq_getElem (by omega)]
  rfl
section
variable {P : Program}
theorem lD {w : World} {g o : Nat} {t ty : TypeId} {cs vs : Array Value} (hG : Blk w g t cs) (hi : (P.info? ty).map (·.size) = some vs.size) (h1 : vs.all (·.oneCell') = true) (hn : o + vs.size ≤ cs.size) :
    ∃ w', (storeVar ty ⟨g, o, none⟩ (.agg vs)).run P w = .ok () w' ∧ Blk w' g t (jR cs o vs.toList) ∧ Upd g w w' := by
  have h := mI vs.toList o w cs hG (by simpa using hn)
  exact ⟨_, run_storeVar_mid w g o ty vs (oS hG o vs.size hn) hi h1, h.1, h.2⟩
theorem rD {ops : Array Oper} {rest : List Oper} {op : Oper} {a : Act} {w : World} {Q : Exit → Act → World → Prop} (hgd : op.guard = none) (ty : TypeId) (x y : Operand) (ho : op.op = .store ty x y)
    {g o : Nat} {t : TypeId} {cs vs : Array Value} (hG : Blk w g t cs) (hx : a.eval x = .pointer (some ⟨g, o, none⟩)) (hy : a.eval y = .agg vs)
    (hi : (P.info? ty).map (·.size) = some vs.size) (h1 : vs.all (·.oneCell') = true) (hn : o + vs.size ≤ cs.size)
    (h : ∀ w', Blk w' g t (jR cs o vs.toList) → Upd g w w' → wpList P ops Q rest (a.put op.dst undef) w') : wpList P ops Q (op :: rest) a w := by
  have h2 := mI vs.toList o w cs hG (by simpa using hn)
  exact wpList_store_mid hgd ty x y ho g o vs hx hy (oS hG o vs.size hn) hi h1 (h _ h2.1 h2.2)
theorem qR {ops : Array Oper} {rest : List Oper} {op : Oper} {a : Act} {w : World} {Q : Exit → Act → World → Prop} (hgd : op.guard = none) (ty : TypeId) (x y : Operand) (ho : op.op = .store ty x y)
    {g o : Nat} {t : TypeId} {cs : Array Value} (v : Value) (hG : Blk w g t cs) (hx : a.eval x = .pointer (some ⟨g, o, none⟩)) (hy : a.eval y = v)
    (hc : v.cells = #[v]) (hi : (P.info? ty).map (·.size) = some 1) (h1 : v.oneCell' = true) (hn : o < cs.size)
    (h : ∀ w', Blk w' g t (cs.setIfInBounds o v) → Upd g w w' → wpList P ops Q rest (a.put op.dst undef) w') : wpList P ops Q (op :: rest) a w :=
  wpList_plain hgd fun _ hK => by
    have hth := oS hG o 1 (by omega)
    have hs : (store ⟨g, o, none⟩ v .plain).run P w = .ok () (w.setCell ⟨g, o, none⟩ v) := by
      rw [run_store P w _ v .plain h1]
      have := hth 0 (by omega)
      simp only [Nat.add_zero] at this
      obtain ⟨u, hu⟩ := Option.isSome_iff_exists.1 this.1
      simp [hu, this.2]
    cases hq : P.info? ty with
    | none => simp [hq] at hi
    | some i =>
      have hsz : i.size = 1 := by simpa [hq] using hi
      have hsv : (storeVar ty ⟨g, o, none⟩ v).run P w = .ok () (w.setCell ⟨g, o, none⟩ v) := by
        simp [storeVar, sizeOf, typeInfo, hq, hc, hsz, storeCells, Addr.add, hs]
      unfold Oper.wp execOp
      simp only [ho, hx, hy, Instr.storeAt, Instr.sureAddr, Sem.run_bind, Sem.run_pure, Result.andThen_ok, hsv]
      have hu : Upd g w (w.setCell ⟨g, o, none⟩ v) := ⟨rfl, rfl, rfl, by simp [World.setCell], fun k hk => Below.heap_setCell w ⟨g, o, none⟩ v k hk⟩
      exact hK _ _ (h _ (hG.set_ o v) hu)
theorem vI {w : World} {g : Nat} {t : TypeId} {cs : Array Value} (hG : Blk w g t cs) (o : Nat) (vs : List Value) (h : (cs.toList.drop o).take vs.length = vs) : w.rangeAt g o vs := fun j v hv => by
  rw [hG.cell]
  rw [← h, List.getElem?_take] at hv
  split at hv
  · rw [List.getElem?_drop, Array.getElem?_toList] at hv
    exact hv
  · cases hv
theorem rW {ops : Array Oper} {rest : List Oper} {op : Oper} {a : Act} {w : World} {Q : Exit → Act → World → Prop} (hgd : op.guard = none) (ty : TypeId) (x : Operand) (ho : op.op = .load ty x)
    {g o : Nat} {t : TypeId} {cs : Array Value} {d : TypeDesc} (vs : List Value) (hG : Blk w g t cs) (hx : a.eval x = .pointer (some ⟨g, o, none⟩)) (hvs : (cs.toList.drop o).take vs.length = vs)
    (hu : P.underlying ty = some d) (hd : d.isRow = true) (hi : (P.info? ty).map (·.size) = some vs.length)
    (h : wpList P ops Q rest (a.put op.dst (.agg vs.toArray)) w) : wpList P ops Q (op :: rest) a w :=
  wpList_load_mid hgd ty x ho g o hx vs d (vI hG o vs hvs) hu hd hi h
theorem gZ {ops : Array Oper} {rest : List Oper} {dst : Option Tmp} {ty tt : TypeId} {x y : Operand} {pos : String} {after : Array Edge} {a : Act} {w : World} {Q : Exit → Act → World → Prop}
    {g : Nat} {t : TypeId} {cs : Array Value} (o : Nat) (v : Value) (cs' : Array Value) (hG : Blk w g t cs) (hx : a.eval x = .pointer (some ⟨g, o, none⟩)) (hy : a.eval y = v)
    (hc : v.cells = #[v]) (hi : (P.info? ty).map (·.size) = some 1) (h1 : v.oneCell' = true) (hn : o < cs.size) (he : cs.setIfInBounds o v = cs')
    (h : ∀ w', Blk w' g t cs' → Upd g w w' → wpList P ops Q rest (a.put dst undef) w') : wpList P ops Q ({ dst := dst, op := .store ty x y, type := tt, pos := pos, after := after, guard := none } :: rest) a w :=
  qR rfl ty x y rfl v hG hx hy hc hi h1 hn fun w' hG' hU => h w' (he ▸ hG') hU
theorem lW {ops : Array Oper} {rest : List Oper} {dst : Option Tmp} {ty tt : TypeId} {x y : Operand} {pos : String} {after : Array Edge} {a : Act} {w : World} {Q : Exit → Act → World → Prop}
    {g : Nat} {t : TypeId} {cs : Array Value} (o : Nat) (vs cs' : Array Value) (hG : Blk w g t cs) (hx : a.eval x = .pointer (some ⟨g, o, none⟩)) (hy : a.eval y = .agg vs)
    (hi : (P.info? ty).map (·.size) = some vs.size) (h1 : vs.toList.all (·.oneCell') = true) (hn : o + vs.size ≤ cs.size) (he : jR cs o vs.toList = cs')
    (h : ∀ w', Blk w' g t cs' → Upd g w w' → wpList P ops Q rest (a.put dst undef) w') : wpList P ops Q ({ dst := dst, op := .store ty x y, type := tt, pos := pos, after := after, guard := none } :: rest) a w :=
  rD rfl ty x y rfl hG hx hy hi (by rw [← Array.all_toList]; exact h1) hn fun w' hG' hU => h w' (he ▸ hG') hU
theorem vE {ops : Array Oper} {rest : List Oper} {dst : Option Tmp} {ty tt : TypeId} {x : Operand} {pos : String} {after : Array Edge} {a : Act} {w : World} {Q : Exit → Act → World → Prop}
    {g : Nat} {t : TypeId} {cs : Array Value} {d : TypeDesc} (o : Nat) (vs : List Value) (hG : Blk w g t cs) (hx : a.eval x = .pointer (some ⟨g, o, none⟩)) (hvs : (cs.toList.drop o).take vs.length = vs)
    (hu : P.underlying ty = some d) (hd : d.isRow = true) (hi : (P.info? ty).map (·.size) = some vs.length)
    (h : wpList P ops Q rest (a.put dst (.agg vs.toArray)) w) : wpList P ops Q ({ dst := dst, op := .load ty x, type := tt, pos := pos, after := after, guard := none } :: rest) a w :=
  rW rfl ty x rfl vs hG hx hvs hu hd hi h
end
end
section
open Go.ChangeShapes Go.WideShapes Go.ChangeAt Go.RowKit
abbrev U3 := @Tryz.underlying3
abbrev U4 := @Tryz.underlying4
abbrev U5 := @Tryz.underlying5
abbrev U9 := @Tryz.underlying9
abbrev U23 := @Tryz.underlying23
abbrev U24 := @Tryz.underlying24
abbrev U26 := @Tryz.underlying26
abbrev U27 := @Tryz.underlying27
abbrev U29 := @Tryz.underlying29
abbrev U30 := @Tryz.underlying30
abbrev U32 := @Tryz.underlying32
abbrev U34 := @Tryz.underlying34
abbrev U35 := @Tryz.underlying35
abbrev U37 := @Tryz.underlying37
abbrev U43 := @Tryz.underlying43
abbrev U45 := @Tryz.underlying45
abbrev U46 := @Tryz.underlying46
abbrev U47 := @Tryz.underlying47
abbrev U68 := @Tryz.underlying68
abbrev U70 := @Tryz.underlying70
abbrev U80 := @Tryz.underlying80
abbrev U84 := @Tryz.underlying84
abbrev U98 := @Tryz.underlying98
abbrev aQ := @Tryz.underlying106
abbrev ME := @Tryz.underlying139
abbrev MF := @Tryz.underlying140
abbrev yG := @Tryz.underlying153
abbrev MB := @Tryz.underlying169
theorem fH {k : IntKind} {a b : Int} (h : a = b) : Ending.returned (.int k a) = .returned (.int k b) := by rw [h]
theorem sI (n : BitVec 64) (b : Int) (w : World) :
  Calls Tryz.prog 156 #[.int .u64 (W64 n), .int .i64 b] w fun e w' => e = .returned (.int .u64 (W64 (low n b))) ∧ w = w' := by
 go_enter Tryz.func156, Tryz.ntmps156
 go_wp2
 · go_ret; exact ⟨fH (by unfold low; rw [if_pos (by assumption)]; rfl), rfl⟩
 · go_ret; exact ⟨fH (by unfold low; rw [if_neg (by omega), if_pos (by assumption)]), rfl⟩
 · go_ret; exact ⟨fH (by unfold low; rw [if_neg (by omega), if_neg (by omega)]), rfl⟩
theorem pO (x : BitVec 64) (k : Int) (w : World) :
  Calls Tryz.prog 157 #[.int .u64 (W64 x), .int .i64 k] w fun e w' => e = .returned (.int .u64 (W64 (pK x (k % 64).toNat))) ∧ w = w' := by
 have H := Lib.hid (GF x k)
 go_enter Tryz.func157, Tryz.ntmps157
 go_wp2
 go_ret
 exact ⟨fH (by rw [← H.out]), rfl⟩
theorem kR (x : BitVec 32) (k : Int) (w : World) :
  Calls Tryz.prog 158 #[.int .u32 (W32 x), .int .i64 k] w fun e w' => e = .returned (.int .u32 (W32 (qP x (k % 32).toNat))) ∧ w = w' := by
 have H := Lib.hid (F8 x k)
 go_enter Tryz.func158, Tryz.ntmps158
 go_wp2
 go_ret
 exact ⟨fH (by rw [← H.out]), rfl⟩
theorem zJ (k : BitVec 64) (i : Int) (h : BitVec 32) (w : World) :
  Calls Tryz.prog 133 #[.int .u64 (W64 k), .int .i64 i, .int .u32 (W32 h)] w fun e w' => e = .returned (.int .u32 (W32 (rnd k i h))) ∧ w = w' := by
 have hb := G7 i
 have ht := Lib.hid (JO i)
 go_enter Tryz.func133, Tryz.ntmps133
 go_wp2_with fail
 refine (pO _ _ _).mono ?_; rintro e w' ⟨rfl, rfl⟩
 rw [ht.out]
 go_wp2_with fail
 refine (sI _ _ _).mono ?_; rintro e w' ⟨rfl, rfl⟩
 go_wp2_with fail
 rw [KC]
 refine (kR _ _ _).mono ?_; rintro e w' ⟨rfl, rfl⟩
 go_wp2_with fail
 refine (kR _ _ _).mono ?_; rintro e w' ⟨rfl, rfl⟩
 go_wp2
 go_ret
 exact ⟨rfl, rfl⟩
theorem yS (x : BitVec 64) (w : World) :
  Calls Tryz.prog 132 #[.int .u64 (W64 x)] w fun e w' => e = .returned (.agg #[.int .u32 (W32 (hiW x)), .int .u32 (W32 (loW x))]) ∧ Below w.heap.size w w' := by
 go_enter Tryz.func132, Tryz.ntmps132
 go_wp2_with fail
 refine (sI _ _ _).mono ?_; rintro e w' ⟨rfl, rfl⟩
 go_wp2
 rw [KC]
 go_returns
 exact ⟨rfl, (Below.refl _ _).alloc (Nat.le_refl _) _⟩
theorem zP (l r : BitVec 32) (w : World) :
  Calls Tryz.prog 134 #[.agg #[.int .u32 (W32 l), .int .u32 (W32 r)]] w fun e w' => e = .returned (.int .u64 (W64 (kB l r))) ∧ Below w.heap.size w w' := by
 go_enter Tryz.func134, Tryz.ntmps134
 go_wp2
 go_ret
 exact ⟨fH rfl, (Below.refl _ _).alloc (Nat.le_refl _) _⟩
def LE (w : World) (B : Nat) (p : BitVec 32 × BitVec 32) : Prop :=
  w.cell? ⟨B, 0, none⟩ = some (.int .u32 (W32 p.1)) ∧ w.cell? ⟨B, 1, none⟩ = some (.int .u32 (W32 p.2)) ∧ w.frozen? ⟨B, 0, none⟩ = false ∧ w.frozen? ⟨B, 1, none⟩ = false
theorem mB (k x : BitVec 64) (w : World) :
  Calls Tryz.prog 102 #[.int .u64 (W64 k), .int .u64 (W64 x)] w fun e w' => e = .returned (.int .u64 (W64 (mix k x))) ∧ Below w.heap.size w w' := by
 go_enter Tryz.func102, Tryz.ntmps102
 go_wp2_with fail
 refine (yS _ _).mono ?_; rintro e w1 ⟨rfl, hb1⟩
 go_wp2
 go_loopw [9] (fun i wr => ∃ n : Nat, n ≤ 8 ∧ i = .int .i64 n ∧ Below w1.heap.size w1 wr ∧ LE wr w1.heap.size (fwd k (hiW x) (loW x) n)) (fun i _ => 8 - (intOf i).toNat)
 case atStart => 
  refine ⟨0, by omega, rfl, (Below.refl _ _).alloc (Nat.le_refl _) _, ?_, ?_, ?_, ?_⟩
  all_goals simp [go_sem, fwd]
 case round =>
  obtain ⟨n, hn, rfl, hb, h0, h1, f0, f1⟩ := hrel
  by_cases hlt : n < 8
  rotate_left
  ·
   obtain rfl : n = 8 := by omega
   go_wp2_with fail
   refine (zP _ _ _).mono ?_; rintro e w2 ⟨rfl, hb2⟩
   go_wp2
   go_ret
   exact ⟨rfl, hb1.trans ((hb.mono hb1.size).trans (hb2.mono (Nat.le_trans hb1.size hb.size)))⟩
  go_wp2
  refine wp_region_still_tail 11 (by kernel_rfl) (by kernel_rfl) ?_
  simp only [List.take_succ_cons, List.take_zero, List.drop_succ_cons, List.drop_zero]
  repeat still_step
  still_call ((zJ _ _ _ _).mono fun _ _ ⟨a, b⟩ => ⟨a, b.symm⟩)
  repeat still_step
  refine wpStill_nil ?_
  go_wp2
  go_roundw
  case rel => 
   refine ⟨n + 1, by omega, by go_num, (hb.drew.setCell (Nat.le_refl _) _).setCell (Nat.le_refl _) _, ?_, ?_, ?_, ?_⟩
   all_goals simp [go_sem, fwd, h0, h1, f0, f1]
  case measure => simp [intOf]; omega
theorem vA (x : BitVec 32) (n : Int) (w : World) (h0 : 0 ≤ n) (h1 : n ≤ 31) :
  Calls Tryz.prog 173 #[.int .u32 (W32 x), .int .i64 n] w fun e w' => e = .returned (.int .u32 (W32 (qP x n.toNat))) ∧ Below w.heap.size w w' := by
 obtain ⟨m, rfl⟩ := Int.eq_ofNat_of_zero_le h0
 go_enter Tryz.func173, Tryz.ntmps173
 go_wp2
 go_quiet (fail)
 go_wp2
 go_ret
 exact ⟨rfl, below_drewN (Below.refl _ _) _⟩
theorem GA (k : BitVec 64) (i : Int) (w : World) :
  Calls Tryz.prog 172 #[.int .u64 (W64 k), .int .i64 i] w fun e w' => e = .returned (.int .u32 (W32 (HP k i))) ∧ Below w.heap.size w w' := by
 have hb := G7 i
 obtain ⟨t, ht, ht2⟩ : ∃ t : Nat, ((i.tmod 64 + 64) * 11) % 64 = (t : Int) ∧ ((11 * i) % 64).toNat = t := ⟨((11 * i) % 64).toNat, by rw [FY]; omega, rfl⟩
 have hlt : t < 64 := by omega
 have hl := Lib.hid (AS (pK k t))
 have hz := Lib.hid (AS k)
 have H2 := Lib.hid ht2
 clear ht2
 go_enter Tryz.func172, Tryz.ntmps172
 by_cases h0 : 0 < t
 ·
  go_wp2
  go_quiet (fail)
  go_wp2
  go_ret
  exact ⟨fH (congrArg W32 (by unfold HP; rw [H2.out]; exact hl.out)), below_drewN (Below.refl _ _) _⟩
 obtain rfl : t = 0 := by omega
 go_wp2
 go_ret
 exact ⟨fH (congrArg W32 (by unfold HP; rw [H2.out, yZ]; exact hz.out)), Below.refl _ _⟩
theorem AU (k : BitVec 64) (i : Int) (h : BitVec 32) (w : World) :
  Calls Tryz.prog 166 #[.int .u64 (W64 k), .int .i64 i, .int .u32 (W32 h)] w fun e w' => e = .returned (.int .u32 (W32 (rnd k i h))) ∧ Below w.heap.size w w' := by
 go_enter Tryz.func166, Tryz.ntmps166
 go_wp2_with fail
 refine (GA _ _ _).mono ?_; rintro e w1 ⟨rfl, hb1⟩
 go_wp2_with fail
 refine (vA _ _ _ (by omega) (by omega)).mono ?_; rintro e w2 ⟨rfl, hb2⟩
 go_wp2_with fail
 refine (vA _ _ _ (by omega) (by omega)).mono ?_; rintro e w3 ⟨rfl, hb3⟩
 go_wp2
 go_ret
 exact ⟨rfl, hb1.trans ((hb2.mono hb1.size).trans (hb3.mono (Nat.le_trans hb1.size hb2.size)))⟩
theorem nX (k x : BitVec 64) (w : World) :
  Calls Tryz.prog 147 #[.int .u64 (W64 k), .int .u64 (W64 x)] w fun e w' => e = .returned (.int .u64 (W64 (mix k x))) ∧ Below w.heap.size w w' := by
 have h1 := KP x
 have h2 := AS x
 go_enter Tryz.func147, Tryz.ntmps147
 go_wp2
 clear h1 h2
 go_loopw [5, 6, 7] (fun l r i wr => ∃ n : Nat, n ≤ 8 ∧ i = .int .i64 n ∧ l = .int .u32 (W32 (fwd k (hiW x) (loW x) n).1) ∧ r = .int .u32 (W32 (fwd k (hiW x) (loW x) n).2) ∧ Below w.heap.size w wr) (fun _ _ i _ => 8 - (intOf i).toNat)
 case atStart => exact ⟨0, by omega, rfl, rfl, rfl, Below.refl _ _⟩
 case round =>
  obtain ⟨n, hn, rfl, rfl, rfl, hb⟩ := hrel
  by_cases hlt : n < 8
  ·
   go_wp2_with fail
   refine (AU _ _ _ _).mono ?_; rintro e w2 ⟨rfl, hb2⟩
   go_wp2
   go_roundw
   case rel => exact ⟨n + 1, by omega, by go_num, rfl, rfl, hb.trans (hb2.mono hb.size)⟩
   case measure => simp [intOf]; omega
  obtain rfl : n = 8 := by omega
  go_wp2
  go_ret
  exact ⟨fH (congrArg W64 (zO _ _)), hb⟩
theorem sB : (Tryz.prog.info? 5).map (fun i => (i.zero, i.size, i.bytes)) = some (some (.int .u8 0), 1, 1) := by kernel_rfl
abbrev dV := Option Addr × Nat × List (BitVec 8)
def vP (ps : List dV) : List Value := ps.map fun p => .slice p.1 p.2.2.length p.2.1
def iX (ps : List dV) (k : Nat) : List (BitVec 8) := (ps.take k).flatMap (·.2.2)
theorem yT (ps : List dV) (k : Nat) (h : k < ps.length) : iX ps (k + 1) = iX ps k ++ ps[k].2.2 := by
  unfold iX
  rw [List.take_succ_eq_append_getElem h, List.flatMap_append]
  simp
theorem AO (ps : List dV) : iX ps ps.length = ps.flatMap (·.2.2) := by unfold iX; rw [List.take_length]
theorem D6 (ps : List dV) (k : Nat) : (iX ps k).length ≤ (ps.flatMap (·.2.2)).length := by
  have h := List.take_append_drop k ps
  have : (ps.flatMap (·.2.2)).length = (iX ps k).length + ((ps.drop k).flatMap (·.2.2)).length := by
    conv => lhs; rw [← h, List.flatMap_append, List.length_append]
    rfl
  omega
def xD (w : World) (bs : List (BitVec 8)) (e : Ending) (w' : World) : Prop :=
  ∃ (A : Option Addr) (c : Nat), e = .returned (.slice A bs.length c) ∧ w'.ownsRow w.heap.size 5 1 (.slice A bs.length c) bs.length (cD bs) ∧ Below w.heap.size w w'
theorem zW (A : Option Addr) (c : Nat) (ps : List dV) (w : World) (hr : Rd w A (vP ps)) (hp : ∀ p ∈ ps, RdB w p.1 p.2.2) (hn : (ps.flatMap (·.2.2)).length ≤ 1048576) (hl : ps.length ≤ 1048576) :
  Calls Tryz.prog 136 #[.slice A ps.length c] w (xD w (ps.flatMap (·.2.2))) := by
 obtain ⟨i0, hi0, hz0, hz1, hz2⟩ := info_parts sB
 go_enter Tryz.func136, Tryz.ntmps136
 go_wp2
 go_loopw [3, 8] (fun v i wr => ∃ (k : Nat) (A' : Option Addr) (c' : Nat), k ≤ ps.length ∧ i = .int .i64 k ∧ v = .slice A' (iX ps k).length c' ∧ wr.ownsRow w.heap.size 5 1 (.slice A' (iX ps k).length c') (iX ps k).length (cD (iX ps k)) ∧ Below w.heap.size w wr)
  (fun _ i _ => ps.length - (intOf i).toNat)
 case atStart => exact ⟨0, none, 0, by omega, rfl, rfl, ⟨by simp [cD, iX], .inl ⟨by simp [iX], by simp [iX]⟩⟩, Below.refl _ _⟩
 case round =>
  obtain ⟨k, A', c', hk, rfl, rfl, hown, hb⟩ := hrel
  by_cases hlt : k < ps.length
  rotate_left
  ·
   obtain rfl : k = ps.length := by omega
   go_wp2
   go_ret
   rw [AO] at *
   exact ⟨A', c', rfl, hown, hb⟩
  have hle := D6 ps (k + 1)
  have hsu := yT ps k hlt
  rw [hsu, List.length_append] at hle
  obtain ⟨ad, rfl, hlt2, hcell⟩ := (hr.to hb) k (.slice ps[k].1 ps[k].2.2.length ps[k].2.1) (by simp [vP, hlt])
  have hpk := (hp ps[k] (List.getElem_mem hlt)).to hb
  have HS := Lib.hid hsu
  clear hsu
  generalize ps[k] = q at *
  obtain ⟨qa, qc, qb⟩ := q
  dsimp only at *
  go_wp2_with (at_builtin; refine hN _ rfl _ _ 153 rfl w.heap.size 5 i0 _ 1 1 yG hi0 hz0 hz1 hz2 rfl (by omega) _ _ _ rfl hown qa qb.length qc (cD qb) rfl hpk (by rw [dT]; omega) (mU _) (by simp only [maxLen]; omega) (by omega) hb.size ?_; intro A2 c2 w2 hown2 hb2 _)
  go_roundw
  case rel => 
   refine ⟨k + 1, A2, c2, by omega, by go_num, ?_, ?_, hb.trans hb2⟩
   · rw [HS.out, List.length_append]
   · rw [HS.out, List.length_append, jL]; exact hown2
  case measure => simp [intOf]; omega
abbrev Fld := Nat × BitVec 64
def kO (fs : List Fld) : List Value := fs.flatMap fun f => [.int .i64 (f.1 : Int), .int .u64 (W64 f.2)]
theorem uF (fs : List Fld) : (kO fs).length = fs.length * 2 := by
  induction fs with
  | nil => rfl
  | cons f fs ih => simp only [kO, List.flatMap_cons, List.length_append, List.length_cons, List.length_nil] at *; omega
theorem yF (fs : List Fld) (f : Fld) : kO (fs ++ [f]) = kO fs ++ [.int .i64 (f.1 : Int), .int .u64 (W64 f.2)] := by simp [kO]
theorem CD (fs : List Fld) : ∀ u ∈ kO fs, u.oneCell' = true := fun u hu => by
  obtain ⟨f, _, h⟩ := List.mem_flatMap.1 hu
  simp at h
  rcases h with rfl | rfl <;> rfl
theorem EX (fs : List Fld) (k : Nat) (h : k < fs.length) : (kO fs)[k * 2]? = some (.int .i64 (fs[k].1 : Int)) ∧ (kO fs)[k * 2 + 1]? = some (.int .u64 (W64 fs[k].2)) := by
  induction fs generalizing k with
  | nil => simp at h
  | cons f fs ih =>
    rcases k with _ | k
    · exact ⟨rfl, rfl⟩
    · have := ih k (by simpa using h)
      rw [show (k + 1) * 2 = k * 2 + 1 + 1 by omega]
      exact this
def LG (f : Fld) : Prop := 1 ≤ f.1 ∧ f.1 ≤ 8 ∧ (f.1 < 8 → f.2 >>> (8 * f.1) = 0#64)
def iN (fs : List Fld) (k : Nat) : List (BitVec 8) := (fs.take k).flatMap fun f => nS f.1 f.2
def F1 (fs : List Fld) : List (BitVec 8) := fs.flatMap fun f => nS f.1 f.2
theorem tM (fs : List Fld) (k : Nat) (h : k < fs.length) : iN fs (k + 1) = iN fs k ++ nS fs[k].1 fs[k].2 := by
  unfold iN
  rw [List.take_succ_eq_append_getElem h, List.flatMap_append]
  simp
theorem ET (fs : List Fld) : iN fs fs.length = F1 fs := by unfold iN F1; rw [List.take_length]
theorem GT (fs : List Fld) (hf : ∀ f ∈ fs, LG f) (k : Nat) : (iN fs k).length ≤ k * 8 := by
  induction k with
  | zero => simp [iN]
  | succ k ih =>
    by_cases h : k < fs.length
    · rw [tM fs k h, List.length_append, jQ]
      have := (hf fs[k] (List.getElem_mem h)).2.1
      omega
    · have : iN fs (k + 1) = iN fs k := by unfold iN; rw [List.take_of_length_le (by omega), List.take_of_length_le (by omega)]
      rw [this]; omega
def nU (fs : List Fld) (k j : Nat) (x : BitVec 64) : List (BitVec 8) := iN fs k ++ nS j x
theorem BN (fs : List Fld) (k : Nat) (x : BitVec 64) : nU fs k 0 x = iN fs k := by simp [nU, nS]
theorem AT (fs : List Fld) (k j : Nat) (x : BitVec 64) : nU fs k (j + 1) x = nU fs k j x ++ [(x >>> (8 * j)).setWidth 8] := by unfold nU; rw [vB, List.append_assoc]
theorem E9 (fs : List Fld) (k j : Nat) (x : BitVec 64) : (nU fs k j x).length = (iN fs k).length + j := by unfold nU; rw [List.length_append, jQ]
theorem wP (n : Int) (w : World) (h : 1 ≤ n ∧ n ≤ 8) :
  Calls Tryz.prog 171 #[.int .i64 n] w fun e w' => e = .returned (.bool true) ∧ w = w' := by
 have h1 : 1 ≤ n := h.1
 have h2 : n ≤ 8 := h.2
 have e1 : decide (1 ≤ n) = true := by simpa using h1
 have e2 : decide (n ≤ 8) = true := by simpa using h2
 go_enter Tryz.func171, Tryz.ntmps171
 go_wp2
 go_ret
 exact ⟨rfl, rfl⟩
def BE (w : World) (bs : List (BitVec 8)) (e : Ending) (w' : World) : Prop :=
  ∃ (A : Option Addr) (c : Nat), e = .returned (.tuple #[.slice A bs.length c, .int .i64 0]) ∧ w'.ownsRow w.heap.size 5 1 (.slice A bs.length c) bs.length (cD bs) ∧ Below w.heap.size w w'
theorem CE (A : Option Addr) (c : Nat) (fs : List Fld) (w : World) (hr : Rd w A (kO fs)) (hf : ∀ f ∈ fs, LG f) (hl : fs.length ≤ 65536) :
  Calls Tryz.prog 160 #[.slice A fs.length c] w (BE w (F1 fs)) := by
 obtain ⟨i0, hi0, hz0, hz1, hz2⟩ := info_parts sB
 go_enter Tryz.func160, Tryz.ntmps160
 go_wp2
 go_loopw [4, 10] (fun v i wr => ∃ (k : Nat) (A' : Option Addr) (c' : Nat), k ≤ fs.length ∧ i = .int .i64 k ∧ v = .slice A' (iN fs k).length c' ∧ wr.ownsRow w.heap.size 5 1 (.slice A' (iN fs k).length c') (iN fs k).length (cD (iN fs k)) ∧ Below w.heap.size w wr)
  (fun _ i _ => fs.length - (intOf i).toNat)
 case atStart => exact ⟨0, none, 0, by omega, rfl, rfl, ⟨by simp [cD, iN], .inl ⟨by simp [iN], by simp [iN]⟩⟩, Below.refl _ _⟩
 case round =>
  obtain ⟨k, A', c', hk, rfl, rfl, hown, hb⟩ := hrel
  by_cases hlt : k < fs.length
  rotate_left
  ·
   obtain rfl : k = fs.length := by omega
   go_wp2
   go_ret2
   rw [ET] at *
   exact ⟨A', c', rfl, hown, hb⟩
  obtain ⟨bk, off, rfl, hblt, hcell⟩ := (hr.to hb).open_ (by rw [uF]; omega)
  obtain ⟨hc0, hc1⟩ := EX fs k hlt
  have hd0 := hcell _ _ hc0
  have hd1 := hcell _ _ hc1
  rw [← Nat.add_assoc] at hd1
  have hfk := hf _ (List.getElem_mem hlt)
  have hle := GT fs hf k
  have hsu := Lib.hid (tM fs k hlt)
  clear hc0 hc1 hcell
  generalize fs[k] = q at *
  obtain ⟨sz, x⟩ := q
  obtain ⟨f1, f2, f3⟩ := hfk
  dsimp only at *
  have hz : (decide ((sz : Int) < 8) = true ∧ (W64 (x >>> (8 * sz)) != 0) = false) ∨ decide ((sz : Int) < 8) = false := by
   by_cases h8 : sz < 8
   · exact .inl ⟨by simp; omega, by rw [f3 h8]; rfl⟩
   · exact .inr (by simp; omega)
  clear f3
  obtain ⟨wo, rfl⟩ : ∃ wo : World, wo = wr := ⟨_, rfl⟩
  have hp0 := Lib.hid (BN fs k x)
  rcases hz with ⟨hq, hq'⟩ | hq
  all_goals
   go_wp2_with (go_at_call 171; refine (wP _ _ (by omega)).mono ?_; rintro e w' ⟨rfl, rfl⟩)
   go_loopw [4, 34] (fun v i wr => ∃ (j : Nat) (A2 : Option Addr) (c2 : Nat), j ≤ sz ∧ i = .int .i64 j ∧ v = .slice A2 (nU fs k j x).length c2 ∧ wr.ownsRow w.heap.size 5 1 (.slice A2 (nU fs k j x).length c2) (nU fs k j x).length (cD (nU fs k j x)) ∧ Below w.heap.size w wr ∧ Blk wr wo.heap.size 171 #[.int .i64 (sz : Int), .int .u64 (W64 x)])
    (fun _ i _ => sz - (intOf i).toNat)
   case atStart => exact ⟨0, A', c', by omega, rfl, by rw [hp0.out], by rw [hp0.out]; exact hown.alloc _, hb.alloc hb.size _, Blk.new _ _ _⟩
   case round =>
    obtain ⟨j, A2, c2, hj, rfl, rfl, hown2, hb2, hblk⟩ := hrel
    have hx0 : wr.cell? ⟨wo.heap.size, 0, none⟩ = some (.int .i64 (sz : Int)) := hblk.cell 0
    have hx1 : wr.cell? ⟨wo.heap.size, 1, none⟩ = some (.int .u64 (W64 x)) := hblk.cell 1
    have hns := Lib.hid (AT fs k j x)
    have hlen := Nat.le_of_eq (E9 fs k j x)
    by_cases hjl : j < sz
    ·
     go_wp2_with (at_builtin; refine hN _ rfl _ _ 153 rfl w.heap.size 5 i0 _ 1 1 yG hi0 hz0 hz1 hz2 rfl (by omega) _ _ _ rfl (hown2.alloc _) (some ⟨wr.heap.size, 0, none⟩) 1 1 [.int .u8 (W8 ((x >>> (8 * j)).setWidth 8))] rfl (Rd.new _ _ _) rfl (mU [(x >>> (8 * j)).setWidth 8]) (by simp only [maxLen]; omega) (by omega) (by have := hb2.size; simp; omega) ?_; intro A3 c3 w3 hown3 hb3 hg3)
     go_roundw
     case rel =>
      refine ⟨j + 1, A3, c3, by omega, by go_num, ?_, ?_, (hb2.alloc hb2.size _).trans hb3, (hblk.alloc _).own (hown2.alloc _) (by decide) hg3⟩
      · rw [hns.out, List.length_append]; rfl
      · rw [hns.out, List.length_append, jL]; exact hown3
     case measure => simp [intOf]; omega
    ·
     obtain rfl : j = sz := by omega
     go_wp2
     go_roundw
     case rel => exact ⟨k + 1, A2, c2, by omega, by go_num, by rw [hsu.out]; rfl, by rw [hsu.out]; exact hown2, hb2⟩
     case measure => simp [intOf]; omega
theorem K0 {w : World} {b off : Nat} {bs : List (BitVec 8)} (h : RdB w (some ⟨b, off, none⟩) bs) (hb : b < w.heap.size) (l : Nat) : RdB w (some ⟨b, off + l, none⟩) (bs.drop l) := fun j u hu => by
  unfold cD at hu
  rw [List.map_drop, List.getElem?_drop] at hu
  obtain ⟨ad, he, hlt, hc⟩ := h (l + j) u hu
  injection he with he
  subst he
  refine ⟨_, rfl, hb, ?_⟩
  have e : ((⟨b, off, none⟩ : Addr).add (l + j)) = (⟨b, off + l, none⟩ : Addr).add j := by
    unfold Addr.add
    by_cases h1 : l + j = 0 <;> by_cases h2 : j = 0 <;> simp [h1, h2] <;> omega
  rw [← e]
  exact hc
def K1 (w : World) (bs : List (BitVec 8)) (e : Ending) (w' : World) : Prop :=
  ∃ (A : Option Addr) (c : Nat), e = .returned (.slice A bs.length c) ∧ RdB w' A bs ∧ bs.length ≤ c ∧ Below w.heap.size w w'
theorem DK {w : World} {base : Nat} {e : TypeId} {size n c m : Nat} {A : Option Addr} {xs : List Value} (h : w.ownsRow base e size (.slice A m c) n xs) : n ≤ c ∧ n = m := by
  rcases h.2 with ⟨hv, rfl⟩ | ⟨g, cap, cur, hv, _, _, hc, _⟩
  · injection hv with h1 h2 h3
    exact ⟨by omega, by omega⟩
  · injection hv with h1 h2 h3
    exact ⟨by omega, by omega⟩
theorem xD.r {w : World} {bs : List (BitVec 8)} {e : Ending} {w' : World} (h : xD w bs e w') : K1 w bs e w' := by
  obtain ⟨A, c, rfl, ho, hb⟩ := h
  exact ⟨A, c, rfl, Rd.of_own ho, (DK ho).1, hb⟩
theorem xD.at_ {w : World} {bs : List (BitVec 8)} {e : Ending} {w' : World} {n : Nat} (h : xD w bs e w') (hn : bs.length = n) :
    ∃ (A : Option Addr) (c : Nat), e = .returned (.slice A n c) ∧ w'.ownsRow w.heap.size 5 1 (.slice A n c) n (cD bs) ∧ Below w.heap.size w w' := by
  subst hn
  exact h
theorem K1.at_ {w : World} {bs : List (BitVec 8)} {e : Ending} {w' : World} {n : Nat} (h : K1 w bs e w') (hn : bs.length = n) :
    ∃ (A : Option Addr) (c : Nat), e = .returned (.slice A n c) ∧ RdB w' A bs ∧ n ≤ c ∧ Below w.heap.size w w' := by
  subst hn
  exact h
def LM (w : World) (r : List (BitVec 8) × Int) (e : Ending) (w' : World) : Prop :=
  ∃ (A : Option Addr) (c : Nat), e = .returned (.tuple #[.slice A r.1.length c, .int .i64 r.2]) ∧ RdB w' A r.1 ∧ r.1.length ≤ c ∧ Below w.heap.size w w'
def MC (cs : Array Value) : Bool := cs.toList.all fun v => match v with | .int .u8 _ => false | _ => true
theorem RdB.upd {g : Nat} {w w' : World} {t : TypeId} {cs : Array Value} {A : Option Addr} {bs : List (BitVec 8)} (hr : RdB w A bs) (hG : Blk w g t cs) (hU : Upd g w w') (hc : MC cs = true) : RdB w' A bs := fun j u hu => by
  have hlen : 0 < (cD bs).length := by
    rcases h : cD bs with _ | ⟨x, xs⟩
    · rw [h] at hu; simp at hu
    · simp
  obtain ⟨b, off, rfl, hlt, hcell⟩ := Rd.open_ hr hlen
  have hu8 : ∃ x, u = .int .u8 x := by
    have := List.mem_of_getElem? hu
    simp only [cD, List.mem_map] at this
    obtain ⟨x, _, rfl⟩ := this
    exact ⟨_, rfl⟩
  have hne : b ≠ g := by
    rintro rfl
    have h1 := hcell j u hu
    rw [hG.cell] at h1
    obtain ⟨x, rfl⟩ := hu8
    have h2 : Value.int .u8 x ∈ cs.toList := by
      rw [← Array.getElem?_toList] at h1
      exact List.mem_of_getElem? h1
    have h3 := List.all_eq_true.1 hc _ h2
    simp at h3
  exact Upd.rd hU hr (fun ad he => by cases he; exact hne) j u hu
section
variable {P : Program} {ops : Array Oper} {Q : Exit → Act → World → Prop} {md : Region.Mode} {S0 S : World → Prop}
theorem mE (i j : Nat) {oi oj : Oper} {fuel : Nat} {listed : Array Bool} {a : Act} (hst : aO S) (hoi : ops.toList[i]? = some oi) (hoj : ops.toList[j]? = some oj)
    (h1 : ∀ w, S w → ∀ K : Act → World → Prop, bA (∀ (T : World → Prop) a' w', aO T → Below w.heap.size w w' → T w' → (aO (fun w => S w ∧ T w) → wpU P md ops Q fuel (fun w => S w ∧ T w) (fun w => S w ∧ T w) (listed.setIfInBounds i true) a') → K a' w') →
      if Region.wanted oi (yielded ops a.tmps) = true then Oper.wp P oi a w K Q else K (a.put oi.dst undef) w)
    (h2 : ∀ w, S w → ∀ K : Act → World → Prop, bA (∀ (T : World → Prop) a' w', aO T → Below w.heap.size w w' → T w' → (aO (fun w => S w ∧ T w) → wpU P md ops Q fuel (fun w => S w ∧ T w) (fun w => S w ∧ T w) (listed.setIfInBounds j true) a') → K a' w') →
      if Region.wanted oj (yielded ops a.tmps) = true then Oper.wp P oj a w K Q else K (a.put oj.dst undef) w)
    (hr : Region.ready md ops listed = [i, j] := by kernel_rfl) : wpU P md ops Q (fuel + 1) S S listed a := by
  have hs : ∀ T, aO T → aO fun w => S w ∧ T w := fun T hT w w' ⟨a, b⟩ hb => ⟨hst w w' a hb, hT w w' b hb⟩
  refine ⟨fun h0 => (by rw [hr] at h0; cases h0), fun k hk w hS => ?_⟩
  rw [hr] at hk
  rcases List.mem_cons.1 hk with rfl | hk
  · exact wpOp_step (by rw [← hoi, Array.getElem?_toList]) fun K' hK => h1 w hS K' fun T a' w' hT hb ht hn => hK a' w' ⟨_, _, fun _ h => h.1, hs T hT, fun _ h => h, ⟨hst _ _ hS hb, ht⟩, hn (hs T hT)⟩
  · obtain rfl : k = j := by simpa using hk
    exact wpOp_step (by rw [← hoj, Array.getElem?_toList]) fun K' hK => h2 w hS K' fun T a' w' hT hb ht hn => hK a' w' ⟨_, _, fun _ h => h.1, hs T hT, fun _ h => h, ⟨hst _ _ hS hb, ht⟩, hn (hs T hT)⟩
end
end
section
open Go.RowKit
section
variable {P : Program} {ops : Array Oper} {Q : Exit → Act → World → Prop} {md : Region.Mode} {S0 : World → Prop}
def LH (P : Program) (md : Region.Mode) (ops : Array Oper) (Q : Exit → Act → World → Prop) (n : Nat) (S : World → Prop) (listed : Array Bool) (a : Act) : Prop :=
  Region.seqB md ops (ops.size - n) n listed = true ∧ ∀ w, S w → wpList P ops Q (ops.toList.drop n) a w
def wpT (P : Program) (md : Region.Mode) (ops : Array Oper) (Q : Exit → Act → World → Prop) (n : Nat) : Nat → (World → Prop) → (World → Prop) → Array Bool → Act → Prop
  | 0, _, S, listed, a => LH P md ops Q n S listed a
  | fuel + 1, S0, S, listed, a => Region.ready md ops listed ≠ [] ∧
    ∀ i ∈ Region.ready md ops listed, i < n ∧ ∀ w, S w → wpOp P ops Q i (fun a' w' => ∃ S0' S' : World → Prop, (∀ w, S0' w → S0 w) ∧ aO S' ∧ (∀ w, S' w → S0' w) ∧ S' w' ∧ wpT P md ops Q n fuel S0' S' (listed.setIfInBounds i true) a') a w
theorem tB {n : Nat} (hn : n ≤ ops.size) : ∀ (fuel : Nat) (S0 S : World → Prop) (listed : Array Bool) (a : Act) (w : World), S w → wpT P md ops Q n fuel S0 S listed a → wpAny P md ops Q (fuel + (ops.size - n)) listed a w
  | 0, _, S, listed, a, w, hS, h => by
    rw [Nat.zero_add]
    have := wpAny_of_seq (md := md) (Q' := Q) (ops.toList.drop n) n listed a w (fun j => by simp [List.getElem?_drop]) (by simpa using h.1) (h.2 w hS)
    simpa using this
  | fuel + 1, _, _, _, _, w, hS, h => by
    rw [show fuel + 1 + (ops.size - n) = (fuel + (ops.size - n)) + 1 by omega]
    exact ⟨fun h0 => absurd h0 h.1, fun i hi => wpOp_mono (fun a' w' ⟨S0', S', _, _, _, hS', h'⟩ => tB hn fuel S0' S' _ a' w' hS' h') ((h.2 i hi).2 w hS)⟩
theorem DZ {n : Nat} {listed : Array Bool} (h : Region.seqB md ops (ops.size - n) n listed = true) : ∀ j ∈ Region.ready md ops listed, n ≤ j := seqB_ready h
theorem uT {n i : Nat} {oi : Oper} {v : Value} (hi : ops[i]? = some oi) (hsel : ∀ (j : Nat) (o : Oper) cs b, ops[j]? = some o → o.op ≠ .select cs b)
    (hs : Region.sinkB md ops n = true) (hc : Region.chainB md ops n = true) (hn : n < ops.size) (hin : i < n)
    (hQ : ∀ c a w, Q (.panic c) (a.put oi.dst v) w → Q (.panic c) a w) :
    ∀ (fuel : Nat) (S0 S : World → Prop) (listed : Array Bool) (a : Act), HeadInv md ops n listed →
      (∀ j oj, ops[j]? = some oj → j ≠ i → listed.getD j true = false → (∀ e ∈ oj.after, Region.binds md e = true → e.on ≠ i) → oi.apart ops oj = true) →
      i ∈ Region.ready md ops listed → fR P ops S0 oi v a → aO S → (∀ w, S w → S0 w) →
      wpT P md ops Q n fuel S0 S (listed.setIfInBounds i true) (a.put oi.dst v) → wpT P md ops Q n (fuel + 1) S0 S listed a := by
  intro fuel
  induction fuel with
  | zero =>
    intro S0 S listed a inv _ hr hy hst h0 H
    have hun := (mem_ready.1 hr).1
    refine ⟨fun h => (by rw [h] at hr; cases hr), fun j hj => ?_⟩
    have hjn : j < n := by
      rcases Nat.lt_or_ge j n with h | h
      · exact h
      · exact absurd hj (tail_waits hs hc hn inv _ i rfl hin hun j h)
    refine ⟨hjn, fun w hS => ?_⟩
    by_cases hji : j = i
    · subst hji; exact hy.wpOp hi (h0 w hS) fun w' hb => ⟨S0, S, fun _ h => h, hst, h0, hst w w' hS hb, H⟩
    · have := DZ H.1 j (ready_mono hj hji)
      omega
  | succ fuel ih =>
    intro S0 S listed a inv hfree hr hy hst h0 H
    have hun := (mem_ready.1 hr).1
    refine ⟨fun h => (by rw [h] at hr; cases hr), fun j hj => ?_⟩
    have hjn : j < n := by
      rcases Nat.lt_or_ge j n with h | h
      · exact h
      · exact absurd hj (tail_waits hs hc hn inv _ i rfl hin hun j h)
    refine ⟨hjn, fun w hS => ?_⟩
    by_cases hji : j = i
    · subst hji; exact hy.wpOp hi (h0 w hS) fun w' hb => ⟨S0, S, fun _ h => h, hst, h0, hst w w' hS hb, H⟩
    · have h1 := (H.2 j (ready_mono hj hji)).2 w hS
      obtain ⟨hjun, oj, hoj, hall⟩ := mem_ready.1 hj
      have hnot : ∀ e ∈ oj.after, Region.binds md e = true → e.on ≠ i := fun e he hb heq => by
        have h1 := hall e he hb
        rw [heq, getD_both hun] at h1
        cases h1
      have h2 := uN hoj (hfree j oj hoj hji hjun hnot) (fun cs b => hsel i oi cs b hi) (fun cs b => hsel j oj cs b hoj) hQ hy h1
      have hfree' : ∀ k ok, ops[k]? = some ok → k ≠ i → (listed.setIfInBounds j true).getD k true = false →
          (∀ e ∈ ok.after, Region.binds md e = true → e.on ≠ i) → oi.apart ops ok = true := fun k ok hk hki hun hno => by
        refine hfree k ok hk hki ?_ hno
        by_cases hjk : j = k
        · subst hjk; exact hjun
        · rw [getD_set_ne true hjk] at hun; exact hun
      refine wpOp_mono (fun a' w' ⟨hya, S0', S', hs0, hst', h0', hS', hW'⟩ => ⟨S0', S', hs0, hst', h0', hS', ih S0' S' (listed.setIfInBounds j true) a' (inv.set hj hjn) hfree' (ready_mono hr (Ne.symm hji)) (hya.weak hs0) hst' h0' ?_⟩) h2
      rw [Array.setIfInBounds_comm _ _ hji]
      exact hW'
structure pL (md : Region.Mode) (ops : Array Oper) (n : Nat) : Prop where
  nosel : Region.noSelect ops = true
  sink : Region.sinkB md ops n = true
  chain : Region.chainB md ops n = true
  lt : n < ops.size
def wpH (P : Program) (md : Region.Mode) (ops : Array Oper) (Q : Exit → Act → World → Prop) (n fuel : Nat) (S : World → Prop) (listed : Array Bool) (a : Act) : Prop :=
  HeadInv md ops n listed → wpT P md ops Q n fuel S S listed a
theorem cV {S : World → Prop} {n : Nat} (i : Nat) {oi : Oper} {v : Value} {fuel : Nat} {listed : Array Bool} {a : Act} (hR : pL md ops n) (hst : aO S) (hi : ops.toList[i]? = some oi)
    (hy : ∀ w, S w → ∀ K : Value → World → Prop, bA (∀ w', Below w.heap.size w w' → K v w') → lN P oi a w K)
    (h : wpH P md ops Q n fuel S (listed.setIfInBounds i true) (a.put oi.dst v))
    (hf : Region.free md ops listed i = true := by kernel_rfl) (hr : (Region.ready md ops listed).contains i = true := by kernel_rfl) (hin : decide (i < n) = true := by rfl)
    (hQ : ∀ c a w, Q (.panic c) (a.put oi.dst v) w → Q (.panic c) a w := by exact fun _ _ _ h => h) (hw : Region.wanted oi (yielded ops a.tmps) = true := by rfl) : wpH P md ops Q n (fuel + 1) S listed a := fun inv => by
  have hi' : ops[i]? = some oi := by rw [← hi, Array.getElem?_toList]
  have hr' : i ∈ Region.ready md ops listed := by simpa using hr
  exact uT hi' (Region.noSelect_spec hR.nosel) hR.sink hR.chain hR.lt (of_decide_eq_true hin) hQ fuel S S listed a inv (Region.free_spec hi' hf) hr' (.inl ⟨hw, fun w hS => hy w hS _ fun w' hb => ⟨rfl, hb⟩⟩) hst (fun _ h => h) (h (inv.set hr' (of_decide_eq_true hin)))
theorem yU {S : World → Prop} {n : Nat} (i : Nat) {oi : Oper} {fuel : Nat} {listed : Array Bool} {a : Act} (hR : pL md ops n) (hst : aO S) (hi : ops.toList[i]? = some oi)
    (h : wpH P md ops Q n fuel S (listed.setIfInBounds i true) (a.put oi.dst undef))
    (hf : Region.free md ops listed i = true := by kernel_rfl) (hr : (Region.ready md ops listed).contains i = true := by kernel_rfl) (hin : decide (i < n) = true := by rfl)
    (hQ : ∀ c a w, Q (.panic c) (a.put oi.dst undef) w → Q (.panic c) a w := by exact fun _ _ _ h => h) (hw : Region.wanted oi (yielded ops a.tmps) = false := by rfl) : wpH P md ops Q n (fuel + 1) S listed a := fun inv => by
  have hi' : ops[i]? = some oi := by rw [← hi, Array.getElem?_toList]
  have hr' : i ∈ Region.ready md ops listed := by simpa using hr
  exact uT hi' (Region.noSelect_spec hR.nosel) hR.sink hR.chain hR.lt (of_decide_eq_true hin) hQ fuel S S listed a inv (Region.free_spec hi' hf) hr' (.inr ⟨hw, rfl⟩) hst (fun _ h => h) (h (inv.set hr' (of_decide_eq_true hin)))
theorem JM {S : World → Prop} {n : Nat} (k : Nat) {o : Oper} {fuel : Nat} {listed : Array Bool} {a : Act} (hst : aO S) (ho : ops.toList[k]? = some o)
    (h : ∀ w, S w → ∀ K : Act → World → Prop, bA (∀ (T : World → Prop) a' w', aO T → Below w.heap.size w w' → T w' → (aO (fun w => S w ∧ T w) → wpH P md ops Q n fuel (fun w => S w ∧ T w) (listed.setIfInBounds k true) a') → K a' w') →
      if Region.wanted o (yielded ops a.tmps) = true then Oper.wp P o a w K Q else K (a.put o.dst undef) w)
    (hr : Region.ready md ops listed = [k] := by kernel_rfl) (hin : decide (k < n) = true := by rfl) : wpH P md ops Q n (fuel + 1) S listed a := fun inv => by
  refine ⟨fun h0 => (by rw [hr] at h0; cases h0), fun i hi => ?_⟩
  have hk : k ∈ Region.ready md ops listed := by rw [hr]; exact List.mem_singleton.2 rfl
  rw [hr] at hi
  obtain rfl : i = k := by simpa using hi
  refine ⟨of_decide_eq_true hin, fun w hS => ?_⟩
  exact wpOp_step (by rw [← ho, Array.getElem?_toList]) fun K' hK => h w hS K' fun T a' w' hT hb ht hn =>
    have hs : aO fun w => S w ∧ T w := fun w w' ⟨a, b⟩ hb => ⟨hst w w' a hb, hT w w' b hb⟩
    hK a' w' ⟨_, _, fun _ h => h.1, hs, fun _ h => h, ⟨hst _ _ hS hb, ht⟩, hn hs (inv.set hk (of_decide_eq_true hin))⟩
theorem gC {S : World → Prop} {n : Nat} {listed : Array Bool} {a : Act} (h : ∀ w, S w → wpList P ops Q (ops.toList.drop n) a w) (hr : Region.seqB md ops (ops.size - n) n listed = true := by kernel_rfl) : wpH P md ops Q n 0 S listed a := fun _ => ⟨hr, h⟩
theorem zV {id : Nat} {a : Act} {w : World} (S : World → Prop) (n : Nat) (hst : aO S) (hS : S w.drew) (hR : pL .any ops n)
    (h : wpH P .any ops Q n n S (Array.replicate ops.size false) a) (hm : P.follows .mixedOrders = true := by kernel_rfl) : (Code.region id ops true).wp P Q a w := by
  have hn : n ≤ ops.size := Nat.le_of_lt hR.lt
  have inv0 : HeadInv .any ops n (Array.replicate ops.size false) :=
    ⟨by simp, fun j oj _ hl => (by rw [getD_replicate_false] at hl; cases hl), fun t _ ht => getD_in (by simpa using ht) (getD_replicate_false _ _)⟩
  have := tB hn n S S _ a _ hS (h inv0)
  rw [show n + (ops.size - n) = ops.size by omega] at this
  exact wp_region_any hm this
end
section
variable {P : Program} {ops : Array Oper} {Q : Exit → Act → World → Prop} {a : Act} {w : World} {rest : List Oper} {dst : Option Tmp} {ty tt : TypeId} {x y : Operand} {pos : String} {after : Array Edge}
theorem bF {o : Oper} {cs : Array Value} (V : Nat → Value) (hg : o.guard = none) (hrun : (execOp a.eval o).run P w = .ok (.value (V w.heap.size)) (w.alloc (.cells cs ty)))
    (h : ∀ (g : Nat) (w' : World), Hid (w.heap.size = g) → w.heap.size ≤ g → Below w.heap.size w w' → Blk w' g ty cs → wpList P ops Q rest (a.put o.dst (V g)) w') : wpList P ops Q (o :: rest) a w := by
  refine wpList_plain hg fun K hK => ?_
  have := h w.heap.size _ (Lib.hid rfl) (Nat.le_refl _) ((Below.refl _ _).alloc (Nat.le_refl _) (.cells cs ty)) (Blk.new w ty cs)
  unfold Oper.wp
  rw [hrun]
  exact hK _ _ this
end
theorem aL {P : Program} {o : Oper} {a : Act} {w : World} {K : Value → World → Prop} {ty : TypeId} {x : Operand} {ad : Addr} {v : Value} (ho : o.op = .load ty x) (hx : a.eval x = .pointer (some ad)) (hl : (loadVar ty ad).run P w = .ok v w) (h : K v w) : lN P o a w K := by
  unfold lN execOp
  simp only [ho, hx, Instr.loadAt, Instr.sureAddr, Sem.run_bind, Sem.run_pure, Result.andThen_ok, hl]
  exact h
theorem aX {P : Program} {w : World} {g : Nat} {t ty : TypeId} {cs : Array Value} {d : TypeDesc} (hG : Blk w g t cs) (o : Nat) (vs : List Value) (hvs : (cs.toList.drop o).take vs.length = vs)
    (hu : P.underlying ty = some d) (hd : d.isRow = true) (hi : (P.info? ty).map (·.size) = some vs.length) : (loadVar ty ⟨g, o, none⟩).run P w = .ok (.agg vs.toArray) w :=
  run_loadVar_mid w g o ty vs d (vI hG o vs hvs) hu hd hi
theorem bI {P : Program} {ops : Array Oper} {rest : List Oper} {dst : Option Tmp} {ty tt : TypeId} {x : Operand} {pos : String} {after : Array Edge} {gd : Nat × Bool} {a : Act} {w : World} {Q : Exit → Act → World → Prop}
    {g : Nat} {t : TypeId} {cs : Array Value} {d : TypeDesc} (o : Nat) (vs : List Value) (hG : Blk w g t cs) (hx : a.eval x = .pointer (some ⟨g, o, none⟩)) (hvs : (cs.toList.drop o).take vs.length = vs)
    (hu : P.underlying ty = some d) (hd : d.isRow = true) (hi : (P.info? ty).map (·.size) = some vs.length) (hw : Region.wanted { dst := dst, op := .load ty x, type := tt, pos := pos, after := after, guard := some gd } (yielded ops a.tmps) = true)
    (h : wpList P ops Q rest (a.put dst (.agg vs.toArray)) w) : wpList P ops Q ({ dst := dst, op := .load ty x, type := tt, pos := pos, after := after, guard := some gd } :: rest) a w :=
  wpList_step fun K hK => by
    rw [if_pos hw]
    exact fG (aL rfl hx (aX hG o vs hvs hu hd hi) (hK _ _ h))
theorem eP {w : World} {b o : Nat} {cs : List Value} (h : w.rangeAt b o cs) (f : Nat) (vs : List Value) (hv : (cs.drop f).take vs.length = vs) : w.rangeAt b (o + f) vs := fun j v hj => by
  rw [Nat.add_assoc]
  refine h (f + j) v ?_
  rw [← hv, List.getElem?_take] at hj
  split at hj
  · rw [List.getElem?_drop] at hj
    exact hj
  · cases hj
theorem tL {P : Program} {ops : Array Oper} {rest : List Oper} {dst : Option Tmp} {ty tt : TypeId} {x : Operand} {pos : String} {after : Array Edge} {a : Act} {w : World} {Q : Exit → Act → World → Prop}
    {g o : Nat} {d : TypeDesc} (vs : List Value) (hc : w.rangeAt g o vs) (hx : a.eval x = .pointer (some ⟨g, o, none⟩)) (hu : P.underlying ty = some d) (hd : d.isRow = true) (hi : (P.info? ty).map (·.size) = some vs.length)
    (h : wpList P ops Q rest (a.put dst (.agg vs.toArray)) w) : wpList P ops Q ({ dst := dst, op := .load ty x, type := tt, pos := pos, after := after, guard := none } :: rest) a w :=
  wpList_load_mid rfl ty x rfl g o hx vs d hc hu hd hi h
def Rg (b o : Nat) (cs : List Value) (w : World) : Prop := b < w.heap.size ∧ w.rangeAt b o cs
theorem Rg.to {b o : Nat} {cs : List Value} {w w' : World} (h : Rg b o cs w) (hb : Below w.heap.size w w') : Rg b o cs w' :=
  ⟨Nat.lt_of_lt_of_le h.1 hb.size, fun j v hj => (hb.cell (p := ⟨b, o + j, none⟩) h.1).trans (h.2 j v hj)⟩
theorem FB (b o : Nat) (cs : List Value) : aO (Rg b o cs) := fun w w' h hb => h.to hb
theorem Rg.upd {b o g : Nat} {cs : List Value} {w w' : World} (h : Rg b o cs w) (hU : Upd g w w') (hne : b ≠ g) : Rg b o cs w' :=
  ⟨by rw [hU.size]; exact h.1, fun j v hj => (World.cell?_of_block (hU.block b hne)).trans (h.2 j v hj)⟩
theorem AA {P : Program} {fn : Func} {s u u2 : Tmp} {t : TypeId} {tmps : Array Value} {ad : Addr} {v : Value} {w : World} (h : fn.results = #[.cell s t, .tmp u, .tmp u2]) (hs : tmps.getD s undef = .pointer (some ad)) (hl : (loadVar t ad).run P w = .ok v w) :
    (results fn tmps).run P w = .ok (.tuple #[v, tmps.getD u undef, tmps.getD u2 undef]) w := by
  have hs' : tmps[s]?.getD undef = .pointer (some ad) := by simpa using hs
  simp [results, h, hs', hl, asAddr]
theorem bnt {e : Bool} (h : e = false) : ¬ e = true := by rw [h]; decide
theorem bnf {e : Bool} (h : e = true) : ¬ e = false := by rw [h]; decide
theorem fT {a b : Int} (h : a = b) : (a == b) = true ∧ (a != b) = false ∧ Hid (a = b) := ⟨by simpa using h, by simpa using h, h⟩
theorem fF {a b : Int} (h : ¬ a = b) : (a == b) = false ∧ (a != b) = true ∧ Hid (¬ a = b) := ⟨by simpa using h, by simpa using h, h⟩
theorem gT {x y : BitVec 64} (h : x = y) : (W64 x == W64 y) = true ∧ (W64 x != W64 y) = false ∧ Hid (x = y) := ⟨by rw [cG]; simpa using h, by rw [cM]; simpa using h, h⟩
theorem gF {x y : BitVec 64} (h : ¬ x = y) : (W64 x == W64 y) = false ∧ (W64 x != W64 y) = true ∧ Hid (¬ x = y) := ⟨by rw [cG]; simpa using h, by rw [cM]; simpa using h, h⟩
theorem lT {a b : Int} (h : a < b) : a < b ∧ decide (a < b) = true ∧ decide (b ≤ a) = false ∧ Hid (a < b) := ⟨h, decide_eq_true h, decide_eq_false (Int.not_le.2 h), h⟩
theorem lF {a b : Int} (h : ¬ a < b) : b ≤ a ∧ decide (a < b) = false ∧ decide (b ≤ a) = true ∧ Hid (¬ a < b) := ⟨Int.not_lt.1 h, decide_eq_false h, decide_eq_true (Int.not_lt.1 h), h⟩
theorem nrm : (∀ (t : Array Value) (r : List Deferred) (d : Tmp) (v : Value), Act.put ⟨t, r⟩ (some d) v = ⟨t.setIfInBounds d v, r⟩) ∧ (∀ (a : Act) (v : Value), Act.put a none v = a) ∧
    (∀ (l : List Value) (i : Nat) (v : Value), l.toArray.setIfInBounds i v = (l.set i v).toArray) ∧ (∀ (x v : Value) (l : List Value), (x :: l).set 0 v = v :: l) ∧ (∀ (x v : Value) (l : List Value) (i : Nat), (x :: l).set (i + 1) v = x :: l.set i v) :=
  ⟨fun _ _ _ _ => rfl, fun _ _ => rfl, fun l i v => by simp, fun _ _ _ => rfl, fun _ _ _ _ => rfl⟩
def qQ (k : Nat) (o : Oper) : Bool := match o.op, o.guard with
  | .store .., none => true
  | .box .., none => true
  | .alloc .., none => true
  | .buildSlice .., none => true
  | .makeMap _ none, none => k == 1
  | .insert .., none => k == 1
  | .lookup _ _ _ true, none => k == 1
  | .call c, none => match c.callee with
    | .builtin .append => k == 2
    | _ => false
  | .build .., none => k == 3
  | .slice _ _ (some _) none none, none => k == 4
  | _, _ => false
section
variable {P : Program} {ops : Array Oper} {Q : Exit → Act → World → Prop} {md : Region.Mode} {S0 : World → Prop}
theorem so {a : Act} {w : World} {o : Oper} {rest : List Oper} (h : bA (wpList P ops Q (o :: rest) a w)) (hs : qQ 0 o = true := by with_unfolding_all rfl) : wpList P ops Q (o :: rest) a w := h
theorem sm {a : Act} {w : World} {o : Oper} {rest : List Oper} (h : bA (wpList P ops Q (o :: rest) a w)) (hs : qQ 1 o = true := by with_unfolding_all rfl) : wpList P ops Q (o :: rest) a w := h
theorem sa {a : Act} {w : World} {o : Oper} {rest : List Oper} (h : bA (wpList P ops Q (o :: rest) a w)) (hs : qQ 2 o = true := by with_unfolding_all rfl) : wpList P ops Q (o :: rest) a w := h
theorem sb {a : Act} {w : World} {o : Oper} {rest : List Oper} (h : bA (wpList P ops Q (o :: rest) a w)) (hs : qQ 3 o = true := by with_unfolding_all rfl) : wpList P ops Q (o :: rest) a w := h
theorem sc {a : Act} {w : World} {o : Oper} {rest : List Oper} (h : bA (wpList P ops Q (o :: rest) a w)) (hs : qQ 4 o = true := by with_unfolding_all rfl) : wpList P ops Q (o :: rest) a w := h
theorem sv {rest : List Oper} {dst : Option Tmp} {ty tt : TypeId} {x y : Operand} {pos : String} {after : Array Edge} {a : Act} {w : World} {g : Nat} {t : TypeId} {cs : Array Value} (vs : Array Value) (hG : Blk w g t cs)
    (h : ∀ w', Blk w' g t vs → Upd g w w' → wpList P ops Q rest (a.put dst undef) w') (hx : a.eval x = .pointer (some ⟨g, 0, none⟩) := by rfl) (hy : a.eval y = .agg vs := by rfl)
    (hi : (P.info? ty).map (·.size) = some vs.size := by kernel_rfl) (h1 : vs.toList.all (·.oneCell') = true := by rfl) (hn : 0 + vs.size ≤ cs.size := by exact of_decide_eq_true rfl) (he : jR cs 0 vs.toList = vs := by kernel_rfl) : wpList P ops Q ({ dst := dst, op := .store ty x y, type := tt, pos := pos, after := after, guard := none } :: rest) a w :=
  lW 0 vs vs hG hx hy hi h1 hn he h
theorem sw {rest : List Oper} {dst : Option Tmp} {ty tt : TypeId} {x y : Operand} {pos : String} {after : Array Edge} {a : Act} {w : World} {g : Nat} {t : TypeId} {cs : Array Value} (o : Nat) (vs cs' : Array Value) (hG : Blk w g t cs)
    (h : ∀ w', Blk w' g t cs' → Upd g w w' → wpList P ops Q rest (a.put dst undef) w') (hx : a.eval x = .pointer (some ⟨g, o, none⟩) := by rfl) (hy : a.eval y = .agg vs := by rfl)
    (hi : (P.info? ty).map (·.size) = some vs.size := by kernel_rfl) (h1 : vs.toList.all (·.oneCell') = true := by rfl) (hn : o + vs.size ≤ cs.size := by exact of_decide_eq_true rfl) (he : jR cs o vs.toList = cs' := by kernel_rfl) : wpList P ops Q ({ dst := dst, op := .store ty x y, type := tt, pos := pos, after := after, guard := none } :: rest) a w :=
  lW o vs cs' hG hx hy hi h1 hn he h
theorem sx {rest : List Oper} {dst : Option Tmp} {ty tt : TypeId} {x y : Operand} {pos : String} {after : Array Edge} {a : Act} {w : World} {g : Nat} {t : TypeId} {cs : Array Value} (o : Nat) (v : Value) (cs' : Array Value) (hG : Blk w g t cs)
    (h : ∀ w', Blk w' g t cs' → Upd g w w' → wpList P ops Q rest (a.put dst undef) w') (hx : a.eval x = .pointer (some ⟨g, o, none⟩) := by rfl) (hy : a.eval y = v := by rfl)
    (hc : v.cells = #[v] := by rfl) (hi : (P.info? ty).map (·.size) = some 1 := by kernel_rfl) (h1 : v.oneCell' = true := by rfl) (hn : o < cs.size := by exact of_decide_eq_true rfl) (he : cs.setIfInBounds o v = cs' := by kernel_rfl) : wpList P ops Q ({ dst := dst, op := .store ty x y, type := tt, pos := pos, after := after, guard := none } :: rest) a w :=
  gZ o v cs' hG hx hy hc hi h1 hn he h
theorem ld {rest : List Oper} {dst : Option Tmp} {ty tt : TypeId} {x : Operand} {pos : String} {after : Array Edge} {a : Act} {w : World} {g : Nat} {t : TypeId} {cs : Array Value} {d : TypeDesc} (o : Nat) (vs : List Value) (hG : Blk w g t cs)
    (hu : P.underlying ty = some d) (h : wpList P ops Q rest (a.put dst (.agg vs.toArray)) w) (hx : a.eval x = .pointer (some ⟨g, o, none⟩) := by with_unfolding_all rfl) (hvs : (cs.toList.drop o).take vs.length = vs := by with_unfolding_all rfl)
    (hd : d.isRow = true := by with_unfolding_all rfl) (hi : (P.info? ty).map (·.size) = some vs.length := by kernel_rfl) : wpList P ops Q ({ dst := dst, op := .load ty x, type := tt, pos := pos, after := after, guard := none } :: rest) a w :=
  vE o vs hG hx hvs hu hd hi h
theorem dA {S : World → Prop} (i o : Nat) (vs : List Value) {g : Nat} {t ty tt : TypeId} {cs : Array Value} {d : TypeDesc} {dst : Option Tmp} {x : Operand} {pos : String} {after : Array Edge} {gd : Option (Nat × Bool)} {fuel : Nat} {listed : Array Bool} {a a' : Act} (hG : ∀ W, S0 W → Blk W g t cs) (hu : P.underlying ty = some d) (hst : aO S)
    (h : wpU P md ops Q fuel S0 S (listed.setIfInBounds i true) a')
    (hi : ops.toList[i]? = some { dst := dst, op := .load ty x, type := tt, pos := pos, after := after, guard := gd } := by rfl)
    (h0 : ∀ w, S w → S0 w := by first | exact fun _ h => h | exact fun _ h => h.1 | exact fun _ h => h.1.1 | exact fun _ h => h.1.1.1 | exact fun _ h => h.1.1.1.1)
    (hx : a.eval x = .pointer (some ⟨g, o, none⟩) := by rfl) (hvs : (cs.toList.drop o).take vs.length = vs := by rfl) (hd : d.isRow = true := by rfl) (hz : (P.info? ty).map (·.size) = some vs.length := by kernel_rfl)
    (ha : a.put dst (.agg vs.toArray) = a' := by ((try simp only [nrm]); exact rfl))
    (hs : Region.noSelect ops = true := by kernel_rfl) (hf : Region.free md ops listed i = true := by kernel_rfl) (hr : (Region.ready md ops listed).contains i = true := by kernel_rfl)
    (hQ : ∀ c a w, Q (.panic c) (a.put dst (.agg vs.toArray)) w → Q (.panic c) a w := by exact fun _ _ _ h => h) (hw : Region.wanted { dst := dst, op := .load ty x, type := tt, pos := pos, after := after, guard := gd } (yielded ops a.tmps) = true := by rfl) : wpU P md ops Q (fuel + 1) S0 S listed a :=
  bH (v := .agg vs.toArray) i hst h0 hi (fun W hS K hK => aL rfl hx (aX (hG W hS) o vs hvs hu hd hz) (hK.out _ (Below.refl _ _))) (by rw [ha]; exact h) hs hf hr hQ hw
theorem Blk.c {w : World} {g : Nat} {t : TypeId} {cs : Array Value} (h : Blk w g t cs) (j : Nat) (v : Value) (he : cs[j]? = some v := by rfl) : w.cell? ⟨g, j, none⟩ = some v := (h.cell j).trans he
theorem aA {S : World → Prop} (i : Nat) {oi : Oper} {v : Value} {fuel : Nat} {listed : Array Bool} {a a' : Act} (hst : aO S)
    (h : wpU P md ops Q fuel S0 S (listed.setIfInBounds i true) a')
    (hi : ops.toList[i]? = some oi := by rfl)
    (h0 : ∀ w, S w → S0 w := by first | exact fun _ h => h | exact fun _ h => h.1 | exact fun _ h => h.1.1 | exact fun _ h => h.1.1.1 | exact fun _ h => h.1.1.1.1)
    (hy : ∀ w, S0 w → ∀ K : Value → World → Prop, bA (∀ w', Below w.heap.size w w' → K v w') → lN P oi a w K := by (intro W hS K hK; clear hS; go_simp; exact hK.out _ (Below.refl _ _)))
    (ha : a.put oi.dst v = a' := by ((try simp only [nrm]); exact rfl))
    (hs : Region.noSelect ops = true := by kernel_rfl) (hf : Region.free md ops listed i = true := by kernel_rfl) (hr : (Region.ready md ops listed).contains i = true := by kernel_rfl)
    (hQ : ∀ c a w, Q (.panic c) (a.put oi.dst v) w → Q (.panic c) a w := by exact fun _ _ _ h => h) (hw : Region.wanted oi (yielded ops a.tmps) = true := by rfl) : wpU P md ops Q (fuel + 1) S0 S listed a :=
  bH (v := v) i hst h0 hi hy (by rw [ha]; exact h) hs hf hr hQ hw
theorem bT {S : World → Prop} {n : Nat} (i : Nat) {oi : Oper} {v : Value} {fuel : Nat} {listed : Array Bool} {a a' : Act} (hR : pL md ops n) (hst : aO S)
    (h : wpH P md ops Q n fuel S (listed.setIfInBounds i true) a')
    (hi : ops.toList[i]? = some oi := by rfl)
    (hy : ∀ w, S w → ∀ K : Value → World → Prop, bA (∀ w', Below w.heap.size w w' → K v w') → lN P oi a w K := by (intro W hS K hK; clear hS; go_simp; exact hK.out _ (Below.refl _ _)))
    (ha : a.put oi.dst v = a' := by ((try simp only [nrm]); exact rfl))
    (hf : Region.free md ops listed i = true := by kernel_rfl) (hr : (Region.ready md ops listed).contains i = true := by kernel_rfl) (hin : decide (i < n) = true := by rfl)
    (hQ : ∀ c a w, Q (.panic c) (a.put oi.dst v) w → Q (.panic c) a w := by exact fun _ _ _ h => h) (hw : Region.wanted oi (yielded ops a.tmps) = true := by rfl) : wpH P md ops Q n (fuel + 1) S listed a :=
  cV (v := v) i hR hst hi hy (by rw [ha]; exact h) hf hr hin hQ hw
theorem bS {S : World → Prop} (i : Nat) (v : Value) {oi : Oper} {fuel : Nat} {listed : Array Bool} {a a' : Act} {ad : Addr} (hst : aO S) (hc : ∀ W, S0 W → W.cell? ad = some v)
    (h : wpU P md ops Q fuel S0 S (listed.setIfInBounds i true) a')
    (hi : ops.toList[i]? = some oi := by rfl)
    (h0 : ∀ w, S w → S0 w := by first | exact fun _ h => h | exact fun _ h => h.1 | exact fun _ h => h.1.1 | exact fun _ h => h.1.1.1 | exact fun _ h => h.1.1.1.1)
    (hy : ∀ w, S0 w → w.cell? ad = some v → ∀ K : Value → World → Prop, bA (∀ w', Below w.heap.size w w' → K v w') → lN P oi a w K := by (intro W hS ld K hK; clear hS; go_simp; exact hK.out _ (Below.refl _ _)))
    (ha : a.put oi.dst v = a' := by ((try simp only [nrm]); exact rfl))
    (hs : Region.noSelect ops = true := by kernel_rfl) (hf : Region.free md ops listed i = true := by kernel_rfl) (hr : (Region.ready md ops listed).contains i = true := by kernel_rfl)
    (hQ : ∀ c a w, Q (.panic c) (a.put oi.dst v) w → Q (.panic c) a w := by exact fun _ _ _ h => h) (hw : Region.wanted oi (yielded ops a.tmps) = true := by rfl) : wpU P md ops Q (fuel + 1) S0 S listed a :=
  bH (v := v) i hst h0 hi (fun w hS K hK => hy w hS (hc w hS) K hK) (by rw [ha]; exact h) hs hf hr hQ hw
theorem aG {S : World → Prop} (i : Nat) {oi : Oper} {fuel : Nat} {listed : Array Bool} {a a' : Act} (hst : aO S)
    (h : wpU P md ops Q fuel S0 S (listed.setIfInBounds i true) a')
    (hi : ops.toList[i]? = some oi := by rfl)
    (h0 : ∀ w, S w → S0 w := by first | exact fun _ h => h | exact fun _ h => h.1 | exact fun _ h => h.1.1 | exact fun _ h => h.1.1.1 | exact fun _ h => h.1.1.1.1)
    (ha : a.put oi.dst undef = a' := by ((try simp only [nrm]); exact rfl))
    (hs : Region.noSelect ops = true := by kernel_rfl) (hf : Region.free md ops listed i = true := by kernel_rfl) (hr : (Region.ready md ops listed).contains i = true := by kernel_rfl)
    (hQ : ∀ c a w, Q (.panic c) (a.put oi.dst undef) w → Q (.panic c) a w := by exact fun _ _ _ h => h) (hw : Region.wanted oi (yielded ops a.tmps) = false := by rfl) : wpU P md ops Q (fuel + 1) S0 S listed a :=
  FQ i hst h0 hi (by rw [ha]; exact h) hs hf hr hQ hw
end
section
variable {P : Program} {ops : Array Oper} {Q : Exit → Act → World → Prop} {md : Region.Mode} {S0 : World → Prop} {rest : List Oper} {dst : Option Tmp} {ty tt : TypeId} {x y : Operand} {pos : String} {after : Array Edge} {a : Act} {w W : World} {g : Nat} {t : TypeId} {cs vs : Array Value} {M : World → Prop}
theorem yv (hG : Blk W g t cs) (f : ∀ {w'}, Upd g W w' → Blk w' g t vs → M w') (k : ∀ w', M w' → wpList P ops Q rest (a.put dst undef) w') (hx : a.eval x = .pointer (some ⟨g, 0, none⟩) := by rfl) (hy : a.eval y = .agg vs := by rfl)
    (hi : (P.info? ty).map (·.size) = some vs.size := by kernel_rfl) (h1 : vs.toList.all (·.oneCell') = true := by rfl) (hn : 0 + vs.size ≤ cs.size := by exact of_decide_eq_true rfl) (he : jR cs 0 vs.toList = vs := by kernel_rfl) : wpList P ops Q ({ dst := dst, op := .store ty x y, type := tt, pos := pos, after := after, guard := none } :: rest) a W :=
  lW 0 vs vs hG hx hy hi h1 hn he fun w' hG hU => k w' (f hU hG)
theorem yp (o : Nat) (cs' : Array Value) (hG : Blk W g t cs) (f : ∀ {w'}, Upd g W w' → Blk w' g t cs' → M w') (k : ∀ w', M w' → wpList P ops Q rest (a.put dst undef) w') (hx : a.eval x = .pointer (some ⟨g, o, none⟩) := by rfl) (hy : a.eval y = .agg vs := by rfl)
    (hi : (P.info? ty).map (·.size) = some vs.size := by kernel_rfl) (h1 : vs.toList.all (·.oneCell') = true := by rfl) (hn : o + vs.size ≤ cs.size := by exact of_decide_eq_true rfl) (he : jR cs o vs.toList = cs' := by kernel_rfl) : wpList P ops Q ({ dst := dst, op := .store ty x y, type := tt, pos := pos, after := after, guard := none } :: rest) a W :=
  lW o vs cs' hG hx hy hi h1 hn he fun w' hG hU => k w' (f hU hG)
theorem yk {v : Value} (o : Nat) (cs' : Array Value) (hG : Blk W g t cs) (f : ∀ {w'}, Upd g W w' → Blk w' g t cs' → M w') (k : ∀ w', M w' → wpList P ops Q rest (a.put dst undef) w') (hx : a.eval x = .pointer (some ⟨g, o, none⟩) := by rfl) (hy : a.eval y = v := by rfl)
    (hc : v.cells = #[v] := by rfl) (hi : (P.info? ty).map (·.size) = some 1 := by kernel_rfl) (h1 : v.oneCell' = true := by rfl) (hn : o < cs.size := by exact of_decide_eq_true rfl) (he : cs.setIfInBounds o v = cs' := by kernel_rfl) : wpList P ops Q ({ dst := dst, op := .store ty x y, type := tt, pos := pos, after := after, guard := none } :: rest) a W :=
  gZ o v cs' hG hx hy hc hi h1 hn he fun w' hG hU => k w' (f hU hG)
theorem lw {d : TypeDesc} (hG : Blk W g t cs) (hu : P.underlying ty = some d) (h : wpList P ops Q rest (a.put dst (.agg cs)) W) (hx : a.eval x = .pointer (some ⟨g, 0, none⟩) := by with_unfolding_all rfl)
    (hd : d.isRow = true := by with_unfolding_all rfl) (hi : (P.info? ty).map (·.size) = some cs.toList.length := by kernel_rfl) : wpList P ops Q ({ dst := dst, op := .load ty x, type := tt, pos := pos, after := after, guard := none } :: rest) a W :=
  vE 0 cs.toList hG hx (by rw [List.drop_zero]; exact List.take_of_length_le (Nat.le_refl _)) hu hd hi (by rw [Array.toArray_toList]; exact h)
theorem cl {f : FuncId} {args : Array Value} {v : Value} {K : Value → World → Prop} (h : Calls P f args W fun e w' => e = .returned v ∧ Below W.heap.size W w') (hK : bA (∀ w', Below W.heap.size W w' → K v w')) : Calls P f args W (fI K) := h.mono fun e w' ⟨he, hb⟩ => ⟨v, he, hK.out w' hb⟩
theorem hk {v : Value} {K : Value → World → Prop} (h : bA (∀ w', Below W.heap.size W w' → K v w')) : K v W := h.out _ (Below.refl _ _)
theorem aF {S : World → Prop} (i : Nat) {oi : Oper} {v : Value} {fuel : Nat} {listed : Array Bool} {a' : Act} (hi : ops.toList[i]? = some oi) (hst : aO S)
    (hy : ∀ w, S0 w → ∀ K : Value → World → Prop, bA (∀ w', Below w.heap.size w w' → K v w') → lN P oi a w K)
    (h : wpU P md ops Q fuel S0 S (listed.setIfInBounds i true) a')
    (h0 : ∀ w, S w → S0 w := by first | exact fun _ h => h | exact fun _ h => h.1 | exact fun _ h => h.1.1 | exact fun _ h => h.1.1.1 | exact fun _ h => h.1.1.1.1)
    (ha : a.put oi.dst v = a' := by ((try simp only [nrm]); exact rfl))
    (hs : Region.noSelect ops = true := by kernel_rfl) (hf : Region.free md ops listed i = true := by kernel_rfl) (hr : (Region.ready md ops listed).contains i = true := by kernel_rfl)
    (hQ : ∀ c a w, Q (.panic c) (a.put oi.dst v) w → Q (.panic c) a w := by exact fun _ _ _ h => h) (hw : Region.wanted oi (yielded ops a.tmps) = true := by rfl) : wpU P md ops Q (fuel + 1) S0 S listed a :=
  bH (v := v) i hst h0 hi hy (by rw [ha]; exact h) hs hf hr hQ hw
theorem eB {S : World → Prop} {n : Nat} (i : Nat) {oi : Oper} {v : Value} {fuel : Nat} {listed : Array Bool} {a' : Act} (hi : ops.toList[i]? = some oi) (hR : pL md ops n) (hst : aO S)
    (hy : ∀ w, S w → ∀ K : Value → World → Prop, bA (∀ w', Below w.heap.size w w' → K v w') → lN P oi a w K)
    (h : wpH P md ops Q n fuel S (listed.setIfInBounds i true) a')
    (ha : a.put oi.dst v = a' := by ((try simp only [nrm]); exact rfl))
    (hf : Region.free md ops listed i = true := by kernel_rfl) (hr : (Region.ready md ops listed).contains i = true := by kernel_rfl) (hin : decide (i < n) = true := by rfl)
    (hQ : ∀ c a w, Q (.panic c) (a.put oi.dst v) w → Q (.panic c) a w := by exact fun _ _ _ h => h) (hw : Region.wanted oi (yielded ops a.tmps) = true := by rfl) : wpH P md ops Q n (fuel + 1) S listed a :=
  cV (v := v) i hR hst hi hy (by rw [ha]; exact h) hf hr hin hQ hw
end
section
variable {P : Program} {fn : Func} {R : Ending → World → Prop} {a : Act} {w : World} {g : Nat} {t ty : TypeId} {cs : Array Value} {d : TypeDesc} {s u u2 u3 : Tmp}
theorem rc1 (hG : Blk w g t cs) (hu : P.underlying ty = some d) (hR : R (.returned (.agg cs)) w) (h : fn.results = #[.cell s ty] := by rfl) (hs : a.tmps.getD s undef = .pointer (some ⟨g, 0, none⟩) := by rfl)
    (hd : (match d with | .struct _ | .array _ _ => true | _ => false) = true := by rfl) (hi : (P.info? ty).map (·.size) = some cs.size := by kernel_rfl) (hz : a.defers = [] := by rfl) : bodyPost P fn R .ret a w :=
  bodyPost_ret (wM h hs (fV hG hu hd hi)) hz hR
theorem rc2 (hG : Blk w g t cs) (hu : P.underlying ty = some d) (hR : R (.returned (.tuple #[.agg cs, a.tmps.getD u undef])) w) (h : fn.results = #[.cell s ty, .tmp u] := by rfl) (hs : a.tmps.getD s undef = .pointer (some ⟨g, 0, none⟩) := by rfl)
    (hd : (match d with | .struct _ | .array _ _ => true | _ => false) = true := by rfl) (hi : (P.info? ty).map (·.size) = some cs.size := by kernel_rfl) (hz : a.defers = [] := by rfl) : bodyPost P fn R .ret a w :=
  bodyPost_ret (BW h hs (fV hG hu hd hi)) hz hR
theorem rc3 (hG : Blk w g t cs) (hu : P.underlying ty = some d) (hR : R (.returned (.tuple #[.agg cs, a.tmps.getD u undef, a.tmps.getD u2 undef])) w) (h : fn.results = #[.cell s ty, .tmp u, .tmp u2] := by rfl) (hs : a.tmps.getD s undef = .pointer (some ⟨g, 0, none⟩) := by rfl)
    (hd : (match d with | .struct _ | .array _ _ => true | _ => false) = true := by rfl) (hi : (P.info? ty).map (·.size) = some cs.size := by kernel_rfl) (hz : a.defers = [] := by rfl) : bodyPost P fn R .ret a w :=
  bodyPost_ret (AA h hs (fV hG hu hd hi)) hz hR
end
theorem bt {P : Program} {f : FuncId} {args : Array Value} {W : World} {v : Value} {M N : World → Prop} {R : Ending → World → Prop} (t : ∀ {w'}, N w' → M w') (h : Calls P f args W fun e w' => e = .returned v ∧ N w') (k : ∀ w', M w' → R (.returned v) w') : Calls P f args W R :=
  h.mono fun e w' ⟨he, hn⟩ => he ▸ k w' (t hn)
theorem bB {n : Nat} {w W : World} (h : Below n w W) (hn : n = w.heap.size := by rfl) : aO fun W => Below n w W := by subst hn; exact aJ _ _ (Nat.le_refl _)
theorem bK {W : World} {g : Nat} {t : TypeId} {cs : Array Value} (h : Blk W g t cs) : aO fun W => Blk W g t cs := aW _ _ _
theorem bG {W : World} {b o : Nat} {cs : List Value} (h : Rg b o cs W) : aO fun W => Rg b o cs W := FB _ _ _
end
section
open Go.ChangeShapes Go.WideShapes Go.ChangeAt Go.RowKit
theorem GS (n : Int) (x : BitVec 64) (w : World) (h0 : 0 ≤ n) (h1 : n ≤ 64) :
  Calls Tryz.prog 167 #[.int .i64 n, .int .u64 (W64 x)] w (xD w (nS n.toNat x)) := by
 obtain ⟨sz, rfl⟩ := Int.eq_ofNat_of_zero_le h0
 rw [Int.toNat_natCast]
 obtain ⟨i0, hi0, hz0, hz1, hz2⟩ := info_parts sB
 go_enter Tryz.func167, Tryz.ntmps167
 go_wp2
 go_loopw [1, 5, 6] (fun y v i wr => ∃ (j : Nat) (A : Option Addr) (c : Nat), j ≤ sz ∧ i = .int .i64 j ∧ y = .int .u64 (W64 (x >>> (8 * j))) ∧ v = .slice A j c ∧ wr.ownsRow w.heap.size 5 1 (.slice A j c) j (cD (nS j x)) ∧ Below w.heap.size w wr)
  (fun _ _ i _ => sz - (intOf i).toNat)
 case atStart => exact ⟨0, _, _, by omega, rfl, by simp, rfl, World.ownsRow_lit w #[] 0 (Nat.le_refl _) (by simp only [maxLen]; omega) rfl, (Below.refl _ _).alloc (Nat.le_refl _) _⟩
 case round =>
  obtain ⟨j, A, c, hj, rfl, rfl, rfl, hown, hb⟩ := hrel
  have hns := Lib.hid (vB j x)
  have hsd := I5 x j
  have hbm := IH (x >>> (8 * j))
  by_cases hlt : j < sz
  ·
   go_wp2_with (at_builtin; refine hN _ rfl _ _ 153 rfl w.heap.size 5 i0 _ 1 1 yG hi0 hz0 hz1 hz2 rfl (by omega) _ _ _ rfl (hown.alloc _) (some ⟨wr.heap.size, 0, none⟩) 1 1 [.int .u8 (W8 ((x >>> (8 * j)).setWidth 8))] rfl (Rd.new _ _ _) rfl (mU [(x >>> (8 * j)).setWidth 8]) (by simp only [maxLen]; omega) (by omega) (by have := hb.size; simp; omega) ?_; intro A3 c3 w3 hown3 hb3 hg3)
   go_roundw
   case rel => exact ⟨j + 1, A3, c3, by omega, by go_num, rfl, rfl, by rw [hns.out, jL]; exact hown3, (hb.alloc hb.size _).trans hb3⟩
   case measure => simp [intOf]; omega
  obtain rfl : j = sz := by omega
  go_wp2
  go_ret
  have hl := jQ j x
  unfold xD
  rw [hl]
  exact ⟨A, c, rfl, hown, hb⟩
theorem CG (A : Option Addr) (c : Nat) (bs : List (BitVec 8)) (w : World) (hr : RdB w A bs) (hl : bs.length ≤ 1048576) :
  Calls Tryz.prog 174 #[.slice A bs.length c] w fun e w' => e = .returned (.int .u64 (W64 (kA bs))) ∧ w = w' := by
 go_enter Tryz.func174, Tryz.ntmps174
 go_wp2
 go_loop [3, 4] (fun x i => ∃ j : Nat, j ≤ bs.length ∧ i = .int .i64 ((j : Int) - 1) ∧ x = .int .u64 (W64 (oM bs j))) (fun _ i => (intOf i + 1).toNat)
 case atStart => exact ⟨bs.length, Nat.le_refl _, rfl, congrArg (Value.int .u64) (congrArg W64 (zF bs)).symm⟩
 case round =>
  obtain ⟨j, hj, rfl, rfl⟩ := hrel
  rcases j with _ | j
  ·
   go_wp2
   go_ret
   exact ⟨rfl, rfl⟩
  obtain ⟨b, off, rfl, hlt, hc⟩ := hr.open_ (by rw [dT]; omega)
  have hjl : j < bs.length := by omega
  have hcj := hc j (.int .u8 (W8 bs[j])) (by simp [cD, hjl])
  have hv := Lib.hid (vQ bs j hjl)
  have e1 : ((j + 1 : Nat) : Int) - 1 = (j : Int) := by omega
  rw [e1]
  clear e1 hc
  generalize bs[j] = y at *
  go_wp2
  go_round
  case rel => exact ⟨j, by omega, rfl, by rw [hv.out]⟩
  case measure => simp [intOf]
end
section
open Go.ChangeShapes Go.WideShapes Go.ChangeAt Go.RowKit Go.Shelf
attribute [local go_sem] Oper.semAt_some
theorem AD : (Tryz.prog.info? 171).map (fun i => (i.zero, i.size, i.bytes)) = some (some (.agg #[.int .i64 0, .int .u64 0]), 2, 16) := by kernel_rfl
def oY (xs : List (BitVec 64)) : List Fld := xs.map fun x => (8, x)
theorem BU (xs : List (BitVec 64)) : F1 (oY xs) = iC xs := by unfold F1 oY iC; rw [List.flatMap_map]
theorem BF (xs : List (BitVec 64)) (k : Nat) (h : k < xs.length) : oY (xs.take (k + 1)) = oY (xs.take k) ++ [(8, xs[k])] := by
  rw [List.take_succ_eq_append_getElem h]; unfold oY; rw [List.map_append]; rfl
theorem EJ (A : Option Addr) (c : Nat) (xs : List (BitVec 64)) (w : World) (hr : RdU w A xs) (hl : xs.length ≤ 65536) :
  Calls Tryz.prog 137 #[.slice A xs.length c] w (xD w (iC xs)) := by
 obtain ⟨i0, hi0, hz0, hz1, hz2⟩ := info_parts AD
 go_enter Tryz.func137, Tryz.ntmps137
 go_wp2
 go_loopw [3, 10] (fun v i wr => ∃ (k : Nat) (A' : Option Addr) (c' : Nat), k ≤ xs.length ∧ i = .int .i64 k ∧ v = .slice A' k c' ∧ wr.ownsRow w.heap.size 171 2 (.slice A' k c') k (kO (oY (xs.take k))) ∧ Below w.heap.size w wr)
  (fun _ i _ => xs.length - (intOf i).toNat)
 case atStart => exact ⟨0, none, 0, by omega, rfl, rfl, ⟨by simp [kO, oY], .inl ⟨rfl, rfl⟩⟩, Below.refl _ _⟩
 case round =>
  obtain ⟨k, A', c', hk, rfl, rfl, hown, hb⟩ := hrel
  by_cases hlt : k < xs.length
  ·
   obtain ⟨ad, rfl, hlt2, hcell⟩ := RdU.at_ (hr.to hb) k hlt
   have hns := Lib.hid (BF xs k hlt)
   generalize xs[k] = x at *
   go_wp2_with (at_builtin; refine hN _ rfl _ _ 169 rfl w.heap.size 171 i0 _ 2 16 MB hi0 hz0 hz1 hz2 rfl (by omega) _ _ _ rfl (hown.alloc _) (some ⟨wr.heap.size, 0, none⟩) 1 1 [.int .i64 8, .int .u64 (W64 x)] rfl (Rd.new _ _ _) rfl (CD [(8, x)]) (by simp only [maxLen]; omega) (by omega) (by have := hb.size; simp; omega) ?_; intro A3 c3 w3 hown3 hb3 hg3)
   go_roundw
   case rel => exact ⟨k + 1, A3, c3, by omega, by go_num, rfl, by rw [hns.out, yF]; exact hown3, (hb.alloc hb.size _).trans hb3⟩
   case measure => simp [intOf]; omega
  obtain rfl : k = xs.length := by omega
  rw [List.take_length] at hown
  have hlf : (oY xs).length = xs.length := by simp [oY]
  have hc := CE A' c' (oY xs) wr (Rd.of_own hown) (fun f hf => by
   obtain ⟨x, _, rfl⟩ := List.mem_map.1 hf
   exact ⟨by show 1 ≤ 8; omega, Nat.le_refl _, fun h => absurd h (by show ¬ 8 < 8; omega)⟩) (by omega)
  rw [hlf] at hc
  have HC := Lib.hid hc
  clear hc hlf
  go_wp2_with fail
  refine HC.out.mono ?_
  rw [BU]
  rintro e w2 ⟨A2, c2, rfl, hown2, hb2⟩
  go_wp2
  go_ret
  exact ⟨A2, c2, rfl, dH hown2 hb.size, hb.trans (hb2.mono hb.size)⟩
theorem mR (w : World) (v : Value) (t : TypeId) : (w.alloc (.cells #[v] t)).cell? ⟨w.heap.size, 0, none⟩ = some v ∧ (w.alloc (.cells #[v] t)).frozen? ⟨w.heap.size, 0, none⟩ = false :=
  ⟨(Blk.new w t #[v]).cell 0, (Blk.new w t #[v]).free 0⟩
theorem mD {w : World} {a : Addr} {v : Value} (o : Obj) (h : w.cell? a = some v) : (w.alloc o).cell? a = some v :=
  (World.cell?_of_block (Below.heap_alloc w o a.block (World.block_lt_of_cell? w a h))).trans h
theorem tK {w : World} {a : Addr} {v : Value} (o : Obj) (h : w.cell? a = some v) (hf : w.frozen? a = false) : (w.alloc o).frozen? a = false :=
  (World.frozen?_of_block (Below.heap_alloc w o a.block (World.block_lt_of_cell? w a h))).trans hf
def oZ (n B : Nat) (W W' : World) : Prop := ∀ p : Addr, p.block < n ∨ p.block = B → W'.cell? p = W.cell? p
theorem oZ.refl (n B : Nat) (W : World) : oZ n B W W := fun _ _ => rfl
theorem oZ.trans {n B : Nat} {a b c : World} (h : oZ n B a b) (k : oZ n B b c) : oZ n B a c := fun p hp => (k p hp).trans (h p hp)
theorem BM (A : Option Addr) (len c : Nat) (w : World) :
  Calls Tryz.prog 159 #[.slice A len c] w fun e w' => e = .returned (.func (.func 170) #[] #[.pointer (some ⟨w.heap.size, 0, none⟩)]) ∧ w' = w.alloc (.cells #[.slice A len c] 153) := by
 go_enter Tryz.func159, Tryz.ntmps159
 go_wp2
 go_ret
 exact ⟨rfl, rfl⟩
set_option maxRecDepth 100000 in
set_option maxHeartbeats 2000000 in
theorem CN (n : Nat) (hn : 1 ≤ n) (l Bs n0 : Nat) (A : Option Addr) (c : Nat) (bs : List (BitVec 8)) (hlen : bs.length ≤ 1048576) (hcap : bs.length ≤ c) (J Jx : List (BitVec 64) → World → Prop)
    (hY : ∀ pre x W, J pre W → pre.length < fO bs.length → YieldAt Fence.wide (n - 1) Tryz.prog l #[.int .u64 (W64 x)] W fun e W' =>
      (e = .returned (.bool true) ∧ J (pre ++ [x]) W' ∧ oZ n0 Bs W W') ∨ (e = .returned (.bool false) ∧ Jx (pre ++ [x]) W'))
    (W : World) (hBs : W.cell? ⟨Bs, 0, none⟩ = some (.slice A bs.length c)) (hr : ∀ (j : Nat) (u : Value), (cD bs)[j]? = some u → ∃ ad, A = some ad ∧ ad.block < n0 ∧ ad.spot = none ∧ W.cell? ⟨ad.block, ad.off + j, none⟩ = some u) (h0 : J [] W) :
    CallsIn Fence.wide n Tryz.prog 170 #[.func (.yield l) #[] #[], .pointer (some ⟨Bs, 0, none⟩)] W fun e W' => (∃ v, e = .returned v) ∧
      ((∃ ys, ys = gI bs (fO bs.length) ∧ J ys W') ∨ (∃ pre, (∃ k, k ≤ fO bs.length ∧ pre = gI bs k) ∧ Jx pre W')) := by
  refine callsIn_of_wp Tryz.func170 rfl trivial ?_ rfl
  simp only [Tryz.ntmps170, List.size_toArray, List.length_cons, List.length_nil, Nat.reduceAdd, Nat.reduceSub, Array.replicate_succ, Array.replicate_zero, List.push_toArray, List.append_toArray, List.nil_append, List.cons_append]
  gi_wp2
  gi_loopw [3] (fun i wr => ∃ k : Nat, k ≤ fO bs.length ∧ i = .int .i64 (8 * k) ∧ J (gI bs k) wr ∧ oZ n0 Bs W wr)
    (fun i _ => bs.length + 8 - (intOf i).toNat)
  case atStart => exact ⟨0, Nat.zero_le _, rfl, h0, oZ.refl _ _ _⟩
  case round =>
    obtain ⟨k, hk, rfl, hJs, hkp⟩ := hrel
    have hbx : wr.cell? ⟨Bs, 0, none⟩ = some (.slice A bs.length c) := (hkp ⟨Bs, 0, none⟩ (.inr rfl)).trans hBs
    by_cases hlt : 8 * k < bs.length
    · have hkn : k < fO bs.length := by unfold fO; omega
      have hq : (gP bs k).length ≤ bs.length - 8 * k ∧ (gP bs k).length ≤ 8 ∧ ((gP bs k).length = 8 ∨ (gP bs k).length = bs.length - 8 * k) := by rw [qG]; omega
      obtain ⟨hq1, hq2, hq3⟩ := hq
      obtain ⟨m, hm, hm2⟩ : ∃ m : Nat, min (8 * (k : Int) + 8) (bs.length : Int) = (m : Int) ∧ m = 8 * k + (gP bs k).length := ⟨8 * k + (gP bs k).length, by rcases hq3 with h | h <;> omega, rfl⟩
      have hm3 : 8 * k ≤ m := by omega
      have hm4 : m ≤ bs.length := by omega
      clear hq3
      have h00 : 0 < bs.length := by omega
      obtain ⟨⟨b, off, sp⟩, rfl, hbn, hsp, _⟩ := hr 0 (.int .u8 (W8 bs[0])) (by simp [cD, h00])
      dsimp only at hsp hbn
      subst hsp
      have hcc : ∀ j, (h : 8 * k + j < bs.length) → wr.cell? ⟨b, off + (8 * k + j), none⟩ = some (.int .u8 (W8 bs[8 * k + j])) := fun j h => by
        obtain ⟨ad, he, _, _, hc⟩ := hr (8 * k + j) (.int .u8 (W8 bs[8 * k + j])) (by simp [cD, h])
        injection he with he
        subst he
        exact (hkp ⟨b, off + (8 * k + j), none⟩ (.inl hbn)).trans hc
      have HC := Lib.hid hcc
      have HM := Lib.hid hm2
      clear hcc hm2
      obtain ⟨wo, rfl⟩ : ∃ wo : World, wo = wr := ⟨_, rfl⟩
      obtain ⟨fn, tmps, assign, body, hy, hR⟩ := hY _ (oN bs k) wo hJs (by rw [rY]; exact hkn)
      have HY := Lib.hid hy
      clear hy
      gi_wp2
      clear hm
      gi_loop [4, 22] (fun x i => ∃ j : Nat, j ≤ m - 8 * k ∧ i = .int .i64 j ∧ x = .int .u64 (W64 (kQ bs k j))) (fun _ i => m - 8 * k - (intOf i).toNat)
      case atStart => exact ⟨0, by omega, rfl, by rw [vT]; rfl⟩
      case round =>
        obtain ⟨j, hj, rfl, rfl⟩ := hrel
        by_cases hjl : j < m - 8 * k
        · have hj2 : 8 * k + j < bs.length := by omega
          have hcj := HC.out j hj2
          have hsj := Lib.hid (wO bs k j (by have := HM.out; omega) hj2)
          rw [← Nat.add_assoc] at hcj
          generalize bs[8 * k + j] = y at *
          have hj8 : j ≤ 8 := by have := HM.out; omega
          gi_wp2
          go_round
          case rel => exact ⟨j + 1, by omega, by go_num, by rw [hsj.out]⟩
          case measure => simp [intOf]; omega
        · obtain rfl : j = m - 8 * k := by omega
          have hpa := zI bs k (m - 8 * k) (by have := HM.out; omega)
          rw [hpa]
          have hy := HY.out
          gi_wp2
          refine hR.mono ?_
          rintro e W3 (⟨rfl, hJ3, hk3⟩ | ⟨rfl, hJx3⟩)
          · gi_wp2
            go_roundw
            case rel => exact ⟨k + 1, by omega, by go_num, by rw [lB]; exact hJ3, hkp.trans hk3⟩
            case measure => simp [intOf]; omega
          · gi_wp2
            refine bodyPost_ret (results_none rfl _ _ _) rfl ?_
            exact ⟨⟨_, rfl⟩, .inr ⟨_, ⟨k + 1, by omega, (lB _ _).symm⟩, hJx3⟩⟩
    · have hkn : k = fO bs.length := by unfold fO at hk ⊢; omega
      subst hkn
      gi_wp2
      go_end0
      exact ⟨⟨_, rfl⟩, .inl ⟨_, rfl, hJs⟩⟩
theorem wG (n : Nat) (hn : 1 ≤ n) (Bs n0 : Nat) (A : Option Addr) (c : Nat) (bs : List (BitVec 8)) (hlen : bs.length ≤ 1048576) (hcap : bs.length ≤ c) (w0 : World) (hBs : Bs < w0.heap.size) (hn0 : n0 ≤ w0.heap.size)
    (hc : w0.cell? ⟨Bs, 0, none⟩ = some (.slice A bs.length c)) (hr : ∀ (j : Nat) (u : Value), (cD bs)[j]? = some u → ∃ ad, A = some ad ∧ ad.block < n0 ∧ ad.spot = none ∧ w0.cell? ⟨ad.block, ad.off + j, none⟩ = some u) :
    SeqStopsK Fence.wide n Tryz.prog 170 #[.pointer (some ⟨Bs, 0, none⟩)] (fun x : BitVec 64 => #[Value.int .u64 (W64 x)]) (oZ n0 Bs) (fun ys => ys = gI bs (fO bs.length)) (fun _ => True) (fO bs.length) w0 := fun l J Jx W hW _ _ hY h0 => by
  refine (CN n hn l Bs n0 A c bs hlen hcap J Jx hY W ((hW.cell (p := ⟨Bs, 0, none⟩) hBs).trans hc) (fun j u hu => ?_) h0).mono ?_
  · obtain ⟨ad, he, hlt, hs, hcell⟩ := hr j u hu
    exact ⟨ad, he, hlt, hs, (hW.cell (p := ⟨ad.block, ad.off + j, none⟩) (Nat.lt_of_lt_of_le hlt hn0)).trans hcell⟩
  · rintro e W' ⟨he, ⟨ys, rfl, hj⟩ | ⟨pre, _, hj⟩⟩
    · exact ⟨he, .inl ⟨_, rfl, hj⟩⟩
    · exact ⟨he, .inr ⟨_, trivial, hj⟩⟩
theorem Rd.plain {w : World} {A : Option Addr} {xs : List Value} (h : Rd w A xs) : ∀ (j : Nat) (u : Value), xs[j]? = some u → ∃ ad, A = some ad ∧ ad.block < w.heap.size ∧ ad.spot = none ∧ w.cell? ⟨ad.block, ad.off + j, none⟩ = some u := fun j u hu => by
  obtain ⟨b, off, rfl, hlt, hc⟩ := h.open_ (by cases xs with | nil => simp at hu | cons x xs => simp)
  exact ⟨_, rfl, hlt, rfl, hc j u hu⟩
theorem xQ {W W' : World} (h : Below W.heap.size W W') : KeepsOthers W W' := by
  exact ⟨h.size, fun i o ho _ => (h.block i (Array.getElem?_eq_some_iff.1 ho).1).trans ho⟩
set_option maxRecDepth 100000 in
set_option maxHeartbeats 2000000 in
theorem I8 (k : BitVec 64) (A : Option Addr) (c : Nat) (bs : List (BitVec 8)) (w : World) (hr : RdB w A bs) (hlen : bs.length ≤ 1048576) (hcap : bs.length ≤ c) :
    Calls Tryz.prog 135 #[.int .u64 (W64 k), .slice A bs.length c] w fun e w' => e = .returned (.int .u64 (W64 (tag k bs))) ∧ Below w.heap.size w w' := by
  refine (callsIn_wide (n := 3)).1 ?_
  refine callsIn_of_wp_marks Tryz.func135 rfl trivial ?_ rfl
  simp only [Tryz.ntmps135, List.size_toArray, List.length_cons, List.length_nil, Nat.reduceAdd, Nat.reduceSub, Array.replicate_succ, Array.replicate_zero, List.push_toArray, List.append_toArray, List.nil_append, List.cons_append]
  gi_wp2_with fail
  refine ⟨trivial, (callsIn_wide.2 (mB _ _ _)).mono ?_⟩
  rintro e w1 ⟨rfl, hb1⟩
  gi_wp2_with fail
  refine ⟨trivial, (callsIn_wide.2 (BM _ _ _ _)).mono ?_⟩
  rintro e w2 ⟨rfl, rfl⟩
  gi_wp2
  have hsz : w.heap.size + 1 ≤ w1.heap.size := by have := hb1.size; simp at this; omega
  have hw1 : Below w.heap.size w w1 := ((Below.refl _ w).alloc (Nat.le_refl _) _).trans (hb1.mono (by simp))
  have hk1 : w1.cell? ⟨w.heap.size, 0, none⟩ = some (.int .u64 (W64 k)) := (hb1.cell (p := ⟨w.heap.size, 0, none⟩) (by simp)).trans (mR w _ _).1
  obtain ⟨W1, hW1⟩ : ∃ W1, w1.alloc (Obj.cells #[Value.int IntKind.u64 (W64 (mix k (BitVec.ofNat 64 bs.length)))] 24) = W1 := ⟨_, rfl⟩
  have hx1 : W1.cell? ⟨w1.heap.size, 0, none⟩ = some (.int .u64 (W64 (mix k (BitVec.ofNat 64 bs.length)))) := by rw [← hW1]; exact (mR w1 _ _).1
  have hf1 : W1.frozen? ⟨w1.heap.size, 0, none⟩ = false := by rw [← hW1]; exact (mR w1 _ _).2
  have hs1 : W1.heap.size = w1.heap.size + 1 := by rw [← hW1]; simp
  have hk2 : W1.cell? ⟨w.heap.size, 0, none⟩ = some (.int .u64 (W64 k)) := by rw [← hW1]; exact mD _ hk1
  have hB1 : Below w.heap.size w W1 := by rw [← hW1]; exact hw1.alloc (by omega) _
  rw [hW1]
  have hb := mR W1 (.slice A bs.length c) 153
  rw [hs1] at hb
  have hB0 : Below w.heap.size w (W1.alloc (.cells #[.slice A bs.length c] 153)) := hB1.alloc (by omega) _
  refine wpIn_rangeFunc_ownF rfl (by omega) (gf := 170) (lb := #[.pointer (some ⟨w1.heap.size + 1, 0, none⟩)]) rfl trivial (enters_of Tryz.func170 (by kernel_rfl) rfl)
    (wG 2 (by omega) (w1.heap.size + 1) w.heap.size A c bs hlen hcap _ (by simp; omega) (by simp; omega) hb.1 (fun j u hu => by
      obtain ⟨ad, he, hlt, hs, hc⟩ := hr.plain j u hu
      exact ⟨ad, he, hlt, hs, (hB0.cell (p := ⟨ad.block, ad.off + j, none⟩) hlt).trans hc⟩))
    (fun h1 h2 => h1.trans h2) (fun W l o o' hl ho hc _ p hp => World.cell?_of_block ((grownBy_putObj' W l o').block p.block (by
        have := (Array.getElem?_eq_some_iff.1 ho).1
        simp at hl
        rcases hp with hp | hp <;> omega) (by
        simp at hl
        intro e
        injection e with e
        rcases hp with hp | hp <;> omega))) (Below.refl _ _) (fun _ => rfl)
    (fun pre W => (W.cell? ⟨w.heap.size, 0, none⟩ = some (.int .u64 (W64 k)) ∧ W.cell? ⟨w1.heap.size, 0, none⟩ = some (.int .u64 (W64 (oB k (nQ k bs.length) pre))) ∧ W.frozen? ⟨w1.heap.size, 0, none⟩ = false ∧ w1.heap.size + 2 ≤ W.heap.size) ∧ Below w.heap.size w W)
    (fun _ _ _ => False)
    (OwnFrom.and (Own.from (fun s A B row hs hg hr => ⟨cell_kept hs.1 hg hr, cell_kept hs.2.1 hg hr, (frozen_kept hs.2.1 hg hr).trans hs.2.2.1, Nat.le_trans hs.2.2.2 hg.size⟩) _) (ownFrom_below (Nat.le_refl _) (by simp; omega)))
    (fun _ _ _ _ _ hs _ _ => hs)
    ⟨⟨mD _ hk2, mD _ hx1, tK _ hx1 hf1, by simp; omega⟩, hB0⟩
    (fun x => { tmps := #[.int .u64 (W64 k), .slice A bs.length c, .pointer (some ⟨w.heap.size, 0, none⟩), undef, .int .u64 0, .pointer (some ⟨w1.heap.size, 0, none⟩), .int .u64 (W64 x), .int .u64 (W64 k), .slice A bs.length c, .int .i64 bs.length, .int .u64 (W64 (BitVec.ofNat 64 bs.length)), .int .u64 (W64 (mix k (BitVec.ofNat 64 bs.length))), .slice A bs.length c, .func (.func 170) #[] #[.pointer (some ⟨w1.heap.size + 1, 0, none⟩)], .int .u64 (W64 x), undef, undef, undef, undef, undef, undef], defers := [] }) ?assign ?body ?done ?stop
  case assign =>
    intro l x W K hK
    gi_wp2
    exact hK
  case body =>
    rintro l pre x W ⟨⟨hc1, hc2, hc3, hc4⟩, hB⟩ _
    gi_wp2
    refine ⟨trivial, (CallsIn.inRound l (callsIn_wide.2 (mB _ _ _))).mono ?_⟩
    rintro e w3 ⟨rfl, hb3⟩
    have hd1 := (hb3.cell (p := ⟨w.heap.size, 0, none⟩) (by show w.heap.size < _; omega)).trans hc1
    have hd2 := (hb3.cell (p := ⟨w1.heap.size, 0, none⟩) (by show w1.heap.size < _; omega)).trans hc2
    have hd3 := (hb3.frozen (p := ⟨w1.heap.size, 0, none⟩) (by show w1.heap.size < _; omega)).trans hc3
    have hT := Lib.hid (qD k (nQ k bs.length) pre x)
    gi_wp2
    have hne : (⟨w1.heap.size, 0, none⟩ : Addr) ≠ ⟨w.heap.size, 0, none⟩ := by intro e; injection e; omega
    refine ⟨(xQ hb3).trans (KeepsOthers.setCell _ _ _), ?_, ⟨(World.cell?_setCell_other _ _ _ _ hne).trans hd1, ?_, ?_, ?_⟩, (hB.trans (hb3.mono hB.size)).setCell (p := ⟨w1.heap.size, 0, none⟩) (by show w.heap.size ≤ w1.heap.size; omega) _⟩
    · intro p hp
      have hpl : p.block < W.heap.size := by rcases hp with hp | hp <;> omega
      refine (World.cell?_setCell_other _ _ _ _ ?_).trans (hb3.cell hpl)
      rintro rfl
      dsimp only at hp
      omega
    · rw [hT.out]; exact World.cell?_setCell_same' _ _ _ (by rw [hd2]; rfl)
    · rw [World.frozen?_setCell]; exact hd3
    · have := hb3.size; simp; omega
  case done =>
    rintro D ys W hD rfl ⟨⟨hc1, hc2, hc3, hc4⟩, hB⟩ hK
    gi_wp2
    refine ⟨by simp, .inl ⟨_, _, rfl, run_takeDeferred hK, ?_⟩⟩
    exact ⟨_, results_tmp rfl _ _ _, rfl, hB.trans (belowK_b (w := w) (Nat.le_refl _) W D _ _ (by simp at hD; omega) hK rfl rfl)⟩
  case stop =>
    rintro D c pre W _ _ h _
    exact h.elim
end
section
open Go.ChangeShapes Go.WideShapes Go.ChangeAt Go.RowKit
def fC (s : ByteArray) : List (BitVec 8) := s.data.toList.map (·.toBitVec)
theorem jH (s : ByteArray) : (fC s).length = s.size := by
  unfold fC
  rw [List.length_map, Array.length_toList]
  rfl
theorem zB (s : ByteArray) (cap j : Nat) (h : j < (fC s).length) : (bytesRow s cap)[j]? = some (.int .u8 (W8 (fC s)[j])) := by
  have h' : j < s.data.size := by rw [jH] at h; exact h
  unfold bytesRow
  rw [Array.getElem?_append_left (by simpa using h')]
  have e : (s.data.map (fun b => Value.int .u8 b.toNat))[j]? = some (.int .u8 (s.data[j].toNat : Int)) := by rw [Array.getElem?_map, Array.getElem?_eq_getElem h']; rfl
  rw [e]
  simp [fC, W8]
theorem G4 (s : ByteArray) (cap : Nat) (h : s.size ≤ cap) : (bytesRow s cap).size = cap := by
  unfold bytesRow
  rw [Array.size_append, Array.size_map, Array.size_replicate]
  show s.size + (cap - s.size) = cap
  omega
theorem KT (s : ByteArray) (cap : Nat) (w : World) (fz : Nat × Nat) (t : TypeId) : RdB (w.alloc (.cells (bytesRow s cap) t fz)) (some ⟨w.heap.size, 0, none⟩) (fC s) := fun j u hu => by
  have hj : j < (fC s).length := by
    rcases Nat.lt_or_ge j (fC s).length with h | h
    · exact h
    · rw [List.getElem?_eq_none (by rw [dT]; exact h)] at hu; cases hu
  refine ⟨_, rfl, by simp, ?_⟩
  have e : (⟨w.heap.size, 0, none⟩ : Addr).add j = ⟨w.heap.size, j, none⟩ := by unfold Addr.add; split <;> simp_all
  rw [e, cell_of_row _ w.heap.size j _ t fz (heap_alloc_new w _), zB s cap j hj, ← hu]
  simp [cD, hj]
theorem G1 (w : World) (vs : Array Value) (t : TypeId) (ps : List dV) (n : Nat) (bs : List (BitVec 8)) (hv : vs.toList = vP ps) (hn : ps.length = n) (hbs : ps.flatMap (·.2.2) = bs)
    (hp : ∀ p ∈ ps, RdB w p.1 p.2.2) (hlen : bs.length ≤ 1048576) (hl : n ≤ 1048576) :
    Calls Tryz.prog 136 #[.slice (some ⟨w.heap.size, 0, none⟩) n n] (w.alloc (.cells vs t)) (xD w bs) := by
  subst hn
  subst hbs
  refine (zW (some ⟨w.heap.size, 0, none⟩) ps.length ps (w.alloc (.cells vs t)) (by rw [← hv]; exact Rd.new w vs t) (fun p h => (hp p h).to ((Below.refl _ _).alloc (Nat.le_refl _) _)) hlen hl).mono ?_
  rintro e w' ⟨A, c, rfl, ho, hb⟩
  exact ⟨A, c, rfl, dH ho (by simp), ((Below.refl w.heap.size w).alloc (Nat.le_refl _) _).trans (hb.mono (by simp))⟩
theorem tA (k : BitVec 64) (s : ByteArray) (A : Option Addr) (c : Nat) (xs : List (BitVec 64)) (w : World) (hr : RdU w A xs) (hl : xs.length ≤ 1024) (hs : s.size ≤ 65536) :
  Calls Tryz.prog 103 #[.int .u64 (W64 k), .string s, .slice A xs.length c] w fun e w' => e = .returned (.int .u64 (W64 (fS k (fC s) xs))) ∧ Below w.heap.size w w' := by
 have hcv := run_bytes_of_string (P := Tryz.prog) w 9 153 5 s U9 yG U5
 have hge := grownCap_ge w s.size 0 5
 have hrow := KT s (grownCap w s.size 0 5) w.drew ((bytesRow s (grownCap w s.size 0 5)).size, (bytesRow s (grownCap w s.size 0 5)).size + 1) 5
 have hB1 : Below w.heap.size w (w.drew.alloc (.cells (bytesRow s (grownCap w s.size 0 5)) 5 ((bytesRow s (grownCap w s.size 0 5)).size, (bytesRow s (grownCap w s.size 0 5)).size + 1))) := ((Below.refl _ w).drew).alloc (Nat.le_refl _) _
 generalize w.drew.alloc (.cells (bytesRow s (grownCap w s.size 0 5)) 5 ((bytesRow s (grownCap w s.size 0 5)).size, (bytesRow s (grownCap w s.size 0 5)).size + 1)) = w1 at *
 generalize grownCap w s.size 0 5 = cp at *
 have hsl := jH s
 have hdv : fS k (fC s) xs = tag k (fC s ++ [0#8] ++ iC xs) := rfl
 rw [hdv]
 clear hdv
 have hlen : (fC s ++ [0#8] ++ iC xs).length ≤ 1048576 := by simp only [List.length_append, jH, wX, List.length_cons, List.length_nil]; omega
 have hflat : ∀ a b : Option Addr × Nat, ∀ c : Option Addr × Nat, List.flatMap (fun p : dV => p.2.2) [(a.1, a.2, fC s), (b.1, b.2, [0#8]), (c.1, c.2, iC xs)] = fC s ++ [0#8] ++ iC xs := fun a b c => by simp
 generalize fC s ++ [0#8] ++ iC xs = L at *
 obtain ⟨tg, htg⟩ : ∃ tg, tag k L = tg := ⟨_, rfl⟩
 rw [htg]
 have HG := Lib.hid htg
 clear htg
 go_enter Tryz.func103, Tryz.ntmps103
 go_wp2_with fail
 refine (EJ _ _ _ _ ((hr.to hB1).to ((Below.refl _ _).alloc (Nat.le_refl _) _)) (by omega)).mono ?_; rintro e w3 ⟨A3, c3, rfl, ho3, hb3⟩
 have hb13 : Below w1.heap.size w1 w3 := ((Below.refl _ _).alloc (Nat.le_refl _) _).trans (hb3.mono (by simp))
 have hb03 := hB1.trans (hb13.mono hB1.size)
 have hz : RdB w3 (some ⟨w1.heap.size, 0, none⟩) [0#8] := Rd.to (Rd.new w1 #[.int .u8 0] 5) hb3
 have HJ := fun t => Lib.hid (G1 w3 #[.slice (some ⟨w.heap.size, 0, none⟩) s.size cp, .slice (some ⟨w1.heap.size, 0, none⟩) 1 1, .slice A3 (iC xs).length c3] t [(some ⟨w.heap.size, 0, none⟩, cp, fC s), (some ⟨w1.heap.size, 0, none⟩, 1, [0#8]), (A3, c3, iC xs)] 3 L
  (by simp [vP, hsl]) rfl (hflat (_, _) (_, _) (_, _)) (fun p hp => by
   simp only [List.mem_cons, List.not_mem_nil, or_false] at hp
   rcases hp with rfl | rfl | rfl
   · exact hrow.to hb13
   · exact hz
   · exact Rd.of_own ho3) hlen (by omega))
 go_wp2_with fail
 refine (HJ _).out.mono ?_; rintro e w4 ⟨A4, c4, rfl, ho4, hb4⟩
 have hb04 := hb03.trans (hb4.mono hb03.size)
 go_wp2_with fail
 have ht := I8 k A4 c4 L w4 (Rd.of_own ho4) hlen (DK ho4).1
 rw [HG.out] at ht
 refine ht.mono ?_; rintro e w5 ⟨rfl, hb5⟩
 go_wp2
 go_ret
 exact ⟨rfl, hb04.trans (hb5.mono hb04.size)⟩
theorem BE.at_ {w : World} {bs : List (BitVec 8)} {e : Ending} {w' : World} {n : Nat} (h : BE w bs e w') (hn : bs.length = n) :
    ∃ (A : Option Addr) (c : Nat), e = .returned (.tuple #[.slice A n c, .int .i64 0]) ∧ w'.ownsRow w.heap.size 5 1 (.slice A n c) n (cD bs) ∧ Below w.heap.size w w' := by
  subst hn
  exact h
theorem GU (k : BitVec 64) (A : Option Addr) (c : Nat) (bs : List (BitVec 8)) (w : World) (hr : RdB w A bs) (hlen : bs.length ≤ 1048576) (hcap : bs.length ≤ c) :
  Calls Tryz.prog 168 #[.int .u64 (W64 k), .slice A bs.length c] w fun e w' => e = .returned (.int .u64 (W64 (tag k bs))) ∧ Below w.heap.size w w' := by
 go_enter Tryz.func168, Tryz.ntmps168
 go_wp2_with fail
 refine (nX _ _ _).mono ?_; rintro e w1 ⟨rfl, hb1⟩
 go_wp2
 go_loopw [5, 6] (fun x i wr => ∃ j : Nat, j ≤ fO bs.length ∧ i = .int .i64 (8 * j : Nat) ∧ x = .int .u64 (W64 (oB k (nQ k bs.length) (gI bs j))) ∧ Below w.heap.size w wr) (fun _ i _ => bs.length + 8 - (intOf i).toNat)
 case atStart => exact ⟨0, by omega, rfl, rfl, hb1⟩
 case round =>
  obtain ⟨j, hj, rfl, rfl, hb⟩ := hrel
  by_cases hlt : 8 * j < bs.length
  rotate_left
  ·
   have hjn : j = fO bs.length := by unfold fO at hj ⊢; omega
   subst hjn
   go_wp2
   go_ret
   exact ⟨rfl, hb⟩
  have hjn : j < fO bs.length := by unfold fO; omega
  have hq : (gP bs j).length ≤ bs.length - 8 * j ∧ (gP bs j).length ≤ 8 ∧ ((gP bs j).length = 8 ∨ (gP bs j).length = bs.length - 8 * j) := by rw [qG]; omega
  obtain ⟨hq1, hq2, hq3⟩ := hq
  obtain ⟨m, hm, hm2⟩ : ∃ m : Nat, min (8 * (j : Int) + 8) (bs.length : Int) = (m : Int) ∧ m = 8 * j + (gP bs j).length := ⟨8 * j + (gP bs j).length, by rcases hq3 with h | h <;> omega, rfl⟩
  obtain ⟨b, off, rfl, hbn, _⟩ := hr.open_ (by rw [dT]; omega)
  have hrc : RdB w (some ⟨b, off + 8 * j, none⟩) (gP bs j) := RdB.take (K0 hr hbn (8 * j)) 8
  have hv := fun cc => CG (some ⟨b, off + 8 * j, none⟩) cc (gP bs j) wr (hrc.to hb) (by omega)
  have hm3 : 8 * j ≤ m := by omega
  have hm4 : m ≤ bs.length := by omega
  rw [show (gP bs j).length = m - 8 * j by omega] at hv
  have HV := Lib.hid hv
  have HM := Lib.hid hm2
  have HT := Lib.hid (qD k (nQ k bs.length) (gI bs j) (oN bs j))
  clear hv hm2 hq3 hq1 hq2
  go_wp2_with fail
  refine (HV.out _).mono ?_; rintro e w2 ⟨rfl, rfl⟩
  go_wp2_with fail
  refine (nX _ _ _).mono ?_; rintro e w3 ⟨rfl, hb3⟩
  rw [show kA (gP bs j) = oN bs j from rfl, ← HT.out, ← lB]
  go_wp2
  go_roundw
  case rel => exact ⟨j + 1, by omega, by go_num, rfl, hb.trans (hb3.mono hb.size)⟩
  case measure => simp [intOf]; omega
structure nV (w : World) (base g n cap : Nat) (xs : List (BitVec 8)) : Prop where
  ge : base ≤ g
  lt : g < w.heap.size
  len : xs.length = n
  room : n ≤ cap
  max : cap ≤ maxLen
  cells : ∀ j, (h : j < xs.length) → w.cell? ⟨g, j, none⟩ = some (.int .u8 (W8 xs[j]))
  some_ : ∀ j, j < cap → (w.cell? ⟨g, j, none⟩).isSome = true
  free : ∀ j, j < cap → w.frozen? ⟨g, j, none⟩ = false
theorem oH (g j : Nat) : (⟨g, 0, none⟩ : Addr).add j = ⟨g, j, none⟩ := by unfold Addr.add; split <;> simp_all
section
variable {w w' : World} {base g n cap : Nat} {xs : List (BitVec 8)}
theorem nV.rd (h : nV w base g n cap xs) : RdB w (some ⟨g, 0, none⟩) xs := fun j u hu => by
  have hj : j < xs.length := by
    rcases Nat.lt_or_ge j xs.length with h | h
    · exact h
    · rw [List.getElem?_eq_none (by rw [dT]; exact h)] at hu; cases hu
  refine ⟨_, rfl, h.lt, ?_⟩
  rw [oH, h.cells j hj, ← hu]
  simp [cD, hj]
theorem nV.to (h : nV w base g n cap xs) (hb : Below w.heap.size w w') : nV w' base g n cap xs :=
  ⟨h.ge, Nat.lt_of_lt_of_le h.lt hb.size, h.len, h.room, h.max, fun j hj => (hb.cell (p := ⟨g, j, none⟩) h.lt).trans (h.cells j hj),
    fun j hj => by rw [hb.cell (p := ⟨g, j, none⟩) h.lt]; exact h.some_ j hj, fun j hj => (hb.frozen (p := ⟨g, j, none⟩) h.lt).trans (h.free j hj)⟩
end
theorem FJ (l : List (BitVec 8)) (j : Nat) (h : j < l.length) : (cD l)[j]? = some (.int .u8 (W8 l[j])) := by simp [cD, h]
theorem yL {w : World} {g j lo hi : Nat} {cs : Array Value} {t : TypeId} (h : w.heap[g]? = some (.cells cs t (lo, hi))) (hj : j < lo) : w.frozen? ⟨g, j, none⟩ = false := by
  unfold World.frozen?
  dsimp only
  rw [h]
  simp
  omega
theorem nW {base : Nat} {a : World} (b : Nat) (hb : base ≤ b) : ∀ (vs : List Value) (o : Nat) (w : World), Below base a w → Below base a (w.setCells b o vs)
  | [], _, _, h => h
  | v :: r, o, w, h => nW b hb r (o + 1) _ (h.setCell (p := ⟨b, o, none⟩) hb v)
theorem wI {w : World} {base g n cap : Nat} {xs : List (BitVec 8)} (h : nV w base g n cap xs) (A : Option Addr) (m c : Nat) (news : List (BitVec 8)) (hr : RdB w A news) (hm : news.length = m) (hsz : n + m ≤ 1048576) (hbase : base ≤ w.heap.size) (ty : TypeId) :
    ∃ g' cap' w', (Builtin.append_ #[153, 153] ty #[.slice (some ⟨g, 0, none⟩) n cap, .slice A m c]).run Tryz.prog w = .ok (.slice (some ⟨g', 0, none⟩) (n + m) cap') w' ∧ nV w' base g' (n + m) cap' (xs ++ news) ∧ Below base w w' := by
  obtain ⟨i0, hi0, hz0, hz1, hz2⟩ := info_parts sB
  have hs : Src Tryz.prog i0.size 153 (.slice A m c) m (cD news) w := by
    rw [hz1]
    exact Rd.src hr yG c (by rw [dT]; omega) (mU _) (by omega)
  have hlen := h.len
  have hbl : (cD news).length = m := by rw [dT]; exact hm
  by_cases hroom : n + m ≤ cap
  · have hrun := run_append_room_src (P := Tryz.prog) w 153 153 ty 5 i0 yG hi0 g 0 n cap (.slice A m c) m (cD news) hs hroom
      (fun j hj => by rw [hz1]; exact h.some_ _ (by omega)) (fun j hj => by rw [hz1]; exact h.free _ (by omega))
    rw [hz1, Nat.mul_one, Nat.zero_add] at hrun
    have hB := nW (a := w) g h.ge (cD news) n w (Below.refl _ _)
    have hin := World.cell?_setCells_in g (cD news) n w (fun j hj => h.some_ _ (by omega))
    refine ⟨g, cap, _, hrun, ⟨h.ge, Nat.lt_of_lt_of_le h.lt hB.size, by rw [List.length_append]; omega, hroom, h.max, fun j hj => ?_, fun j hj => ?_, fun j hj => ?_⟩, hB⟩
    · rw [List.length_append] at hj
      by_cases hjn : j < xs.length
      · rw [World.cell?_setCells_out _ _ _ _ _ (fun _ _ => .inl (by show j < n; omega)), List.getElem_append_left hjn]
        exact h.cells j hjn
      · have := hin (j - n) (by omega)
        rw [show n + (j - n) = j by omega] at this
        rw [this, List.getElem_append_right (by omega)]
        simp [cD, hlen]
    · by_cases hjn : n ≤ j ∧ j < n + m
      · have := hin (j - n) (by omega)
        rw [show n + (j - n) = j by omega] at this
        rw [this]
        rfl
      · rw [World.cell?_setCells_out _ _ _ _ _ (fun _ _ => by show j < n ∨ n + (cD news).length ≤ j; omega)]
        exact h.some_ j hj
    · rw [World.frozen?_setCells]
      exact h.free j hj
  · have hgr := run_append_grow_src (P := Tryz.prog) w 153 153 ty 5 i0 _ yG hi0 hz0 (some ⟨g, 0, none⟩) n cap (cD xs)
      (run_firstCells_some (P := Tryz.prog) w.drew i0.size n ⟨g, 0, none⟩ n cap (cD xs) (by rw [dT, hz1]; omega) (fun j u hu => by
        obtain ⟨ad, he, _, hc⟩ := h.rd j u hu
        injection he with he
        subst he
        exact hc)) (.slice A m c) m (cD news) hs (by omega) (by omega) (growslice_fits (by omega) (by rw [hz2]; omega))
    have hge := grownCap_ge w (n + m) cap 5
    have hcm : grownCap w (n + m) cap 5 ≤ maxLen := grownCap_le_maxLen w (n + m) cap 5 (by simp only [maxLen]; omega)
    have hnew := heap_alloc_new w.drew (.cells ((cD xs ++ cD news).toArray ++ Builtin.zeroCells (Value.int .u8 0).cells (grownCap w (n + m) cap 5 - (n + m))) 5)
    have hcell := fun j => cell_of_row _ _ j _ _ _ hnew
    have hzs : ((cD xs ++ cD news).toArray ++ Builtin.zeroCells (Value.int .u8 0).cells (grownCap w (n + m) cap 5 - (n + m))).size = grownCap w (n + m) cap 5 := by
      rw [Array.size_append, size_zeroCells, List.size_toArray, List.length_append, dT, hbl]
      have : (Value.int .u8 0).cells.size = 1 := rfl
      rw [this]
      omega
    refine ⟨_, _, _, hgr, ⟨hbase, by simp, by rw [List.length_append]; omega, hge, hcm, fun j hj => ?_, fun j hj => ?_, fun j hj => ?_⟩, ((Below.refl _ _).drew).alloc hbase _⟩
    · rw [List.length_append] at hj
      refine (hcell j).trans ?_
      rw [← jL, Array.getElem?_append_left (by rw [List.size_toArray, dT, List.length_append]; omega)]
      rw [List.getElem?_toArray]
      exact FJ _ _ _
    · refine (congrArg Option.isSome (hcell j)).trans ?_
      rw [Array.getElem?_eq_getElem (by rw [hzs]; exact hj)]
      rfl
    · exact Blk.free (g := w.heap.size) hnew j
theorem mX (w : World) {ops : Array Oper} {rest : List Oper} {o : Oper} {a : Act} {Q : Exit → Act → World → Prop} (hgd : o.guard = none) (s x : Operand)
    (ho : o.op = .call { callee := .builtin .append, args := #[s, x], argTypes := #[153, 153] })
    (base g n cap : Nat) (xs : List (BitVec 8)) (hs : a.eval s = .slice (some ⟨g, 0, none⟩) n cap) (h : nV w base g n cap xs) (A : Option Addr) (m c : Nat) (news : List (BitVec 8)) (hx : a.eval x = .slice A m c) (hr : RdB w A news) (hm : news.length = m)
    (hsz : n + m ≤ 1048576) (hbase : base ≤ w.heap.size)
    (hK : ∀ g' cap' w', nV w' base g' (n + m) cap' (xs ++ news) → Below base w w' → wpList Tryz.prog ops Q rest (a.put o.dst (.slice (some ⟨g', 0, none⟩) (n + m) cap')) w') : wpList Tryz.prog ops Q (o :: rest) a w :=
  wpList_plain hgd fun _ hK' => by
    obtain ⟨g', cap', w', hrun, h2, h3⟩ := wI h A m c news hr hm hsz hbase o.type
    unfold Oper.wp execOp
    simp only [ho, resolve, invoke, builtin, Sem.run_bind, Sem.run_pure, Result.andThen_ok, List.map_toArray, List.map_cons, List.map_nil, hs, hx, hrun]
    exact hK' _ _ (hK g' cap' w' h2 h3)
theorem J3 (s : ByteArray) (w : World) (hs : s.size ≤ 65536) : nV (w.drew.alloc (.cells (bytesRow s (grownCap w s.size 0 5)) 5 ((bytesRow s (grownCap w s.size 0 5)).size, (bytesRow s (grownCap w s.size 0 5)).size + 1))) w.heap.size w.heap.size s.size (grownCap w s.size 0 5) (fC s) := by
  have hge := grownCap_ge w s.size 0 5
  have hcm : grownCap w s.size 0 5 ≤ maxLen := grownCap_le_maxLen w s.size 0 5 (by simp only [maxLen]; omega)
  have hrs := G4 s _ hge
  have hnew := heap_alloc_new w.drew (.cells (bytesRow s (grownCap w s.size 0 5)) 5 ((bytesRow s (grownCap w s.size 0 5)).size, (bytesRow s (grownCap w s.size 0 5)).size + 1))
  have hcell := fun j => cell_of_row _ _ j _ _ _ hnew
  refine ⟨Nat.le_refl _, by simp, jH s, hge, hcm, fun j hj => (hcell j).trans (zB s _ j hj), fun j hj => ?_, fun j hj => ?_⟩
  · refine (congrArg Option.isSome (hcell j)).trans ?_
    rw [Array.getElem?_eq_getElem (by rw [hrs]; exact hj)]
    rfl
  · rw [hrs] at hnew ⊢
    exact yL hnew (by omega)
theorem IG (k : BitVec 64) (A : Option Addr) (c n : Nat) (bs : List (BitVec 8)) (w : World) (hn : bs.length = n) (hr : RdB w A bs) (hlen : n ≤ 1048576) (hcap : n ≤ c) :
    Calls Tryz.prog 168 #[.int .u64 (W64 k), .slice A n c] w fun e w' => e = .returned (.int .u64 (W64 (tag k bs))) ∧ Below w.heap.size w w' := by
  subst hn
  exact GU k A c bs w hr hlen hcap
theorem rL (k : BitVec 64) (s : ByteArray) (A : Option Addr) (c : Nat) (xs : List (BitVec 64)) (w : World) (hr : RdU w A xs) (hl : xs.length ≤ 1024) (hs : s.size ≤ 65536) :
  Calls Tryz.prog 148 #[.int .u64 (W64 k), .string s, .slice A xs.length c] w fun e w' => e = .returned (.int .u64 (W64 (fS k (fC s) xs))) ∧ Below w.heap.size w w' := by
 have hcv := run_bytes_of_string (P := Tryz.prog) w 9 153 5 s U9 yG U5
 have hown := J3 s w hs
 have hB1 : Below w.heap.size w (w.drew.alloc (.cells (bytesRow s (grownCap w s.size 0 5)) 5 ((bytesRow s (grownCap w s.size 0 5)).size, (bytesRow s (grownCap w s.size 0 5)).size + 1))) := ((Below.refl _ w).drew).alloc (Nat.le_refl _) _
 generalize w.drew.alloc (.cells (bytesRow s (grownCap w s.size 0 5)) 5 ((bytesRow s (grownCap w s.size 0 5)).size, (bytesRow s (grownCap w s.size 0 5)).size + 1)) = w1 at *
 generalize grownCap w s.size 0 5 = cp at *
 obtain ⟨tg, htg⟩ : ∃ tg, tag k (fC s ++ [0#8] ++ iC xs) = tg := ⟨_, rfl⟩
 have hdv : fS k (fC s) xs = tg := htg
 rw [hdv]
 have HG := Lib.hid htg
 clear htg hdv
 have hown1 := hown.to ((Below.refl w1.heap.size w1).alloc (Nat.le_refl _) (.cells #[.int .u8 0] 5))
 have hB2 : Below w.heap.size w (w1.alloc (.cells #[.int .u8 0] 5)) := hB1.alloc hB1.size _
 have hz : RdB (w1.alloc (.cells #[.int .u8 0] 5)) (some ⟨w1.heap.size, 0, none⟩) [0#8] := Rd.new w1 #[.int .u8 0] 5
 go_enter Tryz.func148, Tryz.ntmps148
 go_wp2_with (at_builtin; refine mX _ rfl _ _ rfl w.heap.size w.heap.size s.size cp (fC s) rfl hown1 (some ⟨w1.heap.size, 0, none⟩) 1 1 [0#8] rfl hz rfl (by omega) hB2.size ?_; intro g3 c3 w3 hown3 hb3)
 have hb03 := hB2.trans hb3
 go_loopw [7, 8] (fun v i wr => ∃ (j g c : Nat), j ≤ xs.length ∧ i = .int .i64 j ∧ v = .slice (some ⟨g, 0, none⟩) (s.size + 1 + j * 8) c ∧ nV wr w.heap.size g (s.size + 1 + j * 8) c (fC s ++ [0#8] ++ iC (xs.take j)) ∧ Below w.heap.size w wr)
  (fun _ i _ => xs.length - (intOf i).toNat)
 case atStart => exact ⟨0, g3, c3, by omega, rfl, rfl, by simpa [iC] using hown3, hb03⟩
 case round =>
  obtain ⟨j, g, cc, hj, rfl, rfl, hownj, hb⟩ := hrel
  by_cases hlt : j < xs.length
  rotate_left
  ·
   obtain rfl : j = xs.length := by omega
   rw [List.take_length] at hownj
   have ht := IG k (some ⟨g, 0, none⟩) cc _ _ wr hownj.len hownj.rd (by omega) hownj.room
   rw [HG.out] at ht
   go_wp2_with fail
   refine ht.mono ?_; rintro e w5 ⟨rfl, hb5⟩
   go_wp2
   go_ret
   exact ⟨rfl, hb.trans (hb5.mono hb.size)⟩
  obtain ⟨ad, rfl, hlt2, hcell⟩ := RdU.at_ (hr.to hb) j hlt
  have HS := Lib.hid (show iC (xs.take (j + 1)) = iC (xs.take j) ++ nS 8 xs[j] by rw [List.take_succ_eq_append_getElem hlt, AH])
  generalize xs[j] = x at *
  go_wp2_with fail
  refine (GS 8 _ _ (by omega) (by omega)).mono ?_; rintro e w4 hp4
  obtain ⟨A4, c4, rfl, ho4, hb4⟩ := hp4.at_ (n := 8) rfl
  have hown4 := hownj.to hb4
  have hb04 := hb.trans (hb4.mono hb.size)
  have hr4 : RdB w4 A4 (nS 8 x) := Rd.of_own ho4
  go_wp2_with (at_builtin; refine mX _ rfl _ _ rfl w.heap.size g (s.size + 1 + j * 8) cc _ rfl hown4 A4 8 c4 (nS 8 x) rfl hr4 (jQ _ _) (by omega) hb04.size ?_; intro g5 c5 w5 hown5 hb5)
  go_roundw
  case rel => exact ⟨j + 1, g5, c5, by omega, by go_num, by congr 1; omega, by rw [HS.out, ← List.append_assoc, show s.size + 1 + (j + 1) * 8 = s.size + 1 + j * 8 + 8 by omega]; exact hown5, hb04.trans hb5⟩
  case measure => simp [intOf]; omega
theorem iW (w : World) (base : Nat) (e : TypeId) (size : Nat) : w.ownsRow base e size (.slice none 0 0) 0 [] := ⟨by simp, .inl ⟨rfl, rfl⟩⟩
theorem xG {w : World} {g base n : Nat} {t : TypeId} {cs : Array Value} (h : Blk w g t cs) (hb : base ≤ g) (hm : n ≤ maxLen) (size : Nat) (hc : cs.size = n * size) : w.ownsRow base t size (.slice (some ⟨g, 0, none⟩) n n) n cs.toList :=
  ⟨by rw [← hc, Array.length_toList], .inr ⟨g, n, _, rfl, hb, h, Nat.le_refl _, hm, hc, by rw [← hc, List.take_of_length_le (by simp)]⟩⟩
theorem dN {P : Program} {ops : Array Oper} {Q : Exit → Act → World → Prop} {id : Nat} {a : Act} {w : World} (S : World → Prop) (n : Nat) (hst : aO S) (hS : S w.drew) (hR : pL .any ops n)
    (h : pL .any ops n → wpH P .any ops Q n n S (Array.replicate ops.size false) a) (hm : P.follows .mixedOrders = true := by kernel_rfl) : (Code.region id ops true).wp P Q a w :=
  zV S n hst hS hR (h hR) hm
theorem LM.at_ {w : World} {r : List (BitVec 8) × Int} {e : Ending} {w' : World} {n : Nat} {en : Int} {bs : List (BitVec 8)} (h : LM w r e w') (hr : r = (bs, en)) (hn : bs.length = n) :
    ∃ (A : Option Addr) (c : Nat), e = .returned (.tuple #[.slice A n c, .int .i64 en]) ∧ RdB w' A bs ∧ n ≤ c ∧ Below w.heap.size w w' := by
  subst hr
  subst hn
  exact h
theorem nV.put {w : World} {base g n c : Nat} {xs : List (BitVec 8)} (h : nV w base g n c xs) (j : Nat) (hj : j < n) (x : BitVec 8) : nV (w.setCell ⟨g, j, none⟩ (.int .u8 (W8 x))) base g n c (xs.set j x) := by
  have hlen := h.len
  have hroom := h.room
  refine ⟨h.ge, by simpa using h.lt, by rw [List.length_set]; exact h.len, h.room, h.max, fun i hi => ?_, fun i hi => ?_, fun i hi => by rw [World.frozen?_setCell]; exact h.free i hi⟩
  · rw [List.length_set] at hi
    by_cases he : i = j
    · subst he
      rw [List.getElem_set_self]
      exact World.cell?_setCell_same' _ _ _ (h.some_ i (by omega))
    · rw [List.getElem_set_ne (by omega)]
      exact (World.cell?_setCell_other _ _ _ _ (by intro e; injection e; omega)).trans (h.cells i hi)
  · by_cases he : i = j
    · subst he
      rw [World.cell?_setCell_same' _ _ _ (h.some_ i hi)]
      rfl
    · rw [World.cell?_setCell_other _ _ _ _ (by intro e; injection e; omega)]
      exact h.some_ i hi
theorem nV.upd {w w' : World} {base g k n c : Nat} {xs : List (BitVec 8)} (h : nV w base g n c xs) (hU : Upd k w w') (hne : g ≠ k) : nV w' base g n c xs := by
  have hb := hU.block g hne
  have hc : ∀ j, w'.cell? ⟨g, j, none⟩ = w.cell? ⟨g, j, none⟩ := fun j => World.cell?_of_block hb
  have hf : ∀ j, w'.frozen? ⟨g, j, none⟩ = w.frozen? ⟨g, j, none⟩ := fun j => by simp [World.frozen?, hb]
  exact ⟨h.ge, by rw [hU.size]; exact h.lt, h.len, h.room, h.max, fun j hj => by rw [hc]; exact h.cells j hj, fun j hj => by rw [hc]; exact h.some_ j hj, fun j hj => by rw [hf]; exact h.free j hj⟩
def nR (a : Adr) : List Value := [.int .i64 a.kind, .int .u64 (W64 a.bits)]
def bL (f : fQ) : List Value := [.int .i64 f.io, .bool f.oob, .bool f.bond, .bool f.mitm, .bool f.sid, .bool f.tid]
def I0 (i : Idn) : List Value := [.int .i64 i.adr.kind, .int .u64 (W64 i.adr.bits), .int .u64 (W64 i.irk)]
def cT (c : Cfg) : List Value := [.int .i64 c.role, .int .i64 c.feat.io, .bool c.feat.oob, .bool c.feat.bond, .bool c.feat.mitm, .bool c.feat.sid, .bool c.feat.tid, .int .i64 c.own.kind, .int .u64 (W64 c.own.bits), .int .i64 c.peer.kind, .int .u64 (W64 c.peer.bits), .int .i64 c.idn.adr.kind, .int .u64 (W64 c.idn.adr.bits), .int .u64 (W64 c.idn.irk), .int .u32 (W32 c.secret), .int .u64 (W64 c.seed), .int .u64 (W64 c.mine), .int .u64 (W64 c.oob.value), .int .u64 (W64 c.oob.random)]
def prL (p : Pr) : List Value := [.int .i64 p.cfg.role, .int .i64 p.cfg.feat.io, .bool p.cfg.feat.oob, .bool p.cfg.feat.bond, .bool p.cfg.feat.mitm, .bool p.cfg.feat.sid, .bool p.cfg.feat.tid, .int .i64 p.cfg.own.kind, .int .u64 (W64 p.cfg.own.bits), .int .i64 p.cfg.peer.kind, .int .u64 (W64 p.cfg.peer.bits), .int .i64 p.cfg.idn.adr.kind, .int .u64 (W64 p.cfg.idn.adr.bits), .int .u64 (W64 p.cfg.idn.irk), .int .u32 (W32 p.cfg.secret), .int .u64 (W64 p.cfg.seed), .int .u64 (W64 p.cfg.mine), .int .u64 (W64 p.cfg.oob.value), .int .u64 (W64 p.cfg.oob.random), .int .i64 p.phase, .int .i64 p.since, .int .i64 p.method, .int .i64 p.peer.io, .bool p.peer.oob, .bool p.peer.bond, .bool p.peer.mitm, .bool p.peer.sid, .bool p.peer.tid, .int .i64 p.req.io, .bool p.req.oob, .bool p.req.bond, .bool p.req.mitm, .bool p.req.sid, .bool p.req.tid, .int .i64 p.res.io, .bool p.res.oob, .bool p.res.bond, .bool p.res.mitm, .bool p.res.sid, .bool p.res.tid, .int .u32 (W32 p.peerKey), .int .u32 (W32 p.shared), .int .u64 (W64 p.nonce), .int .u64 (W64 p.other), .int .u64 (W64 p.commit), .bool p.have_, .int .i64 p.passkey, .int .i64 p.round, .bool p.agreed, .int .u64 (W64 p.checkIn), .bool p.haveIn, .bool p.crypt, .int .u64 (W64 p.ltk), .int .i64 p.idn.adr.kind, .int .u64 (W64 p.idn.adr.bits), .int .u64 (W64 p.idn.irk), .int .i64 p.drawn, .int .i64 p.reason]
def aI (d : Sec) : List Value := [.int .i64 d.kind, .int .i64 d.feat.io, .bool d.feat.oob, .bool d.feat.bond, .bool d.feat.mitm, .bool d.feat.sid, .bool d.feat.tid, .int .u32 (W32 d.pub), .int .u64 (W64 d.value), .int .i64 d.idn.adr.kind, .int .u64 (W64 d.idn.adr.bits), .int .u64 (W64 d.idn.irk), .int .i64 d.reason]
theorem mA (d : Sec) : (aI d).length = 13 := rfl
def dS (e : Evt) : List Value := [.int .i64 e.kind, .int .i64 e.number, .int .u64 (W64 e.key), .bool e.strong, .int .i64 e.idn.adr.kind, .int .u64 (W64 e.idn.adr.bits), .int .u64 (W64 e.idn.irk), .int .i64 e.reason]
theorem lV (e : Evt) : (dS e).length = 8 := rfl
def sdL (s : Sd) (v u : Value) : List Value := [.int .i64 s.p.cfg.role, .int .i64 s.p.cfg.feat.io, .bool s.p.cfg.feat.oob, .bool s.p.cfg.feat.bond, .bool s.p.cfg.feat.mitm, .bool s.p.cfg.feat.sid, .bool s.p.cfg.feat.tid, .int .i64 s.p.cfg.own.kind, .int .u64 (W64 s.p.cfg.own.bits), .int .i64 s.p.cfg.peer.kind, .int .u64 (W64 s.p.cfg.peer.bits), .int .i64 s.p.cfg.idn.adr.kind, .int .u64 (W64 s.p.cfg.idn.adr.bits), .int .u64 (W64 s.p.cfg.idn.irk), .int .u32 (W32 s.p.cfg.secret), .int .u64 (W64 s.p.cfg.seed), .int .u64 (W64 s.p.cfg.mine), .int .u64 (W64 s.p.cfg.oob.value), .int .u64 (W64 s.p.cfg.oob.random), .int .i64 s.p.phase, .int .i64 s.p.since, .int .i64 s.p.method, .int .i64 s.p.peer.io, .bool s.p.peer.oob, .bool s.p.peer.bond, .bool s.p.peer.mitm, .bool s.p.peer.sid, .bool s.p.peer.tid, .int .i64 s.p.req.io, .bool s.p.req.oob, .bool s.p.req.bond, .bool s.p.req.mitm, .bool s.p.req.sid, .bool s.p.req.tid, .int .i64 s.p.res.io, .bool s.p.res.oob, .bool s.p.res.bond, .bool s.p.res.mitm, .bool s.p.res.sid, .bool s.p.res.tid, .int .u32 (W32 s.p.peerKey), .int .u32 (W32 s.p.shared), .int .u64 (W64 s.p.nonce), .int .u64 (W64 s.p.other), .int .u64 (W64 s.p.commit), .bool s.p.have_, .int .i64 s.p.passkey, .int .i64 s.p.round, .bool s.p.agreed, .int .u64 (W64 s.p.checkIn), .bool s.p.haveIn, .bool s.p.crypt, .int .u64 (W64 s.p.ltk), .int .i64 s.p.idn.adr.kind, .int .u64 (W64 s.p.idn.adr.bits), .int .u64 (W64 s.p.idn.irk), .int .i64 s.p.drawn, .int .i64 s.p.reason, .int .i64 s.was.cfg.role, .int .i64 s.was.cfg.feat.io, .bool s.was.cfg.feat.oob, .bool s.was.cfg.feat.bond, .bool s.was.cfg.feat.mitm, .bool s.was.cfg.feat.sid, .bool s.was.cfg.feat.tid, .int .i64 s.was.cfg.own.kind, .int .u64 (W64 s.was.cfg.own.bits), .int .i64 s.was.cfg.peer.kind, .int .u64 (W64 s.was.cfg.peer.bits), .int .i64 s.was.cfg.idn.adr.kind, .int .u64 (W64 s.was.cfg.idn.adr.bits), .int .u64 (W64 s.was.cfg.idn.irk), .int .u32 (W32 s.was.cfg.secret), .int .u64 (W64 s.was.cfg.seed), .int .u64 (W64 s.was.cfg.mine), .int .u64 (W64 s.was.cfg.oob.value), .int .u64 (W64 s.was.cfg.oob.random), .int .i64 s.was.phase, .int .i64 s.was.since, .int .i64 s.was.method, .int .i64 s.was.peer.io, .bool s.was.peer.oob, .bool s.was.peer.bond, .bool s.was.peer.mitm, .bool s.was.peer.sid, .bool s.was.peer.tid, .int .i64 s.was.req.io, .bool s.was.req.oob, .bool s.was.req.bond, .bool s.was.req.mitm, .bool s.was.req.sid, .bool s.was.req.tid, .int .i64 s.was.res.io, .bool s.was.res.oob, .bool s.was.res.bond, .bool s.was.res.mitm, .bool s.was.res.sid, .bool s.was.res.tid, .int .u32 (W32 s.was.peerKey), .int .u32 (W32 s.was.shared), .int .u64 (W64 s.was.nonce), .int .u64 (W64 s.was.other), .int .u64 (W64 s.was.commit), .bool s.was.have_, .int .i64 s.was.passkey, .int .i64 s.was.round, .bool s.was.agreed, .int .u64 (W64 s.was.checkIn), .bool s.was.haveIn, .bool s.was.crypt, .int .u64 (W64 s.was.ltk), .int .i64 s.was.idn.adr.kind, .int .u64 (W64 s.was.idn.adr.bits), .int .u64 (W64 s.was.idn.irk), .int .i64 s.was.drawn, .int .i64 s.was.reason, .int .i64 s.now, v, u]
def Sd.put_cfg (s : Sd) (x : Cfg) : Sd := ⟨{ s.p with cfg := x }, s.was, s.now, s.sent, s.told⟩
def Pr.put_cfg (p : Pr) (x : Cfg) : Pr := { p with cfg := x }
def Sd.put_phase (s : Sd) (x : Int) : Sd := ⟨{ s.p with phase := x }, s.was, s.now, s.sent, s.told⟩
def Pr.put_phase (p : Pr) (x : Int) : Pr := { p with phase := x }
def Sd.put_since (s : Sd) (x : Int) : Sd := ⟨{ s.p with since := x }, s.was, s.now, s.sent, s.told⟩
def Pr.put_since (p : Pr) (x : Int) : Pr := { p with since := x }
def Sd.put_method (s : Sd) (x : Int) : Sd := ⟨{ s.p with method := x }, s.was, s.now, s.sent, s.told⟩
def Pr.put_method (p : Pr) (x : Int) : Pr := { p with method := x }
def Sd.put_peer (s : Sd) (x : fQ) : Sd := ⟨{ s.p with peer := x }, s.was, s.now, s.sent, s.told⟩
def Pr.put_peer (p : Pr) (x : fQ) : Pr := { p with peer := x }
def Sd.put_req (s : Sd) (x : fQ) : Sd := ⟨{ s.p with req := x }, s.was, s.now, s.sent, s.told⟩
def Pr.put_req (p : Pr) (x : fQ) : Pr := { p with req := x }
def Sd.put_res (s : Sd) (x : fQ) : Sd := ⟨{ s.p with res := x }, s.was, s.now, s.sent, s.told⟩
def Pr.put_res (p : Pr) (x : fQ) : Pr := { p with res := x }
def Sd.put_peerKey (s : Sd) (x : BitVec 32) : Sd := ⟨{ s.p with peerKey := x }, s.was, s.now, s.sent, s.told⟩
def Pr.put_peerKey (p : Pr) (x : BitVec 32) : Pr := { p with peerKey := x }
def Sd.put_shared (s : Sd) (x : BitVec 32) : Sd := ⟨{ s.p with shared := x }, s.was, s.now, s.sent, s.told⟩
def Pr.put_shared (p : Pr) (x : BitVec 32) : Pr := { p with shared := x }
def Sd.put_nonce (s : Sd) (x : BitVec 64) : Sd := ⟨{ s.p with nonce := x }, s.was, s.now, s.sent, s.told⟩
def Pr.put_nonce (p : Pr) (x : BitVec 64) : Pr := { p with nonce := x }
def Sd.put_other (s : Sd) (x : BitVec 64) : Sd := ⟨{ s.p with other := x }, s.was, s.now, s.sent, s.told⟩
def Pr.put_other (p : Pr) (x : BitVec 64) : Pr := { p with other := x }
def Sd.put_commit (s : Sd) (x : BitVec 64) : Sd := ⟨{ s.p with commit := x }, s.was, s.now, s.sent, s.told⟩
def Pr.put_commit (p : Pr) (x : BitVec 64) : Pr := { p with commit := x }
def Sd.put_have_ (s : Sd) (x : Bool) : Sd := ⟨{ s.p with have_ := x }, s.was, s.now, s.sent, s.told⟩
def Pr.put_have_ (p : Pr) (x : Bool) : Pr := { p with have_ := x }
def Sd.put_passkey (s : Sd) (x : Int) : Sd := ⟨{ s.p with passkey := x }, s.was, s.now, s.sent, s.told⟩
def Pr.put_passkey (p : Pr) (x : Int) : Pr := { p with passkey := x }
def Sd.put_round (s : Sd) (x : Int) : Sd := ⟨{ s.p with round := x }, s.was, s.now, s.sent, s.told⟩
def Pr.put_round (p : Pr) (x : Int) : Pr := { p with round := x }
def Sd.put_agreed (s : Sd) (x : Bool) : Sd := ⟨{ s.p with agreed := x }, s.was, s.now, s.sent, s.told⟩
def Pr.put_agreed (p : Pr) (x : Bool) : Pr := { p with agreed := x }
def Sd.put_checkIn (s : Sd) (x : BitVec 64) : Sd := ⟨{ s.p with checkIn := x }, s.was, s.now, s.sent, s.told⟩
def Pr.put_checkIn (p : Pr) (x : BitVec 64) : Pr := { p with checkIn := x }
def Sd.put_haveIn (s : Sd) (x : Bool) : Sd := ⟨{ s.p with haveIn := x }, s.was, s.now, s.sent, s.told⟩
def Pr.put_haveIn (p : Pr) (x : Bool) : Pr := { p with haveIn := x }
def Sd.put_crypt (s : Sd) (x : Bool) : Sd := ⟨{ s.p with crypt := x }, s.was, s.now, s.sent, s.told⟩
def Pr.put_crypt (p : Pr) (x : Bool) : Pr := { p with crypt := x }
def Sd.put_ltk (s : Sd) (x : BitVec 64) : Sd := ⟨{ s.p with ltk := x }, s.was, s.now, s.sent, s.told⟩
def Pr.put_ltk (p : Pr) (x : BitVec 64) : Pr := { p with ltk := x }
def Sd.put_idn (s : Sd) (x : Idn) : Sd := ⟨{ s.p with idn := x }, s.was, s.now, s.sent, s.told⟩
def Pr.put_idn (p : Pr) (x : Idn) : Pr := { p with idn := x }
def Sd.put_drawn (s : Sd) (x : Int) : Sd := ⟨{ s.p with drawn := x }, s.was, s.now, s.sent, s.told⟩
def Pr.put_drawn (p : Pr) (x : Int) : Pr := { p with drawn := x }
def Sd.put_reason (s : Sd) (x : Int) : Sd := ⟨{ s.p with reason := x }, s.was, s.now, s.sent, s.told⟩
def Pr.put_reason (p : Pr) (x : Int) : Pr := { p with reason := x }
theorem I1 (x y : Sec) : (x.kind == y.kind && (x.feat.io == y.feat.io && (x.feat.oob == y.feat.oob && (x.feat.bond == y.feat.bond && (x.feat.mitm == y.feat.mitm && (x.feat.sid == y.feat.sid && (x.feat.tid == y.feat.tid && (W32 x.pub == W32 y.pub && (W64 x.value == W64 y.value && (x.idn.adr.kind == y.idn.adr.kind && (W64 x.idn.adr.bits == W64 y.idn.adr.bits && (W64 x.idn.irk == W64 y.idn.irk && (x.reason == y.reason))))))))))))) = decide (x = y) := by
  rw [Bool.eq_iff_iff, decide_eq_true_iff]
  constructor
  · intro h
    simp only [Bool.and_eq_true, beq_iff_eq, CR, CV] at h
    obtain ⟨x0, ⟨x1, x2, x3, x4, x5, x6⟩, x7, x8, ⟨⟨x9, x10⟩, x11⟩, x12⟩ := x
    obtain ⟨y0, ⟨y1, y2, y3, y4, y5, y6⟩, y7, y8, ⟨⟨y9, y10⟩, y11⟩, y12⟩ := y
    dsimp only at h
    obtain ⟨rfl, rfl, rfl, rfl, rfl, rfl, rfl, rfl, rfl, rfl, rfl, rfl, rfl⟩ := h
    rfl
  · rintro rfl
    simp only [beq_self_eq_true, Bool.and_true]
theorem I2 (x y : Evt) : (x.kind == y.kind && (x.number == y.number && (W64 x.key == W64 y.key && (x.strong == y.strong && (x.idn.adr.kind == y.idn.adr.kind && (W64 x.idn.adr.bits == W64 y.idn.adr.bits && (W64 x.idn.irk == W64 y.idn.irk && (x.reason == y.reason)))))))) = decide (x = y) := by
  rw [Bool.eq_iff_iff, decide_eq_true_iff]
  constructor
  · intro h
    simp only [Bool.and_eq_true, beq_iff_eq, CR, CV] at h
    obtain ⟨x0, x1, x2, x3, ⟨⟨x4, x5⟩, x6⟩, x7⟩ := x
    obtain ⟨y0, y1, y2, y3, ⟨⟨y4, y5⟩, y6⟩, y7⟩ := y
    dsimp only at h
    obtain ⟨rfl, rfl, rfl, rfl, rfl, rfl, rfl, rfl⟩ := h
    rfl
  · rintro rfl
    simp only [beq_self_eq_true, Bool.and_true]
theorem K5 (x y : Pr) : (x.cfg.role == y.cfg.role && (x.cfg.feat.io == y.cfg.feat.io && (x.cfg.feat.oob == y.cfg.feat.oob && (x.cfg.feat.bond == y.cfg.feat.bond && (x.cfg.feat.mitm == y.cfg.feat.mitm && (x.cfg.feat.sid == y.cfg.feat.sid && (x.cfg.feat.tid == y.cfg.feat.tid && (x.cfg.own.kind == y.cfg.own.kind && (W64 x.cfg.own.bits == W64 y.cfg.own.bits && (x.cfg.peer.kind == y.cfg.peer.kind && (W64 x.cfg.peer.bits == W64 y.cfg.peer.bits && (x.cfg.idn.adr.kind == y.cfg.idn.adr.kind && (W64 x.cfg.idn.adr.bits == W64 y.cfg.idn.adr.bits && (W64 x.cfg.idn.irk == W64 y.cfg.idn.irk && (W32 x.cfg.secret == W32 y.cfg.secret && (W64 x.cfg.seed == W64 y.cfg.seed && (W64 x.cfg.mine == W64 y.cfg.mine && (W64 x.cfg.oob.value == W64 y.cfg.oob.value && (W64 x.cfg.oob.random == W64 y.cfg.oob.random && (x.phase == y.phase && (x.since == y.since && (x.method == y.method && (x.peer.io == y.peer.io && (x.peer.oob == y.peer.oob && (x.peer.bond == y.peer.bond && (x.peer.mitm == y.peer.mitm && (x.peer.sid == y.peer.sid && (x.peer.tid == y.peer.tid && (x.req.io == y.req.io && (x.req.oob == y.req.oob && (x.req.bond == y.req.bond && (x.req.mitm == y.req.mitm && (x.req.sid == y.req.sid && (x.req.tid == y.req.tid && (x.res.io == y.res.io && (x.res.oob == y.res.oob && (x.res.bond == y.res.bond && (x.res.mitm == y.res.mitm && (x.res.sid == y.res.sid && (x.res.tid == y.res.tid && (W32 x.peerKey == W32 y.peerKey && (W32 x.shared == W32 y.shared && (W64 x.nonce == W64 y.nonce && (W64 x.other == W64 y.other && (W64 x.commit == W64 y.commit && (x.have_ == y.have_ && (x.passkey == y.passkey && (x.round == y.round && (x.agreed == y.agreed && (W64 x.checkIn == W64 y.checkIn && (x.haveIn == y.haveIn && (x.crypt == y.crypt && (W64 x.ltk == W64 y.ltk && (x.idn.adr.kind == y.idn.adr.kind && (W64 x.idn.adr.bits == W64 y.idn.adr.bits && (W64 x.idn.irk == W64 y.idn.irk && (x.drawn == y.drawn && (x.reason == y.reason)))))))))))))))))))))))))))))))))))))))))))))))))))))))))) = decide (x = y) := by
  rw [Bool.eq_iff_iff, decide_eq_true_iff]
  constructor
  · intro h
    simp only [Bool.and_eq_true, beq_iff_eq, CR, CV] at h
    obtain ⟨⟨x0, ⟨x1, x2, x3, x4, x5, x6⟩, ⟨x7, x8⟩, ⟨x9, x10⟩, ⟨⟨x11, x12⟩, x13⟩, x14, x15, x16, ⟨x17, x18⟩⟩, x19, x20, x21, ⟨x22, x23, x24, x25, x26, x27⟩, ⟨x28, x29, x30, x31, x32, x33⟩, ⟨x34, x35, x36, x37, x38, x39⟩, x40, x41, x42, x43, x44, x45, x46, x47, x48, x49, x50, x51, x52, ⟨⟨x53, x54⟩, x55⟩, x56, x57⟩ := x
    obtain ⟨⟨y0, ⟨y1, y2, y3, y4, y5, y6⟩, ⟨y7, y8⟩, ⟨y9, y10⟩, ⟨⟨y11, y12⟩, y13⟩, y14, y15, y16, ⟨y17, y18⟩⟩, y19, y20, y21, ⟨y22, y23, y24, y25, y26, y27⟩, ⟨y28, y29, y30, y31, y32, y33⟩, ⟨y34, y35, y36, y37, y38, y39⟩, y40, y41, y42, y43, y44, y45, y46, y47, y48, y49, y50, y51, y52, ⟨⟨y53, y54⟩, y55⟩, y56, y57⟩ := y
    dsimp only at h
    obtain ⟨rfl, rfl, rfl, rfl, rfl, rfl, rfl, rfl, rfl, rfl, rfl, rfl, rfl, rfl, rfl, rfl, rfl, rfl, rfl, rfl, rfl, rfl, rfl, rfl, rfl, rfl, rfl, rfl, rfl, rfl, rfl, rfl, rfl, rfl, rfl, rfl, rfl, rfl, rfl, rfl, rfl, rfl, rfl, rfl, rfl, rfl, rfl, rfl, rfl, rfl, rfl, rfl, rfl, rfl, rfl, rfl, rfl, rfl⟩ := h
    rfl
  · rintro rfl
    simp only [beq_self_eq_true, Bool.and_true]
def Sd.put_p (s : Sd) (x : Pr) : Sd := ⟨x, s.was, s.now, s.sent, s.told⟩
theorem zZ {l : List Value} (h : l.all (·.oneCell') = true) : ∀ u ∈ l, u.oneCell' = true := fun u hu => List.all_eq_true.1 h u hu
theorem CZ (d : Sec) : (aI d).all (·.oneCell') = true := rfl
theorem wC (e : Evt) : (dS e).all (·.oneCell') = true := rfl
def dG (l : List Sec) : List Value := l.flatMap aI
def dC (l : List Evt) : List Value := l.flatMap dS
theorem zN (a b : List Sec) : dG (a ++ b) = dG a ++ dG b := by unfold dG; rw [List.flatMap_append]
theorem zU (a b : List Evt) : dC (a ++ b) = dC a ++ dC b := by unfold dC; rw [List.flatMap_append]
abbrev Bk := Nat × TypeId × Array Value
abbrev dE : TypeId := 43
abbrev dK : TypeId := 80
def GW : List Value := [1, 1, 3, 1, 3, 1, 2, 3, 1, 2, 4, 4, 5, 1, 4, 1, 1, 1, 1, 1, 4, 2, 3, 1, 2].map fun n => .int .i64 n
def H9 : List Value := [0, 0, 3, 1, 0].map fun n => .int .u64 n
structure bW (W : World) : Prop where
  lt : 2 ≤ W.heap.size
  tab : W.rangeAt 1 0 GW
  pre : W.rangeAt 0 0 H9
theorem bW.of {W W' : World} {B : Nat} (h : bW W) (hb : Below B W W') (hB : 2 ≤ B) : bW W' :=
  ⟨Nat.le_trans h.lt hb.size, fun j v hj => (hb.cell (p := ⟨1, 0 + j, none⟩) (Nat.lt_of_lt_of_le (show 1 < 2 by decide) hB)).trans (h.tab j v hj), fun j v hj => (hb.cell (p := ⟨0, 0 + j, none⟩) (Nat.lt_of_lt_of_le (show 0 < 2 by decide) hB)).trans (h.pre j v hj)⟩
theorem bW.to {W W' : World} (h : bW W) (hb : Below W.heap.size W W') : bW W' := h.of hb h.lt
theorem bW.upd {W W' : World} {g : Nat} (h : bW W) (hU : Upd g W W') (hg : 2 ≤ g) : bW W' := h.of (hU.below (Below.refl 2 W) hg) (Nat.le_refl _)
theorem rV : aO bW := fun w w' h hb => h.to hb
structure Mem (w0 W : World) (base : Nat) (S : List Sec) (E : List Evt) (v u : Value) (bx : List Bk) : Prop where
  pre : bW w0 ∧ 2 ≤ base
  below : Below base w0 W
  low : base ≤ W.heap.size
  sent : W.ownsRow base dE 13 v S.length (dG S)
  told : W.ownsRow base dK 8 u E.length (dC E)
  box : ∀ b ∈ bx, Blk W b.1 b.2.1 b.2.2 ∧ base ≤ b.1 ∧ v.ownBlock ≠ some b.1 ∧ u.ownBlock ≠ some b.1
  nd : bx.Pairwise fun a b => a.1 ≠ b.1
section
variable {w0 W W' : World} {base : Nat} {S : List Sec} {E : List Evt} {v u : Value} {bx : List Bk}
theorem Mem.to (h : Mem w0 W base S E v u bx) (hb : Below W.heap.size W W') : Mem w0 W' base S E v u bx :=
  ⟨h.pre, h.below.trans (hb.mono h.low), Nat.le_trans h.low hb.size, AK h.sent hb, AK h.told hb, fun b hm => let ⟨a, c⟩ := h.box b hm; ⟨a.to hb a.lt, c⟩, h.nd⟩
theorem bD (w0 : World) (base : Nat) (S : List Sec) (E : List Evt) (v u : Value) (bx : List Bk) : aO fun W => Mem w0 W base S E v u bx := fun w w' h hb => h.to hb
theorem Mem.laid (h : Mem w0 W base S E v u bx) : bW W := h.pre.1.of h.below h.pre.2
theorem Mem.drew (h : Mem w0 W base S E v u bx) : Mem w0 W.drew base S E v u bx := h.to (Below.refl _ _).drew
theorem Mem.here (h : Mem w0 W base S E v u bx) : Mem W W base S E v u bx := ⟨⟨h.pre.1.of h.below h.pre.2, h.pre.2⟩, Below.refl _ _, h.low, h.sent, h.told, h.box, h.nd⟩
theorem Mem.trans {S' : List Sec} {E' : List Evt} {v' u' : Value} {bx' : List Bk} (h : Mem w0 W base S E v u bx) (k : Mem W W' base S' E' v' u' bx') : Mem w0 W' base S' E' v' u' bx' :=
  ⟨h.pre, h.below.trans k.below, k.low, k.sent, k.told, k.box, k.nd⟩
theorem DO {W : World} {base : Nat} {e : TypeId} {size n k : Nat} {v : Value} {xs : List Value} (h : W.ownsRow base e size v n xs) (hk : W.heap.size ≤ k) : v.ownBlock ≠ some k := fun e => by
  have := (h.lt _ e).2
  omega
theorem Mem.alloc {k : Nat} {ty : TypeId} {cs : Array Value} (h : Mem w0 W base S E v u bx) (hk : W.heap.size ≤ k) (hb : Below W.heap.size W W') (hG : Blk W' k ty cs) : Mem w0 W' base S E v u ((k, ty, cs) :: bx) := by
  have h2 := h.to hb
  refine ⟨h2.pre, h2.below, h2.low, h2.sent, h2.told, fun b hm => ?_, List.pairwise_cons.2 ⟨fun b hm => ?_, h.nd⟩⟩
  · rcases List.mem_cons.1 hm with rfl | hm
    · exact ⟨hG, Nat.le_trans h.low hk, DO h.sent hk, DO h.told hk⟩
    · exact h2.box b hm
  · have := (h.box b hm).1.lt
    show k ≠ b.1
    omega
theorem Mem.swap {a b : Bk} (h : Mem w0 W base S E v u (a :: b :: bx)) : Mem w0 W base S E v u (b :: a :: bx) := by
  have n1 := List.pairwise_cons.1 h.nd
  have n2 := List.pairwise_cons.1 n1.2
  refine ⟨h.pre, h.below, h.low, h.sent, h.told, fun c hm => h.box c (by simp only [List.mem_cons] at hm ⊢; rcases hm with h | h | h <;> simp [h]), List.pairwise_cons.2 ⟨fun c hm => ?_, List.pairwise_cons.2 ⟨fun c hm => n1.1 c (List.mem_cons_of_mem _ hm), n2.2⟩⟩⟩
  rcases List.mem_cons.1 hm with rfl | hm
  · exact fun e => n1.1 b List.mem_cons_self e.symm
  · exact n2.1 c hm
theorem Mem.alloc1 {k : Nat} {ty : TypeId} {cs : Array Value} {a : Bk} (h : Mem w0 W base S E v u (a :: bx)) (hk : W.heap.size ≤ k) (hb : Below W.heap.size W W') (hG : Blk W' k ty cs) : Mem w0 W' base S E v u (a :: (k, ty, cs) :: bx) :=
  (h.alloc hk hb hG).swap
theorem Mem.drop {a : Bk} (h : Mem w0 W base S E v u (a :: bx)) : Mem w0 W base S E v u bx :=
  ⟨h.pre, h.below, h.low, h.sent, h.told, fun b hm => h.box b (List.mem_cons_of_mem _ hm), (List.pairwise_cons.1 h.nd).2⟩
theorem Mem.drop1 {a b : Bk} (h : Mem w0 W base S E v u (a :: b :: bx)) : Mem w0 W base S E v u (a :: bx) := h.swap.drop
theorem Mem.b0 {k : Nat} {ty : TypeId} {cs : Array Value} (h : Mem w0 W base S E v u ((k, ty, cs) :: bx)) : Blk W k ty cs := (h.box (k, ty, cs) List.mem_cons_self).1
theorem Mem.b1 {k : Nat} {ty : TypeId} {cs : Array Value} {a : Bk} (h : Mem w0 W base S E v u (a :: (k, ty, cs) :: bx)) : Blk W k ty cs := h.drop.b0
theorem Mem.b2 {k : Nat} {ty : TypeId} {cs : Array Value} {a b : Bk} (h : Mem w0 W base S E v u (a :: b :: (k, ty, cs) :: bx)) : Blk W k ty cs := h.drop.b1
theorem Mem.b3 {k : Nat} {ty : TypeId} {cs : Array Value} {a b c : Bk} (h : Mem w0 W base S E v u (a :: b :: c :: (k, ty, cs) :: bx)) : Blk W k ty cs := h.drop.b2
theorem Mem.b4 {k : Nat} {ty : TypeId} {cs : Array Value} {a b c d : Bk} (h : Mem w0 W base S E v u (a :: b :: c :: d :: (k, ty, cs) :: bx)) : Blk W k ty cs := h.drop.b3
theorem tV {w w' : World} {g base n size : Nat} {e : TypeId} {v : Value} {xs : List Value} (ho : w.ownsRow base e size v n xs) (hU : Upd g w w') (hne : v.ownBlock ≠ some g) : w'.ownsRow base e size v n xs := by
  refine ⟨ho.1, ?_⟩
  rcases ho.2 with h2 | ⟨g', cap, cur, hv, hbg, hg, r⟩
  · exact .inl h2
  · refine .inr ⟨g', cap, cur, hv, hbg, (hU.block g' ?_).trans hg, r⟩
    rintro rfl
    exact hne (by rw [hv]; rfl)
theorem Mem.s0 {k : Nat} {ty : TypeId} {cs cs' : Array Value} (h : Mem w0 W base S E v u ((k, ty, cs) :: bx)) (hU : Upd k W W') (hG : Blk W' k ty cs') : Mem w0 W' base S E v u ((k, ty, cs') :: bx) := by
  have n1 := List.pairwise_cons.1 h.nd
  have hk := h.box (k, ty, cs) List.mem_cons_self
  refine ⟨h.pre, hU.below h.below hk.2.1, by rw [hU.size]; exact h.low, tV h.sent hU hk.2.2.1, tV h.told hU hk.2.2.2, fun b hm => ?_, List.pairwise_cons.2 n1⟩
  rcases List.mem_cons.1 hm with rfl | hm
  · exact ⟨hG, hk.2⟩
  · have hb := h.box b (List.mem_cons_of_mem _ hm)
    exact ⟨hU.blk hb.1 (fun e => n1.1 b hm e.symm), hb.2⟩
theorem Mem.s1 {k : Nat} {ty : TypeId} {cs cs' : Array Value} {a : Bk} (h : Mem w0 W base S E v u (a :: (k, ty, cs) :: bx)) (hU : Upd k W W') (hG : Blk W' k ty cs') : Mem w0 W' base S E v u (a :: (k, ty, cs') :: bx) := (h.swap.s0 hU hG).swap
theorem Mem.rot {a b c : Bk} (h : Mem w0 W base S E v u (a :: b :: c :: bx)) : Mem w0 W base S E v u (c :: a :: b :: bx) := by
  have n1 := List.pairwise_cons.1 h.nd
  have n2 := List.pairwise_cons.1 n1.2
  have n3 := List.pairwise_cons.1 n2.2
  refine ⟨h.pre, h.below, h.low, h.sent, h.told, fun d hm => h.box d (by simp only [List.mem_cons] at hm ⊢; rcases hm with h | h | h | h <;> simp [h]), List.pairwise_cons.2 ⟨fun d hm => ?_, List.pairwise_cons.2 ⟨fun d hm => ?_, List.pairwise_cons.2 ⟨fun d hm => n2.1 d (List.mem_cons_of_mem _ hm), n3.2⟩⟩⟩⟩
  · rcases List.mem_cons.1 hm with rfl | hm
    · exact fun e => n1.1 c (by simp) e.symm
    · rcases List.mem_cons.1 hm with rfl | hm
      · exact fun e => n2.1 c (by simp) e.symm
      · exact n3.1 d hm
  · rcases List.mem_cons.1 hm with rfl | hm
    · exact n1.1 d (by simp)
    · exact n1.1 d (by simp [hm])
theorem Mem.rot' {a b c : Bk} (h : Mem w0 W base S E v u (c :: a :: b :: bx)) : Mem w0 W base S E v u (a :: b :: c :: bx) := h.rot.rot
theorem Mem.s2 {k : Nat} {ty : TypeId} {cs cs' : Array Value} {a b : Bk} (h : Mem w0 W base S E v u (a :: b :: (k, ty, cs) :: bx)) (hU : Upd k W W') (hG : Blk W' k ty cs') : Mem w0 W' base S E v u (a :: b :: (k, ty, cs') :: bx) := (h.rot.s0 hU hG).rot'
end
section
variable {w0 W W' : World} {base : Nat} {S : List Sec} {E : List Evt} {v u : Value} {bx : List Bk}
theorem rF {W : World} {base base' n n' size size' : Nat} {e e' : TypeId} {v u : Value} {xs ys : List Value} (h : W.ownsRow base e size v n xs) (k : W.ownsRow base' e' size' u n' ys) (hne : e ≠ e') : u.ownBlock = none ∨ u.ownBlock ≠ v.ownBlock := by
  rcases k.2 with ⟨rfl, _⟩ | ⟨g, cap, cur, rfl, _, hg, _⟩
  · exact .inl rfl
  · refine .inr fun e1 => ?_
    rcases h.2 with ⟨rfl, _⟩ | ⟨g2, cap2, cur2, rfl, _, hg2, _⟩
    · simp [Value.ownBlock] at e1
    · simp [Value.ownBlock] at e1
      subst e1
      rw [hg2] at hg
      injection hg with hg
      injection hg with _ ht
      exact hne ht
theorem Mem.grow (h : Mem w0 W base S E v u bx) {row : Option Nat} (hg : W.grownBy W' row) (hr : row = v.ownBlock ∨ row = u.ownBlock) : Below base w0 W' ∧ base ≤ W'.heap.size ∧ ∀ b ∈ bx, Blk W' b.1 b.2.1 b.2.2 := by
  refine ⟨h.below.grown hg h.low fun k hk => ?_, Nat.le_trans h.low hg.size, fun b hm => ?_⟩
  · rcases hr with e | e
    · exact (h.sent.lt k (by rw [← e]; exact hk)).1
    · exact (h.told.lt k (by rw [← e]; exact hk)).1
  · have hb := h.box b hm
    refine (hg.block b.1 hb.1.lt fun e => ?_).trans hb.1
    rcases hr with e2 | e2
    · exact hb.2.2.1 (by rw [← e2, ← e])
    · exact hb.2.2.2 (by rw [← e2, ← e])
theorem Mem.app {d : Sec} {v' : Value} (h : Mem w0 W base S E v u bx) (hown : W'.ownsRow base dE 13 v' (S.length + 1) (dG S ++ aI d)) (hg : W.grownBy W' v.ownBlock) (hat : v'.ownBlock = v.ownBlock ∨ v'.ownBlock = some W.heap.size) : Mem w0 W' base (S ++ [d]) E v' u bx := by
  obtain ⟨h1, h2, h3⟩ := h.grow hg (.inl rfl)
  refine ⟨h.pre, h1, h2, ?_, h.told.kept hg (rF h.sent h.told (by decide)), fun b hm => ⟨h3 b hm, (h.box b hm).2.1, fun e => ?_, (h.box b hm).2.2.2⟩, h.nd⟩
  · rw [List.length_append, zN]
    unfold dG at hown ⊢
    rw [List.flatMap_cons, List.flatMap_nil, List.append_nil]
    exact hown
  · rcases hat with e1 | e1
    · exact (h.box b hm).2.2.1 (by rw [← e1, e])
    · rw [e1] at e
      injection e with e
      have := (h.box b hm).1.lt
      omega
theorem Mem.appE {d : Evt} {u' : Value} (h : Mem w0 W base S E v u bx) (hown : W'.ownsRow base dK 8 u' (E.length + 1) (dC E ++ dS d)) (hg : W.grownBy W' u.ownBlock) (hat : u'.ownBlock = u.ownBlock ∨ u'.ownBlock = some W.heap.size) : Mem w0 W' base S (E ++ [d]) v u' bx := by
  obtain ⟨h1, h2, h3⟩ := h.grow hg (.inr rfl)
  refine ⟨h.pre, h1, h2, h.sent.kept hg (rF h.told h.sent (by decide)), ?_, fun b hm => ⟨h3 b hm, (h.box b hm).2.1, (h.box b hm).2.2.1, fun e => ?_⟩, h.nd⟩
  · rw [List.length_append, zU]
    unfold dC at hown ⊢
    rw [List.flatMap_cons, List.flatMap_nil, List.append_nil]
    exact hown
  · rcases hat with e1 | e1
    · exact (h.box b hm).2.2.2 (by rw [← e1, e])
    · rw [e1] at e
      injection e with e
      have := (h.box b hm).1.lt
      omega
theorem Mem.nilS (h : Mem w0 W base S E v u bx) : Mem w0 W base [] E (.slice none 0 0) u bx :=
  ⟨h.pre, h.below, h.low, World.ownsRow_nil _ _ _ _, h.told, fun b hm => ⟨(h.box b hm).1, (h.box b hm).2.1, by simp [Value.ownBlock], (h.box b hm).2.2.2⟩, h.nd⟩
theorem Mem.oneE {k : Nat} {e : Evt} (h : Mem w0 W base S E v u ((k, dK, (dS e).toArray) :: bx)) : Mem w0 W base S [e] v (.slice (some ⟨k, 0, none⟩) 1 1) bx := by
  have n1 := List.pairwise_cons.1 h.nd
  have hk := h.box _ List.mem_cons_self
  have ho := xG (base := base) (n := 1) hk.1 hk.2.1 (by unfold maxLen; omega) 8 rfl
  refine ⟨h.pre, h.below, h.low, h.sent, ?_, fun b hm => ⟨(h.box b (List.mem_cons_of_mem _ hm)).1, (h.box b (List.mem_cons_of_mem _ hm)).2.1, (h.box b (List.mem_cons_of_mem _ hm)).2.2.1, fun e2 => ?_⟩, n1.2⟩
  · show W.ownsRow base dK 8 _ 1 (dC [e])
    unfold dC
    rw [List.flatMap_cons, List.flatMap_nil, List.append_nil]
    exact ho
  · simp [Value.ownBlock] at e2
    exact n1.1 b hm e2
abbrev cQ : TypeId := 92
def eA (w w' : World) (base g : Nat) (T : Sd) (bx : List Bk) : Prop := ∃ v u, Mem w w' base T.sent T.told v u ((g, cQ, (sdL T v u).toArray) :: bx)
theorem IR : (Tryz.prog.info? dE).map (fun i => (i.zero, i.size)) = some (some (.agg (aI cL).toArray), 13) := by kernel_rfl
theorem I9 : (Tryz.prog.info? dK).map (fun i => (i.zero, i.size)) = some (some (.agg (dS sJ).toArray), 8) := by kernel_rfl
theorem xI : ((Tryz.prog.info? dE).map (·.bytes)).getD 0 ≤ 1024 := by decide +kernel
theorem sW : ((Tryz.prog.info? dK).map (·.bytes)).getD 0 ≤ 1024 := by decide +kernel
theorem hH {ops : Array Oper} {rest : List Oper} {dst : Option Tmp} {tt : TypeId} {x y : Operand} {pos : String} {after : Array Edge} {a : Act} {Q : Exit → Act → World → Prop} {k c : Nat} (d : Sec)
    (h : Mem w0 W base S E v u bx) (hs : a.eval x = v) (hx : a.eval y = .slice (some ⟨k, 0, none⟩) 1 c) (hG : Blk W k dE (aI d).toArray) (hl : S.length ≤ 1000)
    (K : ∀ v' w', Mem w0 w' base (S ++ [d]) E v' u bx → wpList Tryz.prog ops Q rest (a.put dst v') w') :
    wpList Tryz.prog ops Q ({ dst := dst, op := .call { callee := .builtin .append, args := #[x, y], argTypes := #[46, 46] }, type := tt, pos := pos, after := after, guard := none } :: rest) a W := by
  have hb := xI
  have hi := IR
  cases hq : Tryz.prog.info? dE with
  | none => rw [hq] at hi; cases hi
  | some i =>
    rw [hq] at hi hb
    have hi2 := Option.some.inj hi
    injection hi2 with hz hsz
    have hb2 : i.bytes ≤ 1024 := hb
    refine wpList_append_own_at W rfl x y 46 rfl base dE i _ 13 i.bytes U46 hq hz hsz rfl rfl (by decide) v S.length (dG S) hs h.sent ⟨k, 0, none⟩ 1 c (aI d) hx rfl (fun j u2 hj => ?_) (zZ (CZ d)) (by unfold maxLen; omega) ?_ h.low fun v' w' h2 h3 _ h5 => K v' w' (h.app h2 h3 h5)
    · rw [oH, hG.cell]
      simpa using hj
    · have := Nat.mul_le_mul (show S.length + 1 ≤ 1001 by omega) hb2
      omega
theorem gY {ops : Array Oper} {rest : List Oper} {dst : Option Tmp} {tt : TypeId} {x y : Operand} {pos : String} {after : Array Edge} {a : Act} {Q : Exit → Act → World → Prop} {k c : Nat} (d : Evt)
    (h : Mem w0 W base S E v u bx) (hs : a.eval x = u) (hx : a.eval y = .slice (some ⟨k, 0, none⟩) 1 c) (hG : Blk W k dK (dS d).toArray) (hl : E.length ≤ 1000)
    (K : ∀ u' w', Mem w0 w' base S (E ++ [d]) v u' bx → wpList Tryz.prog ops Q rest (a.put dst u') w') :
    wpList Tryz.prog ops Q ({ dst := dst, op := .call { callee := .builtin .append, args := #[x, y], argTypes := #[47, 47] }, type := tt, pos := pos, after := after, guard := none } :: rest) a W := by
  have hb := sW
  have hi := I9
  cases hq : Tryz.prog.info? dK with
  | none => rw [hq] at hi; cases hi
  | some i =>
    rw [hq] at hi hb
    have hi2 := Option.some.inj hi
    injection hi2 with hz hsz
    have hb2 : i.bytes ≤ 1024 := hb
    refine wpList_append_own_at W rfl x y 47 rfl base dK i _ 8 i.bytes U47 hq hz hsz rfl rfl (by decide) u E.length (dC E) hs h.told ⟨k, 0, none⟩ 1 c (dS d) hx rfl (fun j u2 hj => ?_) (zZ (wC d)) (by unfold maxLen; omega) ?_ h.low fun v' w' h2 h3 _ h5 => K v' w' (h.appE h2 h3 h5)
    · rw [oH, hG.cell]
      simpa using hj
    · have := Nat.mul_le_mul (show E.length + 1 ≤ 1001 by omega) hb2
      omega
end
end
section
theorem es9 {α : Sort _} {a b : α} (h : a = b := by ((try unfold Sd.call); (try unfold Sd.take); (try unfold Sd.open_); (try unfold Sd.toChecks); (try unfold Sd.identity); (try unfold Sd.choose); (try dsimp only); (repeat' (split <;> (first | (exfalso; rename_i hh; first | exact absurd (by assumption) hh | exact absurd hh (by assumption) | exact absurd hh (bnt (by assumption)) | exact absurd hh (bnf (by assumption)) | omega | exact hh rfl | exact absurd hh (by decide) | exact absurd hh.1 (bnt (by assumption)) | exact absurd hh.2 (bnt (by assumption)) | exact absurd hh.1 (by assumption) | exact absurd hh.2 (by assumption) | exact absurd hh.2.1 (bnt (by assumption)) | exact hh ⟨by assumption, by assumption⟩ | exact hh ⟨by assumption, by omega⟩ | exact hh (.inl (by assumption)) | exact hh (.inr (by assumption)) | exact hh (.inr (.inl (by assumption))) | exact hh (.inr (.inr (by assumption))) | exact hh (.inl (fun k => absurd (by assumption) k)) | (rcases hh with hh | hh <;> first | exact absurd (by assumption) hh | exact absurd hh (by assumption) | exact absurd hh (bnt (by assumption)) | exact absurd hh (bnf (by assumption)) | omega) | (rcases hh with hh | hh | hh <;> first | exact absurd (by assumption) hh | exact absurd hh (by assumption) | exact absurd hh (bnt (by assumption)) | exact absurd hh (bnf (by assumption)) | omega)) | skip))); all_goals rfl)) : a = b := h
end
section
open Go.ChangeShapes Go.WideShapes Go.ChangeAt Go.RowKit
theorem oF {w : World} {base n size : Nat} {e : TypeId} {v : Value} {xs : List Value} (h : w.ownsRow base e size v n xs) : v.cells = #[v] ∧ v.oneCell' = true := by
  rcases h.2 with ⟨rfl, _⟩ | ⟨g, cap, cur, rfl, _⟩ <;> exact ⟨rfl, rfl⟩
section
variable {w0 W W' : World} {base : Nat} {S : List Sec} {E : List Evt} {v u : Value} {bx : List Bk}
theorem Mem.vc (h : Mem w0 W base S E v u bx) : v.cells = #[v] := (oF h.sent).1
theorem Mem.v1 (h : Mem w0 W base S E v u bx) : v.oneCell' = true := (oF h.sent).2
theorem Mem.uc (h : Mem w0 W base S E v u bx) : u.cells = #[u] := (oF h.told).1
theorem Mem.u1 (h : Mem w0 W base S E v u bx) : u.oneCell' = true := (oF h.told).2
theorem eT {P : Program} {w : World} {ty : TypeId} {g o : Nat} {t : TypeId} {cs : Array Value} {v : Value} (hG : Blk w g t cs) (hc : v.cells = #[v]) (hi : (P.info? ty).map (·.size) = some 1) (h1 : v.oneCell' = true) (hn : o < cs.size) :
    ∃ w', (storeVar ty ⟨g, o, none⟩ v).run P w = .ok () w' ∧ Blk w' g t (cs.setIfInBounds o v) ∧ Upd g w w' := by
  have hth := oS hG o 1 (by omega)
  have hs : (store ⟨g, o, none⟩ v .plain).run P w = .ok () (w.setCell ⟨g, o, none⟩ v) := by
    rw [run_store P w _ v .plain h1]
    have := hth 0 (by omega)
    simp only [Nat.add_zero] at this
    obtain ⟨u, hu⟩ := Option.isSome_iff_exists.1 this.1
    simp [hu, this.2]
  cases hq : P.info? ty with
  | none => simp [hq] at hi
  | some i =>
    have hsz : i.size = 1 := by simpa [hq] using hi
    refine ⟨_, ?_, hG.set_ o v, ⟨rfl, rfl, rfl, by simp [World.setCell], fun k hk => Below.heap_setCell w ⟨g, o, none⟩ v k hk⟩⟩
    simp [storeVar, sizeOf, typeInfo, hq, hc, hsz, storeCells, Addr.add, hs]
theorem Mem.hole1 {P : Program} {ty t : TypeId} {g : Nat} {cs : Array Value} (o : Nat) (x : Value) (cs' : Array Value) (h : Mem w0 W base S E v u ((g, t, cs) :: bx)) (hc : x.cells = #[x]) (hi : (P.info? ty).map (·.size) = some 1) (h1 : x.oneCell' = true) (hn : o < cs.size) (he : cs.setIfInBounds o x = cs') :
    ∃ w', (storeVar ty ⟨g, o, none⟩ x).run P W = .ok () w' ∧ Mem w0 w' base S E v u ((g, t, cs') :: bx) := by
  obtain ⟨w', h2, h3, h4⟩ := eT (P := P) h.b0 hc hi h1 hn
  exact ⟨w', h2, h.s0 h4 (he ▸ h3)⟩
theorem Mem.hole {P : Program} {ty t : TypeId} {g : Nat} {cs : Array Value} (o : Nat) (vs : Array Value) (cs' : Array Value) (h : Mem w0 W base S E v u ((g, t, cs) :: bx)) (hi : (P.info? ty).map (·.size) = some vs.size) (h1 : vs.toList.all (·.oneCell') = true) (hn : o + vs.size ≤ cs.size) (he : jR cs o vs.toList = cs') :
    ∃ w', (storeVar ty ⟨g, o, none⟩ (.agg vs)).run P W = .ok () w' ∧ Mem w0 w' base S E v u ((g, t, cs') :: bx) := by
  obtain ⟨w', h2, h3, h4⟩ := lD (P := P) h.b0 hi (by rw [← Array.all_toList]; exact h1) hn
  exact ⟨w', h2, h.s0 h4 (he ▸ h3)⟩
end
section
variable {P : Program} {ops : Array Oper} {Q : Exit → Act → World → Prop} {md : Region.Mode} {S0 S S' : World → Prop}
theorem dP (k : Nat) {o : Oper} {fuel : Nat} {listed : Array Bool} {a : Act} {ty : TypeId} {x y : Operand} {ad : Addr} (v : Value) (ho : ops.toList[k]? = some o) (hop : o.op = .store ty x y)
    (hx : a.eval x = .pointer (some ad)) (hy : a.eval y = v) (hS : ∀ w, S w → ∃ w', (storeVar ty ad v).run P w = .ok () w' ∧ S' w') (hst : aO S') (h0 : ∀ w, S' w → S0 w)
    (h : wpU P md ops Q fuel S0 S' (listed.setIfInBounds k true) (a.put o.dst undef))
    (hw : Region.wanted o (yielded ops a.tmps) = true := by rfl) (hr : Region.ready md ops listed = [k] := by kernel_rfl) : wpU P md ops Q (fuel + 1) S0 S listed a :=
  eK k ho (fun w hs K hK => by
    obtain ⟨w', hrun, hs'⟩ := hS w hs
    rw [if_pos hw]
    unfold Oper.wp execOp
    simp only [hop, hx, hy, Instr.storeAt, Instr.sureAddr, Sem.run_bind, Sem.run_pure, Result.andThen_ok, hrun]
    exact hK.out S0 _ _ _ (fun _ h => h) hst h0 hs' h) hr
end
section
variable {P : Program} {ops : Array Oper} {Q : Exit → Act → World → Prop} {md : Region.Mode}
def iH (P : Program) (ops : Array Oper) (o : Oper) (v : Value) (a : Act) : Prop := Region.wanted o (yielded ops a.tmps) = true ∧ ∀ w, lN P o a w fun u w' => u = v ∧ w' = w
theorem iH.wpOp {i : Nat} {o : Oper} {v : Value} {a : Act} (hi : ops[i]? = some o) (hy : iH P ops o v a) {K : Act → World → Prop} {w : World} (h : K (a.put o.dst v) w) : wpOp P ops Q i K a w := by
  unfold Go.wpOp
  simp only [hi, hy.1, if_true]
  exact .inl (fG (uO (fun u w' ⟨hu, hb⟩ => by subst hu; subst hb; exact h) (hy.2 w)))
theorem iH.of_same {o : Oper} {v : Value} {a a' : Act} (hy : iH P ops o v a) (he : execOp a'.eval o = execOp a.eval o)
    (hw : Region.wanted o (yielded ops a'.tmps) = Region.wanted o (yielded ops a.tmps)) : iH P ops o v a' := by
  unfold iH lN at *
  rw [he, hw]
  exact hy
theorem EH {j : Nat} {oi oj : Oper} {v : Value} (hj : ops[j]? = some oj) (hap : oi.apart ops oj = true)
    (hsi : ∀ cs b, oi.op ≠ .select cs b) (hsj : ∀ cs b, oj.op ≠ .select cs b)
    (hQ : ∀ c a w, Q (.panic c) (a.put oi.dst v) w → Q (.panic c) a w) {K : Act → World → Prop} {a : Act} {w : World}
    (hy : iH P ops oi v a) (h : wpOp P ops Q j K (a.put oi.dst v) w) :
    wpOp P ops Q j (fun a' w' => iH P ops oi v a' ∧ K (a'.put oi.dst v) w') a w := by
  obtain ⟨h1, h2, h3⟩ := Oper.apart_spec hap
  have keep : ∀ (a : Act), iH P ops oi v a → ∀ u, iH P ops oi v (a.put oj.dst u) := fun a hy u =>
    hy.of_same (execOp_put oi hsi a oj.dst u h3) (wanted_put oi a oj.dst u h3)
  have keepD : ∀ d, iH P ops oi v { a with defers := d :: a.defers } := fun d => hy.of_same rfl rfl
  unfold wpOp at *
  simp only [hj] at *
  rw [wanted_put oj a oi.dst v h1] at h
  split
  · rename_i hw
    simp only [hw, if_true] at h
    rcases h with h | ⟨hasks, hlets⟩
    case inr => exact .inr ⟨by unfold Oper.asks at *; rw [execOp_put oj hsj a oi.dst v h1] at hasks; exact hasks, hlets⟩
    refine .inl ?_
    unfold Oper.wp at *
    rw [execOp_put oj hsj a oi.dst v h1] at h
    generalize (execOp a.eval oj).run P w = r at *
    cases r with
    | ok n w' =>
      cases n <;> simp only [Oper.upon] at h ⊢
      case value u => exact ⟨keep a hy u, by rw [← Act.put_comm a v u h2]; exact h⟩
      case skip => exact ⟨keep a hy _, by rw [← Act.put_comm a v undef h2]; exact h⟩
      case defer d =>
        refine ⟨keep _ (keepD d) _, ?_⟩
        rw [← Act.put_comm _ v undef h2, ← Act.put_defers]
        exact h
      case enter f args =>
        refine Calls.mono h fun e w'' he => ?_
        cases e with
        | returned u => exact ⟨keep a hy u, by rw [← Act.put_comm a v u h2]; exact he⟩
        | panicked c => exact hQ _ _ _ he
        | outgrown => exact he
      case row row args => exact Rows.mono h fun u w'' he => ⟨keep a hy u, by rw [← Act.put_comm a v u h2]; exact he⟩
    | halt x w' =>
      cases x <;> simp only [Oper.upon] at h ⊢
      case panic u => exact hQ _ _ _ h
  · rename_i hw
    simp only [hw] at h
    exact ⟨keep a hy _, by rw [← Act.put_comm a v undef h2]; exact h⟩
theorem v2 {i : Nat} {oi : Oper} {v : Value} (hi : ops[i]? = some oi) (hsel : ∀ (j : Nat) (o : Oper) cs b, ops[j]? = some o → o.op ≠ .select cs b)
    (hQ : ∀ c a w, Q (.panic c) (a.put oi.dst v) w → Q (.panic c) a w) :
    ∀ (fuel : Nat) (listed : Array Bool) (a : Act) (w : World),
      (∀ j oj, ops[j]? = some oj → j ≠ i → listed.getD j true = false → (∀ e ∈ oj.after, Region.binds md e = true → e.on ≠ i) → oi.apart ops oj = true) →
      i ∈ Region.ready md ops listed → iH P ops oi v a → wpAny P md ops Q fuel (listed.setIfInBounds i true) (a.put oi.dst v) w → wpAny P md ops Q (fuel + 1) listed a w := by
  intro fuel
  induction fuel with
  | zero =>
    intro listed a w _ hr hy H
    refine ⟨fun h => (by rw [h] at hr; cases hr), fun j hj => ?_⟩
    by_cases hji : j = i
    · subst hji; exact hy.wpOp hi H
    · have := ready_mono hj hji
      rw [H.1] at this
      cases this
  | succ fuel ih =>
    intro listed a w hfree hr hy H
    refine ⟨fun h => (by rw [h] at hr; cases hr), fun j hj => ?_⟩
    by_cases hji : j = i
    · subst hji; exact hy.wpOp hi H
    · have h1 := H.2 j (ready_mono hj hji)
      obtain ⟨hjun, oj, hoj, hall⟩ := mem_ready.1 hj
      have hnot : ∀ e ∈ oj.after, Region.binds md e = true → e.on ≠ i := fun e he hb heq => by
        have h1 := hall e he hb
        have h0 := (mem_ready.1 hr).1
        rw [heq] at h1
        rcases Nat.lt_or_ge i listed.size with h' | h'
        · simp [h'] at h0 h1; rw [h0] at h1; cases h1
        · simp [Array.getElem?_eq_none h'] at h1
      have h2 := EH hoj (hfree j oj hoj hji hjun hnot) (fun cs b => hsel i oi cs b hi) (fun cs b => hsel j oj cs b hoj) hQ hy h1
      have hfree' : ∀ k ok, ops[k]? = some ok → k ≠ i → (listed.setIfInBounds j true).getD k true = false →
          (∀ e ∈ ok.after, Region.binds md e = true → e.on ≠ i) → oi.apart ops ok = true := fun k ok hk hki hun hno => by
        refine hfree k ok hk hki ?_ hno
        by_cases hjk : j = k
        · subst hjk; exact hjun
        · rw [getD_set_ne true hjk] at hun; exact hun
      refine wpOp_mono (fun a' w' ⟨hya, hW'⟩ => ih (listed.setIfInBounds j true) a' w' hfree' (ready_mono hr (Ne.symm hji)) hya ?_) h2
      rw [Array.setIfInBounds_comm _ _ hji]
      exact hW'
theorem aV (i : Nat) {oi : Oper} {v : Value} {fuel : Nat} {listed : Array Bool} {a : Act} {w : World} (hi : ops.toList[i]? = some oi)
    (hy : ∀ w, ∀ K : Value → World → Prop, bA (K v w) → lN P oi a w K)
    (h : wpAny P md ops Q fuel (listed.setIfInBounds i true) (a.put oi.dst v) w)
    (hs : Region.noSelect ops = true := by kernel_rfl) (hf : Region.free md ops listed i = true := by kernel_rfl) (hr : (Region.ready md ops listed).contains i = true := by kernel_rfl)
    (hQ : ∀ c a w, Q (.panic c) (a.put oi.dst v) w → Q (.panic c) a w := by exact fun _ _ _ h => h) (hw : Region.wanted oi (yielded ops a.tmps) = true := by rfl) : wpAny P md ops Q (fuel + 1) listed a w :=
  v2 (by rw [← hi, Array.getElem?_toList]) (Region.noSelect_spec hs) hQ fuel listed a w (Region.free_spec (by rw [← hi, Array.getElem?_toList]) hf) (by simpa using hr) ⟨hw, fun w => hy w _ ⟨rfl, rfl⟩⟩ h
theorem bP (k : Nat) {o : Oper} {fuel : Nat} {listed : Array Bool} {a : Act} {w : World} (ho : ops.toList[k]? = some o)
    (h : ∀ K : Act → World → Prop, bA (∀ a' w', wpAny P md ops Q fuel (listed.setIfInBounds k true) a' w' → K a' w') → if Region.wanted o (yielded ops a.tmps) = true then Oper.wp P o a w K Q else K (a.put o.dst undef) w)
    (hr : Region.ready md ops listed = [k] := by kernel_rfl) : wpAny P md ops Q (fuel + 1) listed a w := by
  refine ⟨fun h0 => (by rw [hr] at h0; cases h0), fun i hi => ?_⟩
  rw [hr] at hi
  obtain rfl : i = k := by simpa using hi
  exact wpOp_step (by rw [← ho, Array.getElem?_toList]) fun K' hK => h K' hK
theorem eV (i j : Nat) {oi oj : Oper} {fuel : Nat} {listed : Array Bool} {a : Act} {w : World} (hoi : ops.toList[i]? = some oi) (hoj : ops.toList[j]? = some oj)
    (h1 : ∀ K : Act → World → Prop, bA (∀ a' w', wpAny P md ops Q fuel (listed.setIfInBounds i true) a' w' → K a' w') → if Region.wanted oi (yielded ops a.tmps) = true then Oper.wp P oi a w K Q else K (a.put oi.dst undef) w)
    (h2 : ∀ K : Act → World → Prop, bA (∀ a' w', wpAny P md ops Q fuel (listed.setIfInBounds j true) a' w' → K a' w') → if Region.wanted oj (yielded ops a.tmps) = true then Oper.wp P oj a w K Q else K (a.put oj.dst undef) w)
    (hr : Region.ready md ops listed = [i, j] := by kernel_rfl) : wpAny P md ops Q (fuel + 1) listed a w := by
  refine ⟨fun h0 => (by rw [hr] at h0; cases h0), fun k hk => ?_⟩
  rw [hr] at hk
  rcases List.mem_cons.1 hk with rfl | hk
  · exact wpOp_step (by rw [← hoi, Array.getElem?_toList]) fun K' hK => h1 K' hK
  · obtain rfl : k = j := by simpa using hk
    exact wpOp_step (by rw [← hoj, Array.getElem?_toList]) fun K' hK => h2 K' hK
theorem kG (n : Nat) {fuel : Nat} {listed : Array Bool} {a : Act} {w : World} (h : wpList P ops Q (ops.toList.drop n) a w)
    (hB : Region.seqB md ops (ops.toList.drop n).length n listed = true := by kernel_rfl) (hl : (ops.toList.drop n).length = fuel := by rfl) : wpAny P md ops Q fuel listed a w := by
  subst hl
  exact wpAny_of_seq (ops.toList.drop n) n listed a w (fun j => by simp [List.getElem?_drop]) hB h
theorem jN {id : Nat} {a : Act} {w : World} (n : Nat) (h : ∀ W, W = w.drew → wpAny P .any ops Q n (Array.replicate n false) a W) (hn : ops.size = n := by rfl) (hm : P.follows .mixedOrders = true := by kernel_rfl) : (Code.region id ops true).wp P Q a w := by
  subst hn
  exact wp_region_any hm (h _ rfl)
end
end
section
open Go.ChangeShapes Go.WideShapes Go.ChangeAt Go.RowKit Go.MapKept
def pV (W : World) (l : List MapEntry) (c : Nat) : World := W.alloc (.map l.toArray c)
section
variable {P : Program} {ops : Array Oper} {Q : Exit → Act → World → Prop} {md : Region.Mode}
theorem gE {S' : World → Prop} {o : Oper} {a : Act} {w : World} {ty : TypeId} {x y : Operand} {ad : Addr} (v : Value) {R : Act → World → Prop} {K : Act → World → Prop} (hop : o.op = .store ty x y)
    (hS : ∃ w', (storeVar ty ad v).run P w = .ok () w' ∧ S' w') (h : ∀ w', S' w' → R (a.put o.dst undef) w') (hK : bA (∀ a' w', R a' w' → K a' w'))
    (hx : a.eval x = .pointer (some ad)) (hy : a.eval y = v) (hw : Region.wanted o (yielded ops a.tmps) = true) : if Region.wanted o (yielded ops a.tmps) = true then Oper.wp P o a w K Q else K (a.put o.dst undef) w := by
  obtain ⟨w', hrun, hs'⟩ := hS
  rw [if_pos hw]
  unfold Oper.wp execOp
  simp only [hop, hx, hy, Instr.storeAt, Instr.sureAddr, Sem.run_bind, Sem.run_pure, Result.andThen_ok, hrun]
  exact hK.out _ _ (h w' hs')
theorem fE {fuel : Nat} {listed : Array Bool} {a : Act} {w : World} (h : Q .normal a w) (hr : Region.ready md ops listed = [] := by kernel_rfl) : wpAny P md ops Q fuel listed a w := by
  cases fuel with
  | zero => exact ⟨hr, h⟩
  | succ n => exact ⟨fun _ => h, by rw [hr]; simp⟩
theorem Mem.start {w : World} (h : bW w) : Mem w w w.heap.size [] [] (.slice none 0 0) (.slice none 0 0) [] :=
  ⟨⟨h, h.lt⟩, Below.refl _ _, Nat.le_refl _, iW _ _ _ _, iW _ _ _ _, by simp, .nil⟩
def jF (w w' : World) (q : Pr) (out : List Sec) (ev : List Evt) (e : Ending) : Prop :=
  ∃ v u, e = .returned (.tuple #[.agg (prL q).toArray, v, u]) ∧ Below w.heap.size w w' ∧ w'.ownsRow w.heap.size dE 13 v out.length (dG out) ∧ w'.ownsRow w.heap.size dK 8 u ev.length (dC ev)
def oV (w w' : World) (q : Pr) (out : List Sec) (er : Int) (e : Ending) : Prop :=
  ∃ v, e = .returned (.tuple #[.agg (prL q).toArray, v, .int .i64 er]) ∧ Below w.heap.size w w' ∧ w'.ownsRow w.heap.size dE 13 v out.length (dG out)
def pS (w w' : World) (q : Pr) (ev : List Evt) (e : Ending) : Prop :=
  ∃ u, e = .returned (.tuple #[.agg (prL q).toArray, u]) ∧ Below w.heap.size w w' ∧ w'.ownsRow w.heap.size dK 8 u ev.length (dC ev)
end
section
variable {P : Program} {ops : Array Oper} {rest : List Oper} {dst : Option Tmp} {tt t k e : TypeId} {pos : String} {after : Array Edge} {a : Act} {w W : World} {Q : Exit → Act → World → Prop} {m x y : Operand}
theorem aN {parts : Array (Nat × Operand)} (l : List (Nat × Value)) (cs : Array Value) (hl : (parts.map fun p => (p.1, a.eval p.2)).toList = l) (hb : P.built t l = some cs) (h : wpList P ops Q rest (a.put dst (.agg cs)) w) :
    wpList P ops Q ({ dst := dst, op := .build t parts, type := tt, pos := pos, after := after, guard := none } :: rest) a w := by
  refine wpList_plain rfl fun K' hK' => ?_
  have hr := run_build (P := P) w t (parts.map fun p => (p.1, a.eval p.2)) cs (by rw [hl]; exact hb)
  unfold Oper.wp
  have he : execOp a.eval { dst := dst, op := .build t parts, type := tt, pos := pos, after := after, guard := none } = (do let v ← Instr.build t (parts.map fun p => (p.1, a.eval p.2)); pure (.value v)) := rfl
  rw [he]
  simp only [Sem.run_bind, hr, Result.andThen, Sem.run_pure]
  exact hK' _ _ h
theorem fM (h : wpList P ops Q rest (a.put dst (.map (some W.heap.size))) (pV W [] 0)) :
    wpList P ops Q ({ dst := dst, op := .makeMap t none, type := tt, pos := pos, after := after, guard := none } :: rest) a W := by
  refine wpList_plain rfl fun K' hK' => ?_
  unfold Oper.wp
  simp [execOp, run_makeMap, Result.andThen]
  exact hK' _ _ h
theorem IV (ht : P.underlying t = some (.map k e)) (hk : P.underlying k = some (.int .i64)) (W : World) (l : List MapEntry) (c : Nat) (key : Int) (v : Value) (hf : Instr.findNow (.int .i64) (.int .i64 key) l 0 = some none) :
    (Instr.mapUpdate t (.map (some W.heap.size)) (.int .i64 key) v).run P (pV W l c) = .ok () (pV W (l ++ [{ key := .int .i64 key, val := v, born := c }]) (c + 1)) := by
  have hb : (pV W l c).heap[W.heap.size]? = some (.map l.toArray c) := (heap_alloc W _).1
  have hs : (setObj W.heap.size (.map (l.toArray.push ({ key := .int .i64 key, val := v, born := c } : MapEntry)) (c + 1))).run P (pV W l c) = .ok () (pV W (l ++ [{ key := .int .i64 key, val := v, born := c }]) (c + 1)) := by
    rw [run_setObj_map _ hb]
    have e1 : (W.heap.push (.map l.toArray c)).setIfInBounds W.heap.size (.map (l.toArray.push ({ key := .int .i64 key, val := v, born := c } : MapEntry)) (c + 1)) = W.heap.push (.map (l ++ [({ key := .int .i64 key, val := v, born := c } : MapEntry)]).toArray (c + 1)) := by
      apply Array.ext'
      simp [List.set_append]
    show Result.ok () { W with heap := (W.heap.push (.map l.toArray c)).setIfInBounds W.heap.size (.map (l.toArray.push ({ key := .int .i64 key, val := v, born := c } : MapEntry)) (c + 1)) } = Result.ok () { W with heap := W.heap.push (.map (l ++ [({ key := .int .i64 key, val := v, born := c } : MapEntry)]).toArray (c + 1)) }
    rw [e1]
  unfold Instr.mapUpdate
  simp only [Sem.run_bind, run_underlying ht, Result.andThen, Go.MapKept.run_getObj_map (P := P) hb, run_checkKey (P := P) hk (show IsKey (.int .i64) (.int .i64 key) by simp [IsKey]), run_findKey (P := P) hk hf, hs]
theorem aS {l : List MapEntry} {c : Nat} {key : Int} {v : Value} (hm : a.eval m = .map (some W.heap.size)) (hx : a.eval x = .int .i64 key) (hv : a.eval y = v) (ht : P.underlying t = some (.map k e)) (hk : P.underlying k = some (.int .i64))
    (hf : Instr.findNow (.int .i64) (.int .i64 key) l 0 = some none) (h : wpList P ops Q rest (a.put dst undef) (pV W (l ++ [{ key := .int .i64 key, val := v, born := c }]) (c + 1))) :
    wpList P ops Q ({ dst := dst, op := .insert t m x y, type := tt, pos := pos, after := after, guard := none } :: rest) a (pV W l c) := by
  refine wpList_plain rfl fun K' hK' => ?_
  unfold Oper.wp
  simp [execOp, hm, hx, hv, IV ht hk W l c key v hf, Result.andThen]
  exact hK' _ _ h
theorem dY {l : List MapEntry} {c : Nat} {key : Int} {v : Value} (L : List MapEntry) (C : Nat) (hm : a.eval m = .map (some W.heap.size)) (hx : a.eval x = .int .i64 key) (hv : a.eval y = v) (ht : P.underlying t = some (.map k e)) (hk : P.underlying k = some (.int .i64))
    (hf : Instr.findNow (.int .i64) (.int .i64 key) l 0 = some none) (hL : l ++ [{ key := .int .i64 key, val := v, born := c }] = L) (hC : c + 1 = C)
    (h : ∀ w', Below W.heap.size W w' → w'.heap[W.heap.size]? = some (.map L.toArray C) → wpList P ops Q rest (a.put dst undef) w') :
    wpList P ops Q ({ dst := dst, op := .insert t m x y, type := tt, pos := pos, after := after, guard := none } :: rest) a (pV W l c) := by
  subst hL; subst hC
  exact aS hm hx hv ht hk hf (h _ ((Below.refl _ _).alloc (Nat.le_refl _) _) (heap_alloc W _).1)
theorem H8 {b c : Nat} {l : List MapEntry} (ht : P.underlying t = some (.map k e)) (hk : P.underlying k = some (.int .i64)) (hb : w.heap[b]? = some (.map l.toArray c)) (key : Int) (r : Option (Nat × Value)) (z : Value)
    (hf : Instr.findNow (.int .i64) (.int .i64 key) l 0 = some r) (hz : (zeroValue e).run P w = .ok z w) :
    (Instr.lookup t (.map (some b)) (.int .i64 key) true).run P w = .ok (match r with | some (_, v) => .tuple #[v, .bool true] | none => .tuple #[z, .bool false]) w := by
  unfold Instr.lookup
  simp only [Sem.run_bind, run_underlying ht, Result.andThen, Go.MapKept.run_getObj_map (P := P) hb, Sem.run_pure, run_checkKey (P := P) hk (show IsKey (.int .i64) (.int .i64 key) by simp [IsKey]), run_findKey (P := P) hk hf]
  cases r with
  | none => simp [Result.andThen, hz]
  | some p => obtain ⟨i, v⟩ := p; simp [Result.andThen]
theorem fZ {b c : Nat} {l : List MapEntry} {key : Int} (r : Option (Nat × Value)) (z v : Value) (hb : w.heap[b]? = some (.map l.toArray c)) (hm : a.eval m = .map (some b)) (hx : a.eval x = .int .i64 key) (ht : P.underlying t = some (.map k e)) (hk : P.underlying k = some (.int .i64))
    (hf : Instr.findNow (.int .i64) (.int .i64 key) l 0 = some r) (hz : (zeroValue e).run P w = .ok z w) (hv : (match r with | some (_, v) => .tuple #[v, .bool true] | none => .tuple #[z, .bool false]) = v)
    (h : wpList P ops Q rest (a.put dst v) w) :
    wpList P ops Q ({ dst := dst, op := .lookup t m x true, type := tt, pos := pos, after := after, guard := none } :: rest) a w := by
  refine wpList_plain rfl fun K' hK' => ?_
  subst hv
  unfold Oper.wp
  simp [execOp, hm, hx, H8 ht hk hb key r z hf hz, Result.andThen]
  exact hK' _ _ h
end
def aZ (W : World) (base : Nat) (e : TypeId) (size : Nat) (v : Value) (n : Nat) (xs : List Value) : Prop :=
  xs.length = n * size ∧ ((v = .slice none 0 0 ∧ n = 0) ∨
   ∃ g off cap cur, v = .slice (some ⟨g, off, none⟩) n cap ∧ base ≤ g ∧ W.heap[g]? = some (.cells cur e (0, 0)) ∧ n ≤ cap ∧ cap ≤ maxLen ∧ off + cap * size ≤ cur.size ∧ (cur.toList.drop off).take (n * size) = xs)
section
variable {W W' : World} {base n size : Nat} {e : TypeId} {v : Value} {xs : List Value}
theorem aZ.nil (W : World) (base : Nat) (e : TypeId) (size : Nat) : aZ W base e size (.slice none 0 0) 0 [] := ⟨by simp, .inl ⟨rfl, rfl⟩⟩
theorem aZ.of (h : W.ownsRow base e size v n xs) : aZ W base e size v n xs := by
  obtain ⟨h1, h2⟩ := h
  refine ⟨h1, ?_⟩
  rcases h2 with h2 | ⟨g, cap, cur, q1, q2, q3, q4, q5, q6, q7⟩
  · exact .inl h2
  · exact .inr ⟨g, 0, cap, cur, q1, q2, q3, q4, q5, by omega, by simpa using q7⟩
theorem aZ.mono {base' : Nat} (h : aZ W base e size v n xs) (hb : base' ≤ base) : aZ W base' e size v n xs := by
  obtain ⟨h1, h2⟩ := h
  refine ⟨h1, ?_⟩
  rcases h2 with h2 | ⟨g, off, cap, cur, q1, q2, q3, q4, q5, q6, q7⟩
  · exact .inl h2
  · exact .inr ⟨g, off, cap, cur, q1, by omega, q3, q4, q5, q6, q7⟩
theorem aZ.lt (h : aZ W base e size v n xs) : ∀ k, v.ownBlock = some k → base ≤ k ∧ k < W.heap.size := by
  rcases h.2 with ⟨rfl, _⟩ | ⟨g, off, cap, cur, rfl, q2, q3, _⟩
  · intro k hk; exact absurd hk (by simp [Value.ownBlock])
  · intro k hk
    have : g = k := by simpa [Value.ownBlock] using hk
    subst this
    exact ⟨q2, (Array.getElem?_eq_some_iff.1 q3).1⟩
theorem aZ.same (h : aZ W base e size v n xs) (hb : ∀ k, v.ownBlock = some k → W'.heap[k]? = W.heap[k]?) : aZ W' base e size v n xs := by
  obtain ⟨h1, h2⟩ := h
  refine ⟨h1, ?_⟩
  rcases h2 with h2 | ⟨g, off, cap, cur, q1, q2, q3, q4, q5, q6, q7⟩
  · exact .inl h2
  · exact .inr ⟨g, off, cap, cur, q1, q2, by rw [hb g (by rw [q1]; rfl)]; exact q3, q4, q5, q6, q7⟩
theorem aZ.to (h : aZ W base e size v n xs) (hb : Below W.heap.size W W') : aZ W' base e size v n xs := h.same fun k hk => hb.block k (h.lt k hk).2
theorem aZ.upd {g : Nat} (h : aZ W base e size v n xs) (hU : Upd g W W') (hne : v.ownBlock ≠ some g) : aZ W' base e size v n xs := h.same fun k hk => hU.block k (fun e => hne (by rw [hk, e]))
theorem aZ.kept {row : Option Nat} (h : aZ W base e size v n xs) (hg : W.grownBy W' row) (hne : ∀ k, v.ownBlock = some k → row ≠ some k) : aZ W' base e size v n xs :=
  h.same fun k hk => hg.block k (h.lt k hk).2 (fun e => hne k hk e.symm)
theorem aZ.slice (h : aZ W base e size v n xs) : ∃ A c, v = .slice A n c ∧ v.cells = #[v] ∧ v.oneCell' = true := by
  rcases h.2 with ⟨rfl, rfl⟩ | ⟨g, off, cap, cur, rfl, _⟩ <;> exact ⟨_, _, rfl, rfl, rfl⟩
theorem aZ.rd {A : Option Addr} {c : Nat} (h : aZ W base e size (.slice A n c) n xs) : Rd W A xs := fun j u hu => by
  rcases h.2 with ⟨q1, q2⟩ | ⟨g, off, cap, cur, q1, q2, q3, q4, q5, q6, q7⟩
  · have : xs.length = 0 := by rw [h.1, q2]; simp
    rw [List.length_eq_zero_iff.1 this] at hu
    simp at hu
  · injection q1 with q1 _ _
    have hj : j < n * size := by
      rw [← h.1]
      exact (List.getElem?_eq_some_iff.1 hu).1
    refine ⟨_, q1, (Array.getElem?_eq_some_iff.1 q3).1, ?_⟩
    rw [← q7, List.getElem?_take, if_pos hj, List.getElem?_drop] at hu
    have hc : W.cell? ⟨g, off + j, none⟩ = cur[off + j]? := by simp [World.cell?, q3]
    show W.cell? (Addr.add ⟨g, off, none⟩ j) = some u
    rw [Addr.add_lit, hc, ← Array.getElem?_toList]
    exact hu
theorem aZ.tail {m : Nat} {A : Option Addr} {c : Nat} {ys zs : List Value} (h : aZ W base e size (.slice A (m + 1) c) (m + 1) (ys ++ zs)) (hy : ys.length = size) :
    aZ W base e size (.slice (if c = 1 then A else A.map (·.add size)) m (c - 1)) m zs ∧ (Value.slice (if c = 1 then A else A.map (·.add size)) m (c - 1)).ownBlock = (Value.slice A (m + 1) c).ownBlock := by
  have hl : zs.length = m * size := by have := h.1; rw [List.length_append, hy, Nat.add_mul] at this; omega
  rcases h.2 with ⟨_, q2⟩ | ⟨g, off, cap, cur, q1, q2, q3, q4, q5, q6, q7⟩
  · exact absurd q2 (by omega)
  · injection q1 with q1 _ qc
    subst qc
    subst q1
    have hm : (m + 1) * size = size + m * size := by rw [Nat.add_mul]; omega
    have hz : (cur.toList.drop (off + size)).take (m * size) = zs := by
      have e1 : ((cur.toList.drop off).take ((m + 1) * size)).drop size = zs := by rw [q7, List.drop_append_of_le_length (by omega)]; rw [← hy]; simp
      rw [← e1, hm, List.drop_take, List.drop_drop]
      congr 1
      omega
    by_cases hc : c = 1
    · subst hc
      have hm0 : m = 0 := by omega
      subst hm0
      refine ⟨⟨hl, .inr ⟨g, off, 0, cur, rfl, q2, q3, Nat.le_refl _, by omega, by omega, ?_⟩⟩, rfl⟩
      have : zs = [] := List.eq_nil_of_length_eq_zero (by simpa using hl)
      rw [this]; simp
    · rw [if_neg hc]
      have hcap : (c - 1) * size + size = c * size := by
        have : c = (c - 1) + 1 := by omega
        rw [show c * size = ((c - 1) + 1) * size by rw [← this], Nat.add_mul]; omega
      refine ⟨⟨hl, .inr ⟨g, off + size, c - 1, cur, ?_, q2, q3, by omega, by omega, by omega, hz⟩⟩, ?_⟩
      · simp [Addr.add_lit]
      · simp [Value.ownBlock, Addr.add_lit]
end
section
variable {P : Program}
theorem sU (w : World) (base : Nat) (t ty e : TypeId) (i : TypeInfo) (z : Value) (ht : P.underlying t = some (.slice e)) (hi : P.info? e = some i) (hz : i.zero = some z) (hzs : z.cells.size = i.size)
    (v : Value) (n : Nat) (xs : List Value) (hown : aZ w base e i.size v n xs)
    (a : Addr) (m c : Nat) (news : List Value) (hl : news.length = m * i.size) (hnews : ∀ j u, news[j]? = some u → w.cell? (a.add j) = some u) (h1 : ∀ u ∈ news, u.oneCell' = true) (hm : 0 < m)
    (h63 : n + m ≤ maxLen) (hbytes : (n + m) * i.bytes ≤ 140737488355328) (hbase : base ≤ w.heap.size) :
    ∃ v' w', (Builtin.append_ #[t, t] ty #[v, .slice (some a) m c]).run P w = .ok v' w' ∧ aZ w' base e i.size v' (n + m) (xs ++ news) ∧ w.grownBy w' v.ownBlock ∧ (v'.ownBlock = v.ownBlock ∨ v'.ownBlock = some w.heap.size) := by
  have hsmall : n + m ≤ 9223372036854775807 := by simp only [maxLen] at h63; omega
  have hlen : (xs ++ news).length = (n + m) * i.size := by rw [List.length_append, hown.1, hl, Nat.add_mul]
  have grown : ∀ (old : Nat), old < n + m → ∀ (row : Option Nat),
      (w.drew.alloc (.cells (xs.toArray ++ news.toArray ++ Builtin.zeroCells z.cells (grownCap w (n + m) old e - (n + m))) e)).ownsRow base e i.size
        (.slice (some ⟨w.heap.size, 0, none⟩) (n + m) (grownCap w (n + m) old e)) (n + m) (xs ++ news) ∧
      w.grownBy (w.drew.alloc (.cells (xs.toArray ++ news.toArray ++ Builtin.zeroCells z.cells (grownCap w (n + m) old e - (n + m))) e)) row := by
    intro old ho row
    have hge := grownCap_ge w (n + m) old e
    have hcm : grownCap w (n + m) old e ≤ maxLen := grownCap_le_maxLen w (n + m) old e h63
    refine ⟨⟨hlen, .inr ⟨w.heap.size, _, _, rfl, hbase, heap_alloc_new w.drew _, hge, hcm, ?_, ?_⟩⟩, ⟨rfl, rfl, rfl, by simp, fun k hk _ => (heap_alloc w.drew _).2 k hk⟩⟩
    · simp only [Array.size_append, List.size_toArray, size_zeroCells, hzs, hown.1, hl, ← Nat.add_mul]
      congr 1
      omega
    · simp only [Array.toList_append, List.append_assoc]
      rw [← List.append_assoc, ← hlen]
      exact List.take_left
  rcases hown.2 with ⟨rfl, rfl⟩ | ⟨g, off, cap, cur, rfl, hbg, hg, hnc, hcm, hcs, htake⟩
  · have hx : xs = [] := List.eq_nil_of_length_eq_zero (by simpa using hown.1)
    subst hx
    have hr := run_append_nil (P := P) w t ty e i z ht hi hz a m c news hl hnews (by omega) (by omega) (by have hb := hbytes; simp only [Nat.zero_add] at hb; omega)
    have hgr := grown 0 (by omega) (Value.ownBlock (.slice none 0 0))
    simp only [Nat.zero_add, List.nil_append, Array.empty_append] at hgr ⊢
    exact ⟨_, _, hr, .of hgr.1, hgr.2, Or.inr rfl⟩
  · by_cases hroom : n + m ≤ cap
    · have hmul : n * i.size + news.length ≤ cap * i.size := by rw [hl, ← Nat.add_mul]; exact Nat.mul_le_mul_right _ hroom
      have hfit : (off + n * i.size) + news.length ≤ cur.size := by omega
      have hf := run_firstCells_some (P := P) w i.size m a m c news hl hnews
      have hst := run_storeCells_at P g (off + n * i.size) e news 0 cur w hg (by simpa using hfit) h1
      simp only [Nat.add_zero] at hst
      have hr : (Builtin.append_ #[t, t] ty #[.slice (some ⟨g, off, none⟩) n cap, .slice (some a) m c]).run P w =
          .ok (.slice (some ⟨g, off, none⟩) (n + m) cap) (w.setRow g (cur.toList.take (off + n * i.size) ++ news ++ cur.toList.drop (off + n * i.size + news.length)).toArray) := by
        simp [Builtin.append_, run_underlying ht, sizeOf, typeInfo, hi, Builtin.lenOf, hroom, hf, Addr.add_lit, hst]
      refine ⟨_, _, hr, ⟨hlen, .inr ⟨g, off, cap, _, rfl, hbg, setRow_heap w g cur _ e _ hg, hroom, hcm, ?_, ?_⟩⟩, ⟨rfl, rfl, rfl, by simp, fun k _ hk => setRow_other w g k _ (fun e => hk (by simp [Value.ownBlock, e]))⟩, Or.inl rfl⟩
      · simp only [List.size_toArray, List.length_append, List.length_take, List.length_drop, Array.length_toList]
        omega
      · show List.take ((n + m) * i.size) (List.drop off (cur.toList.take (off + n * i.size) ++ news ++ cur.toList.drop (off + n * i.size + news.length))) = xs ++ news
        have hoff : off ≤ (cur.toList.take (off + n * i.size)).length := by rw [List.length_take, Array.length_toList]; omega
        rw [List.append_assoc, List.drop_append_of_le_length hoff, List.drop_take, show off + n * i.size - off = n * i.size by omega, htake, ← List.append_assoc, ← hlen]
        exact List.take_left
    · have holds : ∀ j u, xs[j]? = some u → w.cell? ((⟨g, off, none⟩ : Addr).add j) = some u := fun j u hu => by
        have hj : j < n * i.size := by rw [← hown.1]; exact (List.getElem?_eq_some_iff.1 hu).1
        rw [← htake, List.getElem?_take, if_pos hj, List.getElem?_drop] at hu
        rw [Addr.add_lit]
        have hc : w.cell? ⟨g, off + j, none⟩ = cur[off + j]? := by simp [World.cell?, hg]
        rw [hc, ← Array.getElem?_toList]
        exact hu
      have hr := run_append_grow (P := P) w t ty e i z ht hi hz ⟨g, off, none⟩ n cap xs hown.1 holds a m c news hl hnews (by omega) (by omega) (growslice_fits (by omega) hbytes)
      have hgr := grown cap (by omega) (Value.ownBlock (.slice (some ⟨g, off, none⟩) n cap))
      exact ⟨_, _, hr, .of hgr.1, hgr.2, Or.inr rfl⟩
end
structure Rw where
  e : TypeId
  size : Nat
  v : Value
  n : Nat
  xs : List Value
structure MR (w0 W : World) (base : Nat) (rs : List Rw) (bx : List Bk) : Prop where
  pre : bW w0 ∧ 2 ≤ base
  below : Below base w0 W
  low : base ≤ W.heap.size
  rows : ∀ r ∈ rs, aZ W base r.e r.size r.v r.n r.xs
  ap : rs.Pairwise fun r s => ∀ k, r.v.ownBlock = some k → s.v.ownBlock ≠ some k
  box : ∀ b ∈ bx, Blk W b.1 b.2.1 b.2.2 ∧ base ≤ b.1 ∧ ∀ r ∈ rs, r.v.ownBlock ≠ some b.1
  nd : bx.Pairwise fun a b => a.1 ≠ b.1
section
variable {w0 W W' : World} {base : Nat} {rs : List Rw} {bx : List Bk}
theorem MR.to (h : MR w0 W base rs bx) (hb : Below W.heap.size W W') : MR w0 W' base rs bx :=
  ⟨h.pre, h.below.trans (hb.mono h.low), Nat.le_trans h.low hb.size, fun r hr => (h.rows r hr).to hb, h.ap, fun b hm => ⟨(h.box b hm).1.to hb (h.box b hm).1.lt, (h.box b hm).2⟩, h.nd⟩
theorem D4 (w0 : World) (base : Nat) (rs : List Rw) (bx : List Bk) : aO fun W => MR w0 W base rs bx := fun w w' h hb => h.to hb
theorem MR.laid (h : MR w0 W base rs bx) : bW W := h.pre.1.of h.below h.pre.2
theorem MR.drew (h : MR w0 W base rs bx) : MR w0 W.drew base rs bx := h.to (Below.refl _ _).drew
theorem MR.here (h : MR w0 W base rs bx) : MR W W base rs bx := ⟨⟨h.laid, h.pre.2⟩, Below.refl _ _, h.low, h.rows, h.ap, h.box, h.nd⟩
theorem MR.trans {rs' : List Rw} {bx' : List Bk} (h : MR w0 W base rs bx) (k : MR W W' base rs' bx') : MR w0 W' base rs' bx' :=
  ⟨h.pre, h.below.trans k.below, k.low, k.rows, k.ap, k.box, k.nd⟩
theorem MR.start {w : World} (h : bW w) : MR w w w.heap.size [] [] := ⟨⟨h, h.lt⟩, Below.refl _ _, Nat.le_refl _, by simp, .nil, by simp, .nil⟩
theorem MR.alloc {k : Nat} {ty : TypeId} {cs : Array Value} (h : MR w0 W base rs bx) (hk : W.heap.size ≤ k) (hb : Below W.heap.size W W') (hG : Blk W' k ty cs) : MR w0 W' base rs ((k, ty, cs) :: bx) := by
  have h' := h.to hb
  refine ⟨h.pre, h'.below, h'.low, h'.rows, h.ap, ?_, ?_⟩
  · intro b hb'
    rcases List.mem_cons.1 hb' with rfl | hb'
    · exact ⟨hG, Nat.le_trans h.low hk, fun r hr e => by have := ((h.rows r hr).lt k e).2; omega⟩
    · exact h'.box b hb'
  · refine List.pairwise_cons.2 ⟨fun b hb' => ?_, h.nd⟩
    have := (h.box b hb').1.lt
    show k ≠ b.1
    omega
theorem MR.swap {a b : Bk} (h : MR w0 W base rs (a :: b :: bx)) : MR w0 W base rs (b :: a :: bx) := by
  refine ⟨h.pre, h.below, h.low, h.rows, h.ap, fun c hc => h.box c ?_, ?_⟩
  · rcases List.mem_cons.1 hc with rfl | hc
    · exact List.mem_cons_of_mem _ List.mem_cons_self
    · rcases List.mem_cons.1 hc with rfl | hc
      · exact List.mem_cons_self
      · exact List.mem_cons_of_mem _ (List.mem_cons_of_mem _ hc)
  · have h1 := List.pairwise_cons.1 h.nd
    have h2 := List.pairwise_cons.1 h1.2
    refine List.pairwise_cons.2 ⟨fun c hc => ?_, List.pairwise_cons.2 ⟨fun c hc => h1.1 c (List.mem_cons_of_mem _ hc), h2.2⟩⟩
    rcases List.mem_cons.1 hc with rfl | hc
    · exact Ne.symm (h1.1 b List.mem_cons_self)
    · exact h2.1 c hc
theorem MR.drop {a : Bk} (h : MR w0 W base rs (a :: bx)) : MR w0 W base rs bx := ⟨h.pre, h.below, h.low, h.rows, h.ap, fun b hb => h.box b (List.mem_cons_of_mem _ hb), (List.pairwise_cons.1 h.nd).2⟩
theorem MR.drop1 {a b : Bk} (h : MR w0 W base rs (a :: b :: bx)) : MR w0 W base rs (a :: bx) := h.swap.drop
theorem MR.b0 {k : Nat} {ty : TypeId} {cs : Array Value} (h : MR w0 W base rs ((k, ty, cs) :: bx)) : Blk W k ty cs := (h.box (k, ty, cs) List.mem_cons_self).1
theorem MR.b1 {k : Nat} {ty : TypeId} {cs : Array Value} {a : Bk} (h : MR w0 W base rs (a :: (k, ty, cs) :: bx)) : Blk W k ty cs := h.drop.b0
theorem MR.b2 {k : Nat} {ty : TypeId} {cs : Array Value} {a b : Bk} (h : MR w0 W base rs (a :: b :: (k, ty, cs) :: bx)) : Blk W k ty cs := h.drop.b1
theorem MR.b3 {k : Nat} {ty : TypeId} {cs : Array Value} {a b c : Bk} (h : MR w0 W base rs (a :: b :: c :: (k, ty, cs) :: bx)) : Blk W k ty cs := h.drop.b2
theorem MR.b4 {k : Nat} {ty : TypeId} {cs : Array Value} {a b c d : Bk} (h : MR w0 W base rs (a :: b :: c :: d :: (k, ty, cs) :: bx)) : Blk W k ty cs := h.drop.b3
theorem MR.b5 {k : Nat} {ty : TypeId} {cs : Array Value} {a b c d f : Bk} (h : MR w0 W base rs (a :: b :: c :: d :: f :: (k, ty, cs) :: bx)) : Blk W k ty cs := h.drop.b4
theorem MR.b6 {k : Nat} {ty : TypeId} {cs : Array Value} {a b c d f g : Bk} (h : MR w0 W base rs (a :: b :: c :: d :: f :: g :: (k, ty, cs) :: bx)) : Blk W k ty cs := h.drop.b5
theorem MR.s0 {k : Nat} {ty : TypeId} {cs cs' : Array Value} (h : MR w0 W base rs ((k, ty, cs) :: bx)) (hU : Upd k W W') (hG : Blk W' k ty cs') : MR w0 W' base rs ((k, ty, cs') :: bx) := by
  obtain ⟨_, hk, hr⟩ := h.box (k, ty, cs) List.mem_cons_self
  have hnd := List.pairwise_cons.1 h.nd
  refine ⟨h.pre, hU.below h.below hk, by rw [hU.size]; exact h.low, fun r hm => (h.rows r hm).upd hU (hr r hm), h.ap, ?_, List.pairwise_cons.2 ⟨hnd.1, hnd.2⟩⟩
  intro b hb
  rcases List.mem_cons.1 hb with rfl | hb
  · exact ⟨hG, hk, hr⟩
  · exact ⟨hU.blk (h.box b (List.mem_cons_of_mem _ hb)).1 (Ne.symm (hnd.1 b hb)), (h.box b (List.mem_cons_of_mem _ hb)).2⟩
theorem MR.rot {a b c : Bk} (h : MR w0 W base rs (a :: b :: c :: bx)) : MR w0 W base rs (c :: a :: b :: bx) := by
  have h1 := h.swap
  have p := List.pairwise_cons.1 h.nd
  have p2 := List.pairwise_cons.1 p.2
  have p3 := List.pairwise_cons.1 p2.2
  refine ⟨h.pre, h.below, h.low, h.rows, h.ap, fun d hd => h.box d ?_, ?_⟩
  · simp only [List.mem_cons] at hd ⊢
    rcases hd with h | h | h | h
    · exact .inr (.inr (.inl h))
    · exact .inl h
    · exact .inr (.inl h)
    · exact .inr (.inr (.inr h))
  · refine List.pairwise_cons.2 ⟨fun d hd => ?_, List.pairwise_cons.2 ⟨fun d hd => ?_, List.pairwise_cons.2 ⟨fun d hd => p2.1 d (List.mem_cons_of_mem _ hd), p3.2⟩⟩⟩
    · simp only [List.mem_cons] at hd
      rcases hd with rfl | rfl | hd
      · exact Ne.symm (p.1 c (by simp))
      · exact Ne.symm (p2.1 c (by simp))
      · exact p3.1 d hd
    · simp only [List.mem_cons] at hd
      rcases hd with rfl | hd
      · exact p.1 d (by simp)
      · exact p.1 d (by simp [hd])
theorem MR.rot' {a b c : Bk} (h : MR w0 W base rs (c :: a :: b :: bx)) : MR w0 W base rs (a :: b :: c :: bx) := h.rot.rot
theorem MR.s1 {k : Nat} {ty : TypeId} {cs cs' : Array Value} {a : Bk} (h : MR w0 W base rs (a :: (k, ty, cs) :: bx)) (hU : Upd k W W') (hG : Blk W' k ty cs') : MR w0 W' base rs (a :: (k, ty, cs') :: bx) := (h.swap.s0 hU hG).swap
theorem MR.s2 {k : Nat} {ty : TypeId} {cs cs' : Array Value} {a b : Bk} (h : MR w0 W base rs (a :: b :: (k, ty, cs) :: bx)) (hU : Upd k W W') (hG : Blk W' k ty cs') : MR w0 W' base rs (a :: b :: (k, ty, cs') :: bx) := (h.rot.s0 hU hG).rot'
theorem MR.row0 {r : Rw} (h : MR w0 W base (r :: rs) bx) : aZ W base r.e r.size r.v r.n r.xs := h.rows r List.mem_cons_self
theorem MR.rswap {r s : Rw} (h : MR w0 W base (r :: s :: rs) bx) : MR w0 W base (s :: r :: rs) bx := by
  have h1 := List.pairwise_cons.1 h.ap
  have h2 := List.pairwise_cons.1 h1.2
  refine ⟨h.pre, h.below, h.low, fun c hc => h.rows c ?_, List.pairwise_cons.2 ⟨fun c hc => ?_, List.pairwise_cons.2 ⟨fun c hc => h1.1 c (List.mem_cons_of_mem _ hc), h2.2⟩⟩, fun b hb => ⟨(h.box b hb).1, (h.box b hb).2.1, fun c hc => (h.box b hb).2.2 c ?_⟩, h.nd⟩
  · simp only [List.mem_cons] at hc ⊢
    rcases hc with h | h | h
    · exact .inr (.inl h)
    · exact .inl h
    · exact .inr (.inr h)
  · rcases List.mem_cons.1 hc with rfl | hc
    · exact fun k hk e => h1.1 s List.mem_cons_self k e hk
    · exact h2.1 c hc
  · simp only [List.mem_cons] at hc ⊢
    rcases hc with h | h | h
    · exact .inr (.inl h)
    · exact .inl h
    · exact .inr (.inr h)
theorem MR.rdrop {r : Rw} (h : MR w0 W base (r :: rs) bx) : MR w0 W base rs bx :=
  ⟨h.pre, h.below, h.low, fun c hc => h.rows c (List.mem_cons_of_mem _ hc), (List.pairwise_cons.1 h.ap).2, fun b hb => ⟨(h.box b hb).1, (h.box b hb).2.1, fun c hc => (h.box b hb).2.2 c (List.mem_cons_of_mem _ hc)⟩, h.nd⟩
theorem MR.rset {r r' : Rw} (h : MR w0 W base (r :: rs) bx) (ho : aZ W base r'.e r'.size r'.v r'.n r'.xs) (hv : r'.v.ownBlock = r.v.ownBlock) : MR w0 W base (r' :: rs) bx := by
  have h1 := List.pairwise_cons.1 h.ap
  refine ⟨h.pre, h.below, h.low, fun c hc => ?_, List.pairwise_cons.2 ⟨fun c hc k hk => h1.1 c hc k (by rw [← hv]; exact hk), h1.2⟩, fun b hb => ⟨(h.box b hb).1, (h.box b hb).2.1, fun c hc => ?_⟩, h.nd⟩
  · rcases List.mem_cons.1 hc with rfl | hc
    · exact ho
    · exact h.rows c (List.mem_cons_of_mem _ hc)
  · rcases List.mem_cons.1 hc with rfl | hc
    · rw [hv]; exact (h.box b hb).2.2 r List.mem_cons_self
    · exact (h.box b hb).2.2 c (List.mem_cons_of_mem _ hc)
theorem MR.rnil (h : MR w0 W base rs bx) (e : TypeId) (size : Nat) : MR w0 W base (⟨e, size, .slice none 0 0, 0, []⟩ :: rs) bx := by
  refine ⟨h.pre, h.below, h.low, fun c hc => ?_, List.pairwise_cons.2 ⟨fun c hc k hk => absurd hk (by simp [Value.ownBlock]), h.ap⟩, fun b hb => ⟨(h.box b hb).1, (h.box b hb).2.1, fun c hc => ?_⟩, h.nd⟩
  · rcases List.mem_cons.1 hc with rfl | hc
    · exact .nil _ _ _ _
    · exact h.rows c hc
  · rcases List.mem_cons.1 hc with rfl | hc
    · simp [Value.ownBlock]
    · exact (h.box b hb).2.2 c hc
theorem MR.app {r : Rw} {v' : Value} {m : Nat} {ys : List Value} (h : MR w0 W base (r :: rs) bx) (hown : aZ W' base r.e r.size v' m ys) (hg : W.grownBy W' r.v.ownBlock) (hat : v'.ownBlock = r.v.ownBlock ∨ v'.ownBlock = some W.heap.size) :
    MR w0 W' base (⟨r.e, r.size, v', m, ys⟩ :: rs) bx := by
  have h1 := List.pairwise_cons.1 h.ap
  have hr := h.row0
  have hblk : ∀ k, k < W.heap.size → r.v.ownBlock ≠ some k → W'.heap[k]? = W.heap[k]? := fun k hk hne => hg.block k hk (Ne.symm hne)
  refine ⟨h.pre, ⟨hg.os.trans h.below.os, hg.tape.trans h.below.tape, hg.output.trans h.below.output, Nat.le_trans h.below.size hg.size, fun k hk => (hblk k (by have := h.low; omega) (fun e => by have := (hr.lt k e).1; omega)).trans (h.below.block k hk)⟩, Nat.le_trans h.low hg.size, fun c hc => ?_, List.pairwise_cons.2 ⟨fun c hc k hk => ?_, h1.2⟩, fun b hb => ?_, h.nd⟩
  · rcases List.mem_cons.1 hc with rfl | hc
    · exact hown
    · exact (h.rows c (List.mem_cons_of_mem _ hc)).kept hg fun k hk e => h1.1 c hc k e hk
  · rcases hat with e | e
    · exact h1.1 c hc k (by rw [← e]; exact hk)
    · have hk' : k = W.heap.size := by rw [e] at hk; exact (Option.some.inj hk).symm
      intro e2
      have := ((h.rows c (List.mem_cons_of_mem _ hc)).lt k e2).2
      omega
  · obtain ⟨q1, q2, q3⟩ := h.box b hb
    have hlt := q1.lt
    refine ⟨(hblk b.1 hlt (q3 r List.mem_cons_self)).trans q1, q2, fun c hc => ?_⟩
    rcases List.mem_cons.1 hc with rfl | hc
    · rcases hat with e | e
      · rw [e]; exact q3 r List.mem_cons_self
      · rw [e]; intro e2; have := Option.some.inj e2; omega
    · exact q3 c (List.mem_cons_of_mem _ hc)
theorem MR.hole1 {P : Program} {ty t : TypeId} {g : Nat} {cs : Array Value} (o : Nat) (x : Value) (cs' : Array Value) (h : MR w0 W base rs ((g, t, cs) :: bx)) (hc : x.cells = #[x]) (hi : (P.info? ty).map (·.size) = some 1) (h1 : x.oneCell' = true) (hn : o < cs.size) (he : cs.setIfInBounds o x = cs') :
    ∃ w', (storeVar ty ⟨g, o, none⟩ x).run P W = .ok () w' ∧ MR w0 w' base rs ((g, t, cs') :: bx) := by
  obtain ⟨w', h2, h3, h4⟩ := eT (P := P) h.b0 hc hi h1 hn
  exact ⟨w', h2, h.s0 h4 (he ▸ h3)⟩
theorem MR.hole {P : Program} {ty t : TypeId} {g : Nat} {cs : Array Value} (o : Nat) (vs : Array Value) (cs' : Array Value) (h : MR w0 W base rs ((g, t, cs) :: bx)) (hi : (P.info? ty).map (·.size) = some vs.size) (h1 : vs.toList.all (·.oneCell') = true) (hn : o + vs.size ≤ cs.size) (he : jR cs o vs.toList = cs') :
    ∃ w', (storeVar ty ⟨g, o, none⟩ (.agg vs)).run P W = .ok () w' ∧ MR w0 w' base rs ((g, t, cs') :: bx) := by
  obtain ⟨w', h2, h3, h4⟩ := lD (P := P) h.b0 hi (by rw [← Array.all_toList]; exact h1) hn
  exact ⟨w', h2, h.s0 h4 (he ▸ h3)⟩
end
end
open Go.ChangeShapes Go.WideShapes Go.ChangeAt Go.RowKit
section
variable {P : Program} {ops : Array Oper} {Q : Exit → Act → World → Prop} {w0 W w : World} {base : Nat} {S : List Sec} {E : List Evt} {v u : Value} {bx : List Bk} {rs : List Rw} {o : Oper} {rest : List Oper} {a : Act}
theorem Mem.nw (hm : Mem w0 W base S E v u bx) {ty : TypeId} {cs : Array Value} (h : ∀ g w', Mem w0 w' base S E v u ((g, ty, cs) :: bx) → wpList P ops Q rest (a.put o.dst (.pointer (some ⟨g, 0, none⟩))) w') (hg : o.guard = none := by rfl)
    (hrun : (execOp a.eval o).run P W = .ok (.value (.pointer (some ⟨W.heap.size, 0, none⟩))) (W.alloc (.cells cs ty)) := by kernel_rfl) : wpList P ops Q (o :: rest) a W :=
  bF (fun g => .pointer (some ⟨g, 0, none⟩)) hg hrun fun g w' _ l hb G => h g w' (hm.alloc l hb G)
theorem Mem.nw1 {b : Bk} (hm : Mem w0 W base S E v u (b :: bx)) {ty : TypeId} {cs : Array Value} (h : ∀ g w', Mem w0 w' base S E v u (b :: (g, ty, cs) :: bx) → wpList P ops Q rest (a.put o.dst (.pointer (some ⟨g, 0, none⟩))) w') (hg : o.guard = none := by rfl)
    (hrun : (execOp a.eval o).run P W = .ok (.value (.pointer (some ⟨W.heap.size, 0, none⟩))) (W.alloc (.cells cs ty)) := by kernel_rfl) : wpList P ops Q (o :: rest) a W :=
  bF (fun g => .pointer (some ⟨g, 0, none⟩)) hg hrun fun g w' _ l hb G => h g w' (hm.alloc1 l hb G)
theorem MR.nw (hm : MR w0 W base rs bx) {ty : TypeId} {cs : Array Value} (h : ∀ g w', MR w0 w' base rs ((g, ty, cs) :: bx) → wpList P ops Q rest (a.put o.dst (.pointer (some ⟨g, 0, none⟩))) w') (hg : o.guard = none := by rfl)
    (hrun : (execOp a.eval o).run P W = .ok (.value (.pointer (some ⟨W.heap.size, 0, none⟩))) (W.alloc (.cells cs ty)) := by kernel_rfl) : wpList P ops Q (o :: rest) a W :=
  bF (fun g => .pointer (some ⟨g, 0, none⟩)) hg hrun fun g w' _ l hb G => h g w' (hm.alloc l hb G)
end
section
variable {p : Pr} {d : Sec} {now x : Int} {S T : Sd} {w w' : World} {base : Nat} {v u : Value} {bx : List Bk}
theorem eC (hS : aH p now = S) (es : bE S d = T) (hb : w.heap.size = base) (h : Mem w w' base T.sent T.told v u bx) : jF w w' (bU p d now).1 (bU p d now).2.1 (bU p d now).2.2 (.returned (.tuple #[.agg (prL T.p).toArray, v, u])) := by
  subst hS; subst es; subst hb
  exact ⟨_, _, rfl, h.below, h.sent, h.told⟩
theorem pZ (hS : aH p now = S) (es : jP S x = T) (hb : w.heap.size = base) (h : Mem w w' base T.sent T.told v u bx) : jF w w' (fU p x now).1 (fU p x now).2.1 (fU p x now).2.2 (.returned (.tuple #[.agg (prL T.p).toArray, v, u])) := by
  subst hS; subst es; subst hb
  exact ⟨_, _, rfl, h.below, h.sent, h.told⟩
theorem wS (hS : aH p now = S) (es : rZ S = T) (hb : w.heap.size = base) (h : Mem w w' base T.sent T.told v u bx) : jF w w' (kD p now).1 (kD p now).2.1 (kD p now).2.2 (.returned (.tuple #[.agg (prL T.p).toArray, v, u])) := by
  subst hS; subst es; subst hb
  exact ⟨_, _, rfl, h.below, h.sent, h.told⟩
end
end Go.Proofs.YtihmbcnccdiecaaGreatDoor
