/- Part of the proofs of the laws of pairing. -/
import Derived.Below
import Derived.BigQuiet
import Derived.Carry
import Derived.Deep.AppendLies
import Derived.Deep.AppendSrc
import Derived.Deep.Cut
import Derived.Deep.MidRow
import Derived.Deep.OwnShut
import Derived.Deep.QuietTactic
import Derived.Handy
import Derived.KernelRfl
import Derived.Laws.IdiomCopy
import Derived.Laws.IdiomStrings
import Derived.Laws.OwnMore
import Derived.Laws.Rows
import Derived.Laws.StructEq
import Derived.Laws.Tables
import Derived.Laws.World
import Derived.Lib.Hide
import Derived.LoopIn
import Derived.LoopNIn
import Derived.MapKept
import Derived.Maps.AppendAt
import Derived.OpenShut
import Derived.OrdersHeld
import Derived.OwnWalk
import Derived.OwnWalkIn
import Derived.ProofKit
import Derived.RangeFuncBound
import Derived.RangeFuncCalls
import Derived.RangeFuncFrom
import Derived.RangeFuncLeaves
import Derived.RangeFuncNested
import Derived.RegionTactic
import Derived.Shelf.Abstract
import Derived.Shelf.RegionOpen
import Derived.StillTail
import Derived.StillTailTactics
import Derived.Tactics
import Derived.TacticsInMore
import Derived.Test.YtihmbcnccdiecaaDoorRows
import Derived.WalkKit
import Derived.WalkLawsBesides
import Derived.WalkSmall
namespace Go.Proofs.YtihmbcnccdiecaaDoor
open Go.RowKit
def W64 (x : BitVec 64) : Int := (x.toNat : Int)
def W32 (x : BitVec 32) : Int := (x.toNat : Int)
def W16 (x : BitVec 16) : Int := (x.toNat : Int)
def W8 (x : BitVec 8) : Int := (x.toNat : Int)
theorem W64_inj {x y : BitVec 64} (h : W64 x = W64 y) : x = y := by unfold W64 at h; apply BitVec.eq_of_toNat_eq; omega
theorem W64_eq (x y : BitVec 64) : (W64 x = W64 y) = (x = y) := by apply propext; exact ⟨W64_inj, fun h => by rw [h]⟩
theorem W64_beq (x y : BitVec 64) : (W64 x == W64 y) = (x == y) := by rw [Bool.eq_iff_iff, beq_iff_eq, beq_iff_eq]; exact ⟨W64_inj, fun h => by rw [h]⟩
theorem W64_bne (x y : BitVec 64) : (W64 x != W64 y) = (x != y) := by unfold bne; rw [W64_beq]
theorem W64_ofInt (n : Int) (h : 0 ≤ n ∧ n ≤ 18446744073709551615) : W64 (BitVec.ofInt 64 n) = n := by unfold W64; rw [BitVec.toNat_ofInt]; omega
theorem W32_inj {x y : BitVec 32} (h : W32 x = W32 y) : x = y := by unfold W32 at h; apply BitVec.eq_of_toNat_eq; omega
theorem W32_eq (x y : BitVec 32) : (W32 x = W32 y) = (x = y) := by apply propext; exact ⟨W32_inj, fun h => by rw [h]⟩
theorem W32_beq (x y : BitVec 32) : (W32 x == W32 y) = (x == y) := by rw [Bool.eq_iff_iff, beq_iff_eq, beq_iff_eq]; exact ⟨W32_inj, fun h => by rw [h]⟩
theorem W32_bne (x y : BitVec 32) : (W32 x != W32 y) = (x != y) := by unfold bne; rw [W32_beq]
theorem W32_lt (x y : BitVec 32) : (W32 x < W32 y) = (x < y) := by unfold W32; apply propext; rw [BitVec.lt_def]; omega
theorem W32_le (x y : BitVec 32) : (W32 x ≤ W32 y) = (x ≤ y) := by unfold W32; apply propext; rw [BitVec.le_def]; omega
theorem W32_ofInt (n : Int) (h : 0 ≤ n ∧ n ≤ 4294967295) : W32 (BitVec.ofInt 32 n) = n := by unfold W32; rw [BitVec.toNat_ofInt]; omega
@[go_sem] theorem wrap_W64 (n : Int) : IntKind.u64.wrap n = W64 (BitVec.ofInt 64 n) := by rw [IntKind.wrap_u64]; unfold W64; rw [BitVec.toNat_ofInt]; omega
@[go_sem] theorem wrap_W32 (n : Int) : IntKind.u32.wrap n = W32 (BitVec.ofInt 32 n) := by rw [IntKind.wrap_u32]; unfold W32; rw [BitVec.toNat_ofInt]; omega
@[go_sem] theorem wrap_W16 (n : Int) : IntKind.u16.wrap n = W16 (BitVec.ofInt 16 n) := by unfold W16; rw [BitVec.toNat_ofInt]; simp [IntKind.wrap, IntKind.bits, IntKind.signed]; omega
@[go_sem] theorem wrap_W8 (n : Int) : IntKind.u8.wrap n = W8 (BitVec.ofInt 8 n) := by rw [IntKind.wrap_u8]; unfold W8; rw [BitVec.toNat_ofInt]; omega
@[go_sem] theorem ofInt64_W64 (x : BitVec 64) : BitVec.ofInt 64 (W64 x) = x := by unfold W64; simp
@[go_sem] theorem ofInt64_W32 (x : BitVec 32) : BitVec.ofInt 64 (W32 x) = x.setWidth 64 := by unfold W32; apply BitVec.eq_of_toNat_eq; simp [BitVec.toNat_setWidth]
@[go_sem] theorem ofInt64_W16 (x : BitVec 16) : BitVec.ofInt 64 (W16 x) = x.setWidth 64 := by unfold W16; apply BitVec.eq_of_toNat_eq; simp [BitVec.toNat_setWidth]
@[go_sem] theorem ofInt64_W8 (x : BitVec 8) : BitVec.ofInt 64 (W8 x) = x.setWidth 64 := by unfold W8; apply BitVec.eq_of_toNat_eq; simp [BitVec.toNat_setWidth]
@[go_sem] theorem ofInt32_W64 (x : BitVec 64) : BitVec.ofInt 32 (W64 x) = x.setWidth 32 := by unfold W64; apply BitVec.eq_of_toNat_eq; simp [BitVec.toNat_setWidth]
@[go_sem] theorem ofInt32_W32 (x : BitVec 32) : BitVec.ofInt 32 (W32 x) = x := by unfold W32; simp
@[go_sem] theorem ofInt32_W16 (x : BitVec 16) : BitVec.ofInt 32 (W16 x) = x.setWidth 32 := by unfold W16; apply BitVec.eq_of_toNat_eq; simp [BitVec.toNat_setWidth]
@[go_sem] theorem ofInt32_W8 (x : BitVec 8) : BitVec.ofInt 32 (W8 x) = x.setWidth 32 := by unfold W8; apply BitVec.eq_of_toNat_eq; simp [BitVec.toNat_setWidth]
@[go_sem] theorem ofInt16_W64 (x : BitVec 64) : BitVec.ofInt 16 (W64 x) = x.setWidth 16 := by unfold W64; apply BitVec.eq_of_toNat_eq; simp [BitVec.toNat_setWidth]
@[go_sem] theorem ofInt16_W32 (x : BitVec 32) : BitVec.ofInt 16 (W32 x) = x.setWidth 16 := by unfold W32; apply BitVec.eq_of_toNat_eq; simp [BitVec.toNat_setWidth]
@[go_sem] theorem ofInt16_W16 (x : BitVec 16) : BitVec.ofInt 16 (W16 x) = x := by unfold W16; simp
@[go_sem] theorem ofInt16_W8 (x : BitVec 8) : BitVec.ofInt 16 (W8 x) = x.setWidth 16 := by unfold W8; apply BitVec.eq_of_toNat_eq; simp [BitVec.toNat_setWidth]
@[go_sem] theorem ofInt8_W64 (x : BitVec 64) : BitVec.ofInt 8 (W64 x) = x.setWidth 8 := by unfold W64; apply BitVec.eq_of_toNat_eq; simp [BitVec.toNat_setWidth]
@[go_sem] theorem ofInt8_W32 (x : BitVec 32) : BitVec.ofInt 8 (W32 x) = x.setWidth 8 := by unfold W32; apply BitVec.eq_of_toNat_eq; simp [BitVec.toNat_setWidth]
@[go_sem] theorem ofInt8_W16 (x : BitVec 16) : BitVec.ofInt 8 (W16 x) = x.setWidth 8 := by unfold W16; apply BitVec.eq_of_toNat_eq; simp [BitVec.toNat_setWidth]
@[go_sem] theorem ofInt8_W8 (x : BitVec 8) : BitVec.ofInt 8 (W8 x) = x := by unfold W8; simp
theorem ofInt_sub' {n : Nat} (x y : Int) : BitVec.ofInt n (x - y) = BitVec.ofInt n x - BitVec.ofInt n y := by
  rw [Int.sub_eq_add_neg, BitVec.ofInt_add, BitVec.ofInt_neg, BitVec.sub_eq_add_neg]
theorem ofInt_two_pow {n : Nat} (k : Nat) : BitVec.ofInt n (2 ^ k) = BitVec.twoPow n k := by
  apply BitVec.eq_of_toNat_eq
  rw [BitVec.toNat_twoPow, show ((2 : Int) ^ k) = ((2 ^ k : Nat) : Int) from by simp, BitVec.ofInt_natCast, BitVec.toNat_ofNat]
theorem ofInt_mul_pow {n : Nat} (x : Int) (k : Nat) : BitVec.ofInt n (x * 2 ^ k) = BitVec.ofInt n x <<< k := by
  rw [BitVec.ofInt_mul, ofInt_two_pow, BitVec.shiftLeft_eq_mul_twoPow]
attribute [go_sem] BitVec.ofInt_add BitVec.ofInt_mul ofInt_sub' ofInt_two_pow
attribute [go_sem high] ofInt_mul_pow
@[go_sem] theorem bits_and_W64 (x y : Int) : bits .and .u64 x y = W64 (BitVec.ofInt 64 x &&& BitVec.ofInt 64 y) := by unfold bits; simp only [wrap_W64]; exact congrArg W64 (ofInt64_W64 (BitVec.ofInt 64 x &&& BitVec.ofInt 64 y))
@[go_sem] theorem bits_or_W64 (x y : Int) : bits .or .u64 x y = W64 (BitVec.ofInt 64 x ||| BitVec.ofInt 64 y) := by unfold bits; simp only [wrap_W64]; exact congrArg W64 (ofInt64_W64 (BitVec.ofInt 64 x ||| BitVec.ofInt 64 y))
@[go_sem] theorem bits_xor_W64 (x y : Int) : bits .xor .u64 x y = W64 (BitVec.ofInt 64 x ^^^ BitVec.ofInt 64 y) := by unfold bits; simp only [wrap_W64]; exact congrArg W64 (ofInt64_W64 (BitVec.ofInt 64 x ^^^ BitVec.ofInt 64 y))
@[go_sem] theorem bits_andNot_W64 (x y : Int) : bits .andNot .u64 x y = W64 (BitVec.ofInt 64 x &&& ~~~BitVec.ofInt 64 y) := by unfold bits; simp only [wrap_W64]; exact congrArg W64 (ofInt64_W64 (BitVec.ofInt 64 x &&& ~~~BitVec.ofInt 64 y))
@[go_sem] theorem bits_and_W32 (x y : Int) : bits .and .u32 x y = W32 (BitVec.ofInt 32 x &&& BitVec.ofInt 32 y) := by unfold bits; simp only [wrap_W32]; exact congrArg W32 (ofInt32_W32 (BitVec.ofInt 32 x &&& BitVec.ofInt 32 y))
@[go_sem] theorem bits_or_W32 (x y : Int) : bits .or .u32 x y = W32 (BitVec.ofInt 32 x ||| BitVec.ofInt 32 y) := by unfold bits; simp only [wrap_W32]; exact congrArg W32 (ofInt32_W32 (BitVec.ofInt 32 x ||| BitVec.ofInt 32 y))
@[go_sem] theorem bits_xor_W32 (x y : Int) : bits .xor .u32 x y = W32 (BitVec.ofInt 32 x ^^^ BitVec.ofInt 32 y) := by unfold bits; simp only [wrap_W32]; exact congrArg W32 (ofInt32_W32 (BitVec.ofInt 32 x ^^^ BitVec.ofInt 32 y))
@[go_sem] theorem bits_andNot_W32 (x y : Int) : bits .andNot .u32 x y = W32 (BitVec.ofInt 32 x &&& ~~~BitVec.ofInt 32 y) := by unfold bits; simp only [wrap_W32]; exact congrArg W32 (ofInt32_W32 (BitVec.ofInt 32 x &&& ~~~BitVec.ofInt 32 y))
@[go_sem] theorem bits_and_W16 (x y : Int) : bits .and .u16 x y = W16 (BitVec.ofInt 16 x &&& BitVec.ofInt 16 y) := by unfold bits; simp only [wrap_W16]; exact congrArg W16 (ofInt16_W16 (BitVec.ofInt 16 x &&& BitVec.ofInt 16 y))
@[go_sem] theorem bits_or_W16 (x y : Int) : bits .or .u16 x y = W16 (BitVec.ofInt 16 x ||| BitVec.ofInt 16 y) := by unfold bits; simp only [wrap_W16]; exact congrArg W16 (ofInt16_W16 (BitVec.ofInt 16 x ||| BitVec.ofInt 16 y))
@[go_sem] theorem bits_xor_W16 (x y : Int) : bits .xor .u16 x y = W16 (BitVec.ofInt 16 x ^^^ BitVec.ofInt 16 y) := by unfold bits; simp only [wrap_W16]; exact congrArg W16 (ofInt16_W16 (BitVec.ofInt 16 x ^^^ BitVec.ofInt 16 y))
@[go_sem] theorem bits_andNot_W16 (x y : Int) : bits .andNot .u16 x y = W16 (BitVec.ofInt 16 x &&& ~~~BitVec.ofInt 16 y) := by unfold bits; simp only [wrap_W16]; exact congrArg W16 (ofInt16_W16 (BitVec.ofInt 16 x &&& ~~~BitVec.ofInt 16 y))
@[go_sem] theorem bits_and_W8 (x y : Int) : bits .and .u8 x y = W8 (BitVec.ofInt 8 x &&& BitVec.ofInt 8 y) := by unfold bits; simp only [wrap_W8]; exact congrArg W8 (ofInt8_W8 (BitVec.ofInt 8 x &&& BitVec.ofInt 8 y))
@[go_sem] theorem bits_or_W8 (x y : Int) : bits .or .u8 x y = W8 (BitVec.ofInt 8 x ||| BitVec.ofInt 8 y) := by unfold bits; simp only [wrap_W8]; exact congrArg W8 (ofInt8_W8 (BitVec.ofInt 8 x ||| BitVec.ofInt 8 y))
@[go_sem] theorem bits_xor_W8 (x y : Int) : bits .xor .u8 x y = W8 (BitVec.ofInt 8 x ^^^ BitVec.ofInt 8 y) := by unfold bits; simp only [wrap_W8]; exact congrArg W8 (ofInt8_W8 (BitVec.ofInt 8 x ^^^ BitVec.ofInt 8 y))
@[go_sem] theorem bits_andNot_W8 (x y : Int) : bits .andNot .u8 x y = W8 (BitVec.ofInt 8 x &&& ~~~BitVec.ofInt 8 y) := by unfold bits; simp only [wrap_W8]; exact congrArg W8 (ofInt8_W8 (BitVec.ofInt 8 x &&& ~~~BitVec.ofInt 8 y))
@[go_sem] theorem W64_shr (x : BitVec 64) (k : Nat) : W64 x / 2 ^ k = W64 (x >>> k) := by unfold W64; rw [BitVec.toNat_ushiftRight, Nat.shiftRight_eq_div_pow]; simp
@[go_sem] theorem W64_tmod (x y : BitVec 64) : (W64 x).tmod (W64 y) = W64 (x % y) := by unfold W64; rw [BitVec.toNat_umod]; rfl
@[go_sem] theorem W64_tdiv (x y : BitVec 64) : (W64 x).tdiv (W64 y) = W64 (x / y) := by unfold W64; rw [BitVec.toNat_udiv]; rfl
@[go_sem] theorem W32_shr (x : BitVec 32) (k : Nat) : W32 x / 2 ^ k = W32 (x >>> k) := by unfold W32; rw [BitVec.toNat_ushiftRight, Nat.shiftRight_eq_div_pow]; simp
@[go_sem] theorem W32_tmod (x y : BitVec 32) : (W32 x).tmod (W32 y) = W32 (x % y) := by unfold W32; rw [BitVec.toNat_umod]; rfl
@[go_sem] theorem W32_tdiv (x y : BitVec 32) : (W32 x).tdiv (W32 y) = W32 (x / y) := by unfold W32; rw [BitVec.toNat_udiv]; rfl
@[go_sem] theorem W16_shr (x : BitVec 16) (k : Nat) : W16 x / 2 ^ k = W16 (x >>> k) := by unfold W16; rw [BitVec.toNat_ushiftRight, Nat.shiftRight_eq_div_pow]; simp
@[go_sem] theorem W16_tmod (x y : BitVec 16) : (W16 x).tmod (W16 y) = W16 (x % y) := by unfold W16; rw [BitVec.toNat_umod]; rfl
@[go_sem] theorem W16_tdiv (x y : BitVec 16) : (W16 x).tdiv (W16 y) = W16 (x / y) := by unfold W16; rw [BitVec.toNat_udiv]; rfl
@[go_sem] theorem W8_shr (x : BitVec 8) (k : Nat) : W8 x / 2 ^ k = W8 (x >>> k) := by unfold W8; rw [BitVec.toNat_ushiftRight, Nat.shiftRight_eq_div_pow]; simp
@[go_sem] theorem W8_tmod (x y : BitVec 8) : (W8 x).tmod (W8 y) = W8 (x % y) := by unfold W8; rw [BitVec.toNat_umod]; rfl
@[go_sem] theorem W8_tdiv (x y : BitVec 8) : (W8 x).tdiv (W8 y) = W8 (x / y) := by unfold W8; rw [BitVec.toNat_udiv]; rfl
theorem W64_of_wf {a : Int} (h : (Lit.int .u64 a).wf = true) : ∃ x : BitVec 64, a = W64 x := ⟨BitVec.ofInt 64 a, by simp [Lit.wf, IntKind.min, IntKind.max, IntKind.signed, IntKind.bits] at h; exact (W64_ofInt a (by omega)).symm⟩
theorem W32_of_wf {a : Int} (h : (Lit.int .u32 a).wf = true) : ∃ x : BitVec 32, a = W32 x := ⟨BitVec.ofInt 32 a, by simp [Lit.wf, IntKind.min, IntKind.max, IntKind.signed, IntKind.bits] at h; exact (W32_ofInt a (by omega)).symm⟩
@[go_sem] theorem W64_tmod_lit (x : BitVec 64) (n : Nat) (h : n ≤ 18446744073709551615) : (W64 x).tmod (no_index (@OfNat.ofNat Int n instOfNat)) = W64 (x % BitVec.ofNat 64 n) := by
  rw [← W64_tmod]
  congr 1
  unfold W64
  rw [BitVec.toNat_ofNat, Nat.mod_eq_of_lt (by omega)]
  rfl
@[go_sem] theorem W64_tdiv_lit (x : BitVec 64) (n : Nat) (h : n ≤ 18446744073709551615) : (W64 x).tdiv (no_index (@OfNat.ofNat Int n instOfNat)) = W64 (x / BitVec.ofNat 64 n) := by
  rw [← W64_tdiv]
  congr 1
  unfold W64
  rw [BitVec.toNat_ofNat, Nat.mod_eq_of_lt (by omega)]
  rfl
@[go_sem] theorem W32_tmod_lit (x : BitVec 32) (n : Nat) (h : n ≤ 4294967295) : (W32 x).tmod (no_index (@OfNat.ofNat Int n instOfNat)) = W32 (x % BitVec.ofNat 32 n) := by
  rw [← W32_tmod]
  congr 1
  unfold W32
  rw [BitVec.toNat_ofNat, Nat.mod_eq_of_lt (by omega)]
  rfl
@[go_sem] theorem W32_tdiv_lit (x : BitVec 32) (n : Nat) (h : n ≤ 4294967295) : (W32 x).tdiv (no_index (@OfNat.ofNat Int n instOfNat)) = W32 (x / BitVec.ofNat 32 n) := by
  rw [← W32_tdiv]
  congr 1
  unfold W32
  rw [BitVec.toNat_ofNat, Nat.mod_eq_of_lt (by omega)]
  rfl
@[go_sem] theorem W16_tmod_lit (x : BitVec 16) (n : Nat) (h : n ≤ 65535) : (W16 x).tmod (no_index (@OfNat.ofNat Int n instOfNat)) = W16 (x % BitVec.ofNat 16 n) := by
  rw [← W16_tmod]
  congr 1
  unfold W16
  rw [BitVec.toNat_ofNat, Nat.mod_eq_of_lt (by omega)]
  rfl
@[go_sem] theorem W16_tdiv_lit (x : BitVec 16) (n : Nat) (h : n ≤ 65535) : (W16 x).tdiv (no_index (@OfNat.ofNat Int n instOfNat)) = W16 (x / BitVec.ofNat 16 n) := by
  rw [← W16_tdiv]
  congr 1
  unfold W16
  rw [BitVec.toNat_ofNat, Nat.mod_eq_of_lt (by omega)]
  rfl
@[go_sem] theorem W8_tmod_lit (x : BitVec 8) (n : Nat) (h : n ≤ 255) : (W8 x).tmod (no_index (@OfNat.ofNat Int n instOfNat)) = W8 (x % BitVec.ofNat 8 n) := by
  rw [← W8_tmod]
  congr 1
  unfold W8
  rw [BitVec.toNat_ofNat, Nat.mod_eq_of_lt (by omega)]
  rfl
@[go_sem] theorem W8_tdiv_lit (x : BitVec 8) (n : Nat) (h : n ≤ 255) : (W8 x).tdiv (no_index (@OfNat.ofNat Int n instOfNat)) = W8 (x / BitVec.ofNat 8 n) := by
  rw [← W8_tdiv]
  congr 1
  unfold W8
  rw [BitVec.toNat_ofNat, Nat.mod_eq_of_lt (by omega)]
  rfl
def shlW {n m : Nat} (x : BitVec n) (y : BitVec m) : BitVec n := x <<< y.toNat
def shrW {n m : Nat} (x : BitVec n) (y : BitVec m) : BitVec n := x >>> y.toNat
theorem shift_shl_nat64 (x : BitVec 64) (yk : IntKind) (y : Nat) : Op.shift .shl .u64 (W64 x) yk (y : Int) = pure (.int .u64 (W64 (x <<< y))) := by
  unfold Op.shift
  rw [if_neg (by omega)]
  simp only [Int.toNat_natCast, IntKind.bits]
  rw [wrap_W64, ofInt_mul_pow, ofInt64_W64]
  by_cases h : y ≤ 64
  · rw [Nat.min_eq_left h]
  · rw [Nat.min_eq_right (by omega), BitVec.shiftLeft_eq_zero (by omega), BitVec.shiftLeft_eq_zero (by omega)]
theorem shift_shr_nat64 (x : BitVec 64) (yk : IntKind) (y : Nat) : Op.shift .shr .u64 (W64 x) yk (y : Int) = pure (.int .u64 (W64 (x >>> y))) := by
  unfold Op.shift
  rw [if_neg (by omega)]
  simp only [Int.toNat_natCast, IntKind.bits]
  rw [Int.fdiv_eq_ediv_of_nonneg _ (Int.pow_nonneg (by decide)), W64_shr]
  by_cases h : y ≤ 64
  · rw [Nat.min_eq_left h]
  · rw [Nat.min_eq_right (by omega), BitVec.ushiftRight_eq_zero (by omega), BitVec.ushiftRight_eq_zero (by omega)]
@[go_sem high] theorem shift_shl_var64 (x : BitVec 64) (yk : IntKind) (y : Int) (h : 0 ≤ y) : Op.shift .shl .u64 (W64 x) yk y = pure (.int .u64 (W64 (x <<< y.toNat))) := by
  obtain ⟨k, rfl⟩ := Int.eq_ofNat_of_zero_le h
  exact shift_shl_nat64 x yk k
@[go_sem high] theorem shift_shr_var64 (x : BitVec 64) (yk : IntKind) (y : Int) (h : 0 ≤ y) : Op.shift .shr .u64 (W64 x) yk y = pure (.int .u64 (W64 (x >>> y.toNat))) := by
  obtain ⟨k, rfl⟩ := Int.eq_ofNat_of_zero_le h
  exact shift_shr_nat64 x yk k
@[go_sem high] theorem shift_shl_W64_64 (x : BitVec 64) (yk : IntKind) (y : BitVec 64) : Op.shift .shl .u64 (W64 x) yk (W64 y) = pure (.int .u64 (W64 (shlW x y))) := shift_shl_nat64 x yk y.toNat
@[go_sem high] theorem shift_shr_W64_64 (x : BitVec 64) (yk : IntKind) (y : BitVec 64) : Op.shift .shr .u64 (W64 x) yk (W64 y) = pure (.int .u64 (W64 (shrW x y))) := shift_shr_nat64 x yk y.toNat
@[go_sem high] theorem shift_shl_W64_32 (x : BitVec 64) (yk : IntKind) (y : BitVec 32) : Op.shift .shl .u64 (W64 x) yk (W32 y) = pure (.int .u64 (W64 (shlW x y))) := shift_shl_nat64 x yk y.toNat
@[go_sem high] theorem shift_shr_W64_32 (x : BitVec 64) (yk : IntKind) (y : BitVec 32) : Op.shift .shr .u64 (W64 x) yk (W32 y) = pure (.int .u64 (W64 (shrW x y))) := shift_shr_nat64 x yk y.toNat
@[go_sem high] theorem shift_shl_W64_8 (x : BitVec 64) (yk : IntKind) (y : BitVec 8) : Op.shift .shl .u64 (W64 x) yk (W8 y) = pure (.int .u64 (W64 (shlW x y))) := shift_shl_nat64 x yk y.toNat
@[go_sem high] theorem shift_shr_W64_8 (x : BitVec 64) (yk : IntKind) (y : BitVec 8) : Op.shift .shr .u64 (W64 x) yk (W8 y) = pure (.int .u64 (W64 (shrW x y))) := shift_shr_nat64 x yk y.toNat
theorem shift_shl_nat32 (x : BitVec 32) (yk : IntKind) (y : Nat) : Op.shift .shl .u32 (W32 x) yk (y : Int) = pure (.int .u32 (W32 (x <<< y))) := by
  unfold Op.shift
  rw [if_neg (by omega)]
  simp only [Int.toNat_natCast, IntKind.bits]
  rw [wrap_W32, ofInt_mul_pow, ofInt32_W32]
  by_cases h : y ≤ 32
  · rw [Nat.min_eq_left h]
  · rw [Nat.min_eq_right (by omega), BitVec.shiftLeft_eq_zero (by omega), BitVec.shiftLeft_eq_zero (by omega)]
theorem shift_shr_nat32 (x : BitVec 32) (yk : IntKind) (y : Nat) : Op.shift .shr .u32 (W32 x) yk (y : Int) = pure (.int .u32 (W32 (x >>> y))) := by
  unfold Op.shift
  rw [if_neg (by omega)]
  simp only [Int.toNat_natCast, IntKind.bits]
  rw [Int.fdiv_eq_ediv_of_nonneg _ (Int.pow_nonneg (by decide)), W32_shr]
  by_cases h : y ≤ 32
  · rw [Nat.min_eq_left h]
  · rw [Nat.min_eq_right (by omega), BitVec.ushiftRight_eq_zero (by omega), BitVec.ushiftRight_eq_zero (by omega)]
@[go_sem high] theorem shift_shl_var32 (x : BitVec 32) (yk : IntKind) (y : Int) (h : 0 ≤ y) : Op.shift .shl .u32 (W32 x) yk y = pure (.int .u32 (W32 (x <<< y.toNat))) := by
  obtain ⟨k, rfl⟩ := Int.eq_ofNat_of_zero_le h
  exact shift_shl_nat32 x yk k
@[go_sem high] theorem shift_shr_var32 (x : BitVec 32) (yk : IntKind) (y : Int) (h : 0 ≤ y) : Op.shift .shr .u32 (W32 x) yk y = pure (.int .u32 (W32 (x >>> y.toNat))) := by
  obtain ⟨k, rfl⟩ := Int.eq_ofNat_of_zero_le h
  exact shift_shr_nat32 x yk k
@[go_sem high] theorem shift_shl_W32_64 (x : BitVec 32) (yk : IntKind) (y : BitVec 64) : Op.shift .shl .u32 (W32 x) yk (W64 y) = pure (.int .u32 (W32 (shlW x y))) := shift_shl_nat32 x yk y.toNat
@[go_sem high] theorem shift_shr_W32_64 (x : BitVec 32) (yk : IntKind) (y : BitVec 64) : Op.shift .shr .u32 (W32 x) yk (W64 y) = pure (.int .u32 (W32 (shrW x y))) := shift_shr_nat32 x yk y.toNat
@[go_sem high] theorem shift_shl_W32_32 (x : BitVec 32) (yk : IntKind) (y : BitVec 32) : Op.shift .shl .u32 (W32 x) yk (W32 y) = pure (.int .u32 (W32 (shlW x y))) := shift_shl_nat32 x yk y.toNat
@[go_sem high] theorem shift_shr_W32_32 (x : BitVec 32) (yk : IntKind) (y : BitVec 32) : Op.shift .shr .u32 (W32 x) yk (W32 y) = pure (.int .u32 (W32 (shrW x y))) := shift_shr_nat32 x yk y.toNat
@[go_sem high] theorem shift_shl_W32_8 (x : BitVec 32) (yk : IntKind) (y : BitVec 8) : Op.shift .shl .u32 (W32 x) yk (W8 y) = pure (.int .u32 (W32 (shlW x y))) := shift_shl_nat32 x yk y.toNat
@[go_sem high] theorem shift_shr_W32_8 (x : BitVec 32) (yk : IntKind) (y : BitVec 8) : Op.shift .shr .u32 (W32 x) yk (W8 y) = pure (.int .u32 (W32 (shrW x y))) := shift_shr_nat32 x yk y.toNat
theorem shift_shl_nat16 (x : BitVec 16) (yk : IntKind) (y : Nat) : Op.shift .shl .u16 (W16 x) yk (y : Int) = pure (.int .u16 (W16 (x <<< y))) := by
  unfold Op.shift
  rw [if_neg (by omega)]
  simp only [Int.toNat_natCast, IntKind.bits]
  rw [wrap_W16, ofInt_mul_pow, ofInt16_W16]
  by_cases h : y ≤ 16
  · rw [Nat.min_eq_left h]
  · rw [Nat.min_eq_right (by omega), BitVec.shiftLeft_eq_zero (by omega), BitVec.shiftLeft_eq_zero (by omega)]
theorem shift_shr_nat16 (x : BitVec 16) (yk : IntKind) (y : Nat) : Op.shift .shr .u16 (W16 x) yk (y : Int) = pure (.int .u16 (W16 (x >>> y))) := by
  unfold Op.shift
  rw [if_neg (by omega)]
  simp only [Int.toNat_natCast, IntKind.bits]
  rw [Int.fdiv_eq_ediv_of_nonneg _ (Int.pow_nonneg (by decide)), W16_shr]
  by_cases h : y ≤ 16
  · rw [Nat.min_eq_left h]
  · rw [Nat.min_eq_right (by omega), BitVec.ushiftRight_eq_zero (by omega), BitVec.ushiftRight_eq_zero (by omega)]
@[go_sem high] theorem shift_shl_var16 (x : BitVec 16) (yk : IntKind) (y : Int) (h : 0 ≤ y) : Op.shift .shl .u16 (W16 x) yk y = pure (.int .u16 (W16 (x <<< y.toNat))) := by
  obtain ⟨k, rfl⟩ := Int.eq_ofNat_of_zero_le h
  exact shift_shl_nat16 x yk k
@[go_sem high] theorem shift_shr_var16 (x : BitVec 16) (yk : IntKind) (y : Int) (h : 0 ≤ y) : Op.shift .shr .u16 (W16 x) yk y = pure (.int .u16 (W16 (x >>> y.toNat))) := by
  obtain ⟨k, rfl⟩ := Int.eq_ofNat_of_zero_le h
  exact shift_shr_nat16 x yk k
@[go_sem high] theorem shift_shl_W16_64 (x : BitVec 16) (yk : IntKind) (y : BitVec 64) : Op.shift .shl .u16 (W16 x) yk (W64 y) = pure (.int .u16 (W16 (shlW x y))) := shift_shl_nat16 x yk y.toNat
@[go_sem high] theorem shift_shr_W16_64 (x : BitVec 16) (yk : IntKind) (y : BitVec 64) : Op.shift .shr .u16 (W16 x) yk (W64 y) = pure (.int .u16 (W16 (shrW x y))) := shift_shr_nat16 x yk y.toNat
@[go_sem high] theorem shift_shl_W16_32 (x : BitVec 16) (yk : IntKind) (y : BitVec 32) : Op.shift .shl .u16 (W16 x) yk (W32 y) = pure (.int .u16 (W16 (shlW x y))) := shift_shl_nat16 x yk y.toNat
@[go_sem high] theorem shift_shr_W16_32 (x : BitVec 16) (yk : IntKind) (y : BitVec 32) : Op.shift .shr .u16 (W16 x) yk (W32 y) = pure (.int .u16 (W16 (shrW x y))) := shift_shr_nat16 x yk y.toNat
@[go_sem high] theorem shift_shl_W16_8 (x : BitVec 16) (yk : IntKind) (y : BitVec 8) : Op.shift .shl .u16 (W16 x) yk (W8 y) = pure (.int .u16 (W16 (shlW x y))) := shift_shl_nat16 x yk y.toNat
@[go_sem high] theorem shift_shr_W16_8 (x : BitVec 16) (yk : IntKind) (y : BitVec 8) : Op.shift .shr .u16 (W16 x) yk (W8 y) = pure (.int .u16 (W16 (shrW x y))) := shift_shr_nat16 x yk y.toNat
theorem shift_shl_nat8 (x : BitVec 8) (yk : IntKind) (y : Nat) : Op.shift .shl .u8 (W8 x) yk (y : Int) = pure (.int .u8 (W8 (x <<< y))) := by
  unfold Op.shift
  rw [if_neg (by omega)]
  simp only [Int.toNat_natCast, IntKind.bits]
  rw [wrap_W8, ofInt_mul_pow, ofInt8_W8]
  by_cases h : y ≤ 8
  · rw [Nat.min_eq_left h]
  · rw [Nat.min_eq_right (by omega), BitVec.shiftLeft_eq_zero (by omega), BitVec.shiftLeft_eq_zero (by omega)]
theorem shift_shr_nat8 (x : BitVec 8) (yk : IntKind) (y : Nat) : Op.shift .shr .u8 (W8 x) yk (y : Int) = pure (.int .u8 (W8 (x >>> y))) := by
  unfold Op.shift
  rw [if_neg (by omega)]
  simp only [Int.toNat_natCast, IntKind.bits]
  rw [Int.fdiv_eq_ediv_of_nonneg _ (Int.pow_nonneg (by decide)), W8_shr]
  by_cases h : y ≤ 8
  · rw [Nat.min_eq_left h]
  · rw [Nat.min_eq_right (by omega), BitVec.ushiftRight_eq_zero (by omega), BitVec.ushiftRight_eq_zero (by omega)]
@[go_sem high] theorem shift_shl_var8 (x : BitVec 8) (yk : IntKind) (y : Int) (h : 0 ≤ y) : Op.shift .shl .u8 (W8 x) yk y = pure (.int .u8 (W8 (x <<< y.toNat))) := by
  obtain ⟨k, rfl⟩ := Int.eq_ofNat_of_zero_le h
  exact shift_shl_nat8 x yk k
@[go_sem high] theorem shift_shr_var8 (x : BitVec 8) (yk : IntKind) (y : Int) (h : 0 ≤ y) : Op.shift .shr .u8 (W8 x) yk y = pure (.int .u8 (W8 (x >>> y.toNat))) := by
  obtain ⟨k, rfl⟩ := Int.eq_ofNat_of_zero_le h
  exact shift_shr_nat8 x yk k
@[go_sem high] theorem shift_shl_W8_64 (x : BitVec 8) (yk : IntKind) (y : BitVec 64) : Op.shift .shl .u8 (W8 x) yk (W64 y) = pure (.int .u8 (W8 (shlW x y))) := shift_shl_nat8 x yk y.toNat
@[go_sem high] theorem shift_shr_W8_64 (x : BitVec 8) (yk : IntKind) (y : BitVec 64) : Op.shift .shr .u8 (W8 x) yk (W64 y) = pure (.int .u8 (W8 (shrW x y))) := shift_shr_nat8 x yk y.toNat
@[go_sem high] theorem shift_shl_W8_32 (x : BitVec 8) (yk : IntKind) (y : BitVec 32) : Op.shift .shl .u8 (W8 x) yk (W32 y) = pure (.int .u8 (W8 (shlW x y))) := shift_shl_nat8 x yk y.toNat
@[go_sem high] theorem shift_shr_W8_32 (x : BitVec 8) (yk : IntKind) (y : BitVec 32) : Op.shift .shr .u8 (W8 x) yk (W32 y) = pure (.int .u8 (W8 (shrW x y))) := shift_shr_nat8 x yk y.toNat
@[go_sem high] theorem shift_shl_W8_8 (x : BitVec 8) (yk : IntKind) (y : BitVec 8) : Op.shift .shl .u8 (W8 x) yk (W8 y) = pure (.int .u8 (W8 (shlW x y))) := shift_shl_nat8 x yk y.toNat
@[go_sem high] theorem shift_shr_W8_8 (x : BitVec 8) (yk : IntKind) (y : BitVec 8) : Op.shift .shr .u8 (W8 x) yk (W8 y) = pure (.int .u8 (W8 (shrW x y))) := shift_shr_nat8 x yk y.toNat
@[go_sem high] theorem run_min_i64 {P : Program} (w : World) (ts : Array TypeId) (t : TypeId) (k' : IntKind) (x y : Int) : (Builtin.min_ ts t #[.int .i64 x, .int k' y]).run P w = .ok (.int .i64 (min x y)) w := by
  rw [run_min_int2]; congr 2; split <;> omega
@[go_sem high] theorem run_max_i64 {P : Program} (w : World) (ts : Array TypeId) (t : TypeId) (k' : IntKind) (x y : Int) : (Builtin.max_ ts t #[.int .i64 x, .int k' y]).run P w = .ok (.int .i64 (max x y)) w := by
  rw [run_max_int2]; congr 2; split <;> omega
end Go.Proofs.YtihmbcnccdiecaaDoor
namespace Go.Proofs.YtihmbcnccdiecaaDoor
def low (n : BitVec 64) (b : Int) : BitVec 64 := if b ≤ 0 then 0#64 else if 64 ≤ b then n else n &&& (BitVec.twoPow 64 b.toNat - 1#64)
theorem twoPow_sub_one_toNat (k : Nat) (h : k < 64) : (BitVec.twoPow 64 k - 1#64).toNat = 2 ^ k - 1 := by
  have hp : 2 ^ k < 2 ^ 64 := Nat.pow_lt_pow_right (by omega) h
  have h1 : 1 ≤ 2 ^ k := Nat.one_le_two_pow
  rw [BitVec.toNat_sub, BitVec.toNat_twoPow, Nat.mod_eq_of_lt hp]
  simp
  omega
theorem twoPow_toNat (k : Nat) (h : k < 64) : (BitVec.twoPow 64 k).toNat = 2 ^ k := by
  rw [BitVec.toNat_twoPow, Nat.mod_eq_of_lt (Nat.pow_lt_pow_right (by omega) h)]
theorem low_mod (n : BitVec 64) (k : Nat) (h : k < 64) : n &&& (BitVec.twoPow 64 k - 1#64) = n % BitVec.twoPow 64 k := by
  apply BitVec.eq_of_toNat_eq
  rw [BitVec.toNat_and, twoPow_sub_one_toNat k h, BitVec.toNat_umod, twoPow_toNat k h, Nat.and_two_pow_sub_one_eq_mod]
theorem low_of_mod (n : BitVec 64) (b : Int) (h0 : 0 ≤ b) (h1 : b < 64) : n % BitVec.twoPow 64 b.toNat = low n b := by
  unfold low
  rw [if_neg (show ¬ 64 ≤ b by omega)]
  by_cases h : b ≤ 0
  · obtain rfl : b = 0 := by omega
    rw [if_pos (by omega)]
    apply BitVec.eq_of_toNat_eq
    rw [BitVec.toNat_umod, show (0 : Int).toNat = 0 from rfl, twoPow_toNat 0 (by omega)]
    simp [Nat.mod_one]
  · rw [if_neg h, low_mod n _ (by omega)]
theorem low32 (n : BitVec 64) : (low n 32).setWidth 32 = n.setWidth 32 := by
  rw [← low_of_mod n 32 (by omega) (by omega)]
  apply BitVec.eq_of_toNat_eq
  rw [BitVec.toNat_setWidth, BitVec.toNat_setWidth, BitVec.toNat_umod, show ((32 : Int).toNat) = 32 from rfl, twoPow_toNat 32 (by omega)]
  omega
def dist (a b : BitVec 64) : BitVec 64 := if W64 a < W64 b then b - a else a - b
def same (last low p : BitVec 64) : BitVec 64 := last &&& ~~~(p - 1#64) ||| low &&& (p - 1#64)
end Go.Proofs.YtihmbcnccdiecaaDoor
namespace Go.Proofs.YtihmbcnccdiecaaDoor
def rotl64 (x : BitVec 64) (s : Nat) : BitVec 64 := x <<< s ||| x >>> (64 - s)
def rotl32 (x : BitVec 32) (s : Nat) : BitVec 32 := x <<< s ||| x >>> (32 - s)
def kLow (k : BitVec 64) (i : Int) : BitVec 32 := (rotl64 k ((11 * i) % 64).toNat).setWidth 32
def rnd (k : BitVec 64) (i : Int) (h : BitVec 32) : BitVec 32 := rotl32 (h + kLow k i) 7 * 2654435761#32 ^^^ rotl32 (kLow k i) 16
def hiW (x : BitVec 64) : BitVec 32 := (x >>> 32).setWidth 32
def loW (x : BitVec 64) : BitVec 32 := x.setWidth 32
def joinW (l r : BitVec 32) : BitVec 64 := l.setWidth 64 <<< 32 ||| r.setWidth 64
def fwd (k : BitVec 64) (l r : BitVec 32) : Nat → BitVec 32 × BitVec 32
  | 0 => (l, r)
  | n + 1 => ((fwd k l r n).2, (fwd k l r n).1 ^^^ rnd k n (fwd k l r n).2)
def mix (k x : BitVec 64) : BitVec 64 := joinW (fwd k (hiW x) (loW x) 8).1 (fwd k (hiW x) (loW x) 8).2
theorem and63 (k : Int) : (BitVec.ofInt 64 k &&& 63#64).toNat = (k % 64).toNat := by
  rw [BitVec.toNat_and, BitVec.toNat_ofInt]
  have h := Nat.and_two_pow_sub_one_eq_mod (k % ((2 ^ 64 : Nat) : Int)).toNat 6
  have e : (63#64).toNat = 2 ^ 6 - 1 := rfl
  rw [e, h]
  omega
theorem and31 (k : Int) : (BitVec.ofInt 64 k &&& 31#64).toNat = (k % 32).toNat := by
  rw [BitVec.toNat_and, BitVec.toNat_ofInt]
  have h := Nat.and_two_pow_sub_one_eq_mod (k % ((2 ^ 64 : Nat) : Int)).toNat 5
  have e : (31#64).toNat = 2 ^ 5 - 1 := rfl
  rw [e, h]
  omega
theorem rot64_eq (x : BitVec 64) (k : Int) : shlW x (BitVec.ofInt 64 k &&& 63#64) ||| shrW x (64#64 - (BitVec.ofInt 64 k &&& 63#64)) = rotl64 x (k % 64).toNat := by
  have h := and63 k
  have h2 : (64#64 - (BitVec.ofInt 64 k &&& 63#64)).toNat = 64 - (k % 64).toNat := by
    rw [BitVec.toNat_sub, h]
    have : (64#64).toNat = 64 := rfl
    omega
  unfold rotl64 shlW shrW
  rw [h, h2]
theorem rot32_eq (x : BitVec 32) (k : Int) : shlW x (BitVec.ofInt 64 k &&& 31#64) ||| shrW x (32#64 - (BitVec.ofInt 64 k &&& 31#64)) = rotl32 x (k % 32).toNat := by
  have h := and31 k
  have h2 : (32#64 - (BitVec.ofInt 64 k &&& 31#64)).toNat = 32 - (k % 32).toNat := by
    rw [BitVec.toNat_sub, h]
    have : (32#64).toNat = 32 := rfl
    omega
  unfold rotl32 shlW shrW
  rw [h, h2]
theorem tmod64 (i : Int) : -63 ≤ i.tmod 64 ∧ i.tmod 64 ≤ 63 := by
  rw [Int.tmod_def]
  have h := Int.tdiv_eq_ediv (a := i) (b := 64)
  have h2 : Int.sign 64 = 1 := rfl
  rw [h2] at h
  split at h <;> omega
theorem turn_eq (i : Int) : (11 * i.tmod 64).tmod 64 % 64 = (11 * i) % 64 := by
  have h1 : i.tmod 64 % 64 = i % 64 := by rw [Int.tmod_def]; omega
  have h2 : (11 * i.tmod 64).tmod 64 % 64 = (11 * i.tmod 64) % 64 := by rw [Int.tmod_def (11 * i.tmod 64)]; omega
  rw [h2]
  omega
end Go.Proofs.YtihmbcnccdiecaaDoor
namespace Go.Proofs.YtihmbcnccdiecaaDoor
def leVal : List (BitVec 8) → BitVec 64
  | [] => 0#64
  | c :: cs => leVal cs <<< 8 ||| c.setWidth 64
def numB (n : Nat) (x : BitVec 64) : List (BitVec 8) := (List.range n).map fun i => (x >>> (8 * i)).setWidth 8
theorem numB_length (n : Nat) (x : BitVec 64) : (numB n x).length = n := by simp [numB]
theorem numB_succ (n : Nat) (x : BitVec 64) : numB (n + 1) x = numB n x ++ [(x >>> (8 * n)).setWidth 8] := by simp [numB, List.range_succ]
theorem leVal_snoc (l : List (BitVec 8)) (c : BitVec 8) : leVal (l ++ [c]) = leVal l ||| c.setWidth 64 <<< (8 * l.length) := by
  induction l with
  | nil => simp [leVal]
  | cons a l ih =>
    simp only [List.cons_append, leVal, ih, List.length_cons, BitVec.shiftLeft_or_distrib]
    rw [show 8 * (l.length + 1) = 8 * l.length + 8 by omega, BitVec.shiftLeft_add, BitVec.or_assoc, BitVec.or_assoc, BitVec.or_comm (BitVec.setWidth 64 a)]
def nGroups (n : Nat) : Nat := (n + 7) / 8
def groupAt (bs : List (BitVec 8)) (i : Nat) : BitVec 64 := leVal ((bs.drop (8 * i)).take 8)
def groupsTo (bs : List (BitVec 8)) (n : Nat) : List (BitVec 64) := (List.range n).map (groupAt bs)
theorem groupsTo_succ (bs : List (BitVec 8)) (n : Nat) : groupsTo bs (n + 1) = groupsTo bs n ++ [groupAt bs n] := by simp [groupsTo, List.range_succ]
theorem groupsTo_length (bs : List (BitVec 8)) (n : Nat) : (groupsTo bs n).length = n := by simp [groupsTo]
def tagFold (k x : BitVec 64) (gs : List (BitVec 64)) : BitVec 64 := gs.foldl (fun x g => mix k (x ^^^ g)) x
theorem tagFold_snoc (k x : BitVec 64) (gs : List (BitVec 64)) (g : BitVec 64) : tagFold k x (gs ++ [g]) = mix k (tagFold k x gs ^^^ g) := by simp [tagFold]
def tagStart (k : BitVec 64) (n : Nat) : BitVec 64 := mix k (BitVec.ofNat 64 n)
def tag (k : BitVec 64) (bs : List (BitVec 8)) : BitVec 64 := tagFold k (tagStart k bs.length) (groupsTo bs (nGroups bs.length))
def nums8 (xs : List (BitVec 64)) : List (BitVec 8) := xs.flatMap (numB 8)
theorem nums8_length (xs : List (BitVec 64)) : (nums8 xs).length = xs.length * 8 := by
  induction xs with
  | nil => rfl
  | cons x xs ih => simp only [nums8, List.flatMap_cons, List.length_append, numB_length, List.length_cons] at *; omega
def derive (k : BitVec 64) (label : List (BitVec 8)) (parts : List (BitVec 64)) : BitVec 64 := tag k (label ++ [0#8] ++ nums8 parts)
def chunk (bs : List (BitVec 8)) (k : Nat) : List (BitVec 8) := (bs.drop (8 * k)).take 8
theorem chunk_length (bs : List (BitVec 8)) (k : Nat) : (chunk bs k).length = min 8 (bs.length - 8 * k) := by simp [chunk]
theorem chunk_get (bs : List (BitVec 8)) (k j : Nat) (h : j < (chunk bs k).length) (h2 : 8 * k + j < bs.length) : (chunk bs k)[j] = bs[8 * k + j] := by simp [chunk]
def partVal (bs : List (BitVec 8)) (k j : Nat) : BitVec 64 := leVal ((chunk bs k).take j)
theorem partVal_zero (bs : List (BitVec 8)) (k : Nat) : partVal bs k 0 = 0#64 := by simp [partVal, leVal]
theorem partVal_all (bs : List (BitVec 8)) (k j : Nat) (h : (chunk bs k).length ≤ j) : partVal bs k j = groupAt bs k := by unfold partVal; rw [List.take_of_length_le h]; rfl
theorem partVal_succ (bs : List (BitVec 8)) (k j : Nat) (h : j < (chunk bs k).length) (h2 : 8 * k + j < bs.length) : partVal bs k (j + 1) = partVal bs k j ||| (bs[8 * k + j]).setWidth 64 <<< (8 * j) := by
  unfold partVal
  rw [List.take_succ_eq_append_getElem h, leVal_snoc, chunk_get bs k j h h2, List.length_take, Nat.min_eq_left (by omega)]
def streamNums (k nonce : BitVec 64) (n : Nat) : List (BitVec 64) := (List.range n).map fun j => mix k (mix k nonce + BitVec.ofNat 64 j)
def stream (k nonce : BitVec 64) (n : Nat) : List (BitVec 8) := (nums8 (streamNums k nonce (nGroups n))).take n
def xorB (a b : List (BitVec 8)) : List (BitVec 8) := List.zipWith (· ^^^ ·) a b
def crypt (k nonce : BitVec 64) (plain : List (BitVec 8)) : List (BitVec 8) := xorB plain (stream k nonce plain.length)
end Go.Proofs.YtihmbcnccdiecaaDoor
namespace Go.Proofs.YtihmbcnccdiecaaDoor
def numA (kind : Int) (bits : BitVec 64) : BitVec 64 := BitVec.ofInt 64 kind <<< 48 + bits
def flagsTo (bs : List Bool) : Nat → BitVec 64
  | 0 => 0#64
  | k + 1 => if bs.getD k false then flagsTo bs k ||| 1#64 <<< k else flagsTo bs k
theorem flagsTo_succ (bs : List Bool) (k : Nat) : flagsTo bs (k + 1) = if bs.getD k false then flagsTo bs k ||| 1#64 <<< k else flagsTo bs k := rfl
def featK (io : Int) (bs : List Bool) : BitVec 64 := (BitVec.ofInt 32 io).setWidth 64 ||| flagsTo bs bs.length <<< 32
def lblCommit : ByteArray := ⟨#[99, 111, 109, 109, 105, 116]⟩
def lblDigits : ByteArray := ⟨#[100, 105, 103, 105, 116, 115]⟩
def lblLtk : ByteArray := ⟨#[108, 116, 107]⟩
def lblCheck : ByteArray := ⟨#[99, 104, 101, 99, 107]⟩
def lbytes (s : ByteArray) : List (BitVec 8) := s.data.toList.map (·.toBitVec)
def commitK (u v : BitVec 32) (nonce : BitVec 64) (z : BitVec 8) : BitVec 64 := mix (derive (joinW u v) (lbytes lblCommit) [z.setWidth 64]) nonce
def digitsK (u v : BitVec 32) (na nb : BitVec 64) : BitVec 64 := derive (joinW u v) (lbytes lblDigits) [na, nb] % 1000000#64
def ltkK (sh : BitVec 32) (na nb x y : BitVec 64) : BitVec 64 := derive (sh.setWidth 64) (lbytes lblLtk) [na, nb, x, y]
def checkK (sh : BitVec 32) (n r f x y : BitVec 64) : BitVec 64 := mix (derive 0#64 (lbytes lblCheck) [n, r, f, x, y]) (sh.setWidth 64)
theorem digitsK_lt (u v : BitVec 32) (na nb : BitVec 64) : (digitsK u v na nb).toNat < 1000000 := by
  unfold digitsK
  rw [BitVec.toNat_umod]
  exact Nat.mod_lt _ (by decide)
end Go.Proofs.YtihmbcnccdiecaaDoor
namespace Go.Proofs.YtihmbcnccdiecaaDoor
structure Adr where
  kind : Int
  bits : BitVec 64
  deriving DecidableEq
structure Feat where
  io : Int
  oob : Bool
  bond : Bool
  mitm : Bool
  sid : Bool
  tid : Bool
  deriving DecidableEq
structure Idn where
  adr : Adr
  irk : BitVec 64
  deriving DecidableEq
structure Oob where
  value : BitVec 64
  random : BitVec 64
  deriving DecidableEq
structure Cfg where
  role : Int
  feat : Feat
  own : Adr
  peer : Adr
  idn : Idn
  secret : BitVec 32
  seed : BitVec 64
  mine : BitVec 64
  oob : Oob
  deriving DecidableEq
structure Pr where
  cfg : Cfg
  phase : Int
  since : Int
  method : Int
  peer : Feat
  req : Feat
  res : Feat
  peerKey : BitVec 32
  shared : BitVec 32
  nonce : BitVec 64
  other : BitVec 64
  commit : BitVec 64
  have_ : Bool
  passkey : Int
  round : Int
  agreed : Bool
  checkIn : BitVec 64
  haveIn : Bool
  crypt : Bool
  ltk : BitVec 64
  idn : Idn
  drawn : Int
  reason : Int
  deriving DecidableEq
structure Sec where
  kind : Int
  feat : Feat
  pub : BitVec 32
  value : BitVec 64
  idn : Idn
  reason : Int
  deriving DecidableEq
structure Evt where
  kind : Int
  number : Int
  key : BitVec 64
  strong : Bool
  idn : Idn
  reason : Int
  deriving DecidableEq
def adr0 : Adr := ⟨0, 0#64⟩
def feat0 : Feat := ⟨0, false, false, false, false, false⟩
def idn0 : Idn := ⟨adr0, 0#64⟩
def oob0 : Oob := ⟨0#64, 0#64⟩
def cfg0 : Cfg := ⟨0, feat0, adr0, adr0, idn0, 0#32, 0#64, 0#64, oob0⟩
def pr0 : Pr := ⟨cfg0, 0, 0, 0, feat0, feat0, feat0, 0#32, 0#32, 0#64, 0#64, 0#64, false, 0, 0, false, 0#64, false, false, 0#64, idn0, 0, 0⟩
def sec0 : Sec := ⟨0, feat0, 0#32, 0#64, idn0, 0⟩
def evt0 : Evt := ⟨0, 0, 0#64, false, idn0, 0⟩
def gp : Nat := 2147483647
def powK (base exp : Nat) : Nat := base ^ exp % gp
def pubK (secret : BitVec 32) : BitVec 32 := BitVec.ofNat 32 (powK 7 secret.toNat)
def validK (k : BitVec 32) : Bool := decide (2 ≤ k.toNat) && decide (k.toNat ≤ 2147483645)
def sharedK (secret pub : BitVec 32) : BitVec 32 := BitVec.ofNat 32 (powK pub.toNat secret.toNat)
def prefixK (kind : Int) : Nat := if kind = 2 then 3 else if kind = 3 then 1 else 0
def adrK (a : Adr) : Int :=
  if a.kind < 1 ∨ 4 < a.kind then 12
  else if 281474976710656 ≤ a.bits.toNat then 5
  else if a.kind = 1 then 0
  else
    let n := a.bits.toNat % 70368744177664
    let m := if a.kind = 3 then n / 16777216 else n
    let most := if a.kind = 3 then 4194303 else 70368744177663
    if a.bits.toNat / 70368744177664 ≠ prefixK a.kind ∨ m = 0 ∨ m = most then 1 else 0
def featK_ (f : Feat) : Int := if f.io < 0 ∨ 4 < f.io then 5 else 0
def tableK (i r : Int) : Int :=
  if i = 3 ∨ r = 3 then 1
  else if (i = 1 ∨ i = 4) ∧ (r = 1 ∨ r = 4) then 2
  else if i = 2 ∧ r = 2 then 5
  else if (i = 2 ∨ i = 4) ∧ (r = 0 ∨ r = 1) ∨ i = 2 ∧ r = 4 then 4
  else if (i = 0 ∨ i = 1 ∨ i = 4) ∧ (r = 2 ∨ r = 4) then 3
  else 1
def chooseK (i r : Feat) : Int × Bool :=
  if featK_ i ≠ 0 ∨ featK_ r ≠ 0 then (0, false)
  else if i.oob || r.oob then (6, true)
  else if !i.mitm && !r.mitm then (1, false)
  else (tableK i.io r.io, decide (tableK i.io r.io ≠ 1))
def enoughK (i r : Feat) : Bool := decide ((chooseK i r).1 ≠ 0) && ((chooseK i r).2 || (!i.mitm && !r.mitm))
def identsK (i r : Feat) : Bool × Bool := (i.sid && r.tid, r.sid && i.tid)
def usedK (p : Sec) : Option Sec :=
  if p.kind = 1 ∨ p.kind = 2 then some { sec0 with kind := p.kind, feat := p.feat }
  else if p.kind = 11 then some { sec0 with kind := p.kind, feat := { feat0 with bond := p.feat.bond, mitm := p.feat.mitm } }
  else if p.kind = 12 then some { sec0 with kind := p.kind, pub := p.pub }
  else if p.kind = 3 ∨ p.kind = 4 ∨ p.kind = 13 then some { sec0 with kind := p.kind, value := p.value }
  else if p.kind = 8 then some { sec0 with kind := p.kind, idn := p.idn }
  else if p.kind = 5 then some { sec0 with kind := p.kind, reason := p.reason }
  else none
def idnK (i : Idn) : Int := if adrK i.adr ≠ 0 then adrK i.adr else if i.adr.kind ≠ 1 ∧ i.adr.kind ≠ 2 then 1 else 0
def secK (p : Sec) : Int :=
  if usedK p = none then 12
  else if usedK p ≠ some p then 1
  else if p.kind = 1 ∨ p.kind = 2 then featK_ p.feat
  else if p.kind = 8 then idnK p.idn
  else if p.kind = 5 then (if p.reason < 1 ∨ 255 < p.reason then 5 else 0)
  else 0
def adrN (a : Adr) : BitVec 64 := numA a.kind a.bits
def featN (f : Feat) : BitVec 64 := featK f.io [f.oob, f.bond, f.mitm, f.sid, f.tid]
def drawK (seed : BitVec 64) (i : Int) : BitVec 64 := mix seed (BitVec.ofInt 64 i)
def checkV (sh : BitVec 32) (n r : BitVec 64) (f : Feat) (a b : Adr) : BitVec 64 := checkK sh n r (featN f) (adrN a) (adrN b)
def ltkV (sh : BitVec 32) (na nb : BitVec 64) (a b : Adr) : BitVec 64 := ltkK sh na nb (adrN a) (adrN b)
def bump (n : Int) : Int := Go.RowKit.wrap64 (n + 1)
structure Sd where
  p : Pr
  was : Pr
  now : Int
  sent : List Sec
  told : List Evt
def handleK (p : Pr) (now : Int) : Sd := ⟨p, p, now, [], []⟩
def Sd.first (s : Sd) : Bool := decide (s.p.cfg.role = 0)
def Sd.own (s : Sd) : BitVec 32 := pubK s.p.cfg.secret
def isPass (m : Int) : Bool := decide (m = 3) || decide (m = 4) || decide (m = 5)
def Sd.pass (s : Sd) : Bool := isPass s.p.method
def Sd.shows (s : Sd) : Bool := (s.first && decide (s.p.method = 3)) || (!s.first && decide (s.p.method = 4))
def Sd.accept (s : Sd) : Sd := { s with p := { s.p with since := s.now } }
def Sd.send (s : Sd) (d : Sec) : Sd := { s with sent := s.sent ++ [d] }
def Sd.tell (s : Sd) (e : Evt) : Sd := { s with told := s.told ++ [e] }
def Sd.end_ (s : Sd) (reason : Int) : Sd := { s with p := { s.was with phase := 8, since := s.now, reason := reason }, sent := [], told := [{ evt0 with kind := 4, reason := reason }] }
def Sd.fail (s : Sd) (reason : Int) : Sd := (s.end_ reason).send { sec0 with kind := 5, reason := reason }
def Sd.drawV (s : Sd) : BitVec 64 := drawK s.p.cfg.seed s.p.drawn
def Sd.draw (s : Sd) : Sd := { s with p := { s.p with drawn := bump s.p.drawn } }
def Sd.fresh (s : Sd) : Sd := { s.draw with p := { s.draw.p with nonce := s.drawV } }
def Sd.z (s : Sd) : BitVec 8 := if s.pass then 128#8 + BitVec.ofInt 8 (s.p.passkey / 2 ^ s.p.round.toNat % 2) else 0#8
def Sd.commit (s : Sd) : Sd := s.fresh.send { sec0 with kind := 3, value := commitK s.own s.p.peerKey s.drawV s.z }
def Sd.random (s : Sd) : Sd := s.send { sec0 with kind := 4, value := s.p.nonce }
def Sd.opens (s : Sd) (v : BitVec 64) : Bool := decide (commitK s.p.peerKey s.own v s.z = s.p.commit)
def Sd.extra (s : Sd) (has : Bool) (oob : BitVec 64) : BitVec 64 := if s.pass then BitVec.ofInt 64 s.p.passkey else if decide (s.p.method = 6) && has then oob else 0#64
def Sd.check (s : Sd) : BitVec 64 := checkV s.p.shared s.p.nonce (s.extra s.p.cfg.feat.oob s.p.cfg.oob.random) s.p.cfg.feat s.p.cfg.own s.p.cfg.peer
def Sd.otherCheck (s : Sd) : BitVec 64 := checkV s.p.shared s.p.other (s.extra s.p.peer.oob s.p.cfg.mine) s.p.peer s.p.cfg.peer s.p.cfg.own
def byR {α : Type} (s : Sd) (a b : α) : α := if s.first then a else b
def newP (c : Cfg) : Pr × Int :=
  if c.role ≠ 0 ∧ c.role ≠ 1 then (pr0, 5)
  else if featK_ c.feat ≠ 0 then (pr0, featK_ c.feat)
  else if adrK c.own ≠ 0 then (pr0, adrK c.own)
  else if adrK c.peer ≠ 0 then (pr0, adrK c.peer)
  else if c.secret.toNat < 1 ∨ 2147483645 < c.secret.toNat then (pr0, 5)
  else if validK (pubK c.secret) = false then (pr0, 1)
  else if c.feat.sid = true ∧ idnK c.idn ≠ 0 then (pr0, idnK c.idn)
  else ({ pr0 with cfg := c, passkey := -1 }, 0)
def Sd.setP (s : Sd) (p : Pr) : Sd := { s with p := p }
def Sd.choose (s : Sd) : Sd × Bool :=
  if enoughK s.p.req s.p.res = false then (s.fail 3, false) else (s.setP { s.p with method := (chooseK s.p.req s.p.res).1, phase := 2 }, true)
def Sd.idleS (s : Sd) (d : Sec) : Sd := s.accept.setP { s.accept.p with peer := d.feat, req := d.feat, res := s.p.cfg.feat }
def Sd.idle (s : Sd) (d : Sec) : Sd × Bool :=
  if s.first = true ∨ d.kind ≠ 1 then (s, false)
  else (if (s.idleS d).choose.2 then (s.idleS d).choose.1.send { sec0 with kind := 2, feat := (s.idleS d).choose.1.p.cfg.feat } else (s.idleS d).choose.1, true)
def Sd.featS (s : Sd) (d : Sec) : Sd := s.accept.setP { s.accept.p with peer := d.feat, res := d.feat }
def Sd.features (s : Sd) (d : Sec) : Sd × Bool :=
  if s.first = false ∨ d.kind ≠ 2 then (s, false)
  else (if (s.featS d).choose.2 then (s.featS d).choose.1.send { sec0 with kind := 12, pub := (s.featS d).choose.1.own } else (s.featS d).choose.1, true)
def Sd.begin_ (s : Sd) : Sd :=
  if s.p.method = 6 then
    (if s.first then ((s.setP { s.p with phase := 3 }).fresh).random else s.setP { s.p with phase := 3 })
  else if s.pass = false then
    (if s.first = false then (s.setP { s.p with phase := 3 }).commit else s.setP { s.p with phase := 3 })
  else if s.shows then
    (let t := (s.setP { s.p with phase := 3 }).draw
     let u := (t.setP { t.p with passkey := ((s.drawV % 1000000#64).toNat : Int) }).tell { evt0 with kind := 1, number := ((s.drawV % 1000000#64).toNat : Int) }
     if s.first then u.commit else u)
  else (s.setP { s.p with phase := 4 }).tell { evt0 with kind := 2 }
def Sd.keyed (s : Sd) (k : BitVec 32) : Sd := s.setP { s.p with peerKey := k, shared := sharedK s.p.cfg.secret k }
def Sd.public_ (s : Sd) (d : Sec) : Sd × Bool :=
  if d.kind ≠ 12 then (s, false)
  else if validK d.pub = false ∨ d.pub = s.own then (s.accept.fail 13, true)
  else if s.p.cfg.feat.oob = true ∧ s.p.cfg.oob.value ≠ commitK d.pub d.pub s.p.cfg.oob.random 0#8 then (s.accept.fail 2, true)
  else (if s.first = false then ((s.accept.keyed d.pub).send { sec0 with kind := 12, pub := s.own }).begin_ else (s.accept.keyed d.pub).begin_, true)
def Sd.take (s : Sd) (d : Sec) : Sd × Bool :=
  if d.kind ≠ 3 ∨ s.p.have_ = true then (s, false) else (s.accept.setP { s.accept.p with commit := d.value, have_ := true }, true)
def Sd.open_ (s : Sd) (d : Sec) : Sd × Bool :=
  if s.opens d.value = false then (s.accept.fail 4, false) else (s.accept.setP { s.accept.p with have_ := false, commit := 0#64, other := d.value }, true)
def Sd.toChecks (s : Sd) : Sd :=
  if s.first then (s.setP { s.p with phase := 5 }).send { sec0 with kind := 13, value := s.check } else s.setP { s.p with phase := 5 }
def Sd.digits (s : Sd) : Int := ((digitsK (byR s s.own s.p.peerKey) (byR s s.p.peerKey s.own) (byR s s.p.nonce s.p.other) (byR s s.p.other s.p.nonce)).toNat : Int)
def Sd.exchanged (s : Sd) : Sd :=
  if s.p.method = 1 then s.toChecks else (s.setP { s.p with phase := 4 }).tell { evt0 with kind := 1, number := s.digits }
def Sd.authFirst (s : Sd) (d : Sec) : Sd × Bool :=
  if (s.take d).2 then ((s.take d).1.fresh.random, true)
  else if d.kind ≠ 4 ∨ s.p.have_ = false then (s, false)
  else if (s.open_ d).2 then ((s.open_ d).1.exchanged, true) else ((s.open_ d).1, true)
def Sd.authOOB (s : Sd) (d : Sec) : Sd × Bool :=
  if d.kind ≠ 4 then (s, false)
  else
    let t := s.accept.setP { s.accept.p with other := d.value }
    (if s.first = false then t.fresh.random.toChecks else t.toChecks, true)
def Sd.authPasskey (s : Sd) (d : Sec) : Sd × Bool :=
  if (s.take d).2 then (if s.first then (s.take d).1.random else (s.take d).1.commit, true)
  else if d.kind ≠ 4 ∨ s.p.have_ = false then (s, false)
  else if (s.open_ d).2 = false then ((s.open_ d).1, true)
  else
    let t := (s.open_ d).1.setP { (s.open_ d).1.p with round := s.p.round + 1 }
    let u := if s.first = false then t.random else t
    (if s.p.round + 1 = 20 then u.toChecks else if s.first then u.commit else u, true)
def Sd.auth (s : Sd) (d : Sec) : Sd × Bool :=
  if s.p.method = 6 then s.authOOB d
  else if s.pass then s.authPasskey d
  else if s.first then s.authFirst d
  else if d.kind ≠ 4 then (s, false)
  else ((s.accept.setP { s.accept.p with other := d.value }).random.exchanged, true)
def Sd.early (s : Sd) (d : Sec) : Sd × Bool :=
  if s.first then (s, false)
  else if s.pass then s.take d
  else if d.kind ≠ 13 ∨ s.p.haveIn = true then (s, false)
  else (s.accept.setP { s.accept.p with checkIn := d.value, haveIn := true }, true)
def Sd.ltk (s : Sd) : BitVec 64 := ltkV s.p.shared (byR s s.p.nonce s.p.other) (byR s s.p.other s.p.nonce) (byR s s.p.cfg.own s.p.cfg.peer) (byR s s.p.cfg.peer s.p.cfg.own)
def Sd.checks (s : Sd) (d : Sec) : Sd × Bool :=
  if d.kind ≠ 13 then (s, false)
  else if d.value ≠ s.otherCheck then (s.accept.fail 11, true)
  else
    let t := s.accept.setP { s.accept.p with ltk := s.ltk, phase := 6 }
    (if s.first = false then t.send { sec0 with kind := 13, value := s.check } else t, true)
def Sd.dist (s : Sd) : Bool × Bool := (byR s (identsK s.p.req s.p.res).1 (identsK s.p.req s.p.res).2, byR s (identsK s.p.req s.p.res).2 (identsK s.p.req s.p.res).1)
def Sd.identity (s : Sd) : Sd := if s.dist.1 then s.send { sec0 with kind := 8, idn := s.p.cfg.idn } else s
def Sd.finish (s : Sd) : Sd := (s.setP { s.p with phase := 7 }).tell { evt0 with kind := 3, key := s.p.ltk, strong := (chooseK s.p.req s.p.res).2, idn := s.p.idn }
def Sd.keys (s : Sd) (d : Sec) : Sd × Bool :=
  if d.kind ≠ 8 ∨ s.p.crypt = false ∨ s.dist.2 = false then (s, false)
  else
    let t := s.accept.setP { s.accept.p with idn := d.idn }
    (if s.first then t.identity.finish else t.finish, true)
def Sd.call (s : Sd) (d : Sec) : Sd × Bool :=
  if s.p.phase = 0 then s.idle d else if s.p.phase = 1 then s.features d else if s.p.phase = 2 then s.public_ d else if s.p.phase = 3 then s.auth d
  else if s.p.phase = 4 then s.early d else if s.p.phase = 5 then s.checks d else s.keys d
def Sd.out (s : Sd) : Pr × List Sec × List Evt := (s.p, s.sent, s.told)
def startP (p : Pr) (now : Int) : Pr × List Sec × Int :=
  if p.cfg.role ≠ 0 ∨ p.phase ≠ 0 then (p, [], 9)
  else ({ p with since := now, req := p.cfg.feat, phase := 1 }, [{ sec0 with kind := 1, feat := p.cfg.feat }], 0)
def handleS (s : Sd) (d : Sec) : Sd :=
  if s.p.phase < 0 ∨ 6 < s.p.phase then s
  else if secK d ≠ 0 then s.fail 7
  else if d.kind = 5 then (if s.p.phase ≠ 0 then s.end_ d.reason else s)
  else if d.kind = 11 ∧ s.first = true ∧ s.p.phase = 0 then s
  else if (s.call d).2 then (s.call d).1 else (s.call d).1.fail 7
def handleP (p : Pr) (d : Sec) (now : Int) : Pr × List Sec × List Evt := (handleS (handleK p now) d).out
def userS (s : Sd) (answer : Int) : Sd :=
  if s.p.phase ≠ 4 then s
  else if s.pass = true ∧ answer = -1 then s.fail 1
  else if s.pass = true ∧ 0 ≤ answer ∧ answer < 1000000 then
    (let t := s.accept.setP { s.accept.p with passkey := answer, phase := 3 }
     if s.first = true ∨ s.p.have_ = true then t.commit else t)
  else if s.pass = true then s
  else if answer = 0 ∨ answer = -1 then s.fail 12
  else if answer = 1 then
    (let t := (s.accept.setP { s.accept.p with agreed := true }).toChecks
     if s.p.haveIn then ((t.setP { t.p with checkIn := 0#64, haveIn := false }).checks { sec0 with kind := 13, value := s.p.checkIn }).1 else t)
  else s
def userP (p : Pr) (answer now : Int) : Pr × List Sec × List Evt := (userS (handleK p now) answer).out
def encS (s : Sd) : Sd :=
  if s.p.phase ≠ 6 ∨ s.p.crypt = true then s
  else
    let t := s.accept.setP { s.accept.p with crypt := true }
    if s.first = true ∧ s.dist.2 = true then t
    else if s.first = true ∨ s.dist.2 = false then t.identity.finish else t.identity
def encP (p : Pr) (now : Int) : Pr × List Sec × List Evt := (encS (handleK p now)).out
end Go.Proofs.YtihmbcnccdiecaaDoor
namespace Go.Proofs.YtihmbcnccdiecaaDoor
set_option maxRecDepth 100000
open Go.RowKit
theorem add_block (a : Addr) (n : Nat) : (a.add n).block = a.block := by unfold Addr.add; split <;> rfl
def Rd (w : World) (A : Option Addr) (xs : List Value) : Prop :=
  ∀ (j : Nat) (u : Value), xs[j]? = some u → ∃ ad, A = some ad ∧ ad.block < w.heap.size ∧ w.cell? (ad.add j) = some u
theorem Rd.nil (w : World) (A : Option Addr) : Rd w A [] := fun j u h => by simp at h
theorem Rd.to {w w' : World} {A : Option Addr} {xs : List Value} (h : Rd w A xs) (hb : Below w.heap.size w w') : Rd w' A xs := fun j u hu => by
  obtain ⟨ad, rfl, hlt, hc⟩ := h j u hu
  exact ⟨ad, rfl, Nat.lt_of_lt_of_le hlt hb.size, (hb.cell (by rw [add_block]; exact hlt)).trans hc⟩
theorem Rd.take {w : World} {A : Option Addr} {xs : List Value} (h : Rd w A xs) (n : Nat) : Rd w A (xs.take n) := fun j u hu => by
  rw [List.getElem?_take] at hu
  split at hu
  · exact h j u hu
  · cases hu
theorem Rd.of_own {w : World} {base : Nat} {e : TypeId} {size n c : Nat} {A : Option Addr} {xs : List Value} (h : w.ownsRow base e size (.slice A n c) n xs) : Rd w A xs := fun j u hu => by
  rcases h.2 with ⟨hv, rfl⟩ | ⟨g, cap, cur, hv, hb, hg, _⟩
  · have := h.1
    simp at this
    subst this
    simp at hu
  · have hA : A = some ⟨g, 0, none⟩ := by injection hv
    subst hA
    exact ⟨_, rfl, (Array.getElem?_eq_some_iff.1 hg).1, h.cells (g := g) rfl j u hu⟩
theorem run_append_rd {P : Program} (w : World) (base : Nat) (t ty e : TypeId) (i : TypeInfo) (z : Value) (size bytes : Nat) (ht : P.underlying t = some (.slice e)) (hi : P.info? e = some i) (hz : i.zero = some z)
    (hsize : i.size = size) (hby : i.bytes = bytes) (hzs : z.cells.size = size) (hsz : 0 < size)
    (v : Value) (n : Nat) (xs : List Value) (hown : w.ownsRow base e size v n xs) (A : Option Addr) (m c : Nat) (news : List Value) (hr : Rd w A news) (hl : news.length = m * size) (h1 : ∀ u ∈ news, u.oneCell' = true)
    (h63 : n + m ≤ maxLen) (hbytes : (n + m) * bytes ≤ 140737488355328) (hbase : base ≤ w.heap.size) :
    ∃ v' w', (Builtin.append_ #[t, t] ty #[v, .slice A m c]).run P w = .ok v' w' ∧ w'.ownsRow base e size v' (n + m) (xs ++ news) ∧ Below base w w' ∧ w.grownBy w' v.ownBlock := by
  have fin : ∀ v' w', w'.ownsRow base e size v' (n + m) (xs ++ news) → w.grownBy w' v.ownBlock → Below base w w' ∧ w.grownBy w' v.ownBlock := fun v' w' _ hg =>
    ⟨(Below.refl base w).grown hg hbase (fun k hk => (hown.lt k hk).1), hg⟩
  rcases news with _ | ⟨x, news⟩
  · have hm : m = 0 := by
      rcases Nat.eq_zero_or_pos m with h0 | h0
      · exact h0
      · have := Nat.mul_pos h0 hsz; simp at hl; omega
    subst hm
    rcases A with _ | ad
    · refine ⟨v, w, ?_, by simpa using hown, Below.refl _ _, ⟨rfl, rfl, rfl, Nat.le_refl _, fun _ _ _ => rfl⟩⟩
      rcases hown.2 with ⟨rfl, rfl⟩ | ⟨g, cap, cur, rfl, _, _, hnc, _⟩
      · simp [Builtin.append_, run_underlying ht, sizeOf, typeInfo, hi, Builtin.lenOf, Builtin.firstCells]
      · simp [Builtin.append_, run_underlying ht, sizeOf, typeInfo, hi, Builtin.lenOf, Builtin.firstCells, hnc, storeCells]
    · obtain ⟨v', w', h, h2, h3, _⟩ := run_append_own (P := P) w base t ty e i z size bytes ht hi hz hsize hby hzs hsz v n xs hown ad 0 c [] (by simp) (fun j u hu => by simp at hu) (fun u hu => by cases hu) h63 hbytes hbase
      exact ⟨v', w', h, h2, fin v' w' h2 h3⟩
  · obtain ⟨ad, rfl, _, _⟩ := hr 0 x rfl
    obtain ⟨v', w', h, h2, h3, _⟩ := run_append_own (P := P) w base t ty e i z size bytes ht hi hz hsize hby hzs hsz v n xs hown ad m c (x :: news) hl (fun j u hu => by
      obtain ⟨ad', he, _, hc⟩ := hr j u hu
      injection he with he
      subst he
      exact hc) h1 h63 hbytes hbase
    exact ⟨v', w', h, h2, fin v' w' h2 h3⟩
theorem wpList_append_rd {P : Program} (w : World) {ops : Array Oper} {rest : List Oper} {o : Oper} {a : Act} {Q : Exit → Act → World → Prop} (hgd : o.guard = none) (s x : Operand) (t : TypeId)
    (ho : o.op = .call { callee := .builtin .append, args := #[s, x], argTypes := #[t, t] })
    (base : Nat) (e : TypeId) (i : TypeInfo) (z : Value) (size bytes : Nat) (ht : P.underlying t = some (.slice e)) (hi : P.info? e = some i) (hz : i.zero = some z)
    (hsize : i.size = size) (hby : i.bytes = bytes) (hzs : z.cells.size = size) (hsz : 0 < size)
    (v : Value) (n : Nat) (xs : List Value) (hs : a.eval s = v) (hown : w.ownsRow base e size v n xs) (A : Option Addr) (m c : Nat) (news : List Value) (hx : a.eval x = .slice A m c) (hr : Rd w A news) (hl : news.length = m * size) (h1 : ∀ u ∈ news, u.oneCell' = true)
    (h63 : n + m ≤ maxLen) (hbytes : (n + m) * bytes ≤ 140737488355328) (hbase : base ≤ w.heap.size)
    (h : ∀ A' c' w', w'.ownsRow base e size (.slice A' (n + m) c') (n + m) (xs ++ news) → Below base w w' → w.grownBy w' v.ownBlock → wpList P ops Q rest (a.put o.dst (.slice A' (n + m) c')) w') : wpList P ops Q (o :: rest) a w :=
  wpList_plain hgd fun _ hK => by
    obtain ⟨v', w', hrun, h2, h3, h4⟩ := run_append_rd (P := P) w base t o.type e i z size bytes ht hi hz hsize hby hzs hsz v n xs hown A m c news hr hl h1 h63 hbytes hbase
    obtain ⟨A', c', rfl⟩ : ∃ A' c', v' = .slice A' (n + m) c' := by
      rcases h2.2 with ⟨rfl, h0⟩ | ⟨g, cap, cur, rfl, _⟩
      · exact ⟨none, 0, by rw [h0]⟩
      · exact ⟨_, _, rfl⟩
    unfold Oper.wp execOp
    simp only [ho, resolve, invoke, builtin, Sem.run_bind, Sem.run_pure, Result.andThen_ok, List.map_toArray, List.map_cons, List.map_nil, hs, hx, hrun]
    exact hK _ _ (h A' c' w' h2 h3 h4)
theorem own_to {w w' : World} {base : Nat} {e : TypeId} {size n : Nat} {v : Value} {xs : List Value} (h : w.ownsRow base e size v n xs) (hb : Below w.heap.size w w') : w'.ownsRow base e size v n xs := by
  refine ⟨h.1, ?_⟩
  rcases h.2 with h2 | ⟨g, cap, cur, hv, hbg, hg, r⟩
  · exact .inl h2
  · exact .inr ⟨g, cap, cur, hv, hbg, (hb.block g (Array.getElem?_eq_some_iff.1 hg).1).trans hg, r⟩
theorem Rd.open_ {w : World} {A : Option Addr} {xs : List Value} (h : Rd w A xs) (hx : 0 < xs.length) :
    ∃ b off, A = some ⟨b, off, none⟩ ∧ b < w.heap.size ∧ ∀ (j : Nat) (u : Value), xs[j]? = some u → w.cell? ⟨b, off + j, none⟩ = some u := by
  obtain ⟨ad, rfl, hlt, hc⟩ := h 0 xs[0] (by simp)
  have hs : ad.spot = none := by
    have := World.cell?_spot hc
    simpa [Addr.add] using this
  obtain ⟨b, off, spot⟩ := ad
  dsimp only at hs
  subst hs
  refine ⟨b, off, rfl, hlt, fun j u hu => ?_⟩
  obtain ⟨ad, he, _, hc⟩ := h j u hu
  injection he with he
  subst he
  have e : (⟨b, off, none⟩ : Addr).add j = ⟨b, off + j, none⟩ := by unfold Addr.add; split <;> simp_all
  rwa [e] at hc
theorem Rd.new (w : World) (cs : Array Value) (e : TypeId) : Rd (w.alloc (.cells cs e)) (some ⟨w.heap.size, 0, none⟩) cs.toList := fun j u hu =>
  ⟨_, rfl, by simp, by
    have e : (⟨w.heap.size, 0, none⟩ : Addr).add j = ⟨w.heap.size, j, none⟩ := by unfold Addr.add; split <;> simp_all
    rw [e, cell_of_row _ w.heap.size j cs _ (0, 0) (heap_alloc_new w _)]
    simpa using hu⟩
def Blk (w : World) (g : Nat) (t : TypeId) (cs : Array Value) : Prop := w.heap[g]? = some (.cells cs t (0, 0))
section
variable {w w' : World} {g : Nat} {t : TypeId} {cs : Array Value}
theorem Blk.lt (h : Blk w g t cs) : g < w.heap.size := (Array.getElem?_eq_some_iff.1 h).1
theorem Blk.cell (h : Blk w g t cs) (i : Nat) : w.cell? ⟨g, i, none⟩ = cs[i]? := cell_of_row w g i cs t (0, 0) h
theorem Blk.free (h : Blk w g t cs) (i : Nat) : w.frozen? ⟨g, i, none⟩ = false := by unfold Blk at h; simp [World.frozen?, h]
theorem Blk.new (w : World) (t : TypeId) (cs : Array Value) : Blk (w.alloc (.cells cs t)) w.heap.size t cs := heap_alloc_new w _
theorem Blk.to {B : Nat} (h : Blk w g t cs) (hb : Below B w w') (hg : g < B) : Blk w' g t cs := (hb.block g hg).trans h
theorem Blk.alloc (h : Blk w g t cs) (o : Obj) : Blk (w.alloc o) g t cs := (Below.heap_alloc w o g h.lt).trans h
theorem Blk.set_ (h : Blk w g t cs) (i : Nat) (u : Value) : Blk (w.setCell ⟨g, i, none⟩ u) g t (cs.setIfInBounds i u) := by
  unfold Blk at h ⊢
  simp [World.setCell, Array.getElem?_modify, h]
theorem Blk.own {base size n : Nat} {e : TypeId} {v : Value} {xs : List Value} (h : Blk w g t cs) (ho : w.ownsRow base e size v n xs) (hne : e ≠ t) (hg : w.grownBy w' v.ownBlock) : Blk w' g t cs := by
  refine (hg.block g h.lt ?_).trans h
  rcases ho.2 with ⟨rfl, _⟩ | ⟨g', cap, cur, rfl, _, hh, _⟩
  · simp [Value.ownBlock]
  · intro he
    simp [Value.ownBlock] at he
    subst he
    unfold Blk at h
    rw [h] at hh
    injection hh with hh
    injection hh with _ ht
    exact hne ht.symm
end
theorem own_mono {w : World} {base base' : Nat} {e : TypeId} {size n : Nat} {v : Value} {xs : List Value} (h : w.ownsRow base e size v n xs) (hb : base' ≤ base) : w.ownsRow base' e size v n xs :=
  ⟨h.1, h.2.imp_right fun ⟨g, cap, cur, hv, hg, r⟩ => ⟨g, cap, cur, hv, Nat.le_trans hb hg, r⟩⟩
def bcells (bs : List (BitVec 8)) : List Value := bs.map fun b => .int .u8 (W8 b)
def ucells (xs : List (BitVec 64)) : List Value := xs.map fun x => .int .u64 (W64 x)
theorem bcells_length (bs : List (BitVec 8)) : (bcells bs).length = bs.length := by simp [bcells]
theorem bcells_append (a b : List (BitVec 8)) : bcells (a ++ b) = bcells a ++ bcells b := by simp [bcells]
theorem bcells_take (a : List (BitVec 8)) (n : Nat) : (bcells a).take n = bcells (a.take n) := by simp [bcells, List.map_take]
theorem bcells_one (bs : List (BitVec 8)) : ∀ u ∈ bcells bs, u.oneCell' = true := fun u hu => by
  obtain ⟨b, _, rfl⟩ := List.mem_map.1 hu
  rfl
abbrev RdB (w : World) (A : Option Addr) (bs : List (BitVec 8)) : Prop := Rd w A (bcells bs)
abbrev RdU (w : World) (A : Option Addr) (xs : List (BitVec 64)) : Prop := Rd w A (ucells xs)
theorem RdB.at_ {w : World} {A : Option Addr} {bs : List (BitVec 8)} (h : RdB w A bs) (k : Nat) (hk : k < bs.length) : ∃ ad, A = some ad ∧ ad.block < w.heap.size ∧ w.cell? (ad.add k) = some (.int .u8 (W8 bs[k])) :=
  h k _ (by simp [bcells, hk])
theorem RdU.at_ {w : World} {A : Option Addr} {bs : List (BitVec 64)} (h : RdU w A bs) (k : Nat) (hk : k < bs.length) : ∃ ad, A = some ad ∧ ad.block < w.heap.size ∧ w.cell? (ad.add k) = some (.int .u64 (W64 bs[k])) :=
  h k _ (by simp [ucells, hk])
theorem RdB.take {w : World} {A : Option Addr} {bs : List (BitVec 8)} (h : RdB w A bs) (n : Nat) : RdB w A (bs.take n) := by
  have := Rd.take h n
  rwa [bcells_take] at this
end Go.Proofs.YtihmbcnccdiecaaDoor
namespace Go.Proofs.YtihmbcnccdiecaaDoor
set_option maxRecDepth 100000
open Go.RowKit
set_option linter.unusedVariables false
def calmUpon (P : Program) (K : Value → World → Prop) : Result Next → Prop
  | .ok (.value v) w' => K v w'
  | .ok (.enter f args) w' => Calls P f args w' fun e w'' => ∃ v, e = .returned v ∧ K v w''
  | _ => False
def calm (P : Program) (o : Oper) (a : Act) (w : World) (K : Value → World → Prop) : Prop := calmUpon P K ((execOp a.eval o).run P w)
@[go_sem] theorem calmUpon_value (P : Program) (K : Value → World → Prop) (v : Value) (w : World) : calmUpon P K (.ok (.value v) w) = K v w := rfl
def CallPost (K : Value → World → Prop) (e : Ending) (w : World) : Prop := ∃ v, e = .returned v ∧ K v w
theorem CallPost.mk {K : Value → World → Prop} {v : Value} {w : World} (h : K v w) : CallPost K (.returned v) w := ⟨v, rfl, h⟩
@[go_sem] theorem calmUpon_enter (P : Program) (K : Value → World → Prop) (f : FuncId) (args : Array Value) (w : World) : calmUpon P K (.ok (.enter f args) w) = Calls P f args w (CallPost K) := rfl
attribute [go_sem] calm
theorem calm_mono {P : Program} {o : Oper} {a : Act} {w : World} {K K' : Value → World → Prop} (h : ∀ v w, K v w → K' v w) (hh : calm P o a w K) : calm P o a w K' := by
  unfold calm at *
  generalize (execOp a.eval o).run P w = r at *
  cases r with
  | ok n w' =>
    cases n <;> simp only [calmUpon] at hh ⊢
    case value v => exact h _ _ hh
    case enter f args => exact hh.mono fun e w'' ⟨v, hv, hk⟩ => ⟨v, hv, h _ _ hk⟩
  | halt x w' => simp only [calmUpon] at hh
theorem calm_wp {P : Program} {o : Oper} {a : Act} {w : World} {K : Act → World → Prop} {Q : Exit → Act → World → Prop} (hh : calm P o a w fun v w' => K (a.put o.dst v) w') : Oper.wp P o a w K Q := by
  unfold calm at hh
  unfold Oper.wp
  generalize (execOp a.eval o).run P w = r at *
  cases r with
  | ok n w' =>
    cases n <;> simp only [calmUpon] at hh <;> simp only [Oper.upon]
    case value v => exact hh
    case enter f args => exact hh.mono fun e w'' ⟨v, hv, hk⟩ => by subst hv; exact hk
  | halt x w' => simp only [calmUpon] at hh
def Stable (S : World → Prop) : Prop := ∀ w w', S w → Below w.heap.size w w' → S w'
section
variable {P : Program} {ops : Array Oper} {Q : Exit → Act → World → Prop} {md : Region.Mode} {S0 : World → Prop}
def YieldsU (P : Program) (ops : Array Oper) (S0 : World → Prop) (o : Oper) (v : Value) (a : Act) : Prop :=
  (Region.wanted o (yielded ops a.tmps) = true ∧ ∀ w, S0 w → calm P o a w fun u w' => u = v ∧ Below w.heap.size w w') ∨
  (Region.wanted o (yielded ops a.tmps) = false ∧ v = undef)
theorem YieldsU.of_same {o : Oper} {v : Value} {a a' : Act} (hy : YieldsU P ops S0 o v a) (he : execOp a'.eval o = execOp a.eval o)
    (hw : Region.wanted o (yielded ops a'.tmps) = Region.wanted o (yielded ops a.tmps)) : YieldsU P ops S0 o v a' := by
  unfold YieldsU calm at *
  rw [he, hw]
  exact hy
theorem YieldsU.weak {S1 : World → Prop} {o : Oper} {v : Value} {a : Act} (hy : YieldsU P ops S0 o v a) (h : ∀ w, S1 w → S0 w) : YieldsU P ops S1 o v a :=
  hy.imp (fun ⟨hw, hv⟩ => ⟨hw, fun w hS => hv w (h w hS)⟩) id
theorem YieldsU.wpOp {i : Nat} {o : Oper} {v : Value} {a : Act} (hi : ops[i]? = some o) (hy : YieldsU P ops S0 o v a)
    {K : Act → World → Prop} {w : World} (hS : S0 w) (h : ∀ w', Below w.heap.size w w' → K (a.put o.dst v) w') : wpOp P ops Q i K a w := by
  unfold Go.wpOp
  simp only [hi]
  rcases hy with ⟨hw, hv⟩ | ⟨hw, rfl⟩
  · simp only [hw, if_true]
    exact .inl (calm_wp (calm_mono (fun u w' ⟨hu, hb⟩ => by subst hu; exact h w' hb) (hv w hS)))
  · simp only [hw, Bool.false_eq_true, if_false]
    exact h w (Below.refl _ _)
theorem wpOp_putU {j : Nat} {oi oj : Oper} {v : Value} (hj : ops[j]? = some oj) (hap : oi.apart ops oj = true)
    (hsi : ∀ cs b, oi.op ≠ .select cs b) (hsj : ∀ cs b, oj.op ≠ .select cs b)
    (hQ : ∀ c a w, Q (.panic c) (a.put oi.dst v) w → Q (.panic c) a w) {K : Act → World → Prop} {a : Act} {w : World}
    (hy : YieldsU P ops S0 oi v a) (h : wpOp P ops Q j K (a.put oi.dst v) w) :
    wpOp P ops Q j (fun a' w' => YieldsU P ops S0 oi v a' ∧ K (a'.put oi.dst v) w') a w := by
  obtain ⟨h1, h2, h3⟩ := Oper.apart_spec hap
  have keep : ∀ (a : Act), YieldsU P ops S0 oi v a → ∀ u, YieldsU P ops S0 oi v (a.put oj.dst u) := fun a hy u =>
    hy.of_same (execOp_put oi hsi a oj.dst u h3) (wanted_put oi a oj.dst u h3)
  have keepD : ∀ d, YieldsU P ops S0 oi v { a with defers := d :: a.defers } := fun d => hy.of_same rfl rfl
  unfold wpOp at *
  simp only [hj] at *
  rw [wanted_put oj a oi.dst v h1] at h
  split
  · rename_i hw
    simp only [hw, if_true] at h
    rcases h with h | ⟨hasks, hlets⟩
    case inr => exact .inr ⟨by unfold Oper.asks at *; rw [execOp_put oj hsj a oi.dst v h1] at hasks; exact hasks, hlets⟩
    refine .inl ?_
    unfold Oper.wp at *
    rw [execOp_put oj hsj a oi.dst v h1] at h
    generalize (execOp a.eval oj).run P w = r at *
    cases r with
    | ok n w' =>
      cases n <;> simp only [Oper.upon] at h ⊢
      case value u => exact ⟨keep a hy u, by rw [← Act.put_comm a v u h2]; exact h⟩
      case skip => exact ⟨keep a hy _, by rw [← Act.put_comm a v undef h2]; exact h⟩
      case defer d =>
        refine ⟨keep _ (keepD d) _, ?_⟩
        rw [← Act.put_comm _ v undef h2, ← Act.put_defers]
        exact h
      case enter f args =>
        refine Calls.mono h fun e w'' he => ?_
        cases e with
        | returned u => exact ⟨keep a hy u, by rw [← Act.put_comm a v u h2]; exact he⟩
        | panicked c => exact hQ _ _ _ he
        | outgrown => exact he
      case row row args => exact Rows.mono h fun u w'' he => ⟨keep a hy u, by rw [← Act.put_comm a v u h2]; exact he⟩
    | halt x w' =>
      cases x <;> simp only [Oper.upon] at h ⊢
      case panic u => exact hQ _ _ _ h
  · rename_i hw
    simp only [hw] at h
    exact ⟨keep a hy _, by rw [← Act.put_comm a v undef h2]; exact h⟩
def wpU (P : Program) (md : Region.Mode) (ops : Array Oper) (Q : Exit → Act → World → Prop) : Nat → (World → Prop) → (World → Prop) → Array Bool → Act → Prop
  | 0, _, S, listed, a => Region.ready md ops listed = [] ∧ ∀ w, S w → Q .normal a w
  | fuel + 1, S0, S, listed, a =>
    (Region.ready md ops listed = [] → ∀ w, S w → Q .normal a w) ∧
    ∀ i ∈ Region.ready md ops listed, ∀ w, S w → wpOp P ops Q i (fun a' w' => ∃ S0' S' : World → Prop, (∀ w, S0' w → S0 w) ∧ Stable S' ∧ (∀ w, S' w → S0' w) ∧ S' w' ∧ wpU P md ops Q fuel S0' S' (listed.setIfInBounds i true) a') a w
theorem wpAny_of_u : ∀ (fuel : Nat) (S0 S : World → Prop) (listed : Array Bool) (a : Act) (w : World), S w → wpU P md ops Q fuel S0 S listed a → wpAny P md ops Q fuel listed a w
  | 0, _, _, _, _, w, hS, h => ⟨h.1, h.2 w hS⟩
  | fuel + 1, _, _, _, _, w, hS, h => ⟨fun h0 => h.1 h0 w hS, fun i hi => wpOp_mono (fun a' w' ⟨S0', S', _, _, _, hS', h'⟩ => wpAny_of_u fuel S0' S' _ a' w' hS' h') (h.2 i hi w hS)⟩
theorem wpU_first {i : Nat} {oi : Oper} {v : Value} (hi : ops[i]? = some oi) (hsel : ∀ (j : Nat) (o : Oper) cs b, ops[j]? = some o → o.op ≠ .select cs b)
    (hQ : ∀ c a w, Q (.panic c) (a.put oi.dst v) w → Q (.panic c) a w) :
    ∀ (fuel : Nat) (S0 S : World → Prop) (listed : Array Bool) (a : Act),
      (∀ j oj, ops[j]? = some oj → j ≠ i → listed.getD j true = false → (∀ e ∈ oj.after, Region.binds md e = true → e.on ≠ i) → oi.apart ops oj = true) →
      i ∈ Region.ready md ops listed → YieldsU P ops S0 oi v a → Stable S → (∀ w, S w → S0 w) →
      wpU P md ops Q fuel S0 S (listed.setIfInBounds i true) (a.put oi.dst v) → wpU P md ops Q (fuel + 1) S0 S listed a := by
  intro fuel
  induction fuel with
  | zero =>
    intro S0 S listed a _ hr hy hst h0 H
    refine ⟨fun h => (by rw [h] at hr; cases hr), fun j hj w hS => ?_⟩
    by_cases hji : j = i
    · subst hji; exact hy.wpOp hi (h0 w hS) fun w' hb => ⟨S0, S, fun _ h => h, hst, h0, hst w w' hS hb, H⟩
    · have := ready_mono hj hji
      rw [H.1] at this
      cases this
  | succ fuel ih =>
    intro S0 S listed a hfree hr hy hst h0 H
    refine ⟨fun h => (by rw [h] at hr; cases hr), fun j hj w hS => ?_⟩
    by_cases hji : j = i
    · subst hji; exact hy.wpOp hi (h0 w hS) fun w' hb => ⟨S0, S, fun _ h => h, hst, h0, hst w w' hS hb, H⟩
    · have h1 := H.2 j (ready_mono hj hji) w hS
      obtain ⟨hjun, oj, hoj, hall⟩ := mem_ready.1 hj
      have hnot : ∀ e ∈ oj.after, Region.binds md e = true → e.on ≠ i := fun e he hb heq => by
        have h1 := hall e he hb
        have h0 := (mem_ready.1 hr).1
        rw [heq] at h1
        rcases Nat.lt_or_ge i listed.size with h' | h'
        · simp [h'] at h0 h1; rw [h0] at h1; cases h1
        · simp [Array.getElem?_eq_none h'] at h1
      have h2 := wpOp_putU hoj (hfree j oj hoj hji hjun hnot) (fun cs b => hsel i oi cs b hi) (fun cs b => hsel j oj cs b hoj) hQ hy h1
      have hfree' : ∀ k ok, ops[k]? = some ok → k ≠ i → (listed.setIfInBounds j true).getD k true = false →
          (∀ e ∈ ok.after, Region.binds md e = true → e.on ≠ i) → oi.apart ops ok = true := fun k ok hk hki hun hno => by
        refine hfree k ok hk hki ?_ hno
        by_cases hjk : j = k
        · subst hjk; exact hjun
        · rw [getD_set_ne true hjk] at hun; exact hun
      refine wpOp_mono (fun a' w' ⟨hya, S0', S', hs0, hst', h0', hS', hW'⟩ => ⟨S0', S', hs0, hst', h0', hS', ih S0' S' (listed.setIfInBounds j true) a' hfree' (ready_mono hr (Ne.symm hji)) (hya.weak hs0) hst' h0' ?_⟩) h2
      rw [Array.setIfInBounds_comm _ _ hji]
      exact hW'
def Kept (p : Prop) : Prop := p
theorem Kept.out {p : Prop} (h : Kept p) : p := h
theorem wpU_take {S : World → Prop} (i : Nat) {oi : Oper} {v : Value} {fuel : Nat} {listed : Array Bool} {a : Act} (hst : Stable S) (h0 : ∀ w, S w → S0 w) (hi : ops.toList[i]? = some oi)
    (hy : ∀ w, S0 w → ∀ K : Value → World → Prop, Kept (∀ w', Below w.heap.size w w' → K v w') → calm P oi a w K)
    (h : wpU P md ops Q fuel S0 S (listed.setIfInBounds i true) (a.put oi.dst v))
    (hs : Region.noSelect ops = true := by kernel_rfl) (hf : Region.free md ops listed i = true := by kernel_rfl) (hr : (Region.ready md ops listed).contains i = true := by kernel_rfl)
    (hQ : ∀ c a w, Q (.panic c) (a.put oi.dst v) w → Q (.panic c) a w := by exact fun _ _ _ h => h) (hw : Region.wanted oi (yielded ops a.tmps) = true := by rfl) : wpU P md ops Q (fuel + 1) S0 S listed a :=
  wpU_first (by rw [← hi, Array.getElem?_toList]) (Region.noSelect_spec hs) hQ fuel S0 S listed a (Region.free_spec (by rw [← hi, Array.getElem?_toList]) hf) (by simpa using hr) (.inl ⟨hw, fun w hS => hy w hS _ fun w' hb => ⟨rfl, hb⟩⟩) hst h0 h
theorem wpU_skip {S : World → Prop} (i : Nat) {oi : Oper} {fuel : Nat} {listed : Array Bool} {a : Act} (hst : Stable S) (h0 : ∀ w, S w → S0 w) (hi : ops.toList[i]? = some oi)
    (h : wpU P md ops Q fuel S0 S (listed.setIfInBounds i true) (a.put oi.dst undef))
    (hs : Region.noSelect ops = true := by kernel_rfl) (hf : Region.free md ops listed i = true := by kernel_rfl) (hr : (Region.ready md ops listed).contains i = true := by kernel_rfl)
    (hQ : ∀ c a w, Q (.panic c) (a.put oi.dst undef) w → Q (.panic c) a w := by exact fun _ _ _ h => h) (hw : Region.wanted oi (yielded ops a.tmps) = false := by rfl) : wpU P md ops Q (fuel + 1) S0 S listed a :=
  wpU_first (by rw [← hi, Array.getElem?_toList]) (Region.noSelect_spec hs) hQ fuel S0 S listed a (Region.free_spec (by rw [← hi, Array.getElem?_toList]) hf) (by simpa using hr) (.inr ⟨hw, rfl⟩) hst h0 h
theorem wpU_one {S : World → Prop} (k : Nat) {o : Oper} {fuel : Nat} {listed : Array Bool} {a : Act} (ho : ops.toList[k]? = some o)
    (h : ∀ w, S w → ∀ K : Act → World → Prop, Kept (∀ (S0' S' : World → Prop) a' w', (∀ w, S0' w → S0 w) → Stable S' → (∀ w, S' w → S0' w) → S' w' → wpU P md ops Q fuel S0' S' (listed.setIfInBounds k true) a' → K a' w') →
      if Region.wanted o (yielded ops a.tmps) = true then Oper.wp P o a w K Q else K (a.put o.dst undef) w)
    (hr : Region.ready md ops listed = [k] := by kernel_rfl) : wpU P md ops Q (fuel + 1) S0 S listed a := by
  refine ⟨fun h0 => (by rw [hr] at h0; cases h0), fun i hi w hS => ?_⟩
  rw [hr] at hi
  obtain rfl : i = k := by simpa using hi
  exact wpOp_step (by rw [← ho, Array.getElem?_toList]) fun K' hK => h w hS K' fun S0' S' a' w' h1 h2 h3 h4 h5 => hK a' w' ⟨S0', S', h1, h2, h3, h4, h5⟩
theorem wpV_new {S : World → Prop} (k : Nat) {o : Oper} {fuel : Nat} {listed : Array Bool} {a : Act} (hst : Stable S) (ho : ops.toList[k]? = some o)
    (h : ∀ w, S w → ∀ K : Act → World → Prop, Kept (∀ (T : World → Prop) a' w', Stable T → Below w.heap.size w w' → T w' → (Stable (fun w => S w ∧ T w) → wpU P md ops Q fuel (fun w => S w ∧ T w) (fun w => S w ∧ T w) (listed.setIfInBounds k true) a') → K a' w') →
      if Region.wanted o (yielded ops a.tmps) = true then Oper.wp P o a w K Q else K (a.put o.dst undef) w)
    (hr : Region.ready md ops listed = [k] := by kernel_rfl) : wpU P md ops Q (fuel + 1) S S listed a :=
  wpU_one k ho (fun w hS K hK => h w hS K fun T a' w' hT hb ht hn =>
    have hs : Stable fun w => S w ∧ T w := fun w w' ⟨a, b⟩ hb => ⟨hst w w' a hb, hT w w' b hb⟩
    hK _ _ a' w' (fun _ h => h.1) hs (fun _ h => h) ⟨hst _ _ hS hb, ht⟩ (hn hs)) hr
theorem wp_region_v {id : Nat} {a : Act} {w : World} (S : World → Prop) (n : Nat) (hst : Stable S) (hS : S w.drew)
    (h : wpU P .any ops Q n S S (Array.replicate n false) a) (hn : ops.size = n := by rfl) (hm : P.follows .mixedOrders = true := by kernel_rfl) : (Code.region id ops true).wp P Q a w := by
  subst hn
  exact wp_region_any hm (wpAny_of_u _ S S _ _ _ hS h)
theorem wpU_done {S : World → Prop} {fuel : Nat} {listed : Array Bool} {a : Act} (h : ∀ w, S w → Q .normal a w) (hr : Region.ready md ops listed = [] := by kernel_rfl) : wpU P md ops Q fuel S0 S listed a := by
  cases fuel with
  | zero => exact ⟨hr, h⟩
  | succ n => exact ⟨fun _ => h, by rw [hr]; simp⟩
theorem wp_region_u {id : Nat} {a : Act} {w : World} (S : World → Prop) (S0 : World → Prop) (hst : Stable S) (h0 : ∀ w, S w → S0 w) (hS : S w.drew)
    (n : Nat) (h : wpU P .any ops Q n S0 S (Array.replicate n false) a) (hn : ops.size = n := by rfl) (hm : P.follows .mixedOrders = true := by kernel_rfl) : (Code.region id ops true).wp P Q a w := by
  subst hn
  exact wp_region_any hm (wpAny_of_u _ S0 S _ _ _ hS h)
end
theorem results_cell {P : Program} {fn : Func} {s : Tmp} {t : TypeId} {tmps : Array Value} {ad : Addr} {v : Value} {w : World} (h : fn.results = #[.cell s t]) (hs : tmps.getD s undef = .pointer (some ad)) (hl : (loadVar t ad).run P w = .ok v w) :
    (results fn tmps).run P w = .ok v w := by
  have hs' : tmps[s]?.getD undef = .pointer (some ad) := by simpa using hs
  simp [results, h, hs', hl, asAddr]
theorem results_ct {P : Program} {fn : Func} {s u : Tmp} {t : TypeId} {tmps : Array Value} {ad : Addr} {v : Value} {w : World} (h : fn.results = #[.cell s t, .tmp u]) (hs : tmps.getD s undef = .pointer (some ad)) (hl : (loadVar t ad).run P w = .ok v w) :
    (results fn tmps).run P w = .ok (.tuple #[v, tmps.getD u undef]) w := by
  have hs' : tmps[s]?.getD undef = .pointer (some ad) := by simpa using hs
  simp [results, h, hs', hl, asAddr]
theorem load_blk {P : Program} {w : World} {g : Nat} {t ty : TypeId} {cs : Array Value} {d : TypeDesc} (hG : Blk w g t cs) (hu : P.underlying ty = some d) (hd : (match d with | .struct _ | .array _ _ => true | _ => false) = true) (hi : (P.info? ty).map (·.size) = some cs.size) :
    (loadVar ty ⟨g, 0, none⟩).run P w = .ok (.agg cs) w := run_loadVar_row w g t ty cs (0, 0) d hG hu hd hi
theorem box1 (w : World) (t1 : TypeId) (c1 : Array Value) : Below w.heap.size w (w.alloc (.cells c1 t1)) ∧ Blk (w.alloc (.cells c1 t1)) w.heap.size t1 c1 :=
  ⟨(Below.refl _ _).alloc (Nat.le_refl _) _, Blk.new _ _ _⟩
theorem box2 (w : World) (t1 : TypeId) (c1 : Array Value) (t2 : TypeId) (c2 : Array Value) : Below w.heap.size w ((w.alloc (.cells c1 t1)).alloc (.cells c2 t2)) ∧
    Blk ((w.alloc (.cells c1 t1)).alloc (.cells c2 t2)) w.heap.size t1 c1 ∧ Blk ((w.alloc (.cells c1 t1)).alloc (.cells c2 t2)) (w.heap.size + 1) t2 c2 := by
  have h := Blk.new (w.alloc (.cells c1 t1)) t2 c2
  have e : (w.alloc (.cells c1 t1)).heap.size = w.heap.size + 1 := by simp
  rw [e] at h
  exact ⟨(box1 w t1 c1).1.alloc (by simp) _, (box1 w t1 c1).2.alloc _, h⟩
theorem box3 (w : World) (t1 : TypeId) (c1 : Array Value) (t2 : TypeId) (c2 : Array Value) (t3 : TypeId) (c3 : Array Value) :
    Below w.heap.size w (((w.alloc (.cells c1 t1)).alloc (.cells c2 t2)).alloc (.cells c3 t3)) ∧ Blk (((w.alloc (.cells c1 t1)).alloc (.cells c2 t2)).alloc (.cells c3 t3)) w.heap.size t1 c1 ∧
    Blk (((w.alloc (.cells c1 t1)).alloc (.cells c2 t2)).alloc (.cells c3 t3)) (w.heap.size + 1) t2 c2 ∧ Blk (((w.alloc (.cells c1 t1)).alloc (.cells c2 t2)).alloc (.cells c3 t3)) (w.heap.size + 2) t3 c3 := by
  have h := Blk.new ((w.alloc (.cells c1 t1)).alloc (.cells c2 t2)) t3 c3
  have e : ((w.alloc (.cells c1 t1)).alloc (.cells c2 t2)).heap.size = w.heap.size + 2 := by simp
  rw [e] at h
  have b := box2 w t1 c1 t2 c2
  exact ⟨b.1.alloc (by rw [e]; omega) _, b.2.1.alloc _, b.2.2.alloc _, h⟩
theorem below_eq {w w' : World} (h : w = w') : Below w.heap.size w w' := by rw [h]; exact Below.refl _ _
theorem stable_and {S T : World → Prop} (h : Stable S) (k : Stable T) : Stable fun w => S w ∧ T w := fun w w' ⟨a, b⟩ hb => ⟨h w w' a hb, k w w' b hb⟩
theorem stable_below (B : Nat) (w0 : World) (hB : B ≤ w0.heap.size) : Stable fun w => Below B w0 w := fun w w' h hb => h.trans (hb.mono (Nat.le_trans hB h.size))
theorem stable_rd (A : Option Addr) (xs : List Value) : Stable fun w => Rd w A xs := fun w w' h hb => h.to hb
theorem stable_rdU (A : Option Addr) (bs : List (BitVec 64)) : Stable fun w => RdU w A bs := fun w w' h hb => Rd.to h hb
theorem stable_blk (g : Nat) (t : TypeId) (cs : Array Value) : Stable fun w => Blk w g t cs := fun w w' h hb => h.to hb h.lt
theorem stable_own (base : Nat) (e : TypeId) (size : Nat) (v : Value) (n : Nat) (xs : List Value) : Stable fun w => w.ownsRow base e size v n xs := fun w w' h hb => own_to h hb
theorem stable_const (p : Prop) : Stable fun _ => p := fun _ _ h _ => h
theorem st2 (w : World) (t1 : TypeId) (c1 : Array Value) (t2 : TypeId) (c2 : Array Value) : Stable fun W => Below w.heap.size w W ∧ Blk W w.heap.size t1 c1 ∧ Blk W (w.heap.size + 1) t2 c2 :=
  stable_and (stable_below _ _ (Nat.le_refl _)) (stable_and (stable_blk _ _ _) (stable_blk _ _ _))
theorem st3 (w : World) (t1 : TypeId) (c1 : Array Value) (t2 : TypeId) (c2 : Array Value) (t3 : TypeId) (c3 : Array Value) : Stable fun W => Below w.heap.size w W ∧ Blk W w.heap.size t1 c1 ∧ Blk W (w.heap.size + 1) t2 c2 ∧ Blk W (w.heap.size + 2) t3 c3 :=
  stable_and (stable_below _ _ (Nat.le_refl _)) (stable_and (stable_blk _ _ _) (stable_and (stable_blk _ _ _) (stable_blk _ _ _)))
end Go.Proofs.YtihmbcnccdiecaaDoor
namespace Go.Proofs.YtihmbcnccdiecaaDoor
set_option maxRecDepth 100000
open Go.RowKit
set_option linter.unusedVariables false
structure Upd (g : Nat) (w w' : World) : Prop where
  os : w'.os = w.os
  tape : w'.tape = w.tape
  output : w'.output = w.output
  size : w'.heap.size = w.heap.size
  block : ∀ k, k ≠ g → w'.heap[k]? = w.heap[k]?
theorem Upd.below {g B : Nat} {w0 w w' : World} (h : Upd g w w') (hb : Below B w0 w) (hg : B ≤ g) : Below B w0 w' :=
  ⟨h.os.trans hb.os, h.tape.trans hb.tape, h.output.trans hb.output, by rw [h.size]; exact hb.size, fun k hk => (h.block k (by omega)).trans (hb.block k hk)⟩
theorem Upd.blk {g g' : Nat} {w w' : World} {t : TypeId} {cs : Array Value} (h : Upd g w w') (hG : Blk w g' t cs) (hne : g' ≠ g) : Blk w' g' t cs := (h.block g' hne).trans hG
theorem Upd.rd {g : Nat} {w w' : World} {A : Option Addr} {xs : List Value} (h : Upd g w w') (hr : Rd w A xs) (hne : ∀ ad, A = some ad → ad.block ≠ g) : Rd w' A xs := fun j u hu => by
  obtain ⟨ad, rfl, hlt, hc⟩ := hr j u hu
  exact ⟨ad, rfl, by rw [h.size]; exact hlt, (World.cell?_of_block (h.block _ (by rw [add_block]; exact hne ad rfl))).trans hc⟩
theorem Upd.trans {g : Nat} {a b c : World} (h : Upd g a b) (k : Upd g b c) : Upd g a c :=
  ⟨k.os.trans h.os, k.tape.trans h.tape, k.output.trans h.output, k.size.trans h.size, fun i hi => (k.block i hi).trans (h.block i hi)⟩
def putAt (cs : Array Value) (o : Nat) (vs : List Value) : Array Value := (cs.toList.take o ++ vs ++ cs.toList.drop (o + vs.length)).toArray
theorem setCells_blk {g : Nat} {t : TypeId} : ∀ (vs : List Value) (o : Nat) (w : World) (cs : Array Value), Blk w g t cs → o + vs.length ≤ cs.size → Blk (w.setCells g o vs) g t (putAt cs o vs) ∧ Upd g w (w.setCells g o vs)
  | [], o, w, cs, h, _ => by
    refine ⟨?_, ⟨rfl, rfl, rfl, rfl, fun _ _ => rfl⟩⟩
    have : putAt cs o [] = cs := by
      unfold putAt
      simp
    rw [this]
    exact h
  | v :: vs, o, w, cs, h, hl => by
    have h1 := h.set_ o v
    rw [List.length_cons] at hl
    obtain ⟨h2, u2⟩ := setCells_blk vs (o + 1) (w.setCell ⟨g, o, none⟩ v) (cs.setIfInBounds o v) h1 (by simp; omega)
    have hu : Upd g w (w.setCell ⟨g, o, none⟩ v) := ⟨rfl, rfl, rfl, by simp [World.setCell], fun k hk => Below.heap_setCell w ⟨g, o, none⟩ v k hk⟩
    refine ⟨?_, hu.trans u2⟩
    have e : putAt (cs.setIfInBounds o v) (o + 1) vs = putAt cs o (v :: vs) := by
      unfold putAt
      apply congrArg List.toArray
      rw [Array.toList_setIfInBounds, List.take_set, List.drop_set, if_pos (by omega), List.length_cons, show o + (vs.length + 1) = o + 1 + vs.length by omega]
      have ht : (cs.toList.take (o + 1)).set o v = cs.toList.take o ++ [v] := by
        have hlt : o < cs.toList.length := by rw [Array.length_toList]; omega
        rw [List.take_succ_eq_append_getElem hlt, List.set_append_right _ _ (by rw [List.length_take]; omega), List.length_take, Nat.min_eq_left (by omega), Nat.sub_self]
        rfl
      rw [ht]
      simp
    rw [← e]
    exact h2
theorem blk_there {w : World} {g : Nat} {t : TypeId} {cs : Array Value} (h : Blk w g t cs) (o n : Nat) (hn : o + n ≤ cs.size) : w.there g o n := fun j hj => by
  refine ⟨?_, h.free _⟩
  rw [h.cell, Array.getElem?_eq_getElem (by omega)]
  rfl
section
variable {P : Program}
theorem run_store_blk {w : World} {g o : Nat} {t ty : TypeId} {cs vs : Array Value} (hG : Blk w g t cs) (hi : (P.info? ty).map (·.size) = some vs.size) (h1 : vs.all (·.oneCell') = true) (hn : o + vs.size ≤ cs.size) :
    ∃ w', (storeVar ty ⟨g, o, none⟩ (.agg vs)).run P w = .ok () w' ∧ Blk w' g t (putAt cs o vs.toList) ∧ Upd g w w' := by
  have h := setCells_blk vs.toList o w cs hG (by simpa using hn)
  exact ⟨_, run_storeVar_mid w g o ty vs (blk_there hG o vs.size hn) hi h1, h.1, h.2⟩
theorem wpList_store_blk {ops : Array Oper} {rest : List Oper} {op : Oper} {a : Act} {w : World} {Q : Exit → Act → World → Prop} (hgd : op.guard = none) (ty : TypeId) (x y : Operand) (ho : op.op = .store ty x y)
    {g o : Nat} {t : TypeId} {cs vs : Array Value} (hG : Blk w g t cs) (hx : a.eval x = .pointer (some ⟨g, o, none⟩)) (hy : a.eval y = .agg vs)
    (hi : (P.info? ty).map (·.size) = some vs.size) (h1 : vs.all (·.oneCell') = true) (hn : o + vs.size ≤ cs.size)
    (h : ∀ w', Blk w' g t (putAt cs o vs.toList) → Upd g w w' → wpList P ops Q rest (a.put op.dst undef) w') : wpList P ops Q (op :: rest) a w := by
  have h2 := setCells_blk vs.toList o w cs hG (by simpa using hn)
  exact wpList_store_mid hgd ty x y ho g o vs hx hy (blk_there hG o vs.size hn) hi h1 (h _ h2.1 h2.2)
theorem wpList_store_one {ops : Array Oper} {rest : List Oper} {op : Oper} {a : Act} {w : World} {Q : Exit → Act → World → Prop} (hgd : op.guard = none) (ty : TypeId) (x y : Operand) (ho : op.op = .store ty x y)
    {g o : Nat} {t : TypeId} {cs : Array Value} (v : Value) (hG : Blk w g t cs) (hx : a.eval x = .pointer (some ⟨g, o, none⟩)) (hy : a.eval y = v)
    (hc : v.cells = #[v]) (hi : (P.info? ty).map (·.size) = some 1) (h1 : v.oneCell' = true) (hn : o < cs.size)
    (h : ∀ w', Blk w' g t (cs.setIfInBounds o v) → Upd g w w' → wpList P ops Q rest (a.put op.dst undef) w') : wpList P ops Q (op :: rest) a w :=
  wpList_plain hgd fun _ hK => by
    have hth := blk_there hG o 1 (by omega)
    have hs : (store ⟨g, o, none⟩ v .plain).run P w = .ok () (w.setCell ⟨g, o, none⟩ v) := by
      rw [run_store P w _ v .plain h1]
      have := hth 0 (by omega)
      simp only [Nat.add_zero] at this
      obtain ⟨u, hu⟩ := Option.isSome_iff_exists.1 this.1
      simp [hu, this.2]
    cases hq : P.info? ty with
    | none => simp [hq] at hi
    | some i =>
      have hsz : i.size = 1 := by simpa [hq] using hi
      have hsv : (storeVar ty ⟨g, o, none⟩ v).run P w = .ok () (w.setCell ⟨g, o, none⟩ v) := by
        simp [storeVar, sizeOf, typeInfo, hq, hc, hsz, storeCells, Addr.add, hs]
      unfold Oper.wp execOp
      simp only [ho, hx, hy, Instr.storeAt, Instr.sureAddr, Sem.run_bind, Sem.run_pure, Result.andThen_ok, hsv]
      have hu : Upd g w (w.setCell ⟨g, o, none⟩ v) := ⟨rfl, rfl, rfl, by simp [World.setCell], fun k hk => Below.heap_setCell w ⟨g, o, none⟩ v k hk⟩
      exact hK _ _ (h _ (hG.set_ o v) hu)
theorem blk_range {w : World} {g : Nat} {t : TypeId} {cs : Array Value} (hG : Blk w g t cs) (o : Nat) (vs : List Value) (h : (cs.toList.drop o).take vs.length = vs) : w.rangeAt g o vs := fun j v hv => by
  rw [hG.cell]
  rw [← h, List.getElem?_take] at hv
  split at hv
  · rw [List.getElem?_drop, Array.getElem?_toList] at hv
    exact hv
  · cases hv
theorem wpList_load_blk {ops : Array Oper} {rest : List Oper} {op : Oper} {a : Act} {w : World} {Q : Exit → Act → World → Prop} (hgd : op.guard = none) (ty : TypeId) (x : Operand) (ho : op.op = .load ty x)
    {g o : Nat} {t : TypeId} {cs : Array Value} {d : TypeDesc} (vs : List Value) (hG : Blk w g t cs) (hx : a.eval x = .pointer (some ⟨g, o, none⟩)) (hvs : (cs.toList.drop o).take vs.length = vs)
    (hu : P.underlying ty = some d) (hd : d.isRow = true) (hi : (P.info? ty).map (·.size) = some vs.length)
    (h : wpList P ops Q rest (a.put op.dst (.agg vs.toArray)) w) : wpList P ops Q (op :: rest) a w :=
  wpList_load_mid hgd ty x ho g o hx vs d (blk_range hG o vs hvs) hu hd hi h
theorem wpList_st1 {ops : Array Oper} {rest : List Oper} {dst : Option Tmp} {ty tt : TypeId} {x y : Operand} {pos : String} {after : Array Edge} {a : Act} {w : World} {Q : Exit → Act → World → Prop}
    {g : Nat} {t : TypeId} {cs : Array Value} (o : Nat) (v : Value) (cs' : Array Value) (hG : Blk w g t cs) (hx : a.eval x = .pointer (some ⟨g, o, none⟩)) (hy : a.eval y = v)
    (hc : v.cells = #[v]) (hi : (P.info? ty).map (·.size) = some 1) (h1 : v.oneCell' = true) (hn : o < cs.size) (he : cs.setIfInBounds o v = cs')
    (h : ∀ w', Blk w' g t cs' → Upd g w w' → wpList P ops Q rest (a.put dst undef) w') : wpList P ops Q ({ dst := dst, op := .store ty x y, type := tt, pos := pos, after := after, guard := none } :: rest) a w :=
  wpList_store_one rfl ty x y rfl v hG hx hy hc hi h1 hn fun w' hG' hU => h w' (he ▸ hG') hU
theorem wpList_st {ops : Array Oper} {rest : List Oper} {dst : Option Tmp} {ty tt : TypeId} {x y : Operand} {pos : String} {after : Array Edge} {a : Act} {w : World} {Q : Exit → Act → World → Prop}
    {g : Nat} {t : TypeId} {cs : Array Value} (o : Nat) (vs cs' : Array Value) (hG : Blk w g t cs) (hx : a.eval x = .pointer (some ⟨g, o, none⟩)) (hy : a.eval y = .agg vs)
    (hi : (P.info? ty).map (·.size) = some vs.size) (h1 : vs.toList.all (·.oneCell') = true) (hn : o + vs.size ≤ cs.size) (he : putAt cs o vs.toList = cs')
    (h : ∀ w', Blk w' g t cs' → Upd g w w' → wpList P ops Q rest (a.put dst undef) w') : wpList P ops Q ({ dst := dst, op := .store ty x y, type := tt, pos := pos, after := after, guard := none } :: rest) a w :=
  wpList_store_blk rfl ty x y rfl hG hx hy hi (by rw [← Array.all_toList]; exact h1) hn fun w' hG' hU => h w' (he ▸ hG') hU
theorem wpList_ld {ops : Array Oper} {rest : List Oper} {dst : Option Tmp} {ty tt : TypeId} {x : Operand} {pos : String} {after : Array Edge} {a : Act} {w : World} {Q : Exit → Act → World → Prop}
    {g : Nat} {t : TypeId} {cs : Array Value} {d : TypeDesc} (o : Nat) (vs : List Value) (hG : Blk w g t cs) (hx : a.eval x = .pointer (some ⟨g, o, none⟩)) (hvs : (cs.toList.drop o).take vs.length = vs)
    (hu : P.underlying ty = some d) (hd : d.isRow = true) (hi : (P.info? ty).map (·.size) = some vs.length)
    (h : wpList P ops Q rest (a.put dst (.agg vs.toArray)) w) : wpList P ops Q ({ dst := dst, op := .load ty x, type := tt, pos := pos, after := after, guard := none } :: rest) a w :=
  wpList_load_blk rfl ty x rfl vs hG hx hvs hu hd hi h
end
end Go.Proofs.YtihmbcnccdiecaaDoor
namespace Go.Proofs.YtihmbcnccdiecaaDoor
set_option maxRecDepth 100000
open Go.ChangeShapes Go.WideShapes Go.ChangeAt Go.RowKit
set_option linter.unusedVariables false
theorem ret_int {k : IntKind} {a b : Int} (h : a = b) : Ending.returned (.int k a) = .returned (.int k b) := by rw [h]
theorem serial_Low (n : BitVec 64) (b : Int) (w : World) :
  Calls Tryd.prog 99 #[.int .u64 (W64 n), .int .i64 b] w fun e w' => e = .returned (.int .u64 (W64 (low n b))) ∧ w = w' := by
 go_enter Tryd.func99, Tryd.ntmps99
 go_wp2
 · go_ret; exact ⟨ret_int (by unfold low; rw [if_pos (by assumption)]; rfl), rfl⟩
 · go_ret; exact ⟨ret_int (by unfold low; rw [if_neg (by omega), if_pos (by assumption)]), rfl⟩
 · go_ret; exact ⟨ret_int (by unfold low; rw [if_neg (by omega), if_neg (by omega)]), rfl⟩
end Go.Proofs.YtihmbcnccdiecaaDoor
namespace Go.Proofs.YtihmbcnccdiecaaDoor
set_option maxRecDepth 100000
open Go.ChangeShapes Go.WideShapes Go.ChangeAt Go.RowKit
set_option linter.unusedVariables false
theorem bits_RotateLeft64 (x : BitVec 64) (k : Int) (w : World) :
  Calls Tryd.prog 100 #[.int .u64 (W64 x), .int .i64 k] w fun e w' => e = .returned (.int .u64 (W64 (rotl64 x (k % 64).toNat))) ∧ w = w' := by
 have H := Lib.hid (rot64_eq x k)
 go_enter Tryd.func100, Tryd.ntmps100
 go_wp2
 go_ret
 exact ⟨ret_int (by rw [← H.out]), rfl⟩
theorem bits_RotateLeft32 (x : BitVec 32) (k : Int) (w : World) :
  Calls Tryd.prog 101 #[.int .u32 (W32 x), .int .i64 k] w fun e w' => e = .returned (.int .u32 (W32 (rotl32 x (k % 32).toNat))) ∧ w = w' := by
 have H := Lib.hid (rot32_eq x k)
 go_enter Tryd.func101, Tryd.ntmps101
 go_wp2
 go_ret
 exact ⟨ret_int (by rw [← H.out]), rfl⟩
theorem block_Round (k : BitVec 64) (i : Int) (h : BitVec 32) (w : World) :
  Calls Tryd.prog 87 #[.int .u64 (W64 k), .int .i64 i, .int .u32 (W32 h)] w fun e w' => e = .returned (.int .u32 (W32 (rnd k i h))) ∧ w = w' := by
 have hb := tmod64 i
 have ht := Lib.hid (turn_eq i)
 go_enter Tryd.func87, Tryd.ntmps87
 go_wp2_with fail
 refine (bits_RotateLeft64 _ _ _).mono ?_; rintro e w' ⟨rfl, rfl⟩
 rw [ht.out]
 go_wp2_with fail
 refine (serial_Low _ _ _).mono ?_; rintro e w' ⟨rfl, rfl⟩
 go_wp2_with fail
 rw [low32]
 refine (bits_RotateLeft32 _ _ _).mono ?_; rintro e w' ⟨rfl, rfl⟩
 go_wp2_with fail
 refine (bits_RotateLeft32 _ _ _).mono ?_; rintro e w' ⟨rfl, rfl⟩
 go_wp2
 go_ret
 exact ⟨rfl, rfl⟩
theorem block_split (x : BitVec 64) (w : World) :
  Calls Tryd.prog 86 #[.int .u64 (W64 x)] w fun e w' => e = .returned (.agg #[.int .u32 (W32 (hiW x)), .int .u32 (W32 (loW x))]) ∧ Below w.heap.size w w' := by
 go_enter Tryd.func86, Tryd.ntmps86
 go_wp2_with fail
 refine (serial_Low _ _ _).mono ?_; rintro e w' ⟨rfl, rfl⟩
 go_wp2
 rw [low32]
 go_returns
 exact ⟨rfl, (Below.refl _ _).alloc (Nat.le_refl _) _⟩
theorem halves_join (l r : BitVec 32) (w : World) :
  Calls Tryd.prog 88 #[.agg #[.int .u32 (W32 l), .int .u32 (W32 r)]] w fun e w' => e = .returned (.int .u64 (W64 (joinW l r))) ∧ Below w.heap.size w w' := by
 go_enter Tryd.func88, Tryd.ntmps88
 go_wp2
 go_ret
 exact ⟨ret_int rfl, (Below.refl _ _).alloc (Nat.le_refl _) _⟩
def Halves (w : World) (B : Nat) (p : BitVec 32 × BitVec 32) : Prop :=
  w.cell? ⟨B, 0, none⟩ = some (.int .u32 (W32 p.1)) ∧ w.cell? ⟨B, 1, none⟩ = some (.int .u32 (W32 p.2)) ∧ w.frozen? ⟨B, 0, none⟩ = false ∧ w.frozen? ⟨B, 1, none⟩ = false
theorem block_Mix (k x : BitVec 64) (w : World) :
  Calls Tryd.prog 61 #[.int .u64 (W64 k), .int .u64 (W64 x)] w fun e w' => e = .returned (.int .u64 (W64 (mix k x))) ∧ Below w.heap.size w w' := by
 go_enter Tryd.func61, Tryd.ntmps61
 go_wp2_with fail
 refine (block_split _ _).mono ?_; rintro e w1 ⟨rfl, hb1⟩
 go_wp2
 go_loopw [9] (fun i wr => ∃ n : Nat, n ≤ 8 ∧ i = .int .i64 n ∧ Below w1.heap.size w1 wr ∧ Halves wr w1.heap.size (fwd k (hiW x) (loW x) n)) (fun i _ => 8 - (intOf i).toNat)
 case atStart => 
  refine ⟨0, by omega, rfl, (Below.refl _ _).alloc (Nat.le_refl _) _, ?_, ?_, ?_, ?_⟩
  all_goals simp [go_sem, fwd]
 case round =>
  obtain ⟨n, hn, rfl, hb, h0, h1, f0, f1⟩ := hrel
  by_cases hlt : n < 8
  ·
   go_wp2
   refine wp_region_still_tail 11 (by kernel_rfl) (by kernel_rfl) ?_
   simp only [List.take_succ_cons, List.take_zero, List.drop_succ_cons, List.drop_zero]
   repeat still_step
   still_call ((block_Round _ _ _ _).mono fun _ _ ⟨a, b⟩ => ⟨a, b.symm⟩)
   repeat still_step
   refine wpStill_nil ?_
   go_wp2
   go_roundw
   case rel => 
    refine ⟨n + 1, by omega, by go_num, (hb.drew.setCell (Nat.le_refl _) _).setCell (Nat.le_refl _) _, ?_, ?_, ?_, ?_⟩
    all_goals simp [go_sem, fwd, h0, h1, f0, f1]
   case measure => simp [intOf]; omega
  obtain rfl : n = 8 := by omega
  go_wp2_with fail
  refine (halves_join _ _ _).mono ?_; rintro e w2 ⟨rfl, hb2⟩
  go_wp2
  go_ret
  exact ⟨rfl, hb1.trans ((hb.mono hb1.size).trans (hb2.mono (Nat.le_trans hb1.size hb.size)))⟩
end Go.Proofs.YtihmbcnccdiecaaDoor
namespace Go.Proofs.YtihmbcnccdiecaaDoor
set_option maxRecDepth 100000
open Go.ChangeShapes Go.WideShapes Go.ChangeAt Go.RowKit
set_option linter.unusedVariables false
theorem info_u8 : (Tryd.prog.info? 5).map (fun i => (i.zero, i.size, i.bytes)) = some (some (.int .u8 0), 1, 1) := by kernel_rfl
abbrev Part := Option Addr × Nat × List (BitVec 8)
def pcells (ps : List Part) : List Value := ps.map fun p => .slice p.1 p.2.2.length p.2.1
def joinTo (ps : List Part) (k : Nat) : List (BitVec 8) := (ps.take k).flatMap (·.2.2)
theorem joinTo_succ (ps : List Part) (k : Nat) (h : k < ps.length) : joinTo ps (k + 1) = joinTo ps k ++ ps[k].2.2 := by
  unfold joinTo
  rw [List.take_succ_eq_append_getElem h, List.flatMap_append]
  simp
theorem joinTo_all (ps : List Part) : joinTo ps ps.length = ps.flatMap (·.2.2) := by unfold joinTo; rw [List.take_length]
theorem joinTo_le (ps : List Part) (k : Nat) : (joinTo ps k).length ≤ (ps.flatMap (·.2.2)).length := by
  have h := List.take_append_drop k ps
  have : (ps.flatMap (·.2.2)).length = (joinTo ps k).length + ((ps.drop k).flatMap (·.2.2)).length := by
    conv => lhs; rw [← h, List.flatMap_append, List.length_append]
    rfl
  omega
def RetB (w : World) (bs : List (BitVec 8)) (e : Ending) (w' : World) : Prop :=
  ∃ (A : Option Addr) (c : Nat), e = .returned (.slice A bs.length c) ∧ w'.ownsRow w.heap.size 5 1 (.slice A bs.length c) bs.length (bcells bs) ∧ Below w.heap.size w w'
theorem octets_Join (A : Option Addr) (c : Nat) (ps : List Part) (w : World) (hr : Rd w A (pcells ps)) (hp : ∀ p ∈ ps, RdB w p.1 p.2.2) (hn : (ps.flatMap (·.2.2)).length ≤ 1048576) (hl : ps.length ≤ 1048576) :
  Calls Tryd.prog 90 #[.slice A ps.length c] w (RetB w (ps.flatMap (·.2.2))) := by
 obtain ⟨i0, hi0, hz0, hz1, hz2⟩ := info_parts info_u8
 go_enter Tryd.func90, Tryd.ntmps90
 go_wp2
 go_loopw [3, 8] (fun v i wr => ∃ (k : Nat) (A' : Option Addr) (c' : Nat), k ≤ ps.length ∧ i = .int .i64 k ∧ v = .slice A' (joinTo ps k).length c' ∧ wr.ownsRow w.heap.size 5 1 (.slice A' (joinTo ps k).length c') (joinTo ps k).length (bcells (joinTo ps k)) ∧ Below w.heap.size w wr)
  (fun _ i _ => ps.length - (intOf i).toNat)
 case atStart => exact ⟨0, none, 0, by omega, rfl, rfl, ⟨by simp [bcells, joinTo], .inl ⟨by simp [joinTo], by simp [joinTo]⟩⟩, Below.refl _ _⟩
 case round =>
  obtain ⟨k, A', c', hk, rfl, rfl, hown, hb⟩ := hrel
  by_cases hlt : k < ps.length
  ·
   have hle := joinTo_le ps (k + 1)
   have hsu := joinTo_succ ps k hlt
   rw [hsu, List.length_append] at hle
   obtain ⟨ad, rfl, hlt2, hcell⟩ := (hr.to hb) k (.slice ps[k].1 ps[k].2.2.length ps[k].2.1) (by simp [pcells, hlt])
   have hpk := (hp ps[k] (List.getElem_mem hlt)).to hb
   have HS := Lib.hid hsu
   clear hsu
   generalize ps[k] = q at *
   obtain ⟨qa, qc, qb⟩ := q
   dsimp only at *
   go_wp2_with (at_builtin; refine wpList_append_rd _ rfl _ _ 137 rfl w.heap.size 5 i0 _ 1 1 Tryd.underlying137 hi0 hz0 hz1 hz2 rfl (by omega) _ _ _ rfl hown qa qb.length qc (bcells qb) rfl hpk (by rw [bcells_length]; omega) (bcells_one _) (by simp only [maxLen]; omega) (by omega) hb.size ?_; intro A2 c2 w2 hown2 hb2 _)
   go_roundw
   case rel => 
    refine ⟨k + 1, A2, c2, by omega, by go_num, ?_, ?_, hb.trans hb2⟩
    · rw [HS.out, List.length_append]
    · rw [HS.out, List.length_append, bcells_append]; exact hown2
   case measure => simp [intOf]; omega
  obtain rfl : k = ps.length := by omega
  go_wp2
  go_ret
  rw [joinTo_all] at *
  exact ⟨A', c', rfl, hown, hb⟩
abbrev Fld := Nat × BitVec 64
def fcells (fs : List Fld) : List Value := fs.flatMap fun f => [.int .i64 (f.1 : Int), .int .u64 (W64 f.2)]
theorem fcells_length (fs : List Fld) : (fcells fs).length = fs.length * 2 := by
  induction fs with
  | nil => rfl
  | cons f fs ih => simp only [fcells, List.flatMap_cons, List.length_append, List.length_cons, List.length_nil] at *; omega
theorem fcells_snoc (fs : List Fld) (f : Fld) : fcells (fs ++ [f]) = fcells fs ++ [.int .i64 (f.1 : Int), .int .u64 (W64 f.2)] := by simp [fcells]
theorem fcells_one (fs : List Fld) : ∀ u ∈ fcells fs, u.oneCell' = true := fun u hu => by
  obtain ⟨f, _, h⟩ := List.mem_flatMap.1 hu
  simp at h
  rcases h with rfl | rfl <;> rfl
theorem fcells_at (fs : List Fld) (k : Nat) (h : k < fs.length) : (fcells fs)[k * 2]? = some (.int .i64 (fs[k].1 : Int)) ∧ (fcells fs)[k * 2 + 1]? = some (.int .u64 (W64 fs[k].2)) := by
  induction fs generalizing k with
  | nil => simp at h
  | cons f fs ih =>
    rcases k with _ | k
    · exact ⟨rfl, rfl⟩
    · have := ih k (by simpa using h)
      rw [show (k + 1) * 2 = k * 2 + 1 + 1 by omega]
      exact this
def fits (f : Fld) : Prop := 1 ≤ f.1 ∧ f.1 ≤ 8 ∧ (f.1 < 8 → f.2 >>> (8 * f.1) = 0#64)
def putTo (fs : List Fld) (k : Nat) : List (BitVec 8) := (fs.take k).flatMap fun f => numB f.1 f.2
def putB (fs : List Fld) : List (BitVec 8) := fs.flatMap fun f => numB f.1 f.2
theorem putTo_succ (fs : List Fld) (k : Nat) (h : k < fs.length) : putTo fs (k + 1) = putTo fs k ++ numB fs[k].1 fs[k].2 := by
  unfold putTo
  rw [List.take_succ_eq_append_getElem h, List.flatMap_append]
  simp
theorem putTo_all (fs : List Fld) : putTo fs fs.length = putB fs := by unfold putTo putB; rw [List.take_length]
theorem putTo_le (fs : List Fld) (hf : ∀ f ∈ fs, fits f) (k : Nat) : (putTo fs k).length ≤ k * 8 := by
  induction k with
  | zero => simp [putTo]
  | succ k ih =>
    by_cases h : k < fs.length
    · rw [putTo_succ fs k h, List.length_append, numB_length]
      have := (hf fs[k] (List.getElem_mem h)).2.1
      omega
    · have : putTo fs (k + 1) = putTo fs k := by unfold putTo; rw [List.take_of_length_le (by omega), List.take_of_length_le (by omega)]
      rw [this]; omega
def putIn (fs : List Fld) (k j : Nat) (x : BitVec 64) : List (BitVec 8) := putTo fs k ++ numB j x
theorem putIn_zero (fs : List Fld) (k : Nat) (x : BitVec 64) : putIn fs k 0 x = putTo fs k := by simp [putIn, numB]
theorem putIn_succ (fs : List Fld) (k j : Nat) (x : BitVec 64) : putIn fs k (j + 1) x = putIn fs k j x ++ [(x >>> (8 * j)).setWidth 8] := by unfold putIn; rw [numB_succ, List.append_assoc]
theorem putIn_len (fs : List Fld) (k j : Nat) (x : BitVec 64) : (putIn fs k j x).length = (putTo fs k).length + j := by unfold putIn; rw [List.length_append, numB_length]
theorem octets_sized (n : Int) (w : World) (h : 1 ≤ n ∧ n ≤ 8) :
  Calls Tryd.prog 106 #[.int .i64 n] w fun e w' => e = .returned (.bool true) ∧ w = w' := by
 have h1 : 1 ≤ n := h.1
 have h2 : n ≤ 8 := h.2
 have e1 : decide (1 ≤ n) = true := by simpa using h1
 have e2 : decide (n ≤ 8) = true := by simpa using h2
 go_enter Tryd.func106, Tryd.ntmps106
 go_wp2
 go_ret
 exact ⟨rfl, rfl⟩
def RetPut (w : World) (bs : List (BitVec 8)) (e : Ending) (w' : World) : Prop :=
  ∃ (A : Option Addr) (c : Nat), e = .returned (.tuple #[.slice A bs.length c, .int .i64 0]) ∧ w'.ownsRow w.heap.size 5 1 (.slice A bs.length c) bs.length (bcells bs) ∧ Below w.heap.size w w'
theorem octets_Put (A : Option Addr) (c : Nat) (fs : List Fld) (w : World) (hr : Rd w A (fcells fs)) (hf : ∀ f ∈ fs, fits f) (hl : fs.length ≤ 65536) :
  Calls Tryd.prog 103 #[.slice A fs.length c] w (RetPut w (putB fs)) := by
 obtain ⟨i0, hi0, hz0, hz1, hz2⟩ := info_parts info_u8
 go_enter Tryd.func103, Tryd.ntmps103
 go_wp2
 go_loopw [4, 10] (fun v i wr => ∃ (k : Nat) (A' : Option Addr) (c' : Nat), k ≤ fs.length ∧ i = .int .i64 k ∧ v = .slice A' (putTo fs k).length c' ∧ wr.ownsRow w.heap.size 5 1 (.slice A' (putTo fs k).length c') (putTo fs k).length (bcells (putTo fs k)) ∧ Below w.heap.size w wr)
  (fun _ i _ => fs.length - (intOf i).toNat)
 case atStart => exact ⟨0, none, 0, by omega, rfl, rfl, ⟨by simp [bcells, putTo], .inl ⟨by simp [putTo], by simp [putTo]⟩⟩, Below.refl _ _⟩
 case round =>
  obtain ⟨k, A', c', hk, rfl, rfl, hown, hb⟩ := hrel
  by_cases hlt : k < fs.length
  ·
   obtain ⟨bk, off, rfl, hblt, hcell⟩ := (hr.to hb).open_ (by rw [fcells_length]; omega)
   obtain ⟨hc0, hc1⟩ := fcells_at fs k hlt
   have hd0 := hcell _ _ hc0
   have hd1 := hcell _ _ hc1
   rw [← Nat.add_assoc] at hd1
   have hfk := hf _ (List.getElem_mem hlt)
   have hle := putTo_le fs hf k
   have hsu := Lib.hid (putTo_succ fs k hlt)
   clear hc0 hc1 hcell
   generalize fs[k] = q at *
   obtain ⟨sz, x⟩ := q
   obtain ⟨f1, f2, f3⟩ := hfk
   dsimp only at *
   have hz : (decide ((sz : Int) < 8) = true ∧ (W64 (x >>> (8 * sz)) != 0) = false) ∨ decide ((sz : Int) < 8) = false := by
    by_cases h8 : sz < 8
    · exact .inl ⟨by simp; omega, by rw [f3 h8]; rfl⟩
    · exact .inr (by simp; omega)
   clear f3
   obtain ⟨wo, rfl⟩ : ∃ wo : World, wo = wr := ⟨_, rfl⟩
   have hp0 := Lib.hid (putIn_zero fs k x)
   rcases hz with ⟨hq, hq'⟩ | hq
   all_goals
    go_wp2_with (go_at_call 106; refine (octets_sized _ _ (by omega)).mono ?_; rintro e w' ⟨rfl, rfl⟩)
    go_loopw [4, 34] (fun v i wr => ∃ (j : Nat) (A2 : Option Addr) (c2 : Nat), j ≤ sz ∧ i = .int .i64 j ∧ v = .slice A2 (putIn fs k j x).length c2 ∧ wr.ownsRow w.heap.size 5 1 (.slice A2 (putIn fs k j x).length c2) (putIn fs k j x).length (bcells (putIn fs k j x)) ∧ Below w.heap.size w wr ∧ Blk wr wo.heap.size 152 #[.int .i64 (sz : Int), .int .u64 (W64 x)])
     (fun _ i _ => sz - (intOf i).toNat)
    case atStart => exact ⟨0, A', c', by omega, rfl, by rw [hp0.out], by rw [hp0.out]; exact hown.alloc _, hb.alloc hb.size _, Blk.new _ _ _⟩
    case round =>
     obtain ⟨j, A2, c2, hj, rfl, rfl, hown2, hb2, hblk⟩ := hrel
     have hx0 : wr.cell? ⟨wo.heap.size, 0, none⟩ = some (.int .i64 (sz : Int)) := hblk.cell 0
     have hx1 : wr.cell? ⟨wo.heap.size, 1, none⟩ = some (.int .u64 (W64 x)) := hblk.cell 1
     have hns := Lib.hid (putIn_succ fs k j x)
     have hlen := Nat.le_of_eq (putIn_len fs k j x)
     by_cases hjl : j < sz
     ·
      go_wp2_with (at_builtin; refine wpList_append_rd _ rfl _ _ 137 rfl w.heap.size 5 i0 _ 1 1 Tryd.underlying137 hi0 hz0 hz1 hz2 rfl (by omega) _ _ _ rfl (hown2.alloc _) (some ⟨wr.heap.size, 0, none⟩) 1 1 [.int .u8 (W8 ((x >>> (8 * j)).setWidth 8))] rfl (Rd.new _ _ _) rfl (bcells_one [(x >>> (8 * j)).setWidth 8]) (by simp only [maxLen]; omega) (by omega) (by have := hb2.size; simp; omega) ?_; intro A3 c3 w3 hown3 hb3 hg3)
      go_roundw
      case rel =>
       refine ⟨j + 1, A3, c3, by omega, by go_num, ?_, ?_, (hb2.alloc hb2.size _).trans hb3, (hblk.alloc _).own (hown2.alloc _) (by decide) hg3⟩
       · rw [hns.out, List.length_append]; rfl
       · rw [hns.out, List.length_append, bcells_append]; exact hown3
      case measure => simp [intOf]; omega
     ·
      obtain rfl : j = sz := by omega
      go_wp2
      go_roundw
      case rel => exact ⟨k + 1, A2, c2, by omega, by go_num, by rw [hsu.out]; rfl, by rw [hsu.out]; exact hown2, hb2⟩
      case measure => simp [intOf]; omega
  obtain rfl : k = fs.length := by omega
  go_wp2
  go_ret2
  rw [putTo_all] at *
  exact ⟨A', c', rfl, hown, hb⟩
end Go.Proofs.YtihmbcnccdiecaaDoor
namespace Go.Proofs.YtihmbcnccdiecaaDoor
set_option maxRecDepth 100000
open Go.ChangeShapes Go.WideShapes Go.ChangeAt Go.RowKit
set_option linter.unusedVariables false
def RetR (w : World) (bs : List (BitVec 8)) (e : Ending) (w' : World) : Prop :=
  ∃ (A : Option Addr) (c : Nat), e = .returned (.slice A bs.length c) ∧ RdB w' A bs ∧ bs.length ≤ c ∧ Below w.heap.size w w'
theorem own_cap {w : World} {base : Nat} {e : TypeId} {size n c m : Nat} {A : Option Addr} {xs : List Value} (h : w.ownsRow base e size (.slice A m c) n xs) : n ≤ c ∧ n = m := by
  rcases h.2 with ⟨hv, rfl⟩ | ⟨g, cap, cur, hv, _, _, hc, _⟩
  · injection hv with h1 h2 h3
    exact ⟨by omega, by omega⟩
  · injection hv with h1 h2 h3
    exact ⟨by omega, by omega⟩
theorem RetB.r {w : World} {bs : List (BitVec 8)} {e : Ending} {w' : World} (h : RetB w bs e w') : RetR w bs e w' := by
  obtain ⟨A, c, rfl, ho, hb⟩ := h
  exact ⟨A, c, rfl, Rd.of_own ho, (own_cap ho).1, hb⟩
theorem RetB.at_ {w : World} {bs : List (BitVec 8)} {e : Ending} {w' : World} {n : Nat} (h : RetB w bs e w') (hn : bs.length = n) :
    ∃ (A : Option Addr) (c : Nat), e = .returned (.slice A n c) ∧ w'.ownsRow w.heap.size 5 1 (.slice A n c) n (bcells bs) ∧ Below w.heap.size w w' := by
  subst hn
  exact h
theorem RetR.at_ {w : World} {bs : List (BitVec 8)} {e : Ending} {w' : World} {n : Nat} (h : RetR w bs e w') (hn : bs.length = n) :
    ∃ (A : Option Addr) (c : Nat), e = .returned (.slice A n c) ∧ RdB w' A bs ∧ n ≤ c ∧ Below w.heap.size w w' := by
  subst hn
  exact h
def RetO (w : World) (r : List (BitVec 8) × Int) (e : Ending) (w' : World) : Prop :=
  ∃ (A : Option Addr) (c : Nat), e = .returned (.tuple #[.slice A r.1.length c, .int .i64 r.2]) ∧ RdB w' A r.1 ∧ r.1.length ≤ c ∧ Below w.heap.size w w'
end Go.Proofs.YtihmbcnccdiecaaDoor
namespace Go.Proofs.YtihmbcnccdiecaaDoor
set_option maxRecDepth 100000
open Go.ChangeShapes Go.WideShapes Go.ChangeAt Go.RowKit
set_option linter.unusedVariables false
def noU8 (cs : Array Value) : Bool := cs.toList.all fun v => match v with | .int .u8 _ => false | _ => true
theorem RdB.upd {g : Nat} {w w' : World} {t : TypeId} {cs : Array Value} {A : Option Addr} {bs : List (BitVec 8)} (hr : RdB w A bs) (hG : Blk w g t cs) (hU : Upd g w w') (hc : noU8 cs = true) : RdB w' A bs := fun j u hu => by
  have hlen : 0 < (bcells bs).length := by
    rcases h : bcells bs with _ | ⟨x, xs⟩
    · rw [h] at hu; simp at hu
    · simp
  obtain ⟨b, off, rfl, hlt, hcell⟩ := Rd.open_ hr hlen
  have hu8 : ∃ x, u = .int .u8 x := by
    have := List.mem_of_getElem? hu
    simp only [bcells, List.mem_map] at this
    obtain ⟨x, _, rfl⟩ := this
    exact ⟨_, rfl⟩
  have hne : b ≠ g := by
    rintro rfl
    have h1 := hcell j u hu
    rw [hG.cell] at h1
    obtain ⟨x, rfl⟩ := hu8
    have h2 : Value.int .u8 x ∈ cs.toList := by
      rw [← Array.getElem?_toList] at h1
      exact List.mem_of_getElem? h1
    have h3 := List.all_eq_true.1 hc _ h2
    simp at h3
  exact Upd.rd hU hr (fun ad he => by cases he; exact hne) j u hu
section
variable {P : Program} {ops : Array Oper} {Q : Exit → Act → World → Prop} {md : Region.Mode} {S0 S : World → Prop}
theorem wpV_two (i j : Nat) {oi oj : Oper} {fuel : Nat} {listed : Array Bool} {a : Act} (hst : Stable S) (hoi : ops.toList[i]? = some oi) (hoj : ops.toList[j]? = some oj)
    (h1 : ∀ w, S w → ∀ K : Act → World → Prop, Kept (∀ (T : World → Prop) a' w', Stable T → Below w.heap.size w w' → T w' → (Stable (fun w => S w ∧ T w) → wpU P md ops Q fuel (fun w => S w ∧ T w) (fun w => S w ∧ T w) (listed.setIfInBounds i true) a') → K a' w') →
      if Region.wanted oi (yielded ops a.tmps) = true then Oper.wp P oi a w K Q else K (a.put oi.dst undef) w)
    (h2 : ∀ w, S w → ∀ K : Act → World → Prop, Kept (∀ (T : World → Prop) a' w', Stable T → Below w.heap.size w w' → T w' → (Stable (fun w => S w ∧ T w) → wpU P md ops Q fuel (fun w => S w ∧ T w) (fun w => S w ∧ T w) (listed.setIfInBounds j true) a') → K a' w') →
      if Region.wanted oj (yielded ops a.tmps) = true then Oper.wp P oj a w K Q else K (a.put oj.dst undef) w)
    (hr : Region.ready md ops listed = [i, j] := by kernel_rfl) : wpU P md ops Q (fuel + 1) S S listed a := by
  have hs : ∀ T, Stable T → Stable fun w => S w ∧ T w := fun T hT w w' ⟨a, b⟩ hb => ⟨hst w w' a hb, hT w w' b hb⟩
  refine ⟨fun h0 => (by rw [hr] at h0; cases h0), fun k hk w hS => ?_⟩
  rw [hr] at hk
  rcases List.mem_cons.1 hk with rfl | hk
  · exact wpOp_step (by rw [← hoi, Array.getElem?_toList]) fun K' hK => h1 w hS K' fun T a' w' hT hb ht hn => hK a' w' ⟨_, _, fun _ h => h.1, hs T hT, fun _ h => h, ⟨hst _ _ hS hb, ht⟩, hn (hs T hT)⟩
  · obtain rfl : k = j := by simpa using hk
    exact wpOp_step (by rw [← hoj, Array.getElem?_toList]) fun K' hK => h2 w hS K' fun T a' w' hT hb ht hn => hK a' w' ⟨_, _, fun _ h => h.1, hs T hT, fun _ h => h, ⟨hst _ _ hS hb, ht⟩, hn (hs T hT)⟩
end
end Go.Proofs.YtihmbcnccdiecaaDoor
namespace Go.Proofs.YtihmbcnccdiecaaDoor
set_option maxRecDepth 100000
open Go.RowKit
set_option linter.unusedVariables false
section
variable {P : Program} {ops : Array Oper} {Q : Exit → Act → World → Prop} {md : Region.Mode} {S0 : World → Prop}
def tailL (P : Program) (md : Region.Mode) (ops : Array Oper) (Q : Exit → Act → World → Prop) (n : Nat) (S : World → Prop) (listed : Array Bool) (a : Act) : Prop :=
  Region.seqB md ops (ops.size - n) n listed = true ∧ ∀ w, S w → wpList P ops Q (ops.toList.drop n) a w
def wpT (P : Program) (md : Region.Mode) (ops : Array Oper) (Q : Exit → Act → World → Prop) (n : Nat) : Nat → (World → Prop) → (World → Prop) → Array Bool → Act → Prop
  | 0, _, S, listed, a => tailL P md ops Q n S listed a
  | fuel + 1, S0, S, listed, a => Region.ready md ops listed ≠ [] ∧
    ∀ i ∈ Region.ready md ops listed, i < n ∧ ∀ w, S w → wpOp P ops Q i (fun a' w' => ∃ S0' S' : World → Prop, (∀ w, S0' w → S0 w) ∧ Stable S' ∧ (∀ w, S' w → S0' w) ∧ S' w' ∧ wpT P md ops Q n fuel S0' S' (listed.setIfInBounds i true) a') a w
theorem wpAny_of_t {n : Nat} (hn : n ≤ ops.size) : ∀ (fuel : Nat) (S0 S : World → Prop) (listed : Array Bool) (a : Act) (w : World), S w → wpT P md ops Q n fuel S0 S listed a → wpAny P md ops Q (fuel + (ops.size - n)) listed a w
  | 0, _, S, listed, a, w, hS, h => by
    rw [Nat.zero_add]
    have := wpAny_of_seq (md := md) (Q' := Q) (ops.toList.drop n) n listed a w (fun j => by simp [List.getElem?_drop]) (by simpa using h.1) (h.2 w hS)
    simpa using this
  | fuel + 1, _, _, _, _, w, hS, h => by
    rw [show fuel + 1 + (ops.size - n) = (fuel + (ops.size - n)) + 1 by omega]
    exact ⟨fun h0 => absurd h0 h.1, fun i hi => wpOp_mono (fun a' w' ⟨S0', S', _, _, _, hS', h'⟩ => wpAny_of_t hn fuel S0' S' _ a' w' hS' h') ((h.2 i hi).2 w hS)⟩
theorem seqB_tail {n : Nat} {listed : Array Bool} (h : Region.seqB md ops (ops.size - n) n listed = true) : ∀ j ∈ Region.ready md ops listed, n ≤ j := seqB_ready h
theorem wpT_first {n i : Nat} {oi : Oper} {v : Value} (hi : ops[i]? = some oi) (hsel : ∀ (j : Nat) (o : Oper) cs b, ops[j]? = some o → o.op ≠ .select cs b)
    (hs : Region.sinkB md ops n = true) (hc : Region.chainB md ops n = true) (hn : n < ops.size) (hin : i < n)
    (hQ : ∀ c a w, Q (.panic c) (a.put oi.dst v) w → Q (.panic c) a w) :
    ∀ (fuel : Nat) (S0 S : World → Prop) (listed : Array Bool) (a : Act), HeadInv md ops n listed →
      (∀ j oj, ops[j]? = some oj → j ≠ i → listed.getD j true = false → (∀ e ∈ oj.after, Region.binds md e = true → e.on ≠ i) → oi.apart ops oj = true) →
      i ∈ Region.ready md ops listed → YieldsU P ops S0 oi v a → Stable S → (∀ w, S w → S0 w) →
      wpT P md ops Q n fuel S0 S (listed.setIfInBounds i true) (a.put oi.dst v) → wpT P md ops Q n (fuel + 1) S0 S listed a := by
  intro fuel
  induction fuel with
  | zero =>
    intro S0 S listed a inv _ hr hy hst h0 H
    have hun := (mem_ready.1 hr).1
    refine ⟨fun h => (by rw [h] at hr; cases hr), fun j hj => ?_⟩
    have hjn : j < n := by
      rcases Nat.lt_or_ge j n with h | h
      · exact h
      · exact absurd hj (tail_waits hs hc hn inv _ i rfl hin hun j h)
    refine ⟨hjn, fun w hS => ?_⟩
    by_cases hji : j = i
    · subst hji; exact hy.wpOp hi (h0 w hS) fun w' hb => ⟨S0, S, fun _ h => h, hst, h0, hst w w' hS hb, H⟩
    · have := seqB_tail H.1 j (ready_mono hj hji)
      omega
  | succ fuel ih =>
    intro S0 S listed a inv hfree hr hy hst h0 H
    have hun := (mem_ready.1 hr).1
    refine ⟨fun h => (by rw [h] at hr; cases hr), fun j hj => ?_⟩
    have hjn : j < n := by
      rcases Nat.lt_or_ge j n with h | h
      · exact h
      · exact absurd hj (tail_waits hs hc hn inv _ i rfl hin hun j h)
    refine ⟨hjn, fun w hS => ?_⟩
    by_cases hji : j = i
    · subst hji; exact hy.wpOp hi (h0 w hS) fun w' hb => ⟨S0, S, fun _ h => h, hst, h0, hst w w' hS hb, H⟩
    · have h1 := (H.2 j (ready_mono hj hji)).2 w hS
      obtain ⟨hjun, oj, hoj, hall⟩ := mem_ready.1 hj
      have hnot : ∀ e ∈ oj.after, Region.binds md e = true → e.on ≠ i := fun e he hb heq => by
        have h1 := hall e he hb
        rw [heq, getD_both hun] at h1
        cases h1
      have h2 := wpOp_putU hoj (hfree j oj hoj hji hjun hnot) (fun cs b => hsel i oi cs b hi) (fun cs b => hsel j oj cs b hoj) hQ hy h1
      have hfree' : ∀ k ok, ops[k]? = some ok → k ≠ i → (listed.setIfInBounds j true).getD k true = false →
          (∀ e ∈ ok.after, Region.binds md e = true → e.on ≠ i) → oi.apart ops ok = true := fun k ok hk hki hun hno => by
        refine hfree k ok hk hki ?_ hno
        by_cases hjk : j = k
        · subst hjk; exact hjun
        · rw [getD_set_ne true hjk] at hun; exact hun
      refine wpOp_mono (fun a' w' ⟨hya, S0', S', hs0, hst', h0', hS', hW'⟩ => ⟨S0', S', hs0, hst', h0', hS', ih S0' S' (listed.setIfInBounds j true) a' (inv.set hj hjn) hfree' (ready_mono hr (Ne.symm hji)) (hya.weak hs0) hst' h0' ?_⟩) h2
      rw [Array.setIfInBounds_comm _ _ hji]
      exact hW'
structure TailOk (md : Region.Mode) (ops : Array Oper) (n : Nat) : Prop where
  nosel : Region.noSelect ops = true
  sink : Region.sinkB md ops n = true
  chain : Region.chainB md ops n = true
  lt : n < ops.size
def wpH (P : Program) (md : Region.Mode) (ops : Array Oper) (Q : Exit → Act → World → Prop) (n fuel : Nat) (S : World → Prop) (listed : Array Bool) (a : Act) : Prop :=
  HeadInv md ops n listed → wpT P md ops Q n fuel S S listed a
theorem wpH_take {S : World → Prop} {n : Nat} (i : Nat) {oi : Oper} {v : Value} {fuel : Nat} {listed : Array Bool} {a : Act} (hR : TailOk md ops n) (hst : Stable S) (hi : ops.toList[i]? = some oi)
    (hy : ∀ w, S w → ∀ K : Value → World → Prop, Kept (∀ w', Below w.heap.size w w' → K v w') → calm P oi a w K)
    (h : wpH P md ops Q n fuel S (listed.setIfInBounds i true) (a.put oi.dst v))
    (hf : Region.free md ops listed i = true := by kernel_rfl) (hr : (Region.ready md ops listed).contains i = true := by kernel_rfl) (hin : decide (i < n) = true := by rfl)
    (hQ : ∀ c a w, Q (.panic c) (a.put oi.dst v) w → Q (.panic c) a w := by exact fun _ _ _ h => h) (hw : Region.wanted oi (yielded ops a.tmps) = true := by rfl) : wpH P md ops Q n (fuel + 1) S listed a := fun inv => by
  have hi' : ops[i]? = some oi := by rw [← hi, Array.getElem?_toList]
  have hr' : i ∈ Region.ready md ops listed := by simpa using hr
  exact wpT_first hi' (Region.noSelect_spec hR.nosel) hR.sink hR.chain hR.lt (of_decide_eq_true hin) hQ fuel S S listed a inv (Region.free_spec hi' hf) hr' (.inl ⟨hw, fun w hS => hy w hS _ fun w' hb => ⟨rfl, hb⟩⟩) hst (fun _ h => h) (h (inv.set hr' (of_decide_eq_true hin)))
theorem wpH_new {S : World → Prop} {n : Nat} (k : Nat) {o : Oper} {fuel : Nat} {listed : Array Bool} {a : Act} (hst : Stable S) (ho : ops.toList[k]? = some o)
    (h : ∀ w, S w → ∀ K : Act → World → Prop, Kept (∀ (T : World → Prop) a' w', Stable T → Below w.heap.size w w' → T w' → (Stable (fun w => S w ∧ T w) → wpH P md ops Q n fuel (fun w => S w ∧ T w) (listed.setIfInBounds k true) a') → K a' w') →
      if Region.wanted o (yielded ops a.tmps) = true then Oper.wp P o a w K Q else K (a.put o.dst undef) w)
    (hr : Region.ready md ops listed = [k] := by kernel_rfl) (hin : decide (k < n) = true := by rfl) : wpH P md ops Q n (fuel + 1) S listed a := fun inv => by
  refine ⟨fun h0 => (by rw [hr] at h0; cases h0), fun i hi => ?_⟩
  have hk : k ∈ Region.ready md ops listed := by rw [hr]; exact List.mem_singleton.2 rfl
  rw [hr] at hi
  obtain rfl : i = k := by simpa using hi
  refine ⟨of_decide_eq_true hin, fun w hS => ?_⟩
  exact wpOp_step (by rw [← ho, Array.getElem?_toList]) fun K' hK => h w hS K' fun T a' w' hT hb ht hn =>
    have hs : Stable fun w => S w ∧ T w := fun w w' ⟨a, b⟩ hb => ⟨hst w w' a hb, hT w w' b hb⟩
    hK a' w' ⟨_, _, fun _ h => h.1, hs, fun _ h => h, ⟨hst _ _ hS hb, ht⟩, hn hs (inv.set hk (of_decide_eq_true hin))⟩
theorem wpH_done {S : World → Prop} {n : Nat} {listed : Array Bool} {a : Act} (h : ∀ w, S w → wpList P ops Q (ops.toList.drop n) a w) (hr : Region.seqB md ops (ops.size - n) n listed = true := by kernel_rfl) : wpH P md ops Q n 0 S listed a := fun _ => ⟨hr, h⟩
theorem wp_region_h {id : Nat} {a : Act} {w : World} (S : World → Prop) (n : Nat) (hst : Stable S) (hS : S w.drew) (hR : TailOk .any ops n)
    (h : wpH P .any ops Q n n S (Array.replicate ops.size false) a) (hm : P.follows .mixedOrders = true := by kernel_rfl) : (Code.region id ops true).wp P Q a w := by
  have hn : n ≤ ops.size := Nat.le_of_lt hR.lt
  have inv0 : HeadInv .any ops n (Array.replicate ops.size false) :=
    ⟨by simp, fun j oj _ hl => (by rw [getD_replicate_false] at hl; cases hl), fun t _ ht => getD_in (by simpa using ht) (getD_replicate_false _ _)⟩
  have := wpAny_of_t hn n S S _ a _ hS (h inv0)
  rw [show n + (ops.size - n) = ops.size by omega] at this
  exact wp_region_any hm this
end
section
variable {P : Program} {ops : Array Oper} {Q : Exit → Act → World → Prop} {a : Act} {w : World} {rest : List Oper} {dst : Option Tmp} {ty tt : TypeId} {x y : Operand} {pos : String} {after : Array Edge}
theorem go_mem {o : Oper} {cs : Array Value} (V : Nat → Value) (hg : o.guard = none) (hrun : (execOp a.eval o).run P w = .ok (.value (V w.heap.size)) (w.alloc (.cells cs ty)))
    (h : ∀ (g : Nat) (w' : World), Hid (w.heap.size = g) → w.heap.size ≤ g → Below w.heap.size w w' → Blk w' g ty cs → wpList P ops Q rest (a.put o.dst (V g)) w') : wpList P ops Q (o :: rest) a w := by
  refine wpList_plain hg fun K hK => ?_
  have := h w.heap.size _ (Lib.hid rfl) (Nat.le_refl _) ((Below.refl _ _).alloc (Nat.le_refl _) (.cells cs ty)) (Blk.new w ty cs)
  unfold Oper.wp
  rw [hrun]
  exact hK _ _ this
end
theorem calm_load {P : Program} {o : Oper} {a : Act} {w : World} {K : Value → World → Prop} {ty : TypeId} {x : Operand} {ad : Addr} {v : Value} (ho : o.op = .load ty x) (hx : a.eval x = .pointer (some ad)) (hl : (loadVar ty ad).run P w = .ok v w) (h : K v w) : calm P o a w K := by
  unfold calm execOp
  simp only [ho, hx, Instr.loadAt, Instr.sureAddr, Sem.run_bind, Sem.run_pure, Result.andThen_ok, hl]
  exact h
theorem load_part {P : Program} {w : World} {g : Nat} {t ty : TypeId} {cs : Array Value} {d : TypeDesc} (hG : Blk w g t cs) (o : Nat) (vs : List Value) (hvs : (cs.toList.drop o).take vs.length = vs)
    (hu : P.underlying ty = some d) (hd : d.isRow = true) (hi : (P.info? ty).map (·.size) = some vs.length) : (loadVar ty ⟨g, o, none⟩).run P w = .ok (.agg vs.toArray) w :=
  run_loadVar_mid w g o ty vs d (blk_range hG o vs hvs) hu hd hi
theorem wpList_ldg {P : Program} {ops : Array Oper} {rest : List Oper} {dst : Option Tmp} {ty tt : TypeId} {x : Operand} {pos : String} {after : Array Edge} {gd : Nat × Bool} {a : Act} {w : World} {Q : Exit → Act → World → Prop}
    {g : Nat} {t : TypeId} {cs : Array Value} {d : TypeDesc} (o : Nat) (vs : List Value) (hG : Blk w g t cs) (hx : a.eval x = .pointer (some ⟨g, o, none⟩)) (hvs : (cs.toList.drop o).take vs.length = vs)
    (hu : P.underlying ty = some d) (hd : d.isRow = true) (hi : (P.info? ty).map (·.size) = some vs.length) (hw : Region.wanted { dst := dst, op := .load ty x, type := tt, pos := pos, after := after, guard := some gd } (yielded ops a.tmps) = true)
    (h : wpList P ops Q rest (a.put dst (.agg vs.toArray)) w) : wpList P ops Q ({ dst := dst, op := .load ty x, type := tt, pos := pos, after := after, guard := some gd } :: rest) a w :=
  wpList_step fun K hK => by
    rw [if_pos hw]
    exact calm_wp (calm_load rfl hx (load_part hG o vs hvs hu hd hi) (hK _ _ h))
theorem range_part {w : World} {b o : Nat} {cs : List Value} (h : w.rangeAt b o cs) (f : Nat) (vs : List Value) (hv : (cs.drop f).take vs.length = vs) : w.rangeAt b (o + f) vs := fun j v hj => by
  rw [Nat.add_assoc]
  refine h (f + j) v ?_
  rw [← hv, List.getElem?_take] at hj
  split at hj
  · rw [List.getElem?_drop] at hj
    exact hj
  · cases hj
theorem wpList_ldr {P : Program} {ops : Array Oper} {rest : List Oper} {dst : Option Tmp} {ty tt : TypeId} {x : Operand} {pos : String} {after : Array Edge} {a : Act} {w : World} {Q : Exit → Act → World → Prop}
    {g o : Nat} {d : TypeDesc} (vs : List Value) (hc : w.rangeAt g o vs) (hx : a.eval x = .pointer (some ⟨g, o, none⟩)) (hu : P.underlying ty = some d) (hd : d.isRow = true) (hi : (P.info? ty).map (·.size) = some vs.length)
    (h : wpList P ops Q rest (a.put dst (.agg vs.toArray)) w) : wpList P ops Q ({ dst := dst, op := .load ty x, type := tt, pos := pos, after := after, guard := none } :: rest) a w :=
  wpList_load_mid rfl ty x rfl g o hx vs d hc hu hd hi h
def Rg (b o : Nat) (cs : List Value) (w : World) : Prop := b < w.heap.size ∧ w.rangeAt b o cs
theorem Rg.to {b o : Nat} {cs : List Value} {w w' : World} (h : Rg b o cs w) (hb : Below w.heap.size w w') : Rg b o cs w' :=
  ⟨Nat.lt_of_lt_of_le h.1 hb.size, fun j v hj => (hb.cell (p := ⟨b, o + j, none⟩) h.1).trans (h.2 j v hj)⟩
theorem stable_rg (b o : Nat) (cs : List Value) : Stable (Rg b o cs) := fun w w' h hb => h.to hb
theorem Rg.upd {b o g : Nat} {cs : List Value} {w w' : World} (h : Rg b o cs w) (hU : Upd g w w') (hne : b ≠ g) : Rg b o cs w' :=
  ⟨by rw [hU.size]; exact h.1, fun j v hj => (World.cell?_of_block (hU.block b hne)).trans (h.2 j v hj)⟩
theorem results_ctt {P : Program} {fn : Func} {s u u2 : Tmp} {t : TypeId} {tmps : Array Value} {ad : Addr} {v : Value} {w : World} (h : fn.results = #[.cell s t, .tmp u, .tmp u2]) (hs : tmps.getD s undef = .pointer (some ad)) (hl : (loadVar t ad).run P w = .ok v w) :
    (results fn tmps).run P w = .ok (.tuple #[v, tmps.getD u undef, tmps.getD u2 undef]) w := by
  have hs' : tmps[s]?.getD undef = .pointer (some ad) := by simpa using hs
  simp [results, h, hs', hl, asAddr]
end Go.Proofs.YtihmbcnccdiecaaDoor
namespace Go.Proofs.YtihmbcnccdiecaaDoor
set_option maxRecDepth 100000
open Go.RowKit
set_option linter.unusedVariables false
theorem bnt {e : Bool} (h : e = false) : ¬ e = true := by rw [h]; decide
theorem bnf {e : Bool} (h : e = true) : ¬ e = false := by rw [h]; decide
theorem fT {a b : Int} (h : a = b) : (a == b) = true ∧ (a != b) = false ∧ Hid (a = b) := ⟨by simpa using h, by simpa using h, h⟩
theorem fF {a b : Int} (h : ¬ a = b) : (a == b) = false ∧ (a != b) = true ∧ Hid (¬ a = b) := ⟨by simpa using h, by simpa using h, h⟩
theorem gT {x y : BitVec 64} (h : x = y) : (W64 x == W64 y) = true ∧ (W64 x != W64 y) = false ∧ Hid (x = y) := ⟨by rw [W64_beq]; simpa using h, by rw [W64_bne]; simpa using h, h⟩
theorem gF {x y : BitVec 64} (h : ¬ x = y) : (W64 x == W64 y) = false ∧ (W64 x != W64 y) = true ∧ Hid (¬ x = y) := ⟨by rw [W64_beq]; simpa using h, by rw [W64_bne]; simpa using h, h⟩
theorem lT {a b : Int} (h : a < b) : a < b ∧ decide (a < b) = true ∧ decide (b ≤ a) = false ∧ Hid (a < b) := ⟨h, decide_eq_true h, decide_eq_false (Int.not_le.2 h), h⟩
theorem lF {a b : Int} (h : ¬ a < b) : b ≤ a ∧ decide (a < b) = false ∧ decide (b ≤ a) = true ∧ Hid (¬ a < b) := ⟨Int.not_lt.1 h, decide_eq_false h, decide_eq_true (Int.not_lt.1 h), h⟩
theorem nrm : (∀ (t : Array Value) (r : List Deferred) (d : Tmp) (v : Value), Act.put ⟨t, r⟩ (some d) v = ⟨t.setIfInBounds d v, r⟩) ∧ (∀ (a : Act) (v : Value), Act.put a none v = a) ∧
    (∀ (l : List Value) (i : Nat) (v : Value), l.toArray.setIfInBounds i v = (l.set i v).toArray) ∧ (∀ (x v : Value) (l : List Value), (x :: l).set 0 v = v :: l) ∧ (∀ (x v : Value) (l : List Value) (i : Nat), (x :: l).set (i + 1) v = x :: l.set i v) :=
  ⟨fun _ _ _ _ => rfl, fun _ _ => rfl, fun l i v => by simp, fun _ _ _ => rfl, fun _ _ _ _ => rfl⟩
def isStop (k : Nat) (o : Oper) : Bool := match o.op, o.guard with
  | .store .., none => true
  | .box .., none => true
  | .alloc .., none => true
  | .buildSlice .., none => true
  | .makeMap _ none, none => k == 1
  | .insert .., none => k == 1
  | .lookup _ _ _ true, none => k == 1
  | .call c, none => match c.callee with
    | .builtin .append => k == 2
    | _ => false
  | .build .., none => k == 3
  | .slice _ _ (some _) none none, none => k == 4
  | _, _ => false
section
variable {P : Program} {ops : Array Oper} {Q : Exit → Act → World → Prop} {md : Region.Mode} {S0 : World → Prop}
theorem so {a : Act} {w : World} {o : Oper} {rest : List Oper} (h : Kept (wpList P ops Q (o :: rest) a w)) (hs : isStop 0 o = true := by with_unfolding_all rfl) : wpList P ops Q (o :: rest) a w := h
theorem sm {a : Act} {w : World} {o : Oper} {rest : List Oper} (h : Kept (wpList P ops Q (o :: rest) a w)) (hs : isStop 1 o = true := by with_unfolding_all rfl) : wpList P ops Q (o :: rest) a w := h
theorem sa {a : Act} {w : World} {o : Oper} {rest : List Oper} (h : Kept (wpList P ops Q (o :: rest) a w)) (hs : isStop 2 o = true := by with_unfolding_all rfl) : wpList P ops Q (o :: rest) a w := h
theorem sb {a : Act} {w : World} {o : Oper} {rest : List Oper} (h : Kept (wpList P ops Q (o :: rest) a w)) (hs : isStop 3 o = true := by with_unfolding_all rfl) : wpList P ops Q (o :: rest) a w := h
theorem sc {a : Act} {w : World} {o : Oper} {rest : List Oper} (h : Kept (wpList P ops Q (o :: rest) a w)) (hs : isStop 4 o = true := by with_unfolding_all rfl) : wpList P ops Q (o :: rest) a w := h
theorem sv {rest : List Oper} {dst : Option Tmp} {ty tt : TypeId} {x y : Operand} {pos : String} {after : Array Edge} {a : Act} {w : World} {g : Nat} {t : TypeId} {cs : Array Value} (vs : Array Value) (hG : Blk w g t cs)
    (h : ∀ w', Blk w' g t vs → Upd g w w' → wpList P ops Q rest (a.put dst undef) w') (hx : a.eval x = .pointer (some ⟨g, 0, none⟩) := by rfl) (hy : a.eval y = .agg vs := by rfl)
    (hi : (P.info? ty).map (·.size) = some vs.size := by kernel_rfl) (h1 : vs.toList.all (·.oneCell') = true := by rfl) (hn : 0 + vs.size ≤ cs.size := by exact of_decide_eq_true rfl) (he : putAt cs 0 vs.toList = vs := by kernel_rfl) : wpList P ops Q ({ dst := dst, op := .store ty x y, type := tt, pos := pos, after := after, guard := none } :: rest) a w :=
  wpList_st 0 vs vs hG hx hy hi h1 hn he h
theorem sw {rest : List Oper} {dst : Option Tmp} {ty tt : TypeId} {x y : Operand} {pos : String} {after : Array Edge} {a : Act} {w : World} {g : Nat} {t : TypeId} {cs : Array Value} (o : Nat) (vs cs' : Array Value) (hG : Blk w g t cs)
    (h : ∀ w', Blk w' g t cs' → Upd g w w' → wpList P ops Q rest (a.put dst undef) w') (hx : a.eval x = .pointer (some ⟨g, o, none⟩) := by rfl) (hy : a.eval y = .agg vs := by rfl)
    (hi : (P.info? ty).map (·.size) = some vs.size := by kernel_rfl) (h1 : vs.toList.all (·.oneCell') = true := by rfl) (hn : o + vs.size ≤ cs.size := by exact of_decide_eq_true rfl) (he : putAt cs o vs.toList = cs' := by kernel_rfl) : wpList P ops Q ({ dst := dst, op := .store ty x y, type := tt, pos := pos, after := after, guard := none } :: rest) a w :=
  wpList_st o vs cs' hG hx hy hi h1 hn he h
theorem sx {rest : List Oper} {dst : Option Tmp} {ty tt : TypeId} {x y : Operand} {pos : String} {after : Array Edge} {a : Act} {w : World} {g : Nat} {t : TypeId} {cs : Array Value} (o : Nat) (v : Value) (cs' : Array Value) (hG : Blk w g t cs)
    (h : ∀ w', Blk w' g t cs' → Upd g w w' → wpList P ops Q rest (a.put dst undef) w') (hx : a.eval x = .pointer (some ⟨g, o, none⟩) := by rfl) (hy : a.eval y = v := by rfl)
    (hc : v.cells = #[v] := by rfl) (hi : (P.info? ty).map (·.size) = some 1 := by kernel_rfl) (h1 : v.oneCell' = true := by rfl) (hn : o < cs.size := by exact of_decide_eq_true rfl) (he : cs.setIfInBounds o v = cs' := by kernel_rfl) : wpList P ops Q ({ dst := dst, op := .store ty x y, type := tt, pos := pos, after := after, guard := none } :: rest) a w :=
  wpList_st1 o v cs' hG hx hy hc hi h1 hn he h
theorem ld {rest : List Oper} {dst : Option Tmp} {ty tt : TypeId} {x : Operand} {pos : String} {after : Array Edge} {a : Act} {w : World} {g : Nat} {t : TypeId} {cs : Array Value} {d : TypeDesc} (o : Nat) (vs : List Value) (hG : Blk w g t cs)
    (hu : P.underlying ty = some d) (h : wpList P ops Q rest (a.put dst (.agg vs.toArray)) w) (hx : a.eval x = .pointer (some ⟨g, o, none⟩) := by with_unfolding_all rfl) (hvs : (cs.toList.drop o).take vs.length = vs := by with_unfolding_all rfl)
    (hd : d.isRow = true := by with_unfolding_all rfl) (hi : (P.info? ty).map (·.size) = some vs.length := by kernel_rfl) : wpList P ops Q ({ dst := dst, op := .load ty x, type := tt, pos := pos, after := after, guard := none } :: rest) a w :=
  wpList_ld o vs hG hx hvs hu hd hi h
theorem wpU_l {S : World → Prop} (i o : Nat) (vs : List Value) {g : Nat} {t ty tt : TypeId} {cs : Array Value} {d : TypeDesc} {dst : Option Tmp} {x : Operand} {pos : String} {after : Array Edge} {gd : Option (Nat × Bool)} {fuel : Nat} {listed : Array Bool} {a a' : Act} (hG : ∀ W, S0 W → Blk W g t cs) (hu : P.underlying ty = some d) (hst : Stable S)
    (h : wpU P md ops Q fuel S0 S (listed.setIfInBounds i true) a')
    (hi : ops.toList[i]? = some { dst := dst, op := .load ty x, type := tt, pos := pos, after := after, guard := gd } := by rfl)
    (h0 : ∀ w, S w → S0 w := by first | exact fun _ h => h | exact fun _ h => h.1 | exact fun _ h => h.1.1 | exact fun _ h => h.1.1.1 | exact fun _ h => h.1.1.1.1)
    (hx : a.eval x = .pointer (some ⟨g, o, none⟩) := by rfl) (hvs : (cs.toList.drop o).take vs.length = vs := by rfl) (hd : d.isRow = true := by rfl) (hz : (P.info? ty).map (·.size) = some vs.length := by kernel_rfl)
    (ha : a.put dst (.agg vs.toArray) = a' := by ((try simp only [nrm]); exact rfl))
    (hs : Region.noSelect ops = true := by kernel_rfl) (hf : Region.free md ops listed i = true := by kernel_rfl) (hr : (Region.ready md ops listed).contains i = true := by kernel_rfl)
    (hQ : ∀ c a w, Q (.panic c) (a.put dst (.agg vs.toArray)) w → Q (.panic c) a w := by exact fun _ _ _ h => h) (hw : Region.wanted { dst := dst, op := .load ty x, type := tt, pos := pos, after := after, guard := gd } (yielded ops a.tmps) = true := by rfl) : wpU P md ops Q (fuel + 1) S0 S listed a :=
  wpU_take (v := .agg vs.toArray) i hst h0 hi (fun W hS K hK => calm_load rfl hx (load_part (hG W hS) o vs hvs hu hd hz) (hK.out _ (Below.refl _ _))) (by rw [ha]; exact h) hs hf hr hQ hw
theorem Blk.c {w : World} {g : Nat} {t : TypeId} {cs : Array Value} (h : Blk w g t cs) (j : Nat) (v : Value) (he : cs[j]? = some v := by rfl) : w.cell? ⟨g, j, none⟩ = some v := (h.cell j).trans he
theorem wpU_p {S : World → Prop} (i : Nat) {oi : Oper} {v : Value} {fuel : Nat} {listed : Array Bool} {a a' : Act} (hst : Stable S)
    (h : wpU P md ops Q fuel S0 S (listed.setIfInBounds i true) a')
    (hi : ops.toList[i]? = some oi := by rfl)
    (h0 : ∀ w, S w → S0 w := by first | exact fun _ h => h | exact fun _ h => h.1 | exact fun _ h => h.1.1 | exact fun _ h => h.1.1.1 | exact fun _ h => h.1.1.1.1)
    (hy : ∀ w, S0 w → ∀ K : Value → World → Prop, Kept (∀ w', Below w.heap.size w w' → K v w') → calm P oi a w K := by (intro W hS K hK; clear hS; go_simp; exact hK.out _ (Below.refl _ _)))
    (ha : a.put oi.dst v = a' := by ((try simp only [nrm]); exact rfl))
    (hs : Region.noSelect ops = true := by kernel_rfl) (hf : Region.free md ops listed i = true := by kernel_rfl) (hr : (Region.ready md ops listed).contains i = true := by kernel_rfl)
    (hQ : ∀ c a w, Q (.panic c) (a.put oi.dst v) w → Q (.panic c) a w := by exact fun _ _ _ h => h) (hw : Region.wanted oi (yielded ops a.tmps) = true := by rfl) : wpU P md ops Q (fuel + 1) S0 S listed a :=
  wpU_take (v := v) i hst h0 hi hy (by rw [ha]; exact h) hs hf hr hQ hw
theorem wpH_p {S : World → Prop} {n : Nat} (i : Nat) {oi : Oper} {v : Value} {fuel : Nat} {listed : Array Bool} {a a' : Act} (hR : TailOk md ops n) (hst : Stable S)
    (h : wpH P md ops Q n fuel S (listed.setIfInBounds i true) a')
    (hi : ops.toList[i]? = some oi := by rfl)
    (hy : ∀ w, S w → ∀ K : Value → World → Prop, Kept (∀ w', Below w.heap.size w w' → K v w') → calm P oi a w K := by (intro W hS K hK; clear hS; go_simp; exact hK.out _ (Below.refl _ _)))
    (ha : a.put oi.dst v = a' := by ((try simp only [nrm]); exact rfl))
    (hf : Region.free md ops listed i = true := by kernel_rfl) (hr : (Region.ready md ops listed).contains i = true := by kernel_rfl) (hin : decide (i < n) = true := by rfl)
    (hQ : ∀ c a w, Q (.panic c) (a.put oi.dst v) w → Q (.panic c) a w := by exact fun _ _ _ h => h) (hw : Region.wanted oi (yielded ops a.tmps) = true := by rfl) : wpH P md ops Q n (fuel + 1) S listed a :=
  wpH_take (v := v) i hR hst hi hy (by rw [ha]; exact h) hf hr hin hQ hw
theorem wpU_c {S : World → Prop} (i : Nat) (v : Value) {oi : Oper} {fuel : Nat} {listed : Array Bool} {a a' : Act} {ad : Addr} (hst : Stable S) (hc : ∀ W, S0 W → W.cell? ad = some v)
    (h : wpU P md ops Q fuel S0 S (listed.setIfInBounds i true) a')
    (hi : ops.toList[i]? = some oi := by rfl)
    (h0 : ∀ w, S w → S0 w := by first | exact fun _ h => h | exact fun _ h => h.1 | exact fun _ h => h.1.1 | exact fun _ h => h.1.1.1 | exact fun _ h => h.1.1.1.1)
    (hy : ∀ w, S0 w → w.cell? ad = some v → ∀ K : Value → World → Prop, Kept (∀ w', Below w.heap.size w w' → K v w') → calm P oi a w K := by (intro W hS ld K hK; clear hS; go_simp; exact hK.out _ (Below.refl _ _)))
    (ha : a.put oi.dst v = a' := by ((try simp only [nrm]); exact rfl))
    (hs : Region.noSelect ops = true := by kernel_rfl) (hf : Region.free md ops listed i = true := by kernel_rfl) (hr : (Region.ready md ops listed).contains i = true := by kernel_rfl)
    (hQ : ∀ c a w, Q (.panic c) (a.put oi.dst v) w → Q (.panic c) a w := by exact fun _ _ _ h => h) (hw : Region.wanted oi (yielded ops a.tmps) = true := by rfl) : wpU P md ops Q (fuel + 1) S0 S listed a :=
  wpU_take (v := v) i hst h0 hi (fun w hS K hK => hy w hS (hc w hS) K hK) (by rw [ha]; exact h) hs hf hr hQ hw
theorem wpU_s {S : World → Prop} (i : Nat) {oi : Oper} {fuel : Nat} {listed : Array Bool} {a a' : Act} (hst : Stable S)
    (h : wpU P md ops Q fuel S0 S (listed.setIfInBounds i true) a')
    (hi : ops.toList[i]? = some oi := by rfl)
    (h0 : ∀ w, S w → S0 w := by first | exact fun _ h => h | exact fun _ h => h.1 | exact fun _ h => h.1.1 | exact fun _ h => h.1.1.1 | exact fun _ h => h.1.1.1.1)
    (ha : a.put oi.dst undef = a' := by ((try simp only [nrm]); exact rfl))
    (hs : Region.noSelect ops = true := by kernel_rfl) (hf : Region.free md ops listed i = true := by kernel_rfl) (hr : (Region.ready md ops listed).contains i = true := by kernel_rfl)
    (hQ : ∀ c a w, Q (.panic c) (a.put oi.dst undef) w → Q (.panic c) a w := by exact fun _ _ _ h => h) (hw : Region.wanted oi (yielded ops a.tmps) = false := by rfl) : wpU P md ops Q (fuel + 1) S0 S listed a :=
  wpU_skip i hst h0 hi (by rw [ha]; exact h) hs hf hr hQ hw
end
end Go.Proofs.YtihmbcnccdiecaaDoor
namespace Go.Proofs.YtihmbcnccdiecaaDoor
open Go.ChangeShapes Go.WideShapes Go.ChangeAt Go.RowKit Go.Shelf
set_option linter.unusedVariables false
attribute [local go_sem] Oper.semAt_some
theorem info_field : (Tryd.prog.info? 152).map (fun i => (i.zero, i.size, i.bytes)) = some (some (.agg #[.int .i64 0, .int .u64 0]), 2, 16) := by kernel_rfl
def flds8 (xs : List (BitVec 64)) : List Fld := xs.map fun x => (8, x)
theorem putB_flds8 (xs : List (BitVec 64)) : putB (flds8 xs) = nums8 xs := by unfold putB flds8 nums8; rw [List.flatMap_map]
theorem flds8_take (xs : List (BitVec 64)) (k : Nat) (h : k < xs.length) : flds8 (xs.take (k + 1)) = flds8 (xs.take k) ++ [(8, xs[k])] := by
  rw [List.take_succ_eq_append_getElem h]; unfold flds8; rw [List.map_append]; rfl
theorem mac_bytes (A : Option Addr) (c : Nat) (xs : List (BitVec 64)) (w : World) (hr : RdU w A xs) (hl : xs.length ≤ 65536) :
  Calls Tryd.prog 91 #[.slice A xs.length c] w (RetB w (nums8 xs)) := by
 obtain ⟨i0, hi0, hz0, hz1, hz2⟩ := info_parts info_field
 go_enter Tryd.func91, Tryd.ntmps91
 go_wp2
 go_loopw [3, 10] (fun v i wr => ∃ (k : Nat) (A' : Option Addr) (c' : Nat), k ≤ xs.length ∧ i = .int .i64 k ∧ v = .slice A' k c' ∧ wr.ownsRow w.heap.size 152 2 (.slice A' k c') k (fcells (flds8 (xs.take k))) ∧ Below w.heap.size w wr)
  (fun _ i _ => xs.length - (intOf i).toNat)
 case atStart => exact ⟨0, none, 0, by omega, rfl, rfl, ⟨by simp [fcells, flds8], .inl ⟨rfl, rfl⟩⟩, Below.refl _ _⟩
 case round =>
  obtain ⟨k, A', c', hk, rfl, rfl, hown, hb⟩ := hrel
  by_cases hlt : k < xs.length
  ·
   obtain ⟨ad, rfl, hlt2, hcell⟩ := RdU.at_ (hr.to hb) k hlt
   have hns := Lib.hid (flds8_take xs k hlt)
   generalize xs[k] = x at *
   go_wp2_with (at_builtin; refine wpList_append_rd _ rfl _ _ 150 rfl w.heap.size 152 i0 _ 2 16 Tryd.underlying150 hi0 hz0 hz1 hz2 rfl (by omega) _ _ _ rfl (hown.alloc _) (some ⟨wr.heap.size, 0, none⟩) 1 1 [.int .i64 8, .int .u64 (W64 x)] rfl (Rd.new _ _ _) rfl (fcells_one [(8, x)]) (by simp only [maxLen]; omega) (by omega) (by have := hb.size; simp; omega) ?_; intro A3 c3 w3 hown3 hb3 hg3)
   go_roundw
   case rel => exact ⟨k + 1, A3, c3, by omega, by go_num, rfl, by rw [hns.out, fcells_snoc]; exact hown3, (hb.alloc hb.size _).trans hb3⟩
   case measure => simp [intOf]; omega
  obtain rfl : k = xs.length := by omega
  rw [List.take_length] at hown
  have hlf : (flds8 xs).length = xs.length := by simp [flds8]
  have hc := octets_Put A' c' (flds8 xs) wr (Rd.of_own hown) (fun f hf => by
   obtain ⟨x, _, rfl⟩ := List.mem_map.1 hf
   exact ⟨by show 1 ≤ 8; omega, Nat.le_refl _, fun h => absurd h (by show ¬ 8 < 8; omega)⟩) (by omega)
  rw [hlf] at hc
  have HC := Lib.hid hc
  clear hc hlf
  go_wp2_with fail
  refine HC.out.mono ?_
  rw [putB_flds8]
  rintro e w2 ⟨A2, c2, rfl, hown2, hb2⟩
  go_wp2
  go_ret
  exact ⟨A2, c2, rfl, own_mono hown2 hb.size, hb.trans (hb2.mono hb.size)⟩
theorem cell_new_l (w : World) (v : Value) (t : TypeId) : (w.alloc (.cells #[v] t)).cell? ⟨w.heap.size, 0, none⟩ = some v ∧ (w.alloc (.cells #[v] t)).frozen? ⟨w.heap.size, 0, none⟩ = false :=
  ⟨(Blk.new w t #[v]).cell 0, (Blk.new w t #[v]).free 0⟩
theorem cell_alloc_l {w : World} {a : Addr} {v : Value} (o : Obj) (h : w.cell? a = some v) : (w.alloc o).cell? a = some v :=
  (World.cell?_of_block (Below.heap_alloc w o a.block (World.block_lt_of_cell? w a h))).trans h
theorem frozen_alloc_l {w : World} {a : Addr} {v : Value} (o : Obj) (h : w.cell? a = some v) (hf : w.frozen? a = false) : (w.alloc o).frozen? a = false :=
  (World.frozen?_of_block (Below.heap_alloc w o a.block (World.block_lt_of_cell? w a h))).trans hf
def KeepG (n B : Nat) (W W' : World) : Prop := ∀ p : Addr, p.block < n ∨ p.block = B → W'.cell? p = W.cell? p
theorem KeepG.refl (n B : Nat) (W : World) : KeepG n B W W := fun _ _ => rfl
theorem KeepG.trans {n B : Nat} {a b c : World} (h : KeepG n B a b) (k : KeepG n B b c) : KeepG n B a c := fun p hp => (k p hp).trans (h p hp)
theorem mac_groups (A : Option Addr) (len c : Nat) (w : World) :
  Calls Tryd.prog 102 #[.slice A len c] w fun e w' => e = .returned (.func (.func 105) #[] #[.pointer (some ⟨w.heap.size, 0, none⟩)]) ∧ w' = w.alloc (.cells #[.slice A len c] 137) := by
 go_enter Tryd.func102, Tryd.ntmps102
 go_wp2
 go_ret
 exact ⟨rfl, rfl⟩
set_option maxRecDepth 100000 in
set_option maxHeartbeats 2000000 in
theorem groups1_in (n : Nat) (hn : 1 ≤ n) (l Bs n0 : Nat) (A : Option Addr) (c : Nat) (bs : List (BitVec 8)) (hlen : bs.length ≤ 1048576) (hcap : bs.length ≤ c) (J Jx : List (BitVec 64) → World → Prop)
    (hY : ∀ pre x W, J pre W → pre.length < nGroups bs.length → YieldAt Fence.wide (n - 1) Tryd.prog l #[.int .u64 (W64 x)] W fun e W' =>
      (e = .returned (.bool true) ∧ J (pre ++ [x]) W' ∧ KeepG n0 Bs W W') ∨ (e = .returned (.bool false) ∧ Jx (pre ++ [x]) W'))
    (W : World) (hBs : W.cell? ⟨Bs, 0, none⟩ = some (.slice A bs.length c)) (hr : ∀ (j : Nat) (u : Value), (bcells bs)[j]? = some u → ∃ ad, A = some ad ∧ ad.block < n0 ∧ ad.spot = none ∧ W.cell? ⟨ad.block, ad.off + j, none⟩ = some u) (h0 : J [] W) :
    CallsIn Fence.wide n Tryd.prog 105 #[.func (.yield l) #[] #[], .pointer (some ⟨Bs, 0, none⟩)] W fun e W' => (∃ v, e = .returned v) ∧
      ((∃ ys, ys = groupsTo bs (nGroups bs.length) ∧ J ys W') ∨ (∃ pre, (∃ k, k ≤ nGroups bs.length ∧ pre = groupsTo bs k) ∧ Jx pre W')) := by
  refine callsIn_of_wp Tryd.func105 rfl trivial ?_ rfl
  simp only [Tryd.ntmps105, List.size_toArray, List.length_cons, List.length_nil, Nat.reduceAdd, Nat.reduceSub, Array.replicate_succ, Array.replicate_zero, List.push_toArray, List.append_toArray, List.nil_append, List.cons_append]
  gi_wp2
  gi_loopw [3] (fun i wr => ∃ k : Nat, k ≤ nGroups bs.length ∧ i = .int .i64 (8 * k) ∧ J (groupsTo bs k) wr ∧ KeepG n0 Bs W wr)
    (fun i _ => bs.length + 8 - (intOf i).toNat)
  case atStart => exact ⟨0, Nat.zero_le _, rfl, h0, KeepG.refl _ _ _⟩
  case round =>
    obtain ⟨k, hk, rfl, hJs, hkp⟩ := hrel
    have hbx : wr.cell? ⟨Bs, 0, none⟩ = some (.slice A bs.length c) := (hkp ⟨Bs, 0, none⟩ (.inr rfl)).trans hBs
    by_cases hlt : 8 * k < bs.length
    · have hkn : k < nGroups bs.length := by unfold nGroups; omega
      have hq : (chunk bs k).length ≤ bs.length - 8 * k ∧ (chunk bs k).length ≤ 8 ∧ ((chunk bs k).length = 8 ∨ (chunk bs k).length = bs.length - 8 * k) := by rw [chunk_length]; omega
      obtain ⟨hq1, hq2, hq3⟩ := hq
      obtain ⟨m, hm, hm2⟩ : ∃ m : Nat, min (8 * (k : Int) + 8) (bs.length : Int) = (m : Int) ∧ m = 8 * k + (chunk bs k).length := ⟨8 * k + (chunk bs k).length, by rcases hq3 with h | h <;> omega, rfl⟩
      have hm3 : 8 * k ≤ m := by omega
      have hm4 : m ≤ bs.length := by omega
      clear hq3
      have h00 : 0 < bs.length := by omega
      obtain ⟨⟨b, off, sp⟩, rfl, hbn, hsp, _⟩ := hr 0 (.int .u8 (W8 bs[0])) (by simp [bcells, h00])
      dsimp only at hsp hbn
      subst hsp
      have hcc : ∀ j, (h : 8 * k + j < bs.length) → wr.cell? ⟨b, off + (8 * k + j), none⟩ = some (.int .u8 (W8 bs[8 * k + j])) := fun j h => by
        obtain ⟨ad, he, _, _, hc⟩ := hr (8 * k + j) (.int .u8 (W8 bs[8 * k + j])) (by simp [bcells, h])
        injection he with he
        subst he
        exact (hkp ⟨b, off + (8 * k + j), none⟩ (.inl hbn)).trans hc
      have HC := Lib.hid hcc
      have HM := Lib.hid hm2
      clear hcc hm2
      obtain ⟨wo, rfl⟩ : ∃ wo : World, wo = wr := ⟨_, rfl⟩
      obtain ⟨fn, tmps, assign, body, hy, hR⟩ := hY _ (groupAt bs k) wo hJs (by rw [groupsTo_length]; exact hkn)
      have HY := Lib.hid hy
      clear hy
      gi_wp2
      clear hm
      gi_loop [4, 22] (fun x i => ∃ j : Nat, j ≤ m - 8 * k ∧ i = .int .i64 j ∧ x = .int .u64 (W64 (partVal bs k j))) (fun _ i => m - 8 * k - (intOf i).toNat)
      case atStart => exact ⟨0, by omega, rfl, by rw [partVal_zero]; rfl⟩
      case round =>
        obtain ⟨j, hj, rfl, rfl⟩ := hrel
        by_cases hjl : j < m - 8 * k
        · have hj2 : 8 * k + j < bs.length := by omega
          have hcj := HC.out j hj2
          have hsj := Lib.hid (partVal_succ bs k j (by have := HM.out; omega) hj2)
          rw [← Nat.add_assoc] at hcj
          generalize bs[8 * k + j] = y at *
          have hj8 : j ≤ 8 := by have := HM.out; omega
          gi_wp2
          go_round
          case rel => exact ⟨j + 1, by omega, by go_num, by rw [hsj.out]⟩
          case measure => simp [intOf]; omega
        · obtain rfl : j = m - 8 * k := by omega
          have hpa := partVal_all bs k (m - 8 * k) (by have := HM.out; omega)
          rw [hpa]
          have hy := HY.out
          gi_wp2
          refine hR.mono ?_
          rintro e W3 (⟨rfl, hJ3, hk3⟩ | ⟨rfl, hJx3⟩)
          · gi_wp2
            go_roundw
            case rel => exact ⟨k + 1, by omega, by go_num, by rw [groupsTo_succ]; exact hJ3, hkp.trans hk3⟩
            case measure => simp [intOf]; omega
          · gi_wp2
            refine bodyPost_ret (results_none rfl _ _ _) rfl ?_
            exact ⟨⟨_, rfl⟩, .inr ⟨_, ⟨k + 1, by omega, (groupsTo_succ _ _).symm⟩, hJx3⟩⟩
    · have hkn : k = nGroups bs.length := by unfold nGroups at hk ⊢; omega
      subst hkn
      gi_wp2
      go_end0
      exact ⟨⟨_, rfl⟩, .inl ⟨_, rfl, hJs⟩⟩
theorem groups_stops (n : Nat) (hn : 1 ≤ n) (Bs n0 : Nat) (A : Option Addr) (c : Nat) (bs : List (BitVec 8)) (hlen : bs.length ≤ 1048576) (hcap : bs.length ≤ c) (w0 : World) (hBs : Bs < w0.heap.size) (hn0 : n0 ≤ w0.heap.size)
    (hc : w0.cell? ⟨Bs, 0, none⟩ = some (.slice A bs.length c)) (hr : ∀ (j : Nat) (u : Value), (bcells bs)[j]? = some u → ∃ ad, A = some ad ∧ ad.block < n0 ∧ ad.spot = none ∧ w0.cell? ⟨ad.block, ad.off + j, none⟩ = some u) :
    SeqStopsK Fence.wide n Tryd.prog 105 #[.pointer (some ⟨Bs, 0, none⟩)] (fun x : BitVec 64 => #[Value.int .u64 (W64 x)]) (KeepG n0 Bs) (fun ys => ys = groupsTo bs (nGroups bs.length)) (fun _ => True) (nGroups bs.length) w0 := fun l J Jx W hW _ _ hY h0 => by
  refine (groups1_in n hn l Bs n0 A c bs hlen hcap J Jx hY W ((hW.cell (p := ⟨Bs, 0, none⟩) hBs).trans hc) (fun j u hu => ?_) h0).mono ?_
  · obtain ⟨ad, he, hlt, hs, hcell⟩ := hr j u hu
    exact ⟨ad, he, hlt, hs, (hW.cell (p := ⟨ad.block, ad.off + j, none⟩) (Nat.lt_of_lt_of_le hlt hn0)).trans hcell⟩
  · rintro e W' ⟨he, ⟨ys, rfl, hj⟩ | ⟨pre, _, hj⟩⟩
    · exact ⟨he, .inl ⟨_, rfl, hj⟩⟩
    · exact ⟨he, .inr ⟨_, trivial, hj⟩⟩
theorem Rd.plain {w : World} {A : Option Addr} {xs : List Value} (h : Rd w A xs) : ∀ (j : Nat) (u : Value), xs[j]? = some u → ∃ ad, A = some ad ∧ ad.block < w.heap.size ∧ ad.spot = none ∧ w.cell? ⟨ad.block, ad.off + j, none⟩ = some u := fun j u hu => by
  obtain ⟨b, off, rfl, hlt, hc⟩ := h.open_ (by cases xs with | nil => simp at hu | cons x xs => simp)
  exact ⟨_, rfl, hlt, rfl, hc j u hu⟩
theorem keeps_below {W W' : World} (h : Below W.heap.size W W') : KeepsOthers W W' := by
  exact ⟨h.size, fun i o ho _ => (h.block i (Array.getElem?_eq_some_iff.1 ho).1).trans ho⟩
set_option maxRecDepth 100000 in
set_option maxHeartbeats 2000000 in
theorem mac_Tag (k : BitVec 64) (A : Option Addr) (c : Nat) (bs : List (BitVec 8)) (w : World) (hr : RdB w A bs) (hlen : bs.length ≤ 1048576) (hcap : bs.length ≤ c) :
    Calls Tryd.prog 89 #[.int .u64 (W64 k), .slice A bs.length c] w fun e w' => e = .returned (.int .u64 (W64 (tag k bs))) ∧ Below w.heap.size w w' := by
  refine (callsIn_wide (n := 3)).1 ?_
  refine callsIn_of_wp_marks Tryd.func89 rfl trivial ?_ rfl
  simp only [Tryd.ntmps89, List.size_toArray, List.length_cons, List.length_nil, Nat.reduceAdd, Nat.reduceSub, Array.replicate_succ, Array.replicate_zero, List.push_toArray, List.append_toArray, List.nil_append, List.cons_append]
  gi_wp2_with fail
  refine ⟨trivial, (callsIn_wide.2 (block_Mix _ _ _)).mono ?_⟩
  rintro e w1 ⟨rfl, hb1⟩
  gi_wp2_with fail
  refine ⟨trivial, (callsIn_wide.2 (mac_groups _ _ _ _)).mono ?_⟩
  rintro e w2 ⟨rfl, rfl⟩
  gi_wp2
  have hsz : w.heap.size + 1 ≤ w1.heap.size := by have := hb1.size; simp at this; omega
  have hw1 : Below w.heap.size w w1 := ((Below.refl _ w).alloc (Nat.le_refl _) _).trans (hb1.mono (by simp))
  have hk1 : w1.cell? ⟨w.heap.size, 0, none⟩ = some (.int .u64 (W64 k)) := (hb1.cell (p := ⟨w.heap.size, 0, none⟩) (by simp)).trans (cell_new_l w _ _).1
  obtain ⟨W1, hW1⟩ : ∃ W1, w1.alloc (Obj.cells #[Value.int IntKind.u64 (W64 (mix k (BitVec.ofNat 64 bs.length)))] 24) = W1 := ⟨_, rfl⟩
  have hx1 : W1.cell? ⟨w1.heap.size, 0, none⟩ = some (.int .u64 (W64 (mix k (BitVec.ofNat 64 bs.length)))) := by rw [← hW1]; exact (cell_new_l w1 _ _).1
  have hf1 : W1.frozen? ⟨w1.heap.size, 0, none⟩ = false := by rw [← hW1]; exact (cell_new_l w1 _ _).2
  have hs1 : W1.heap.size = w1.heap.size + 1 := by rw [← hW1]; simp
  have hk2 : W1.cell? ⟨w.heap.size, 0, none⟩ = some (.int .u64 (W64 k)) := by rw [← hW1]; exact cell_alloc_l _ hk1
  have hB1 : Below w.heap.size w W1 := by rw [← hW1]; exact hw1.alloc (by omega) _
  rw [hW1]
  have hb := cell_new_l W1 (.slice A bs.length c) 137
  rw [hs1] at hb
  have hB0 : Below w.heap.size w (W1.alloc (.cells #[.slice A bs.length c] 137)) := hB1.alloc (by omega) _
  refine wpIn_rangeFunc_ownF rfl (by omega) (gf := 105) (lb := #[.pointer (some ⟨w1.heap.size + 1, 0, none⟩)]) rfl trivial (enters_of Tryd.func105 (by kernel_rfl) rfl)
    (groups_stops 2 (by omega) (w1.heap.size + 1) w.heap.size A c bs hlen hcap _ (by simp; omega) (by simp; omega) hb.1 (fun j u hu => by
      obtain ⟨ad, he, hlt, hs, hc⟩ := hr.plain j u hu
      exact ⟨ad, he, hlt, hs, (hB0.cell (p := ⟨ad.block, ad.off + j, none⟩) hlt).trans hc⟩))
    (fun h1 h2 => h1.trans h2) (fun W l o o' hl ho hc _ p hp => World.cell?_of_block ((grownBy_putObj' W l o').block p.block (by
        have := (Array.getElem?_eq_some_iff.1 ho).1
        simp at hl
        rcases hp with hp | hp <;> omega) (by
        simp at hl
        intro e
        injection e with e
        rcases hp with hp | hp <;> omega))) (Below.refl _ _) (fun _ => rfl)
    (fun pre W => (W.cell? ⟨w.heap.size, 0, none⟩ = some (.int .u64 (W64 k)) ∧ W.cell? ⟨w1.heap.size, 0, none⟩ = some (.int .u64 (W64 (tagFold k (tagStart k bs.length) pre))) ∧ W.frozen? ⟨w1.heap.size, 0, none⟩ = false ∧ w1.heap.size + 2 ≤ W.heap.size) ∧ Below w.heap.size w W)
    (fun _ _ _ => False)
    (OwnFrom.and (Own.from (fun s A B row hs hg hr => ⟨cell_kept hs.1 hg hr, cell_kept hs.2.1 hg hr, (frozen_kept hs.2.1 hg hr).trans hs.2.2.1, Nat.le_trans hs.2.2.2 hg.size⟩) _) (ownFrom_below (Nat.le_refl _) (by simp; omega)))
    (fun _ _ _ _ _ hs _ _ => hs)
    ⟨⟨cell_alloc_l _ hk2, cell_alloc_l _ hx1, frozen_alloc_l _ hx1 hf1, by simp; omega⟩, hB0⟩
    (fun x => { tmps := #[.int .u64 (W64 k), .slice A bs.length c, .pointer (some ⟨w.heap.size, 0, none⟩), undef, .int .u64 0, .pointer (some ⟨w1.heap.size, 0, none⟩), .int .u64 (W64 x), .int .u64 (W64 k), .slice A bs.length c, .int .i64 bs.length, .int .u64 (W64 (BitVec.ofNat 64 bs.length)), .int .u64 (W64 (mix k (BitVec.ofNat 64 bs.length))), .slice A bs.length c, .func (.func 105) #[] #[.pointer (some ⟨w1.heap.size + 1, 0, none⟩)], .int .u64 (W64 x), undef, undef, undef, undef, undef, undef], defers := [] }) ?assign ?body ?done ?stop
  case assign =>
    intro l x W K hK
    gi_wp2
    exact hK
  case body =>
    rintro l pre x W ⟨⟨hc1, hc2, hc3, hc4⟩, hB⟩ _
    gi_wp2
    refine ⟨trivial, (CallsIn.inRound l (callsIn_wide.2 (block_Mix _ _ _))).mono ?_⟩
    rintro e w3 ⟨rfl, hb3⟩
    have hd1 := (hb3.cell (p := ⟨w.heap.size, 0, none⟩) (by show w.heap.size < _; omega)).trans hc1
    have hd2 := (hb3.cell (p := ⟨w1.heap.size, 0, none⟩) (by show w1.heap.size < _; omega)).trans hc2
    have hd3 := (hb3.frozen (p := ⟨w1.heap.size, 0, none⟩) (by show w1.heap.size < _; omega)).trans hc3
    have hT := Lib.hid (tagFold_snoc k (tagStart k bs.length) pre x)
    gi_wp2
    have hne : (⟨w1.heap.size, 0, none⟩ : Addr) ≠ ⟨w.heap.size, 0, none⟩ := by intro e; injection e; omega
    refine ⟨(keeps_below hb3).trans (KeepsOthers.setCell _ _ _), ?_, ⟨(World.cell?_setCell_other _ _ _ _ hne).trans hd1, ?_, ?_, ?_⟩, (hB.trans (hb3.mono hB.size)).setCell (p := ⟨w1.heap.size, 0, none⟩) (by show w.heap.size ≤ w1.heap.size; omega) _⟩
    · intro p hp
      have hpl : p.block < W.heap.size := by rcases hp with hp | hp <;> omega
      refine (World.cell?_setCell_other _ _ _ _ ?_).trans (hb3.cell hpl)
      rintro rfl
      dsimp only at hp
      omega
    · rw [hT.out]; exact World.cell?_setCell_same' _ _ _ (by rw [hd2]; rfl)
    · rw [World.frozen?_setCell]; exact hd3
    · have := hb3.size; simp; omega
  case done =>
    rintro D ys W hD rfl ⟨⟨hc1, hc2, hc3, hc4⟩, hB⟩ hK
    gi_wp2
    refine ⟨by simp, .inl ⟨_, _, rfl, run_takeDeferred hK, ?_⟩⟩
    exact ⟨_, results_tmp rfl _ _ _, rfl, hB.trans (belowK_b (w := w) (Nat.le_refl _) W D _ _ (by simp at hD; omega) hK rfl rfl)⟩
  case stop =>
    rintro D c pre W _ _ h _
    exact h.elim
end Go.Proofs.YtihmbcnccdiecaaDoor
namespace Go.Proofs.YtihmbcnccdiecaaDoor
set_option maxRecDepth 100000
open Go.ChangeShapes Go.WideShapes Go.ChangeAt Go.RowKit
set_option linter.unusedVariables false
def sbytes (s : ByteArray) : List (BitVec 8) := s.data.toList.map (·.toBitVec)
theorem sbytes_length (s : ByteArray) : (sbytes s).length = s.size := by
  unfold sbytes
  rw [List.length_map, Array.length_toList]
  rfl
theorem row_cell (s : ByteArray) (cap j : Nat) (h : j < (sbytes s).length) : (bytesRow s cap)[j]? = some (.int .u8 (W8 (sbytes s)[j])) := by
  have h' : j < s.data.size := by rw [sbytes_length] at h; exact h
  unfold bytesRow
  rw [Array.getElem?_append_left (by simpa using h')]
  have e : (s.data.map (fun b => Value.int .u8 b.toNat))[j]? = some (.int .u8 (s.data[j].toNat : Int)) := by rw [Array.getElem?_map, Array.getElem?_eq_getElem h']; rfl
  rw [e]
  simp [sbytes, W8]
theorem rd_row (s : ByteArray) (cap : Nat) (w : World) (fz : Nat × Nat) (t : TypeId) : RdB (w.alloc (.cells (bytesRow s cap) t fz)) (some ⟨w.heap.size, 0, none⟩) (sbytes s) := fun j u hu => by
  have hj : j < (sbytes s).length := by
    rcases Nat.lt_or_ge j (sbytes s).length with h | h
    · exact h
    · rw [List.getElem?_eq_none (by rw [bcells_length]; exact h)] at hu; cases hu
  refine ⟨_, rfl, by simp, ?_⟩
  have e : (⟨w.heap.size, 0, none⟩ : Addr).add j = ⟨w.heap.size, j, none⟩ := by unfold Addr.add; split <;> simp_all
  rw [e, cell_of_row _ w.heap.size j _ t fz (heap_alloc_new w _), row_cell s cap j hj, ← hu]
  simp [bcells, hj]
theorem join_row (w : World) (vs : Array Value) (t : TypeId) (ps : List Part) (n : Nat) (bs : List (BitVec 8)) (hv : vs.toList = pcells ps) (hn : ps.length = n) (hbs : ps.flatMap (·.2.2) = bs)
    (hp : ∀ p ∈ ps, RdB w p.1 p.2.2) (hlen : bs.length ≤ 1048576) (hl : n ≤ 1048576) :
    Calls Tryd.prog 90 #[.slice (some ⟨w.heap.size, 0, none⟩) n n] (w.alloc (.cells vs t)) (RetB w bs) := by
  subst hn
  subst hbs
  refine (octets_Join (some ⟨w.heap.size, 0, none⟩) ps.length ps (w.alloc (.cells vs t)) (by rw [← hv]; exact Rd.new w vs t) (fun p h => (hp p h).to ((Below.refl _ _).alloc (Nat.le_refl _) _)) hlen hl).mono ?_
  rintro e w' ⟨A, c, rfl, ho, hb⟩
  exact ⟨A, c, rfl, own_mono ho (by simp), ((Below.refl w.heap.size w).alloc (Nat.le_refl _) _).trans (hb.mono (by simp))⟩
theorem mac_Derive (k : BitVec 64) (s : ByteArray) (A : Option Addr) (c : Nat) (xs : List (BitVec 64)) (w : World) (hr : RdU w A xs) (hl : xs.length ≤ 1024) (hs : s.size ≤ 65536) :
  Calls Tryd.prog 62 #[.int .u64 (W64 k), .string s, .slice A xs.length c] w fun e w' => e = .returned (.int .u64 (W64 (derive k (sbytes s) xs))) ∧ Below w.heap.size w w' := by
 have hcv := run_bytes_of_string (P := Tryd.prog) w 9 137 5 s Tryd.underlying9 Tryd.underlying137 Tryd.underlying5
 have hge := grownCap_ge w s.size 0 5
 have hrow := rd_row s (grownCap w s.size 0 5) w.drew ((bytesRow s (grownCap w s.size 0 5)).size, (bytesRow s (grownCap w s.size 0 5)).size + 1) 5
 have hB1 : Below w.heap.size w (w.drew.alloc (.cells (bytesRow s (grownCap w s.size 0 5)) 5 ((bytesRow s (grownCap w s.size 0 5)).size, (bytesRow s (grownCap w s.size 0 5)).size + 1))) := ((Below.refl _ w).drew).alloc (Nat.le_refl _) _
 generalize w.drew.alloc (.cells (bytesRow s (grownCap w s.size 0 5)) 5 ((bytesRow s (grownCap w s.size 0 5)).size, (bytesRow s (grownCap w s.size 0 5)).size + 1)) = w1 at *
 generalize grownCap w s.size 0 5 = cp at *
 have hsl := sbytes_length s
 have hdv : derive k (sbytes s) xs = tag k (sbytes s ++ [0#8] ++ nums8 xs) := rfl
 rw [hdv]
 clear hdv
 have hlen : (sbytes s ++ [0#8] ++ nums8 xs).length ≤ 1048576 := by simp only [List.length_append, sbytes_length, nums8_length, List.length_cons, List.length_nil]; omega
 have hflat : ∀ a b : Option Addr × Nat, ∀ c : Option Addr × Nat, List.flatMap (fun p : Part => p.2.2) [(a.1, a.2, sbytes s), (b.1, b.2, [0#8]), (c.1, c.2, nums8 xs)] = sbytes s ++ [0#8] ++ nums8 xs := fun a b c => by simp
 generalize sbytes s ++ [0#8] ++ nums8 xs = L at *
 obtain ⟨tg, htg⟩ : ∃ tg, tag k L = tg := ⟨_, rfl⟩
 rw [htg]
 have HG := Lib.hid htg
 clear htg
 go_enter Tryd.func62, Tryd.ntmps62
 go_wp2_with fail
 refine (mac_bytes _ _ _ _ ((hr.to hB1).to ((Below.refl _ _).alloc (Nat.le_refl _) _)) (by omega)).mono ?_; rintro e w3 ⟨A3, c3, rfl, ho3, hb3⟩
 have hb13 : Below w1.heap.size w1 w3 := ((Below.refl _ _).alloc (Nat.le_refl _) _).trans (hb3.mono (by simp))
 have hb03 := hB1.trans (hb13.mono hB1.size)
 have hz : RdB w3 (some ⟨w1.heap.size, 0, none⟩) [0#8] := Rd.to (Rd.new w1 #[.int .u8 0] 5) hb3
 have HJ := fun t => Lib.hid (join_row w3 #[.slice (some ⟨w.heap.size, 0, none⟩) s.size cp, .slice (some ⟨w1.heap.size, 0, none⟩) 1 1, .slice A3 (nums8 xs).length c3] t [(some ⟨w.heap.size, 0, none⟩, cp, sbytes s), (some ⟨w1.heap.size, 0, none⟩, 1, [0#8]), (A3, c3, nums8 xs)] 3 L
  (by simp [pcells, hsl]) rfl (hflat (_, _) (_, _) (_, _)) (fun p hp => by
   simp only [List.mem_cons, List.not_mem_nil, or_false] at hp
   rcases hp with rfl | rfl | rfl
   · exact hrow.to hb13
   · exact hz
   · exact Rd.of_own ho3) hlen (by omega))
 go_wp2_with fail
 refine (HJ _).out.mono ?_; rintro e w4 ⟨A4, c4, rfl, ho4, hb4⟩
 have hb04 := hb03.trans (hb4.mono hb03.size)
 go_wp2_with fail
 have ht := mac_Tag k A4 c4 L w4 (Rd.of_own ho4) hlen (own_cap ho4).1
 rw [HG.out] at ht
 refine ht.mono ?_; rintro e w5 ⟨rfl, hb5⟩
 go_wp2
 go_ret
 exact ⟨rfl, hb04.trans (hb5.mono hb04.size)⟩
theorem RetPut.at_ {w : World} {bs : List (BitVec 8)} {e : Ending} {w' : World} {n : Nat} (h : RetPut w bs e w') (hn : bs.length = n) :
    ∃ (A : Option Addr) (c : Nat), e = .returned (.tuple #[.slice A n c, .int .i64 0]) ∧ w'.ownsRow w.heap.size 5 1 (.slice A n c) n (bcells bs) ∧ Below w.heap.size w w' := by
  subst hn
  exact h
end Go.Proofs.YtihmbcnccdiecaaDoor
namespace Go.Proofs.YtihmbcnccdiecaaDoor
set_option maxRecDepth 100000
open Go.ChangeShapes Go.WideShapes Go.ChangeAt Go.RowKit
set_option linter.unusedVariables false
structure OwnC (w : World) (base g n cap : Nat) (xs : List (BitVec 8)) : Prop where
  ge : base ≤ g
  lt : g < w.heap.size
  len : xs.length = n
  room : n ≤ cap
  max : cap ≤ maxLen
  cells : ∀ j, (h : j < xs.length) → w.cell? ⟨g, j, none⟩ = some (.int .u8 (W8 xs[j]))
  some_ : ∀ j, j < cap → (w.cell? ⟨g, j, none⟩).isSome = true
  free : ∀ j, j < cap → w.frozen? ⟨g, j, none⟩ = false
theorem add_zero_ (g j : Nat) : (⟨g, 0, none⟩ : Addr).add j = ⟨g, j, none⟩ := by unfold Addr.add; split <;> simp_all
section
variable {w w' : World} {base g n cap : Nat} {xs : List (BitVec 8)}
theorem OwnC.rd (h : OwnC w base g n cap xs) : RdB w (some ⟨g, 0, none⟩) xs := fun j u hu => by
  have hj : j < xs.length := by
    rcases Nat.lt_or_ge j xs.length with h | h
    · exact h
    · rw [List.getElem?_eq_none (by rw [bcells_length]; exact h)] at hu; cases hu
  refine ⟨_, rfl, h.lt, ?_⟩
  rw [add_zero_, h.cells j hj, ← hu]
  simp [bcells, hj]
theorem OwnC.to (h : OwnC w base g n cap xs) (hb : Below w.heap.size w w') : OwnC w' base g n cap xs :=
  ⟨h.ge, Nat.lt_of_lt_of_le h.lt hb.size, h.len, h.room, h.max, fun j hj => (hb.cell (p := ⟨g, j, none⟩) h.lt).trans (h.cells j hj),
    fun j hj => by rw [hb.cell (p := ⟨g, j, none⟩) h.lt]; exact h.some_ j hj, fun j hj => (hb.frozen (p := ⟨g, j, none⟩) h.lt).trans (h.free j hj)⟩
end
end Go.Proofs.YtihmbcnccdiecaaDoor
namespace Go.Proofs.YtihmbcnccdiecaaDoor
set_option maxRecDepth 100000
open Go.ChangeShapes Go.WideShapes Go.ChangeAt Go.RowKit
set_option linter.unusedVariables false
theorem own_nil (w : World) (base : Nat) (e : TypeId) (size : Nat) : w.ownsRow base e size (.slice none 0 0) 0 [] := ⟨by simp, .inl ⟨rfl, rfl⟩⟩
theorem own_row1 {w : World} {g base n : Nat} {t : TypeId} {cs : Array Value} (h : Blk w g t cs) (hb : base ≤ g) (hm : n ≤ maxLen) (size : Nat) (hc : cs.size = n * size) : w.ownsRow base t size (.slice (some ⟨g, 0, none⟩) n n) n cs.toList :=
  ⟨by rw [← hc, Array.length_toList], .inr ⟨g, n, _, rfl, hb, h, Nat.le_refl _, hm, hc, by rw [← hc, List.take_of_length_le (by simp)]⟩⟩
theorem wp_region_hh {P : Program} {ops : Array Oper} {Q : Exit → Act → World → Prop} {id : Nat} {a : Act} {w : World} (S : World → Prop) (n : Nat) (hst : Stable S) (hS : S w.drew) (hR : TailOk .any ops n)
    (h : TailOk .any ops n → wpH P .any ops Q n n S (Array.replicate ops.size false) a) (hm : P.follows .mixedOrders = true := by kernel_rfl) : (Code.region id ops true).wp P Q a w :=
  wp_region_h S n hst hS hR (h hR) hm
end Go.Proofs.YtihmbcnccdiecaaDoor
namespace Go.Proofs.YtihmbcnccdiecaaDoor
set_option maxRecDepth 100000
open Go.ChangeShapes Go.WideShapes Go.ChangeAt Go.RowKit
set_option linter.unusedVariables false
theorem RetO.at_ {w : World} {r : List (BitVec 8) × Int} {e : Ending} {w' : World} {n : Nat} {en : Int} {bs : List (BitVec 8)} (h : RetO w r e w') (hr : r = (bs, en)) (hn : bs.length = n) :
    ∃ (A : Option Addr) (c : Nat), e = .returned (.tuple #[.slice A n c, .int .i64 en]) ∧ RdB w' A bs ∧ n ≤ c ∧ Below w.heap.size w w' := by
  subst hr
  subst hn
  exact h
end Go.Proofs.YtihmbcnccdiecaaDoor
namespace Go.Proofs.YtihmbcnccdiecaaDoor
set_option maxRecDepth 100000
open Go.ChangeShapes Go.WideShapes Go.ChangeAt Go.RowKit
set_option linter.unusedVariables false
theorem OwnC.put {w : World} {base g n c : Nat} {xs : List (BitVec 8)} (h : OwnC w base g n c xs) (j : Nat) (hj : j < n) (x : BitVec 8) : OwnC (w.setCell ⟨g, j, none⟩ (.int .u8 (W8 x))) base g n c (xs.set j x) := by
  have hlen := h.len
  have hroom := h.room
  refine ⟨h.ge, by simpa using h.lt, by rw [List.length_set]; exact h.len, h.room, h.max, fun i hi => ?_, fun i hi => ?_, fun i hi => by rw [World.frozen?_setCell]; exact h.free i hi⟩
  · rw [List.length_set] at hi
    by_cases he : i = j
    · subst he
      rw [List.getElem_set_self]
      exact World.cell?_setCell_same' _ _ _ (h.some_ i (by omega))
    · rw [List.getElem_set_ne (by omega)]
      exact (World.cell?_setCell_other _ _ _ _ (by intro e; injection e; omega)).trans (h.cells i hi)
  · by_cases he : i = j
    · subst he
      rw [World.cell?_setCell_same' _ _ _ (h.some_ i hi)]
      rfl
    · rw [World.cell?_setCell_other _ _ _ _ (by intro e; injection e; omega)]
      exact h.some_ i hi
theorem OwnC.upd {w w' : World} {base g k n c : Nat} {xs : List (BitVec 8)} (h : OwnC w base g n c xs) (hU : Upd k w w') (hne : g ≠ k) : OwnC w' base g n c xs := by
  have hb := hU.block g hne
  have hc : ∀ j, w'.cell? ⟨g, j, none⟩ = w.cell? ⟨g, j, none⟩ := fun j => World.cell?_of_block hb
  have hf : ∀ j, w'.frozen? ⟨g, j, none⟩ = w.frozen? ⟨g, j, none⟩ := fun j => by simp [World.frozen?, hb]
  exact ⟨h.ge, by rw [hU.size]; exact h.lt, h.len, h.room, h.max, fun j hj => by rw [hc]; exact h.cells j hj, fun j hj => by rw [hc]; exact h.some_ j hj, fun j hj => by rw [hf]; exact h.free j hj⟩
end Go.Proofs.YtihmbcnccdiecaaDoor
namespace Go.Proofs.YtihmbcnccdiecaaDoor
set_option maxRecDepth 100000
open Go.ChangeShapes Go.WideShapes Go.ChangeAt Go.RowKit
set_option linter.unusedVariables false
set_option linter.unusedSimpArgs false
def adrL (a : Adr) : List Value := [.int .i64 a.kind, .int .u64 (W64 a.bits)]
def featL (f : Feat) : List Value := [.int .i64 f.io, .bool f.oob, .bool f.bond, .bool f.mitm, .bool f.sid, .bool f.tid]
def idnL (i : Idn) : List Value := [.int .i64 i.adr.kind, .int .u64 (W64 i.adr.bits), .int .u64 (W64 i.irk)]
def oobL (x : Oob) : List Value := [.int .u64 (W64 x.value), .int .u64 (W64 x.random)]
def cfgL (c : Cfg) : List Value := [.int .i64 c.role, .int .i64 c.feat.io, .bool c.feat.oob, .bool c.feat.bond, .bool c.feat.mitm, .bool c.feat.sid, .bool c.feat.tid, .int .i64 c.own.kind, .int .u64 (W64 c.own.bits), .int .i64 c.peer.kind, .int .u64 (W64 c.peer.bits), .int .i64 c.idn.adr.kind, .int .u64 (W64 c.idn.adr.bits), .int .u64 (W64 c.idn.irk), .int .u32 (W32 c.secret), .int .u64 (W64 c.seed), .int .u64 (W64 c.mine), .int .u64 (W64 c.oob.value), .int .u64 (W64 c.oob.random)]
def prL (p : Pr) : List Value := [.int .i64 p.cfg.role, .int .i64 p.cfg.feat.io, .bool p.cfg.feat.oob, .bool p.cfg.feat.bond, .bool p.cfg.feat.mitm, .bool p.cfg.feat.sid, .bool p.cfg.feat.tid, .int .i64 p.cfg.own.kind, .int .u64 (W64 p.cfg.own.bits), .int .i64 p.cfg.peer.kind, .int .u64 (W64 p.cfg.peer.bits), .int .i64 p.cfg.idn.adr.kind, .int .u64 (W64 p.cfg.idn.adr.bits), .int .u64 (W64 p.cfg.idn.irk), .int .u32 (W32 p.cfg.secret), .int .u64 (W64 p.cfg.seed), .int .u64 (W64 p.cfg.mine), .int .u64 (W64 p.cfg.oob.value), .int .u64 (W64 p.cfg.oob.random), .int .i64 p.phase, .int .i64 p.since, .int .i64 p.method, .int .i64 p.peer.io, .bool p.peer.oob, .bool p.peer.bond, .bool p.peer.mitm, .bool p.peer.sid, .bool p.peer.tid, .int .i64 p.req.io, .bool p.req.oob, .bool p.req.bond, .bool p.req.mitm, .bool p.req.sid, .bool p.req.tid, .int .i64 p.res.io, .bool p.res.oob, .bool p.res.bond, .bool p.res.mitm, .bool p.res.sid, .bool p.res.tid, .int .u32 (W32 p.peerKey), .int .u32 (W32 p.shared), .int .u64 (W64 p.nonce), .int .u64 (W64 p.other), .int .u64 (W64 p.commit), .bool p.have_, .int .i64 p.passkey, .int .i64 p.round, .bool p.agreed, .int .u64 (W64 p.checkIn), .bool p.haveIn, .bool p.crypt, .int .u64 (W64 p.ltk), .int .i64 p.idn.adr.kind, .int .u64 (W64 p.idn.adr.bits), .int .u64 (W64 p.idn.irk), .int .i64 p.drawn, .int .i64 p.reason]
def secL (d : Sec) : List Value := [.int .i64 d.kind, .int .i64 d.feat.io, .bool d.feat.oob, .bool d.feat.bond, .bool d.feat.mitm, .bool d.feat.sid, .bool d.feat.tid, .int .u32 (W32 d.pub), .int .u64 (W64 d.value), .int .i64 d.idn.adr.kind, .int .u64 (W64 d.idn.adr.bits), .int .u64 (W64 d.idn.irk), .int .i64 d.reason]
theorem secL_len (d : Sec) : (secL d).length = 13 := rfl
def evtL (e : Evt) : List Value := [.int .i64 e.kind, .int .i64 e.number, .int .u64 (W64 e.key), .bool e.strong, .int .i64 e.idn.adr.kind, .int .u64 (W64 e.idn.adr.bits), .int .u64 (W64 e.idn.irk), .int .i64 e.reason]
theorem evtL_len (e : Evt) : (evtL e).length = 8 := rfl
def sdL (s : Sd) (v u : Value) : List Value := [.int .i64 s.p.cfg.role, .int .i64 s.p.cfg.feat.io, .bool s.p.cfg.feat.oob, .bool s.p.cfg.feat.bond, .bool s.p.cfg.feat.mitm, .bool s.p.cfg.feat.sid, .bool s.p.cfg.feat.tid, .int .i64 s.p.cfg.own.kind, .int .u64 (W64 s.p.cfg.own.bits), .int .i64 s.p.cfg.peer.kind, .int .u64 (W64 s.p.cfg.peer.bits), .int .i64 s.p.cfg.idn.adr.kind, .int .u64 (W64 s.p.cfg.idn.adr.bits), .int .u64 (W64 s.p.cfg.idn.irk), .int .u32 (W32 s.p.cfg.secret), .int .u64 (W64 s.p.cfg.seed), .int .u64 (W64 s.p.cfg.mine), .int .u64 (W64 s.p.cfg.oob.value), .int .u64 (W64 s.p.cfg.oob.random), .int .i64 s.p.phase, .int .i64 s.p.since, .int .i64 s.p.method, .int .i64 s.p.peer.io, .bool s.p.peer.oob, .bool s.p.peer.bond, .bool s.p.peer.mitm, .bool s.p.peer.sid, .bool s.p.peer.tid, .int .i64 s.p.req.io, .bool s.p.req.oob, .bool s.p.req.bond, .bool s.p.req.mitm, .bool s.p.req.sid, .bool s.p.req.tid, .int .i64 s.p.res.io, .bool s.p.res.oob, .bool s.p.res.bond, .bool s.p.res.mitm, .bool s.p.res.sid, .bool s.p.res.tid, .int .u32 (W32 s.p.peerKey), .int .u32 (W32 s.p.shared), .int .u64 (W64 s.p.nonce), .int .u64 (W64 s.p.other), .int .u64 (W64 s.p.commit), .bool s.p.have_, .int .i64 s.p.passkey, .int .i64 s.p.round, .bool s.p.agreed, .int .u64 (W64 s.p.checkIn), .bool s.p.haveIn, .bool s.p.crypt, .int .u64 (W64 s.p.ltk), .int .i64 s.p.idn.adr.kind, .int .u64 (W64 s.p.idn.adr.bits), .int .u64 (W64 s.p.idn.irk), .int .i64 s.p.drawn, .int .i64 s.p.reason, .int .i64 s.was.cfg.role, .int .i64 s.was.cfg.feat.io, .bool s.was.cfg.feat.oob, .bool s.was.cfg.feat.bond, .bool s.was.cfg.feat.mitm, .bool s.was.cfg.feat.sid, .bool s.was.cfg.feat.tid, .int .i64 s.was.cfg.own.kind, .int .u64 (W64 s.was.cfg.own.bits), .int .i64 s.was.cfg.peer.kind, .int .u64 (W64 s.was.cfg.peer.bits), .int .i64 s.was.cfg.idn.adr.kind, .int .u64 (W64 s.was.cfg.idn.adr.bits), .int .u64 (W64 s.was.cfg.idn.irk), .int .u32 (W32 s.was.cfg.secret), .int .u64 (W64 s.was.cfg.seed), .int .u64 (W64 s.was.cfg.mine), .int .u64 (W64 s.was.cfg.oob.value), .int .u64 (W64 s.was.cfg.oob.random), .int .i64 s.was.phase, .int .i64 s.was.since, .int .i64 s.was.method, .int .i64 s.was.peer.io, .bool s.was.peer.oob, .bool s.was.peer.bond, .bool s.was.peer.mitm, .bool s.was.peer.sid, .bool s.was.peer.tid, .int .i64 s.was.req.io, .bool s.was.req.oob, .bool s.was.req.bond, .bool s.was.req.mitm, .bool s.was.req.sid, .bool s.was.req.tid, .int .i64 s.was.res.io, .bool s.was.res.oob, .bool s.was.res.bond, .bool s.was.res.mitm, .bool s.was.res.sid, .bool s.was.res.tid, .int .u32 (W32 s.was.peerKey), .int .u32 (W32 s.was.shared), .int .u64 (W64 s.was.nonce), .int .u64 (W64 s.was.other), .int .u64 (W64 s.was.commit), .bool s.was.have_, .int .i64 s.was.passkey, .int .i64 s.was.round, .bool s.was.agreed, .int .u64 (W64 s.was.checkIn), .bool s.was.haveIn, .bool s.was.crypt, .int .u64 (W64 s.was.ltk), .int .i64 s.was.idn.adr.kind, .int .u64 (W64 s.was.idn.adr.bits), .int .u64 (W64 s.was.idn.irk), .int .i64 s.was.drawn, .int .i64 s.was.reason, .int .i64 s.now, v, u]
def Sd.put_phase (s : Sd) (x : Int) : Sd := ⟨{ s.p with phase := x }, s.was, s.now, s.sent, s.told⟩
def Pr.put_phase (p : Pr) (x : Int) : Pr := { p with phase := x }
def Sd.put_since (s : Sd) (x : Int) : Sd := ⟨{ s.p with since := x }, s.was, s.now, s.sent, s.told⟩
def Pr.put_since (p : Pr) (x : Int) : Pr := { p with since := x }
def Sd.put_method (s : Sd) (x : Int) : Sd := ⟨{ s.p with method := x }, s.was, s.now, s.sent, s.told⟩
def Pr.put_method (p : Pr) (x : Int) : Pr := { p with method := x }
def Sd.put_peer (s : Sd) (x : Feat) : Sd := ⟨{ s.p with peer := x }, s.was, s.now, s.sent, s.told⟩
def Pr.put_peer (p : Pr) (x : Feat) : Pr := { p with peer := x }
def Sd.put_req (s : Sd) (x : Feat) : Sd := ⟨{ s.p with req := x }, s.was, s.now, s.sent, s.told⟩
def Pr.put_req (p : Pr) (x : Feat) : Pr := { p with req := x }
def Sd.put_res (s : Sd) (x : Feat) : Sd := ⟨{ s.p with res := x }, s.was, s.now, s.sent, s.told⟩
def Pr.put_res (p : Pr) (x : Feat) : Pr := { p with res := x }
def Sd.put_peerKey (s : Sd) (x : BitVec 32) : Sd := ⟨{ s.p with peerKey := x }, s.was, s.now, s.sent, s.told⟩
def Pr.put_peerKey (p : Pr) (x : BitVec 32) : Pr := { p with peerKey := x }
def Sd.put_shared (s : Sd) (x : BitVec 32) : Sd := ⟨{ s.p with shared := x }, s.was, s.now, s.sent, s.told⟩
def Pr.put_shared (p : Pr) (x : BitVec 32) : Pr := { p with shared := x }
def Sd.put_nonce (s : Sd) (x : BitVec 64) : Sd := ⟨{ s.p with nonce := x }, s.was, s.now, s.sent, s.told⟩
def Pr.put_nonce (p : Pr) (x : BitVec 64) : Pr := { p with nonce := x }
def Sd.put_other (s : Sd) (x : BitVec 64) : Sd := ⟨{ s.p with other := x }, s.was, s.now, s.sent, s.told⟩
def Pr.put_other (p : Pr) (x : BitVec 64) : Pr := { p with other := x }
def Sd.put_commit (s : Sd) (x : BitVec 64) : Sd := ⟨{ s.p with commit := x }, s.was, s.now, s.sent, s.told⟩
def Pr.put_commit (p : Pr) (x : BitVec 64) : Pr := { p with commit := x }
def Sd.put_have_ (s : Sd) (x : Bool) : Sd := ⟨{ s.p with have_ := x }, s.was, s.now, s.sent, s.told⟩
def Pr.put_have_ (p : Pr) (x : Bool) : Pr := { p with have_ := x }
def Sd.put_passkey (s : Sd) (x : Int) : Sd := ⟨{ s.p with passkey := x }, s.was, s.now, s.sent, s.told⟩
def Pr.put_passkey (p : Pr) (x : Int) : Pr := { p with passkey := x }
def Sd.put_round (s : Sd) (x : Int) : Sd := ⟨{ s.p with round := x }, s.was, s.now, s.sent, s.told⟩
def Pr.put_round (p : Pr) (x : Int) : Pr := { p with round := x }
def Sd.put_agreed (s : Sd) (x : Bool) : Sd := ⟨{ s.p with agreed := x }, s.was, s.now, s.sent, s.told⟩
def Pr.put_agreed (p : Pr) (x : Bool) : Pr := { p with agreed := x }
def Sd.put_checkIn (s : Sd) (x : BitVec 64) : Sd := ⟨{ s.p with checkIn := x }, s.was, s.now, s.sent, s.told⟩
def Pr.put_checkIn (p : Pr) (x : BitVec 64) : Pr := { p with checkIn := x }
def Sd.put_haveIn (s : Sd) (x : Bool) : Sd := ⟨{ s.p with haveIn := x }, s.was, s.now, s.sent, s.told⟩
def Pr.put_haveIn (p : Pr) (x : Bool) : Pr := { p with haveIn := x }
def Sd.put_crypt (s : Sd) (x : Bool) : Sd := ⟨{ s.p with crypt := x }, s.was, s.now, s.sent, s.told⟩
def Pr.put_crypt (p : Pr) (x : Bool) : Pr := { p with crypt := x }
def Sd.put_ltk (s : Sd) (x : BitVec 64) : Sd := ⟨{ s.p with ltk := x }, s.was, s.now, s.sent, s.told⟩
def Pr.put_ltk (p : Pr) (x : BitVec 64) : Pr := { p with ltk := x }
def Sd.put_idn (s : Sd) (x : Idn) : Sd := ⟨{ s.p with idn := x }, s.was, s.now, s.sent, s.told⟩
def Pr.put_idn (p : Pr) (x : Idn) : Pr := { p with idn := x }
def Sd.put_drawn (s : Sd) (x : Int) : Sd := ⟨{ s.p with drawn := x }, s.was, s.now, s.sent, s.told⟩
def Pr.put_drawn (p : Pr) (x : Int) : Pr := { p with drawn := x }
def Sd.put_reason (s : Sd) (x : Int) : Sd := ⟨{ s.p with reason := x }, s.was, s.now, s.sent, s.told⟩
def Pr.put_reason (p : Pr) (x : Int) : Pr := { p with reason := x }
theorem eqb_Sec (x y : Sec) : (x.kind == y.kind && (x.feat.io == y.feat.io && (x.feat.oob == y.feat.oob && (x.feat.bond == y.feat.bond && (x.feat.mitm == y.feat.mitm && (x.feat.sid == y.feat.sid && (x.feat.tid == y.feat.tid && (W32 x.pub == W32 y.pub && (W64 x.value == W64 y.value && (x.idn.adr.kind == y.idn.adr.kind && (W64 x.idn.adr.bits == W64 y.idn.adr.bits && (W64 x.idn.irk == W64 y.idn.irk && (x.reason == y.reason))))))))))))) = decide (x = y) := by
  rw [Bool.eq_iff_iff, decide_eq_true_iff]
  constructor
  · intro h
    simp only [Bool.and_eq_true, beq_iff_eq, W64_eq, W32_eq] at h
    obtain ⟨x0, ⟨x1, x2, x3, x4, x5, x6⟩, x7, x8, ⟨⟨x9, x10⟩, x11⟩, x12⟩ := x
    obtain ⟨y0, ⟨y1, y2, y3, y4, y5, y6⟩, y7, y8, ⟨⟨y9, y10⟩, y11⟩, y12⟩ := y
    dsimp only at h
    obtain ⟨rfl, rfl, rfl, rfl, rfl, rfl, rfl, rfl, rfl, rfl, rfl, rfl, rfl⟩ := h
    rfl
  · rintro rfl
    simp only [beq_self_eq_true, Bool.and_true]
theorem eqb_Evt (x y : Evt) : (x.kind == y.kind && (x.number == y.number && (W64 x.key == W64 y.key && (x.strong == y.strong && (x.idn.adr.kind == y.idn.adr.kind && (W64 x.idn.adr.bits == W64 y.idn.adr.bits && (W64 x.idn.irk == W64 y.idn.irk && (x.reason == y.reason)))))))) = decide (x = y) := by
  rw [Bool.eq_iff_iff, decide_eq_true_iff]
  constructor
  · intro h
    simp only [Bool.and_eq_true, beq_iff_eq, W64_eq, W32_eq] at h
    obtain ⟨x0, x1, x2, x3, ⟨⟨x4, x5⟩, x6⟩, x7⟩ := x
    obtain ⟨y0, y1, y2, y3, ⟨⟨y4, y5⟩, y6⟩, y7⟩ := y
    dsimp only at h
    obtain ⟨rfl, rfl, rfl, rfl, rfl, rfl, rfl, rfl⟩ := h
    rfl
  · rintro rfl
    simp only [beq_self_eq_true, Bool.and_true]
theorem eqb_Pr (x y : Pr) : (x.cfg.role == y.cfg.role && (x.cfg.feat.io == y.cfg.feat.io && (x.cfg.feat.oob == y.cfg.feat.oob && (x.cfg.feat.bond == y.cfg.feat.bond && (x.cfg.feat.mitm == y.cfg.feat.mitm && (x.cfg.feat.sid == y.cfg.feat.sid && (x.cfg.feat.tid == y.cfg.feat.tid && (x.cfg.own.kind == y.cfg.own.kind && (W64 x.cfg.own.bits == W64 y.cfg.own.bits && (x.cfg.peer.kind == y.cfg.peer.kind && (W64 x.cfg.peer.bits == W64 y.cfg.peer.bits && (x.cfg.idn.adr.kind == y.cfg.idn.adr.kind && (W64 x.cfg.idn.adr.bits == W64 y.cfg.idn.adr.bits && (W64 x.cfg.idn.irk == W64 y.cfg.idn.irk && (W32 x.cfg.secret == W32 y.cfg.secret && (W64 x.cfg.seed == W64 y.cfg.seed && (W64 x.cfg.mine == W64 y.cfg.mine && (W64 x.cfg.oob.value == W64 y.cfg.oob.value && (W64 x.cfg.oob.random == W64 y.cfg.oob.random && (x.phase == y.phase && (x.since == y.since && (x.method == y.method && (x.peer.io == y.peer.io && (x.peer.oob == y.peer.oob && (x.peer.bond == y.peer.bond && (x.peer.mitm == y.peer.mitm && (x.peer.sid == y.peer.sid && (x.peer.tid == y.peer.tid && (x.req.io == y.req.io && (x.req.oob == y.req.oob && (x.req.bond == y.req.bond && (x.req.mitm == y.req.mitm && (x.req.sid == y.req.sid && (x.req.tid == y.req.tid && (x.res.io == y.res.io && (x.res.oob == y.res.oob && (x.res.bond == y.res.bond && (x.res.mitm == y.res.mitm && (x.res.sid == y.res.sid && (x.res.tid == y.res.tid && (W32 x.peerKey == W32 y.peerKey && (W32 x.shared == W32 y.shared && (W64 x.nonce == W64 y.nonce && (W64 x.other == W64 y.other && (W64 x.commit == W64 y.commit && (x.have_ == y.have_ && (x.passkey == y.passkey && (x.round == y.round && (x.agreed == y.agreed && (W64 x.checkIn == W64 y.checkIn && (x.haveIn == y.haveIn && (x.crypt == y.crypt && (W64 x.ltk == W64 y.ltk && (x.idn.adr.kind == y.idn.adr.kind && (W64 x.idn.adr.bits == W64 y.idn.adr.bits && (W64 x.idn.irk == W64 y.idn.irk && (x.drawn == y.drawn && (x.reason == y.reason)))))))))))))))))))))))))))))))))))))))))))))))))))))))))) = decide (x = y) := by
  rw [Bool.eq_iff_iff, decide_eq_true_iff]
  constructor
  · intro h
    simp only [Bool.and_eq_true, beq_iff_eq, W64_eq, W32_eq] at h
    obtain ⟨⟨x0, ⟨x1, x2, x3, x4, x5, x6⟩, ⟨x7, x8⟩, ⟨x9, x10⟩, ⟨⟨x11, x12⟩, x13⟩, x14, x15, x16, ⟨x17, x18⟩⟩, x19, x20, x21, ⟨x22, x23, x24, x25, x26, x27⟩, ⟨x28, x29, x30, x31, x32, x33⟩, ⟨x34, x35, x36, x37, x38, x39⟩, x40, x41, x42, x43, x44, x45, x46, x47, x48, x49, x50, x51, x52, ⟨⟨x53, x54⟩, x55⟩, x56, x57⟩ := x
    obtain ⟨⟨y0, ⟨y1, y2, y3, y4, y5, y6⟩, ⟨y7, y8⟩, ⟨y9, y10⟩, ⟨⟨y11, y12⟩, y13⟩, y14, y15, y16, ⟨y17, y18⟩⟩, y19, y20, y21, ⟨y22, y23, y24, y25, y26, y27⟩, ⟨y28, y29, y30, y31, y32, y33⟩, ⟨y34, y35, y36, y37, y38, y39⟩, y40, y41, y42, y43, y44, y45, y46, y47, y48, y49, y50, y51, y52, ⟨⟨y53, y54⟩, y55⟩, y56, y57⟩ := y
    dsimp only at h
    obtain ⟨rfl, rfl, rfl, rfl, rfl, rfl, rfl, rfl, rfl, rfl, rfl, rfl, rfl, rfl, rfl, rfl, rfl, rfl, rfl, rfl, rfl, rfl, rfl, rfl, rfl, rfl, rfl, rfl, rfl, rfl, rfl, rfl, rfl, rfl, rfl, rfl, rfl, rfl, rfl, rfl, rfl, rfl, rfl, rfl, rfl, rfl, rfl, rfl, rfl, rfl, rfl, rfl, rfl, rfl, rfl, rfl, rfl, rfl⟩ := h
    rfl
  · rintro rfl
    simp only [beq_self_eq_true, Bool.and_true]
theorem eqb_Cfg (x y : Cfg) : (x.role == y.role && (x.feat.io == y.feat.io && (x.feat.oob == y.feat.oob && (x.feat.bond == y.feat.bond && (x.feat.mitm == y.feat.mitm && (x.feat.sid == y.feat.sid && (x.feat.tid == y.feat.tid && (x.own.kind == y.own.kind && (W64 x.own.bits == W64 y.own.bits && (x.peer.kind == y.peer.kind && (W64 x.peer.bits == W64 y.peer.bits && (x.idn.adr.kind == y.idn.adr.kind && (W64 x.idn.adr.bits == W64 y.idn.adr.bits && (W64 x.idn.irk == W64 y.idn.irk && (W32 x.secret == W32 y.secret && (W64 x.seed == W64 y.seed && (W64 x.mine == W64 y.mine && (W64 x.oob.value == W64 y.oob.value && (W64 x.oob.random == W64 y.oob.random))))))))))))))))))) = decide (x = y) := by
  rw [Bool.eq_iff_iff, decide_eq_true_iff]
  constructor
  · intro h
    simp only [Bool.and_eq_true, beq_iff_eq, W64_eq, W32_eq] at h
    obtain ⟨x0, ⟨x1, x2, x3, x4, x5, x6⟩, ⟨x7, x8⟩, ⟨x9, x10⟩, ⟨⟨x11, x12⟩, x13⟩, x14, x15, x16, ⟨x17, x18⟩⟩ := x
    obtain ⟨y0, ⟨y1, y2, y3, y4, y5, y6⟩, ⟨y7, y8⟩, ⟨y9, y10⟩, ⟨⟨y11, y12⟩, y13⟩, y14, y15, y16, ⟨y17, y18⟩⟩ := y
    dsimp only at h
    obtain ⟨rfl, rfl, rfl, rfl, rfl, rfl, rfl, rfl, rfl, rfl, rfl, rfl, rfl, rfl, rfl, rfl, rfl, rfl, rfl⟩ := h
    rfl
  · rintro rfl
    simp only [beq_self_eq_true, Bool.and_true]
theorem eqb_Adr (x y : Adr) : (x.kind == y.kind && (W64 x.bits == W64 y.bits)) = decide (x = y) := by
  rw [Bool.eq_iff_iff, decide_eq_true_iff]
  constructor
  · intro h
    simp only [Bool.and_eq_true, beq_iff_eq, W64_eq, W32_eq] at h
    obtain ⟨x0, x1⟩ := x
    obtain ⟨y0, y1⟩ := y
    dsimp only at h
    obtain ⟨rfl, rfl⟩ := h
    rfl
  · rintro rfl
    simp only [beq_self_eq_true, Bool.and_true]
theorem eqb_Feat (x y : Feat) : (x.io == y.io && (x.oob == y.oob && (x.bond == y.bond && (x.mitm == y.mitm && (x.sid == y.sid && (x.tid == y.tid)))))) = decide (x = y) := by
  rw [Bool.eq_iff_iff, decide_eq_true_iff]
  constructor
  · intro h
    simp only [Bool.and_eq_true, beq_iff_eq, W64_eq, W32_eq] at h
    obtain ⟨x0, x1, x2, x3, x4, x5⟩ := x
    obtain ⟨y0, y1, y2, y3, y4, y5⟩ := y
    dsimp only at h
    obtain ⟨rfl, rfl, rfl, rfl, rfl, rfl⟩ := h
    rfl
  · rintro rfl
    simp only [beq_self_eq_true, Bool.and_true]
theorem eqb_Idn (x y : Idn) : (x.adr.kind == y.adr.kind && (W64 x.adr.bits == W64 y.adr.bits && (W64 x.irk == W64 y.irk))) = decide (x = y) := by
  rw [Bool.eq_iff_iff, decide_eq_true_iff]
  constructor
  · intro h
    simp only [Bool.and_eq_true, beq_iff_eq, W64_eq, W32_eq] at h
    obtain ⟨⟨x0, x1⟩, x2⟩ := x
    obtain ⟨⟨y0, y1⟩, y2⟩ := y
    dsimp only at h
    obtain ⟨rfl, rfl, rfl⟩ := h
    rfl
  · rintro rfl
    simp only [beq_self_eq_true, Bool.and_true]
def Sd.put_p (s : Sd) (x : Pr) : Sd := ⟨x, s.was, s.now, s.sent, s.told⟩
theorem one_leaf {l : List Value} (h : l.all (·.oneCell') = true) : ∀ u ∈ l, u.oneCell' = true := fun u hu => List.all_eq_true.1 h u hu
theorem sec_one (d : Sec) : (secL d).all (·.oneCell') = true := rfl
theorem evt_one (e : Evt) : (evtL e).all (·.oneCell') = true := rfl
def secs (l : List Sec) : List Value := l.flatMap secL
def evts (l : List Evt) : List Value := l.flatMap evtL
theorem secs_app (a b : List Sec) : secs (a ++ b) = secs a ++ secs b := by unfold secs; rw [List.flatMap_append]
theorem evts_app (a b : List Evt) : evts (a ++ b) = evts a ++ evts b := by unfold evts; rw [List.flatMap_append]
abbrev Bk := Nat × TypeId × Array Value
abbrev SecT : TypeId := 43
abbrev EvtT : TypeId := 63
def tabL : List Value := [1, 1, 3, 1, 3, 1, 2, 3, 1, 2, 4, 4, 5, 1, 4, 1, 1, 1, 1, 1, 4, 2, 3, 1, 2].map fun n => .int .i64 n
def preL : List Value := [0, 0, 3, 1, 0].map fun n => .int .u64 n
structure Laid (W : World) : Prop where
  lt : 2 ≤ W.heap.size
  tab : W.rangeAt 0 0 tabL
  pre : W.rangeAt 1 0 preL
theorem Laid.of {W W' : World} {B : Nat} (h : Laid W) (hb : Below B W W') (hB : 2 ≤ B) : Laid W' :=
  ⟨Nat.le_trans h.lt hb.size, fun j v hj => (hb.cell (p := ⟨0, 0 + j, none⟩) (Nat.lt_of_lt_of_le (show 0 < 2 by decide) hB)).trans (h.tab j v hj), fun j v hj => (hb.cell (p := ⟨1, 0 + j, none⟩) (Nat.lt_of_lt_of_le (show 1 < 2 by decide) hB)).trans (h.pre j v hj)⟩
theorem Laid.to {W W' : World} (h : Laid W) (hb : Below W.heap.size W W') : Laid W' := h.of hb h.lt
theorem Laid.upd {W W' : World} {g : Nat} (h : Laid W) (hU : Upd g W W') (hg : 2 ≤ g) : Laid W' := h.of (hU.below (Below.refl 2 W) hg) (Nat.le_refl _)
theorem stable_laid : Stable Laid := fun w w' h hb => h.to hb
structure Mem (w0 W : World) (base : Nat) (S : List Sec) (E : List Evt) (v u : Value) (bx : List Bk) : Prop where
  pre : Laid w0 ∧ 2 ≤ base
  below : Below base w0 W
  low : base ≤ W.heap.size
  sent : W.ownsRow base SecT 13 v S.length (secs S)
  told : W.ownsRow base EvtT 8 u E.length (evts E)
  box : ∀ b ∈ bx, Blk W b.1 b.2.1 b.2.2 ∧ base ≤ b.1 ∧ v.ownBlock ≠ some b.1 ∧ u.ownBlock ≠ some b.1
  nd : bx.Pairwise fun a b => a.1 ≠ b.1
section
variable {w0 W W' : World} {base : Nat} {S : List Sec} {E : List Evt} {v u : Value} {bx : List Bk}
theorem Mem.to (h : Mem w0 W base S E v u bx) (hb : Below W.heap.size W W') : Mem w0 W' base S E v u bx :=
  ⟨h.pre, h.below.trans (hb.mono h.low), Nat.le_trans h.low hb.size, own_to h.sent hb, own_to h.told hb, fun b hm => let ⟨a, c⟩ := h.box b hm; ⟨a.to hb a.lt, c⟩, h.nd⟩
theorem stable_mem (w0 : World) (base : Nat) (S : List Sec) (E : List Evt) (v u : Value) (bx : List Bk) : Stable fun W => Mem w0 W base S E v u bx := fun w w' h hb => h.to hb
theorem Mem.laid (h : Mem w0 W base S E v u bx) : Laid W := h.pre.1.of h.below h.pre.2
theorem Mem.drew (h : Mem w0 W base S E v u bx) : Mem w0 W.drew base S E v u bx := h.to (Below.refl _ _).drew
theorem Mem.here (h : Mem w0 W base S E v u bx) : Mem W W base S E v u bx := ⟨⟨h.pre.1.of h.below h.pre.2, h.pre.2⟩, Below.refl _ _, h.low, h.sent, h.told, h.box, h.nd⟩
theorem Mem.trans {S' : List Sec} {E' : List Evt} {v' u' : Value} {bx' : List Bk} (h : Mem w0 W base S E v u bx) (k : Mem W W' base S' E' v' u' bx') : Mem w0 W' base S' E' v' u' bx' :=
  ⟨h.pre, h.below.trans k.below, k.low, k.sent, k.told, k.box, k.nd⟩
theorem own_far {W : World} {base : Nat} {e : TypeId} {size n k : Nat} {v : Value} {xs : List Value} (h : W.ownsRow base e size v n xs) (hk : W.heap.size ≤ k) : v.ownBlock ≠ some k := fun e => by
  have := (h.lt _ e).2
  omega
theorem Mem.alloc {k : Nat} {ty : TypeId} {cs : Array Value} (h : Mem w0 W base S E v u bx) (hk : W.heap.size ≤ k) (hb : Below W.heap.size W W') (hG : Blk W' k ty cs) : Mem w0 W' base S E v u ((k, ty, cs) :: bx) := by
  have h2 := h.to hb
  refine ⟨h2.pre, h2.below, h2.low, h2.sent, h2.told, fun b hm => ?_, List.pairwise_cons.2 ⟨fun b hm => ?_, h.nd⟩⟩
  · rcases List.mem_cons.1 hm with rfl | hm
    · exact ⟨hG, Nat.le_trans h.low hk, own_far h.sent hk, own_far h.told hk⟩
    · exact h2.box b hm
  · have := (h.box b hm).1.lt
    show k ≠ b.1
    omega
theorem Mem.swap {a b : Bk} (h : Mem w0 W base S E v u (a :: b :: bx)) : Mem w0 W base S E v u (b :: a :: bx) := by
  have n1 := List.pairwise_cons.1 h.nd
  have n2 := List.pairwise_cons.1 n1.2
  refine ⟨h.pre, h.below, h.low, h.sent, h.told, fun c hm => h.box c (by simp only [List.mem_cons] at hm ⊢; rcases hm with h | h | h <;> simp [h]), List.pairwise_cons.2 ⟨fun c hm => ?_, List.pairwise_cons.2 ⟨fun c hm => n1.1 c (List.mem_cons_of_mem _ hm), n2.2⟩⟩⟩
  rcases List.mem_cons.1 hm with rfl | hm
  · exact fun e => n1.1 b List.mem_cons_self e.symm
  · exact n2.1 c hm
theorem Mem.alloc1 {k : Nat} {ty : TypeId} {cs : Array Value} {a : Bk} (h : Mem w0 W base S E v u (a :: bx)) (hk : W.heap.size ≤ k) (hb : Below W.heap.size W W') (hG : Blk W' k ty cs) : Mem w0 W' base S E v u (a :: (k, ty, cs) :: bx) :=
  (h.alloc hk hb hG).swap
theorem Mem.drop {a : Bk} (h : Mem w0 W base S E v u (a :: bx)) : Mem w0 W base S E v u bx :=
  ⟨h.pre, h.below, h.low, h.sent, h.told, fun b hm => h.box b (List.mem_cons_of_mem _ hm), (List.pairwise_cons.1 h.nd).2⟩
theorem Mem.drop1 {a b : Bk} (h : Mem w0 W base S E v u (a :: b :: bx)) : Mem w0 W base S E v u (a :: bx) := h.swap.drop
theorem Mem.b0 {k : Nat} {ty : TypeId} {cs : Array Value} (h : Mem w0 W base S E v u ((k, ty, cs) :: bx)) : Blk W k ty cs := (h.box (k, ty, cs) List.mem_cons_self).1
theorem Mem.b1 {k : Nat} {ty : TypeId} {cs : Array Value} {a : Bk} (h : Mem w0 W base S E v u (a :: (k, ty, cs) :: bx)) : Blk W k ty cs := h.drop.b0
theorem Mem.b2 {k : Nat} {ty : TypeId} {cs : Array Value} {a b : Bk} (h : Mem w0 W base S E v u (a :: b :: (k, ty, cs) :: bx)) : Blk W k ty cs := h.drop.b1
theorem Mem.b3 {k : Nat} {ty : TypeId} {cs : Array Value} {a b c : Bk} (h : Mem w0 W base S E v u (a :: b :: c :: (k, ty, cs) :: bx)) : Blk W k ty cs := h.drop.b2
theorem Mem.b4 {k : Nat} {ty : TypeId} {cs : Array Value} {a b c d : Bk} (h : Mem w0 W base S E v u (a :: b :: c :: d :: (k, ty, cs) :: bx)) : Blk W k ty cs := h.drop.b3
theorem own_updB {w w' : World} {g base n size : Nat} {e : TypeId} {v : Value} {xs : List Value} (ho : w.ownsRow base e size v n xs) (hU : Upd g w w') (hne : v.ownBlock ≠ some g) : w'.ownsRow base e size v n xs := by
  refine ⟨ho.1, ?_⟩
  rcases ho.2 with h2 | ⟨g', cap, cur, hv, hbg, hg, r⟩
  · exact .inl h2
  · refine .inr ⟨g', cap, cur, hv, hbg, (hU.block g' ?_).trans hg, r⟩
    rintro rfl
    exact hne (by rw [hv]; rfl)
theorem Mem.s0 {k : Nat} {ty : TypeId} {cs cs' : Array Value} (h : Mem w0 W base S E v u ((k, ty, cs) :: bx)) (hU : Upd k W W') (hG : Blk W' k ty cs') : Mem w0 W' base S E v u ((k, ty, cs') :: bx) := by
  have n1 := List.pairwise_cons.1 h.nd
  have hk := h.box (k, ty, cs) List.mem_cons_self
  refine ⟨h.pre, hU.below h.below hk.2.1, by rw [hU.size]; exact h.low, own_updB h.sent hU hk.2.2.1, own_updB h.told hU hk.2.2.2, fun b hm => ?_, List.pairwise_cons.2 n1⟩
  rcases List.mem_cons.1 hm with rfl | hm
  · exact ⟨hG, hk.2⟩
  · have hb := h.box b (List.mem_cons_of_mem _ hm)
    exact ⟨hU.blk hb.1 (fun e => n1.1 b hm e.symm), hb.2⟩
theorem Mem.s1 {k : Nat} {ty : TypeId} {cs cs' : Array Value} {a : Bk} (h : Mem w0 W base S E v u (a :: (k, ty, cs) :: bx)) (hU : Upd k W W') (hG : Blk W' k ty cs') : Mem w0 W' base S E v u (a :: (k, ty, cs') :: bx) := (h.swap.s0 hU hG).swap
theorem Mem.rot {a b c : Bk} (h : Mem w0 W base S E v u (a :: b :: c :: bx)) : Mem w0 W base S E v u (c :: a :: b :: bx) := by
  have n1 := List.pairwise_cons.1 h.nd
  have n2 := List.pairwise_cons.1 n1.2
  have n3 := List.pairwise_cons.1 n2.2
  refine ⟨h.pre, h.below, h.low, h.sent, h.told, fun d hm => h.box d (by simp only [List.mem_cons] at hm ⊢; rcases hm with h | h | h | h <;> simp [h]), List.pairwise_cons.2 ⟨fun d hm => ?_, List.pairwise_cons.2 ⟨fun d hm => ?_, List.pairwise_cons.2 ⟨fun d hm => n2.1 d (List.mem_cons_of_mem _ hm), n3.2⟩⟩⟩⟩
  · rcases List.mem_cons.1 hm with rfl | hm
    · exact fun e => n1.1 c (by simp) e.symm
    · rcases List.mem_cons.1 hm with rfl | hm
      · exact fun e => n2.1 c (by simp) e.symm
      · exact n3.1 d hm
  · rcases List.mem_cons.1 hm with rfl | hm
    · exact n1.1 d (by simp)
    · exact n1.1 d (by simp [hm])
theorem Mem.rot' {a b c : Bk} (h : Mem w0 W base S E v u (c :: a :: b :: bx)) : Mem w0 W base S E v u (a :: b :: c :: bx) := h.rot.rot
theorem Mem.s2 {k : Nat} {ty : TypeId} {cs cs' : Array Value} {a b : Bk} (h : Mem w0 W base S E v u (a :: b :: (k, ty, cs) :: bx)) (hU : Upd k W W') (hG : Blk W' k ty cs') : Mem w0 W' base S E v u (a :: b :: (k, ty, cs') :: bx) := (h.rot.s0 hU hG).rot'
end
section
variable {w0 W W' : World} {base : Nat} {S : List Sec} {E : List Evt} {v u : Value} {bx : List Bk}
theorem own_apart {W : World} {base base' n n' size size' : Nat} {e e' : TypeId} {v u : Value} {xs ys : List Value} (h : W.ownsRow base e size v n xs) (k : W.ownsRow base' e' size' u n' ys) (hne : e ≠ e') : u.ownBlock = none ∨ u.ownBlock ≠ v.ownBlock := by
  rcases k.2 with ⟨rfl, _⟩ | ⟨g, cap, cur, rfl, _, hg, _⟩
  · exact .inl rfl
  · refine .inr fun e1 => ?_
    rcases h.2 with ⟨rfl, _⟩ | ⟨g2, cap2, cur2, rfl, _, hg2, _⟩
    · simp [Value.ownBlock] at e1
    · simp [Value.ownBlock] at e1
      subst e1
      rw [hg2] at hg
      injection hg with hg
      injection hg with _ ht
      exact hne ht
theorem Mem.grow (h : Mem w0 W base S E v u bx) {row : Option Nat} (hg : W.grownBy W' row) (hr : row = v.ownBlock ∨ row = u.ownBlock) : Below base w0 W' ∧ base ≤ W'.heap.size ∧ ∀ b ∈ bx, Blk W' b.1 b.2.1 b.2.2 := by
  refine ⟨h.below.grown hg h.low fun k hk => ?_, Nat.le_trans h.low hg.size, fun b hm => ?_⟩
  · rcases hr with e | e
    · exact (h.sent.lt k (by rw [← e]; exact hk)).1
    · exact (h.told.lt k (by rw [← e]; exact hk)).1
  · have hb := h.box b hm
    refine (hg.block b.1 hb.1.lt fun e => ?_).trans hb.1
    rcases hr with e2 | e2
    · exact hb.2.2.1 (by rw [← e2, ← e])
    · exact hb.2.2.2 (by rw [← e2, ← e])
theorem Mem.app {d : Sec} {v' : Value} (h : Mem w0 W base S E v u bx) (hown : W'.ownsRow base SecT 13 v' (S.length + 1) (secs S ++ secL d)) (hg : W.grownBy W' v.ownBlock) (hat : v'.ownBlock = v.ownBlock ∨ v'.ownBlock = some W.heap.size) : Mem w0 W' base (S ++ [d]) E v' u bx := by
  obtain ⟨h1, h2, h3⟩ := h.grow hg (.inl rfl)
  refine ⟨h.pre, h1, h2, ?_, h.told.kept hg (own_apart h.sent h.told (by decide)), fun b hm => ⟨h3 b hm, (h.box b hm).2.1, fun e => ?_, (h.box b hm).2.2.2⟩, h.nd⟩
  · rw [List.length_append, secs_app]
    unfold secs at hown ⊢
    rw [List.flatMap_cons, List.flatMap_nil, List.append_nil]
    exact hown
  · rcases hat with e1 | e1
    · exact (h.box b hm).2.2.1 (by rw [← e1, e])
    · rw [e1] at e
      injection e with e
      have := (h.box b hm).1.lt
      omega
theorem Mem.appE {d : Evt} {u' : Value} (h : Mem w0 W base S E v u bx) (hown : W'.ownsRow base EvtT 8 u' (E.length + 1) (evts E ++ evtL d)) (hg : W.grownBy W' u.ownBlock) (hat : u'.ownBlock = u.ownBlock ∨ u'.ownBlock = some W.heap.size) : Mem w0 W' base S (E ++ [d]) v u' bx := by
  obtain ⟨h1, h2, h3⟩ := h.grow hg (.inr rfl)
  refine ⟨h.pre, h1, h2, h.sent.kept hg (own_apart h.told h.sent (by decide)), ?_, fun b hm => ⟨h3 b hm, (h.box b hm).2.1, (h.box b hm).2.2.1, fun e => ?_⟩, h.nd⟩
  · rw [List.length_append, evts_app]
    unfold evts at hown ⊢
    rw [List.flatMap_cons, List.flatMap_nil, List.append_nil]
    exact hown
  · rcases hat with e1 | e1
    · exact (h.box b hm).2.2.2 (by rw [← e1, e])
    · rw [e1] at e
      injection e with e
      have := (h.box b hm).1.lt
      omega
theorem Mem.nilS (h : Mem w0 W base S E v u bx) : Mem w0 W base [] E (.slice none 0 0) u bx :=
  ⟨h.pre, h.below, h.low, World.ownsRow_nil _ _ _ _, h.told, fun b hm => ⟨(h.box b hm).1, (h.box b hm).2.1, by simp [Value.ownBlock], (h.box b hm).2.2.2⟩, h.nd⟩
theorem Mem.oneE {k : Nat} {e : Evt} (h : Mem w0 W base S E v u ((k, EvtT, (evtL e).toArray) :: bx)) : Mem w0 W base S [e] v (.slice (some ⟨k, 0, none⟩) 1 1) bx := by
  have n1 := List.pairwise_cons.1 h.nd
  have hk := h.box _ List.mem_cons_self
  have ho := own_row1 (base := base) (n := 1) hk.1 hk.2.1 (by unfold maxLen; omega) 8 rfl
  refine ⟨h.pre, h.below, h.low, h.sent, ?_, fun b hm => ⟨(h.box b (List.mem_cons_of_mem _ hm)).1, (h.box b (List.mem_cons_of_mem _ hm)).2.1, (h.box b (List.mem_cons_of_mem _ hm)).2.2.1, fun e2 => ?_⟩, n1.2⟩
  · show W.ownsRow base EvtT 8 _ 1 (evts [e])
    unfold evts
    rw [List.flatMap_cons, List.flatMap_nil, List.append_nil]
    exact ho
  · simp [Value.ownBlock] at e2
    exact n1.1 b hm e2
abbrev SideT : TypeId := 109
def SideR (w w' : World) (base g : Nat) (T : Sd) (bx : List Bk) : Prop := ∃ v u, Mem w w' base T.sent T.told v u ((g, SideT, (sdL T v u).toArray) :: bx)
theorem secInfo : (Tryd.prog.info? SecT).map (fun i => (i.zero, i.size)) = some (some (.agg (secL sec0).toArray), 13) := by kernel_rfl
theorem evtInfo : (Tryd.prog.info? EvtT).map (fun i => (i.zero, i.size)) = some (some (.agg (evtL evt0).toArray), 8) := by kernel_rfl
theorem secBytes : ((Tryd.prog.info? SecT).map (·.bytes)).getD 0 ≤ 1024 := by decide +kernel
theorem evtBytes : ((Tryd.prog.info? EvtT).map (·.bytes)).getD 0 ≤ 1024 := by decide +kernel
theorem wpList_app_sec {ops : Array Oper} {rest : List Oper} {dst : Option Tmp} {tt : TypeId} {x y : Operand} {pos : String} {after : Array Edge} {a : Act} {Q : Exit → Act → World → Prop} {k c : Nat} (d : Sec)
    (h : Mem w0 W base S E v u bx) (hs : a.eval x = v) (hx : a.eval y = .slice (some ⟨k, 0, none⟩) 1 c) (hG : Blk W k SecT (secL d).toArray) (hl : S.length ≤ 1000)
    (K : ∀ v' w', Mem w0 w' base (S ++ [d]) E v' u bx → wpList Tryd.prog ops Q rest (a.put dst v') w') :
    wpList Tryd.prog ops Q ({ dst := dst, op := .call { callee := .builtin .append, args := #[x, y], argTypes := #[46, 46] }, type := tt, pos := pos, after := after, guard := none } :: rest) a W := by
  have hb := secBytes
  have hi := secInfo
  cases hq : Tryd.prog.info? SecT with
  | none => rw [hq] at hi; cases hi
  | some i =>
    rw [hq] at hi hb
    have hi2 := Option.some.inj hi
    injection hi2 with hz hsz
    have hb2 : i.bytes ≤ 1024 := hb
    refine wpList_append_own_at W rfl x y 46 rfl base SecT i _ 13 i.bytes Tryd.underlying46 hq hz hsz rfl rfl (by decide) v S.length (secs S) hs h.sent ⟨k, 0, none⟩ 1 c (secL d) hx rfl (fun j u2 hj => ?_) (one_leaf (sec_one d)) (by unfold maxLen; omega) ?_ h.low fun v' w' h2 h3 _ h5 => K v' w' (h.app h2 h3 h5)
    · rw [add_zero_, hG.cell]
      simpa using hj
    · have := Nat.mul_le_mul (show S.length + 1 ≤ 1001 by omega) hb2
      omega
theorem wpList_app_evt {ops : Array Oper} {rest : List Oper} {dst : Option Tmp} {tt : TypeId} {x y : Operand} {pos : String} {after : Array Edge} {a : Act} {Q : Exit → Act → World → Prop} {k c : Nat} (d : Evt)
    (h : Mem w0 W base S E v u bx) (hs : a.eval x = u) (hx : a.eval y = .slice (some ⟨k, 0, none⟩) 1 c) (hG : Blk W k EvtT (evtL d).toArray) (hl : E.length ≤ 1000)
    (K : ∀ u' w', Mem w0 w' base S (E ++ [d]) v u' bx → wpList Tryd.prog ops Q rest (a.put dst u') w') :
    wpList Tryd.prog ops Q ({ dst := dst, op := .call { callee := .builtin .append, args := #[x, y], argTypes := #[47, 47] }, type := tt, pos := pos, after := after, guard := none } :: rest) a W := by
  have hb := evtBytes
  have hi := evtInfo
  cases hq : Tryd.prog.info? EvtT with
  | none => rw [hq] at hi; cases hi
  | some i =>
    rw [hq] at hi hb
    have hi2 := Option.some.inj hi
    injection hi2 with hz hsz
    have hb2 : i.bytes ≤ 1024 := hb
    refine wpList_append_own_at W rfl x y 47 rfl base EvtT i _ 8 i.bytes Tryd.underlying47 hq hz hsz rfl rfl (by decide) u E.length (evts E) hs h.told ⟨k, 0, none⟩ 1 c (evtL d) hx rfl (fun j u2 hj => ?_) (one_leaf (evt_one d)) (by unfold maxLen; omega) ?_ h.low fun v' w' h2 h3 _ h5 => K v' w' (h.appE h2 h3 h5)
    · rw [add_zero_, hG.cell]
      simpa using hj
    · have := Nat.mul_le_mul (show E.length + 1 ≤ 1001 by omega) hb2
      omega
end
end Go.Proofs.YtihmbcnccdiecaaDoor
namespace Go.Proofs.YtihmbcnccdiecaaDoor
set_option maxRecDepth 100000
theorem es9 {α : Sort _} {a b : α} (h : a = b := by ((try unfold Sd.call); (try unfold Sd.take); (try unfold Sd.open_); (try unfold Sd.toChecks); (try unfold Sd.identity); (try unfold Sd.choose); (try dsimp only); (repeat' (split <;> (first | (exfalso; rename_i hh; first | exact absurd (by assumption) hh | exact absurd hh (by assumption) | exact absurd hh (bnt (by assumption)) | exact absurd hh (bnf (by assumption)) | omega | exact hh rfl | exact absurd hh (by decide) | exact absurd hh.1 (bnt (by assumption)) | exact absurd hh.2 (bnt (by assumption)) | exact absurd hh.1 (by assumption) | exact absurd hh.2 (by assumption) | exact absurd hh.2.1 (bnt (by assumption)) | exact hh ⟨by assumption, by assumption⟩ | exact hh ⟨by assumption, by omega⟩ | exact hh (.inl (by assumption)) | exact hh (.inr (by assumption)) | exact hh (.inr (.inl (by assumption))) | exact hh (.inr (.inr (by assumption))) | exact hh (.inl (fun k => absurd (by assumption) k)) | (rcases hh with hh | hh <;> first | exact absurd (by assumption) hh | exact absurd hh (by assumption) | exact absurd hh (bnt (by assumption)) | exact absurd hh (bnf (by assumption)) | omega) | (rcases hh with hh | hh | hh <;> first | exact absurd (by assumption) hh | exact absurd hh (by assumption) | exact absurd hh (bnt (by assumption)) | exact absurd hh (bnf (by assumption)) | omega)) | skip))); all_goals rfl)) : a = b := h
end Go.Proofs.YtihmbcnccdiecaaDoor
namespace Go.Proofs.YtihmbcnccdiecaaDoor
set_option maxRecDepth 100000
open Go.ChangeShapes Go.WideShapes Go.ChangeAt Go.RowKit
set_option linter.unusedVariables false
set_option linter.unusedSimpArgs false
theorem own_slice {w : World} {base n size : Nat} {e : TypeId} {v : Value} {xs : List Value} (h : w.ownsRow base e size v n xs) : v.cells = #[v] ∧ v.oneCell' = true := by
  rcases h.2 with ⟨rfl, _⟩ | ⟨g, cap, cur, rfl, _⟩ <;> exact ⟨rfl, rfl⟩
section
variable {w0 W W' : World} {base : Nat} {S : List Sec} {E : List Evt} {v u : Value} {bx : List Bk}
theorem Mem.vc (h : Mem w0 W base S E v u bx) : v.cells = #[v] := (own_slice h.sent).1
theorem Mem.v1 (h : Mem w0 W base S E v u bx) : v.oneCell' = true := (own_slice h.sent).2
theorem Mem.uc (h : Mem w0 W base S E v u bx) : u.cells = #[u] := (own_slice h.told).1
theorem Mem.u1 (h : Mem w0 W base S E v u bx) : u.oneCell' = true := (own_slice h.told).2
theorem run_store_one {P : Program} {w : World} {ty : TypeId} {g o : Nat} {t : TypeId} {cs : Array Value} {v : Value} (hG : Blk w g t cs) (hc : v.cells = #[v]) (hi : (P.info? ty).map (·.size) = some 1) (h1 : v.oneCell' = true) (hn : o < cs.size) :
    ∃ w', (storeVar ty ⟨g, o, none⟩ v).run P w = .ok () w' ∧ Blk w' g t (cs.setIfInBounds o v) ∧ Upd g w w' := by
  have hth := blk_there hG o 1 (by omega)
  have hs : (store ⟨g, o, none⟩ v .plain).run P w = .ok () (w.setCell ⟨g, o, none⟩ v) := by
    rw [run_store P w _ v .plain h1]
    have := hth 0 (by omega)
    simp only [Nat.add_zero] at this
    obtain ⟨u, hu⟩ := Option.isSome_iff_exists.1 this.1
    simp [hu, this.2]
  cases hq : P.info? ty with
  | none => simp [hq] at hi
  | some i =>
    have hsz : i.size = 1 := by simpa [hq] using hi
    refine ⟨_, ?_, hG.set_ o v, ⟨rfl, rfl, rfl, by simp [World.setCell], fun k hk => Below.heap_setCell w ⟨g, o, none⟩ v k hk⟩⟩
    simp [storeVar, sizeOf, typeInfo, hq, hc, hsz, storeCells, Addr.add, hs]
theorem Mem.hole1 {P : Program} {ty t : TypeId} {g : Nat} {cs : Array Value} (o : Nat) (x : Value) (cs' : Array Value) (h : Mem w0 W base S E v u ((g, t, cs) :: bx)) (hc : x.cells = #[x]) (hi : (P.info? ty).map (·.size) = some 1) (h1 : x.oneCell' = true) (hn : o < cs.size) (he : cs.setIfInBounds o x = cs') :
    ∃ w', (storeVar ty ⟨g, o, none⟩ x).run P W = .ok () w' ∧ Mem w0 w' base S E v u ((g, t, cs') :: bx) := by
  obtain ⟨w', h2, h3, h4⟩ := run_store_one (P := P) h.b0 hc hi h1 hn
  exact ⟨w', h2, h.s0 h4 (he ▸ h3)⟩
theorem Mem.hole {P : Program} {ty t : TypeId} {g : Nat} {cs : Array Value} (o : Nat) (vs : Array Value) (cs' : Array Value) (h : Mem w0 W base S E v u ((g, t, cs) :: bx)) (hi : (P.info? ty).map (·.size) = some vs.size) (h1 : vs.toList.all (·.oneCell') = true) (hn : o + vs.size ≤ cs.size) (he : putAt cs o vs.toList = cs') :
    ∃ w', (storeVar ty ⟨g, o, none⟩ (.agg vs)).run P W = .ok () w' ∧ Mem w0 w' base S E v u ((g, t, cs') :: bx) := by
  obtain ⟨w', h2, h3, h4⟩ := run_store_blk (P := P) h.b0 hi (by rw [← Array.all_toList]; exact h1) hn
  exact ⟨w', h2, h.s0 h4 (he ▸ h3)⟩
end
section
variable {P : Program} {ops : Array Oper} {Q : Exit → Act → World → Prop} {md : Region.Mode} {S0 S S' : World → Prop}
theorem wpU_hole (k : Nat) {o : Oper} {fuel : Nat} {listed : Array Bool} {a : Act} {ty : TypeId} {x y : Operand} {ad : Addr} (v : Value) (ho : ops.toList[k]? = some o) (hop : o.op = .store ty x y)
    (hx : a.eval x = .pointer (some ad)) (hy : a.eval y = v) (hS : ∀ w, S w → ∃ w', (storeVar ty ad v).run P w = .ok () w' ∧ S' w') (hst : Stable S') (h0 : ∀ w, S' w → S0 w)
    (h : wpU P md ops Q fuel S0 S' (listed.setIfInBounds k true) (a.put o.dst undef))
    (hw : Region.wanted o (yielded ops a.tmps) = true := by rfl) (hr : Region.ready md ops listed = [k] := by kernel_rfl) : wpU P md ops Q (fuel + 1) S0 S listed a :=
  wpU_one k ho (fun w hs K hK => by
    obtain ⟨w', hrun, hs'⟩ := hS w hs
    rw [if_pos hw]
    unfold Oper.wp execOp
    simp only [hop, hx, hy, Instr.storeAt, Instr.sureAddr, Sem.run_bind, Sem.run_pure, Result.andThen_ok, hrun]
    exact hK.out S0 _ _ _ (fun _ h => h) hst h0 hs' h) hr
end
section
variable {P : Program} {ops : Array Oper} {Q : Exit → Act → World → Prop} {md : Region.Mode}
def YieldsP (P : Program) (ops : Array Oper) (o : Oper) (v : Value) (a : Act) : Prop := Region.wanted o (yielded ops a.tmps) = true ∧ ∀ w, calm P o a w fun u w' => u = v ∧ w' = w
theorem YieldsP.wpOp {i : Nat} {o : Oper} {v : Value} {a : Act} (hi : ops[i]? = some o) (hy : YieldsP P ops o v a) {K : Act → World → Prop} {w : World} (h : K (a.put o.dst v) w) : wpOp P ops Q i K a w := by
  unfold Go.wpOp
  simp only [hi, hy.1, if_true]
  exact .inl (calm_wp (calm_mono (fun u w' ⟨hu, hb⟩ => by subst hu; subst hb; exact h) (hy.2 w)))
theorem YieldsP.of_same {o : Oper} {v : Value} {a a' : Act} (hy : YieldsP P ops o v a) (he : execOp a'.eval o = execOp a.eval o)
    (hw : Region.wanted o (yielded ops a'.tmps) = Region.wanted o (yielded ops a.tmps)) : YieldsP P ops o v a' := by
  unfold YieldsP calm at *
  rw [he, hw]
  exact hy
theorem wpOp_putP {j : Nat} {oi oj : Oper} {v : Value} (hj : ops[j]? = some oj) (hap : oi.apart ops oj = true)
    (hsi : ∀ cs b, oi.op ≠ .select cs b) (hsj : ∀ cs b, oj.op ≠ .select cs b)
    (hQ : ∀ c a w, Q (.panic c) (a.put oi.dst v) w → Q (.panic c) a w) {K : Act → World → Prop} {a : Act} {w : World}
    (hy : YieldsP P ops oi v a) (h : wpOp P ops Q j K (a.put oi.dst v) w) :
    wpOp P ops Q j (fun a' w' => YieldsP P ops oi v a' ∧ K (a'.put oi.dst v) w') a w := by
  obtain ⟨h1, h2, h3⟩ := Oper.apart_spec hap
  have keep : ∀ (a : Act), YieldsP P ops oi v a → ∀ u, YieldsP P ops oi v (a.put oj.dst u) := fun a hy u =>
    hy.of_same (execOp_put oi hsi a oj.dst u h3) (wanted_put oi a oj.dst u h3)
  have keepD : ∀ d, YieldsP P ops oi v { a with defers := d :: a.defers } := fun d => hy.of_same rfl rfl
  unfold wpOp at *
  simp only [hj] at *
  rw [wanted_put oj a oi.dst v h1] at h
  split
  · rename_i hw
    simp only [hw, if_true] at h
    rcases h with h | ⟨hasks, hlets⟩
    case inr => exact .inr ⟨by unfold Oper.asks at *; rw [execOp_put oj hsj a oi.dst v h1] at hasks; exact hasks, hlets⟩
    refine .inl ?_
    unfold Oper.wp at *
    rw [execOp_put oj hsj a oi.dst v h1] at h
    generalize (execOp a.eval oj).run P w = r at *
    cases r with
    | ok n w' =>
      cases n <;> simp only [Oper.upon] at h ⊢
      case value u => exact ⟨keep a hy u, by rw [← Act.put_comm a v u h2]; exact h⟩
      case skip => exact ⟨keep a hy _, by rw [← Act.put_comm a v undef h2]; exact h⟩
      case defer d =>
        refine ⟨keep _ (keepD d) _, ?_⟩
        rw [← Act.put_comm _ v undef h2, ← Act.put_defers]
        exact h
      case enter f args =>
        refine Calls.mono h fun e w'' he => ?_
        cases e with
        | returned u => exact ⟨keep a hy u, by rw [← Act.put_comm a v u h2]; exact he⟩
        | panicked c => exact hQ _ _ _ he
        | outgrown => exact he
      case row row args => exact Rows.mono h fun u w'' he => ⟨keep a hy u, by rw [← Act.put_comm a v u h2]; exact he⟩
    | halt x w' =>
      cases x <;> simp only [Oper.upon] at h ⊢
      case panic u => exact hQ _ _ _ h
  · rename_i hw
    simp only [hw] at h
    exact ⟨keep a hy _, by rw [← Act.put_comm a v undef h2]; exact h⟩
theorem wpAny_firstP {i : Nat} {oi : Oper} {v : Value} (hi : ops[i]? = some oi) (hsel : ∀ (j : Nat) (o : Oper) cs b, ops[j]? = some o → o.op ≠ .select cs b)
    (hQ : ∀ c a w, Q (.panic c) (a.put oi.dst v) w → Q (.panic c) a w) :
    ∀ (fuel : Nat) (listed : Array Bool) (a : Act) (w : World),
      (∀ j oj, ops[j]? = some oj → j ≠ i → listed.getD j true = false → (∀ e ∈ oj.after, Region.binds md e = true → e.on ≠ i) → oi.apart ops oj = true) →
      i ∈ Region.ready md ops listed → YieldsP P ops oi v a → wpAny P md ops Q fuel (listed.setIfInBounds i true) (a.put oi.dst v) w → wpAny P md ops Q (fuel + 1) listed a w := by
  intro fuel
  induction fuel with
  | zero =>
    intro listed a w _ hr hy H
    refine ⟨fun h => (by rw [h] at hr; cases hr), fun j hj => ?_⟩
    by_cases hji : j = i
    · subst hji; exact hy.wpOp hi H
    · have := ready_mono hj hji
      rw [H.1] at this
      cases this
  | succ fuel ih =>
    intro listed a w hfree hr hy H
    refine ⟨fun h => (by rw [h] at hr; cases hr), fun j hj => ?_⟩
    by_cases hji : j = i
    · subst hji; exact hy.wpOp hi H
    · have h1 := H.2 j (ready_mono hj hji)
      obtain ⟨hjun, oj, hoj, hall⟩ := mem_ready.1 hj
      have hnot : ∀ e ∈ oj.after, Region.binds md e = true → e.on ≠ i := fun e he hb heq => by
        have h1 := hall e he hb
        have h0 := (mem_ready.1 hr).1
        rw [heq] at h1
        rcases Nat.lt_or_ge i listed.size with h' | h'
        · simp [h'] at h0 h1; rw [h0] at h1; cases h1
        · simp [Array.getElem?_eq_none h'] at h1
      have h2 := wpOp_putP hoj (hfree j oj hoj hji hjun hnot) (fun cs b => hsel i oi cs b hi) (fun cs b => hsel j oj cs b hoj) hQ hy h1
      have hfree' : ∀ k ok, ops[k]? = some ok → k ≠ i → (listed.setIfInBounds j true).getD k true = false →
          (∀ e ∈ ok.after, Region.binds md e = true → e.on ≠ i) → oi.apart ops ok = true := fun k ok hk hki hun hno => by
        refine hfree k ok hk hki ?_ hno
        by_cases hjk : j = k
        · subst hjk; exact hjun
        · rw [getD_set_ne true hjk] at hun; exact hun
      refine wpOp_mono (fun a' w' ⟨hya, hW'⟩ => ih (listed.setIfInBounds j true) a' w' hfree' (ready_mono hr (Ne.symm hji)) hya ?_) h2
      rw [Array.setIfInBounds_comm _ _ hji]
      exact hW'
theorem wpAny_pure (i : Nat) {oi : Oper} {v : Value} {fuel : Nat} {listed : Array Bool} {a : Act} {w : World} (hi : ops.toList[i]? = some oi)
    (hy : ∀ w, ∀ K : Value → World → Prop, Kept (K v w) → calm P oi a w K)
    (h : wpAny P md ops Q fuel (listed.setIfInBounds i true) (a.put oi.dst v) w)
    (hs : Region.noSelect ops = true := by kernel_rfl) (hf : Region.free md ops listed i = true := by kernel_rfl) (hr : (Region.ready md ops listed).contains i = true := by kernel_rfl)
    (hQ : ∀ c a w, Q (.panic c) (a.put oi.dst v) w → Q (.panic c) a w := by exact fun _ _ _ h => h) (hw : Region.wanted oi (yielded ops a.tmps) = true := by rfl) : wpAny P md ops Q (fuel + 1) listed a w :=
  wpAny_firstP (by rw [← hi, Array.getElem?_toList]) (Region.noSelect_spec hs) hQ fuel listed a w (Region.free_spec (by rw [← hi, Array.getElem?_toList]) hf) (by simpa using hr) ⟨hw, fun w => hy w _ ⟨rfl, rfl⟩⟩ h
theorem wpAny_one (k : Nat) {o : Oper} {fuel : Nat} {listed : Array Bool} {a : Act} {w : World} (ho : ops.toList[k]? = some o)
    (h : ∀ K : Act → World → Prop, Kept (∀ a' w', wpAny P md ops Q fuel (listed.setIfInBounds k true) a' w' → K a' w') → if Region.wanted o (yielded ops a.tmps) = true then Oper.wp P o a w K Q else K (a.put o.dst undef) w)
    (hr : Region.ready md ops listed = [k] := by kernel_rfl) : wpAny P md ops Q (fuel + 1) listed a w := by
  refine ⟨fun h0 => (by rw [hr] at h0; cases h0), fun i hi => ?_⟩
  rw [hr] at hi
  obtain rfl : i = k := by simpa using hi
  exact wpOp_step (by rw [← ho, Array.getElem?_toList]) fun K' hK => h K' hK
theorem wpAny_two (i j : Nat) {oi oj : Oper} {fuel : Nat} {listed : Array Bool} {a : Act} {w : World} (hoi : ops.toList[i]? = some oi) (hoj : ops.toList[j]? = some oj)
    (h1 : ∀ K : Act → World → Prop, Kept (∀ a' w', wpAny P md ops Q fuel (listed.setIfInBounds i true) a' w' → K a' w') → if Region.wanted oi (yielded ops a.tmps) = true then Oper.wp P oi a w K Q else K (a.put oi.dst undef) w)
    (h2 : ∀ K : Act → World → Prop, Kept (∀ a' w', wpAny P md ops Q fuel (listed.setIfInBounds j true) a' w' → K a' w') → if Region.wanted oj (yielded ops a.tmps) = true then Oper.wp P oj a w K Q else K (a.put oj.dst undef) w)
    (hr : Region.ready md ops listed = [i, j] := by kernel_rfl) : wpAny P md ops Q (fuel + 1) listed a w := by
  refine ⟨fun h0 => (by rw [hr] at h0; cases h0), fun k hk => ?_⟩
  rw [hr] at hk
  rcases List.mem_cons.1 hk with rfl | hk
  · exact wpOp_step (by rw [← hoi, Array.getElem?_toList]) fun K' hK => h1 K' hK
  · obtain rfl : k = j := by simpa using hk
    exact wpOp_step (by rw [← hoj, Array.getElem?_toList]) fun K' hK => h2 K' hK
theorem wpAny_seq (n : Nat) {fuel : Nat} {listed : Array Bool} {a : Act} {w : World} (h : wpList P ops Q (ops.toList.drop n) a w)
    (hB : Region.seqB md ops (ops.toList.drop n).length n listed = true := by kernel_rfl) (hl : (ops.toList.drop n).length = fuel := by rfl) : wpAny P md ops Q fuel listed a w := by
  subst hl
  exact wpAny_of_seq (ops.toList.drop n) n listed a w (fun j => by simp [List.getElem?_drop]) hB h
theorem wp_region_y {id : Nat} {a : Act} {w : World} (n : Nat) (h : ∀ W, W = w.drew → wpAny P .any ops Q n (Array.replicate n false) a W) (hn : ops.size = n := by rfl) (hm : P.follows .mixedOrders = true := by kernel_rfl) : (Code.region id ops true).wp P Q a w := by
  subst hn
  exact wp_region_any hm (h _ rfl)
end
end Go.Proofs.YtihmbcnccdiecaaDoor
namespace Go.Proofs.YtihmbcnccdiecaaDoor
set_option maxRecDepth 100000
open Go.ChangeShapes Go.WideShapes Go.ChangeAt Go.RowKit Go.MapKept
set_option linter.unusedVariables false
set_option linter.unusedSimpArgs false
def MkMap (W : World) (l : List MapEntry) (c : Nat) : World := W.alloc (.map l.toArray c)
section
variable {P : Program} {ops : Array Oper} {Q : Exit → Act → World → Prop} {md : Region.Mode}
theorem wpAny_st {S' : World → Prop} {o : Oper} {a : Act} {w : World} {ty : TypeId} {x y : Operand} {ad : Addr} (v : Value) {R : Act → World → Prop} {K : Act → World → Prop} (hop : o.op = .store ty x y)
    (hS : ∃ w', (storeVar ty ad v).run P w = .ok () w' ∧ S' w') (h : ∀ w', S' w' → R (a.put o.dst undef) w') (hK : Kept (∀ a' w', R a' w' → K a' w'))
    (hx : a.eval x = .pointer (some ad)) (hy : a.eval y = v) (hw : Region.wanted o (yielded ops a.tmps) = true) : if Region.wanted o (yielded ops a.tmps) = true then Oper.wp P o a w K Q else K (a.put o.dst undef) w := by
  obtain ⟨w', hrun, hs'⟩ := hS
  rw [if_pos hw]
  unfold Oper.wp execOp
  simp only [hop, hx, hy, Instr.storeAt, Instr.sureAddr, Sem.run_bind, Sem.run_pure, Result.andThen_ok, hrun]
  exact hK.out _ _ (h w' hs')
theorem wpAny_end {fuel : Nat} {listed : Array Bool} {a : Act} {w : World} (h : Q .normal a w) (hr : Region.ready md ops listed = [] := by kernel_rfl) : wpAny P md ops Q fuel listed a w := by
  cases fuel with
  | zero => exact ⟨hr, h⟩
  | succ n => exact ⟨fun _ => h, by rw [hr]; simp⟩
theorem Mem.start {w : World} (h : Laid w) : Mem w w w.heap.size [] [] (.slice none 0 0) (.slice none 0 0) [] :=
  ⟨⟨h, h.lt⟩, Below.refl _ _, Nat.le_refl _, own_nil _ _ _ _, own_nil _ _ _ _, by simp, .nil⟩
def OutR (w w' : World) (q : Pr) (out : List Sec) (ev : List Evt) (e : Ending) : Prop :=
  ∃ v u, e = .returned (.tuple #[.agg (prL q).toArray, v, u]) ∧ Below w.heap.size w w' ∧ w'.ownsRow w.heap.size SecT 13 v out.length (secs out) ∧ w'.ownsRow w.heap.size EvtT 8 u ev.length (evts ev)
def OutS (w w' : World) (q : Pr) (out : List Sec) (er : Int) (e : Ending) : Prop :=
  ∃ v, e = .returned (.tuple #[.agg (prL q).toArray, v, .int .i64 er]) ∧ Below w.heap.size w w' ∧ w'.ownsRow w.heap.size SecT 13 v out.length (secs out)
end
section
variable {P : Program} {ops : Array Oper} {rest : List Oper} {dst : Option Tmp} {tt t k e : TypeId} {pos : String} {after : Array Edge} {a : Act} {w W : World} {Q : Exit → Act → World → Prop} {m x y : Operand}
theorem wpList_bld {parts : Array (Nat × Operand)} (l : List (Nat × Value)) (cs : Array Value) (hl : (parts.map fun p => (p.1, a.eval p.2)).toList = l) (hb : P.built t l = some cs) (h : wpList P ops Q rest (a.put dst (.agg cs)) w) :
    wpList P ops Q ({ dst := dst, op := .build t parts, type := tt, pos := pos, after := after, guard := none } :: rest) a w := by
  refine wpList_plain rfl fun K' hK' => ?_
  have hr := run_build (P := P) w t (parts.map fun p => (p.1, a.eval p.2)) cs (by rw [hl]; exact hb)
  unfold Oper.wp
  have he : execOp a.eval { dst := dst, op := .build t parts, type := tt, pos := pos, after := after, guard := none } = (do let v ← Instr.build t (parts.map fun p => (p.1, a.eval p.2)); pure (.value v)) := rfl
  rw [he]
  simp only [Sem.run_bind, hr, Result.andThen, Sem.run_pure]
  exact hK' _ _ h
theorem wpList_mkmap (h : wpList P ops Q rest (a.put dst (.map (some W.heap.size))) (MkMap W [] 0)) :
    wpList P ops Q ({ dst := dst, op := .makeMap t none, type := tt, pos := pos, after := after, guard := none } :: rest) a W := by
  refine wpList_plain rfl fun K' hK' => ?_
  unfold Oper.wp
  simp [execOp, run_makeMap, Result.andThen]
  exact hK' _ _ h
theorem run_ins (ht : P.underlying t = some (.map k e)) (hk : P.underlying k = some (.int .i64)) (W : World) (l : List MapEntry) (c : Nat) (key : Int) (v : Value) (hf : Instr.findNow (.int .i64) (.int .i64 key) l 0 = some none) :
    (Instr.mapUpdate t (.map (some W.heap.size)) (.int .i64 key) v).run P (MkMap W l c) = .ok () (MkMap W (l ++ [{ key := .int .i64 key, val := v, born := c }]) (c + 1)) := by
  have hb : (MkMap W l c).heap[W.heap.size]? = some (.map l.toArray c) := (heap_alloc W _).1
  have hs : (setObj W.heap.size (.map (l.toArray.push ({ key := .int .i64 key, val := v, born := c } : MapEntry)) (c + 1))).run P (MkMap W l c) = .ok () (MkMap W (l ++ [{ key := .int .i64 key, val := v, born := c }]) (c + 1)) := by
    rw [run_setObj_map _ hb]
    have e1 : (W.heap.push (.map l.toArray c)).setIfInBounds W.heap.size (.map (l.toArray.push ({ key := .int .i64 key, val := v, born := c } : MapEntry)) (c + 1)) = W.heap.push (.map (l ++ [({ key := .int .i64 key, val := v, born := c } : MapEntry)]).toArray (c + 1)) := by
      apply Array.ext'
      simp [List.set_append]
    show Result.ok () { W with heap := (W.heap.push (.map l.toArray c)).setIfInBounds W.heap.size (.map (l.toArray.push ({ key := .int .i64 key, val := v, born := c } : MapEntry)) (c + 1)) } = Result.ok () { W with heap := W.heap.push (.map (l ++ [({ key := .int .i64 key, val := v, born := c } : MapEntry)]).toArray (c + 1)) }
    rw [e1]
  unfold Instr.mapUpdate
  simp only [Sem.run_bind, run_underlying ht, Result.andThen, Go.MapKept.run_getObj_map (P := P) hb, run_checkKey (P := P) hk (show IsKey (.int .i64) (.int .i64 key) by simp [IsKey]), run_findKey (P := P) hk hf, hs]
theorem wpList_ins {l : List MapEntry} {c : Nat} {key : Int} {v : Value} (hm : a.eval m = .map (some W.heap.size)) (hx : a.eval x = .int .i64 key) (hv : a.eval y = v) (ht : P.underlying t = some (.map k e)) (hk : P.underlying k = some (.int .i64))
    (hf : Instr.findNow (.int .i64) (.int .i64 key) l 0 = some none) (h : wpList P ops Q rest (a.put dst undef) (MkMap W (l ++ [{ key := .int .i64 key, val := v, born := c }]) (c + 1))) :
    wpList P ops Q ({ dst := dst, op := .insert t m x y, type := tt, pos := pos, after := after, guard := none } :: rest) a (MkMap W l c) := by
  refine wpList_plain rfl fun K' hK' => ?_
  unfold Oper.wp
  simp [execOp, hm, hx, hv, run_ins ht hk W l c key v hf, Result.andThen]
  exact hK' _ _ h
theorem wpList_ins_last {l : List MapEntry} {c : Nat} {key : Int} {v : Value} (L : List MapEntry) (C : Nat) (hm : a.eval m = .map (some W.heap.size)) (hx : a.eval x = .int .i64 key) (hv : a.eval y = v) (ht : P.underlying t = some (.map k e)) (hk : P.underlying k = some (.int .i64))
    (hf : Instr.findNow (.int .i64) (.int .i64 key) l 0 = some none) (hL : l ++ [{ key := .int .i64 key, val := v, born := c }] = L) (hC : c + 1 = C)
    (h : ∀ w', Below W.heap.size W w' → w'.heap[W.heap.size]? = some (.map L.toArray C) → wpList P ops Q rest (a.put dst undef) w') :
    wpList P ops Q ({ dst := dst, op := .insert t m x y, type := tt, pos := pos, after := after, guard := none } :: rest) a (MkMap W l c) := by
  subst hL; subst hC
  exact wpList_ins hm hx hv ht hk hf (h _ ((Below.refl _ _).alloc (Nat.le_refl _) _) (heap_alloc W _).1)
theorem run_look {b c : Nat} {l : List MapEntry} (ht : P.underlying t = some (.map k e)) (hk : P.underlying k = some (.int .i64)) (hb : w.heap[b]? = some (.map l.toArray c)) (key : Int) (r : Option (Nat × Value)) (z : Value)
    (hf : Instr.findNow (.int .i64) (.int .i64 key) l 0 = some r) (hz : (zeroValue e).run P w = .ok z w) :
    (Instr.lookup t (.map (some b)) (.int .i64 key) true).run P w = .ok (match r with | some (_, v) => .tuple #[v, .bool true] | none => .tuple #[z, .bool false]) w := by
  unfold Instr.lookup
  simp only [Sem.run_bind, run_underlying ht, Result.andThen, Go.MapKept.run_getObj_map (P := P) hb, Sem.run_pure, run_checkKey (P := P) hk (show IsKey (.int .i64) (.int .i64 key) by simp [IsKey]), run_findKey (P := P) hk hf]
  cases r with
  | none => simp [Result.andThen, hz]
  | some p => obtain ⟨i, v⟩ := p; simp [Result.andThen]
theorem wpList_look {b c : Nat} {l : List MapEntry} {key : Int} (r : Option (Nat × Value)) (z v : Value) (hb : w.heap[b]? = some (.map l.toArray c)) (hm : a.eval m = .map (some b)) (hx : a.eval x = .int .i64 key) (ht : P.underlying t = some (.map k e)) (hk : P.underlying k = some (.int .i64))
    (hf : Instr.findNow (.int .i64) (.int .i64 key) l 0 = some r) (hz : (zeroValue e).run P w = .ok z w) (hv : (match r with | some (_, v) => .tuple #[v, .bool true] | none => .tuple #[z, .bool false]) = v)
    (h : wpList P ops Q rest (a.put dst v) w) :
    wpList P ops Q ({ dst := dst, op := .lookup t m x true, type := tt, pos := pos, after := after, guard := none } :: rest) a w := by
  refine wpList_plain rfl fun K' hK' => ?_
  subst hv
  unfold Oper.wp
  simp [execOp, hm, hx, run_look ht hk hb key r z hf hz, Result.andThen]
  exact hK' _ _ h
end
end Go.Proofs.YtihmbcnccdiecaaDoor
namespace Go.Proofs.YtihmbcnccdiecaaDoor
set_option maxRecDepth 100000
open Go.ChangeShapes Go.WideShapes Go.ChangeAt Go.RowKit Go.MapKept
set_option linter.unusedVariables false
set_option linter.unusedSimpArgs false
def ownsAt (W : World) (base : Nat) (e : TypeId) (size : Nat) (v : Value) (n : Nat) (xs : List Value) : Prop :=
  xs.length = n * size ∧ ((v = .slice none 0 0 ∧ n = 0) ∨
   ∃ g off cap cur, v = .slice (some ⟨g, off, none⟩) n cap ∧ base ≤ g ∧ W.heap[g]? = some (.cells cur e (0, 0)) ∧ n ≤ cap ∧ cap ≤ maxLen ∧ off + cap * size ≤ cur.size ∧ (cur.toList.drop off).take (n * size) = xs)
section
variable {W W' : World} {base n size : Nat} {e : TypeId} {v : Value} {xs : List Value}
theorem ownsAt.nil (W : World) (base : Nat) (e : TypeId) (size : Nat) : ownsAt W base e size (.slice none 0 0) 0 [] := ⟨by simp, .inl ⟨rfl, rfl⟩⟩
theorem ownsAt.of (h : W.ownsRow base e size v n xs) : ownsAt W base e size v n xs := by
  obtain ⟨h1, h2⟩ := h
  refine ⟨h1, ?_⟩
  rcases h2 with h2 | ⟨g, cap, cur, q1, q2, q3, q4, q5, q6, q7⟩
  · exact .inl h2
  · exact .inr ⟨g, 0, cap, cur, q1, q2, q3, q4, q5, by omega, by simpa using q7⟩
theorem ownsAt.mono {base' : Nat} (h : ownsAt W base e size v n xs) (hb : base' ≤ base) : ownsAt W base' e size v n xs := by
  obtain ⟨h1, h2⟩ := h
  refine ⟨h1, ?_⟩
  rcases h2 with h2 | ⟨g, off, cap, cur, q1, q2, q3, q4, q5, q6, q7⟩
  · exact .inl h2
  · exact .inr ⟨g, off, cap, cur, q1, by omega, q3, q4, q5, q6, q7⟩
theorem ownsAt.lt (h : ownsAt W base e size v n xs) : ∀ k, v.ownBlock = some k → base ≤ k ∧ k < W.heap.size := by
  rcases h.2 with ⟨rfl, _⟩ | ⟨g, off, cap, cur, rfl, q2, q3, _⟩
  · intro k hk; exact absurd hk (by simp [Value.ownBlock])
  · intro k hk
    have : g = k := by simpa [Value.ownBlock] using hk
    subst this
    exact ⟨q2, (Array.getElem?_eq_some_iff.1 q3).1⟩
theorem ownsAt.same (h : ownsAt W base e size v n xs) (hb : ∀ k, v.ownBlock = some k → W'.heap[k]? = W.heap[k]?) : ownsAt W' base e size v n xs := by
  obtain ⟨h1, h2⟩ := h
  refine ⟨h1, ?_⟩
  rcases h2 with h2 | ⟨g, off, cap, cur, q1, q2, q3, q4, q5, q6, q7⟩
  · exact .inl h2
  · exact .inr ⟨g, off, cap, cur, q1, q2, by rw [hb g (by rw [q1]; rfl)]; exact q3, q4, q5, q6, q7⟩
theorem ownsAt.to (h : ownsAt W base e size v n xs) (hb : Below W.heap.size W W') : ownsAt W' base e size v n xs := h.same fun k hk => hb.block k (h.lt k hk).2
theorem ownsAt.upd {g : Nat} (h : ownsAt W base e size v n xs) (hU : Upd g W W') (hne : v.ownBlock ≠ some g) : ownsAt W' base e size v n xs := h.same fun k hk => hU.block k (fun e => hne (by rw [hk, e]))
theorem ownsAt.kept {row : Option Nat} (h : ownsAt W base e size v n xs) (hg : W.grownBy W' row) (hne : ∀ k, v.ownBlock = some k → row ≠ some k) : ownsAt W' base e size v n xs :=
  h.same fun k hk => hg.block k (h.lt k hk).2 (fun e => hne k hk e.symm)
theorem ownsAt.slice (h : ownsAt W base e size v n xs) : ∃ A c, v = .slice A n c ∧ v.cells = #[v] ∧ v.oneCell' = true := by
  rcases h.2 with ⟨rfl, rfl⟩ | ⟨g, off, cap, cur, rfl, _⟩ <;> exact ⟨_, _, rfl, rfl, rfl⟩
theorem ownsAt.rd {A : Option Addr} {c : Nat} (h : ownsAt W base e size (.slice A n c) n xs) : Rd W A xs := fun j u hu => by
  rcases h.2 with ⟨q1, q2⟩ | ⟨g, off, cap, cur, q1, q2, q3, q4, q5, q6, q7⟩
  · have : xs.length = 0 := by rw [h.1, q2]; simp
    rw [List.length_eq_zero_iff.1 this] at hu
    simp at hu
  · injection q1 with q1 _ _
    have hj : j < n * size := by
      rw [← h.1]
      exact (List.getElem?_eq_some_iff.1 hu).1
    refine ⟨_, q1, (Array.getElem?_eq_some_iff.1 q3).1, ?_⟩
    rw [← q7, List.getElem?_take, if_pos hj, List.getElem?_drop] at hu
    have hc : W.cell? ⟨g, off + j, none⟩ = cur[off + j]? := by simp [World.cell?, q3]
    show W.cell? (Addr.add ⟨g, off, none⟩ j) = some u
    rw [Addr.add_lit, hc, ← Array.getElem?_toList]
    exact hu
theorem ownsAt.tail {m : Nat} {A : Option Addr} {c : Nat} {ys zs : List Value} (h : ownsAt W base e size (.slice A (m + 1) c) (m + 1) (ys ++ zs)) (hy : ys.length = size) :
    ownsAt W base e size (.slice (if c = 1 then A else A.map (·.add size)) m (c - 1)) m zs ∧ (Value.slice (if c = 1 then A else A.map (·.add size)) m (c - 1)).ownBlock = (Value.slice A (m + 1) c).ownBlock := by
  have hl : zs.length = m * size := by have := h.1; rw [List.length_append, hy, Nat.add_mul] at this; omega
  rcases h.2 with ⟨_, q2⟩ | ⟨g, off, cap, cur, q1, q2, q3, q4, q5, q6, q7⟩
  · exact absurd q2 (by omega)
  · injection q1 with q1 _ qc
    subst qc
    subst q1
    have hm : (m + 1) * size = size + m * size := by rw [Nat.add_mul]; omega
    have hz : (cur.toList.drop (off + size)).take (m * size) = zs := by
      have e1 : ((cur.toList.drop off).take ((m + 1) * size)).drop size = zs := by rw [q7, List.drop_append_of_le_length (by omega)]; rw [← hy]; simp
      rw [← e1, hm, List.drop_take, List.drop_drop]
      congr 1
      omega
    by_cases hc : c = 1
    · subst hc
      have hm0 : m = 0 := by omega
      subst hm0
      refine ⟨⟨hl, .inr ⟨g, off, 0, cur, rfl, q2, q3, Nat.le_refl _, by omega, by omega, ?_⟩⟩, rfl⟩
      have : zs = [] := List.eq_nil_of_length_eq_zero (by simpa using hl)
      rw [this]; simp
    · rw [if_neg hc]
      have hcap : (c - 1) * size + size = c * size := by
        have : c = (c - 1) + 1 := by omega
        rw [show c * size = ((c - 1) + 1) * size by rw [← this], Nat.add_mul]; omega
      refine ⟨⟨hl, .inr ⟨g, off + size, c - 1, cur, ?_, q2, q3, by omega, by omega, by omega, hz⟩⟩, ?_⟩
      · simp [Addr.add_lit]
      · simp [Value.ownBlock, Addr.add_lit]
end
section
variable {P : Program}
theorem run_append_off (w : World) (base : Nat) (t ty e : TypeId) (i : TypeInfo) (z : Value) (ht : P.underlying t = some (.slice e)) (hi : P.info? e = some i) (hz : i.zero = some z) (hzs : z.cells.size = i.size)
    (v : Value) (n : Nat) (xs : List Value) (hown : ownsAt w base e i.size v n xs)
    (a : Addr) (m c : Nat) (news : List Value) (hl : news.length = m * i.size) (hnews : ∀ j u, news[j]? = some u → w.cell? (a.add j) = some u) (h1 : ∀ u ∈ news, u.oneCell' = true) (hm : 0 < m)
    (h63 : n + m ≤ maxLen) (hbytes : (n + m) * i.bytes ≤ 140737488355328) (hbase : base ≤ w.heap.size) :
    ∃ v' w', (Builtin.append_ #[t, t] ty #[v, .slice (some a) m c]).run P w = .ok v' w' ∧ ownsAt w' base e i.size v' (n + m) (xs ++ news) ∧ w.grownBy w' v.ownBlock ∧ (v'.ownBlock = v.ownBlock ∨ v'.ownBlock = some w.heap.size) := by
  have hsmall : n + m ≤ 9223372036854775807 := by simp only [maxLen] at h63; omega
  have hlen : (xs ++ news).length = (n + m) * i.size := by rw [List.length_append, hown.1, hl, Nat.add_mul]
  have grown : ∀ (old : Nat), old < n + m → ∀ (row : Option Nat),
      (w.drew.alloc (.cells (xs.toArray ++ news.toArray ++ Builtin.zeroCells z.cells (grownCap w (n + m) old e - (n + m))) e)).ownsRow base e i.size
        (.slice (some ⟨w.heap.size, 0, none⟩) (n + m) (grownCap w (n + m) old e)) (n + m) (xs ++ news) ∧
      w.grownBy (w.drew.alloc (.cells (xs.toArray ++ news.toArray ++ Builtin.zeroCells z.cells (grownCap w (n + m) old e - (n + m))) e)) row := by
    intro old ho row
    have hge := grownCap_ge w (n + m) old e
    have hcm : grownCap w (n + m) old e ≤ maxLen := grownCap_le_maxLen w (n + m) old e h63
    refine ⟨⟨hlen, .inr ⟨w.heap.size, _, _, rfl, hbase, heap_alloc_new w.drew _, hge, hcm, ?_, ?_⟩⟩, ⟨rfl, rfl, rfl, by simp, fun k hk _ => (heap_alloc w.drew _).2 k hk⟩⟩
    · simp only [Array.size_append, List.size_toArray, size_zeroCells, hzs, hown.1, hl, ← Nat.add_mul]
      congr 1
      omega
    · simp only [Array.toList_append, List.append_assoc]
      rw [← List.append_assoc, ← hlen]
      exact List.take_left
  rcases hown.2 with ⟨rfl, rfl⟩ | ⟨g, off, cap, cur, rfl, hbg, hg, hnc, hcm, hcs, htake⟩
  · have hx : xs = [] := List.eq_nil_of_length_eq_zero (by simpa using hown.1)
    subst hx
    have hr := run_append_nil (P := P) w t ty e i z ht hi hz a m c news hl hnews (by omega) (by omega) (by have hb := hbytes; simp only [Nat.zero_add] at hb; omega)
    have hgr := grown 0 (by omega) (Value.ownBlock (.slice none 0 0))
    simp only [Nat.zero_add, List.nil_append, Array.empty_append] at hgr ⊢
    exact ⟨_, _, hr, .of hgr.1, hgr.2, Or.inr rfl⟩
  · by_cases hroom : n + m ≤ cap
    · have hmul : n * i.size + news.length ≤ cap * i.size := by rw [hl, ← Nat.add_mul]; exact Nat.mul_le_mul_right _ hroom
      have hfit : (off + n * i.size) + news.length ≤ cur.size := by omega
      have hf := run_firstCells_some (P := P) w i.size m a m c news hl hnews
      have hst := run_storeCells_at P g (off + n * i.size) e news 0 cur w hg (by simpa using hfit) h1
      simp only [Nat.add_zero] at hst
      have hr : (Builtin.append_ #[t, t] ty #[.slice (some ⟨g, off, none⟩) n cap, .slice (some a) m c]).run P w =
          .ok (.slice (some ⟨g, off, none⟩) (n + m) cap) (w.setRow g (cur.toList.take (off + n * i.size) ++ news ++ cur.toList.drop (off + n * i.size + news.length)).toArray) := by
        simp [Builtin.append_, run_underlying ht, sizeOf, typeInfo, hi, Builtin.lenOf, hroom, hf, Addr.add_lit, hst]
      refine ⟨_, _, hr, ⟨hlen, .inr ⟨g, off, cap, _, rfl, hbg, setRow_heap w g cur _ e _ hg, hroom, hcm, ?_, ?_⟩⟩, ⟨rfl, rfl, rfl, by simp, fun k _ hk => setRow_other w g k _ (fun e => hk (by simp [Value.ownBlock, e]))⟩, Or.inl rfl⟩
      · simp only [List.size_toArray, List.length_append, List.length_take, List.length_drop, Array.length_toList]
        omega
      · show List.take ((n + m) * i.size) (List.drop off (cur.toList.take (off + n * i.size) ++ news ++ cur.toList.drop (off + n * i.size + news.length))) = xs ++ news
        have hoff : off ≤ (cur.toList.take (off + n * i.size)).length := by rw [List.length_take, Array.length_toList]; omega
        rw [List.append_assoc, List.drop_append_of_le_length hoff, List.drop_take, show off + n * i.size - off = n * i.size by omega, htake, ← List.append_assoc, ← hlen]
        exact List.take_left
    · have holds : ∀ j u, xs[j]? = some u → w.cell? ((⟨g, off, none⟩ : Addr).add j) = some u := fun j u hu => by
        have hj : j < n * i.size := by rw [← hown.1]; exact (List.getElem?_eq_some_iff.1 hu).1
        rw [← htake, List.getElem?_take, if_pos hj, List.getElem?_drop] at hu
        rw [Addr.add_lit]
        have hc : w.cell? ⟨g, off + j, none⟩ = cur[off + j]? := by simp [World.cell?, hg]
        rw [hc, ← Array.getElem?_toList]
        exact hu
      have hr := run_append_grow (P := P) w t ty e i z ht hi hz ⟨g, off, none⟩ n cap xs hown.1 holds a m c news hl hnews (by omega) (by omega) (growslice_fits (by omega) hbytes)
      have hgr := grown cap (by omega) (Value.ownBlock (.slice (some ⟨g, off, none⟩) n cap))
      exact ⟨_, _, hr, .of hgr.1, hgr.2, Or.inr rfl⟩
end
structure Rw where
  e : TypeId
  size : Nat
  v : Value
  n : Nat
  xs : List Value
structure MR (w0 W : World) (base : Nat) (rs : List Rw) (bx : List Bk) : Prop where
  pre : Laid w0 ∧ 2 ≤ base
  below : Below base w0 W
  low : base ≤ W.heap.size
  rows : ∀ r ∈ rs, ownsAt W base r.e r.size r.v r.n r.xs
  ap : rs.Pairwise fun r s => ∀ k, r.v.ownBlock = some k → s.v.ownBlock ≠ some k
  box : ∀ b ∈ bx, Blk W b.1 b.2.1 b.2.2 ∧ base ≤ b.1 ∧ ∀ r ∈ rs, r.v.ownBlock ≠ some b.1
  nd : bx.Pairwise fun a b => a.1 ≠ b.1
section
variable {w0 W W' : World} {base : Nat} {rs : List Rw} {bx : List Bk}
theorem MR.to (h : MR w0 W base rs bx) (hb : Below W.heap.size W W') : MR w0 W' base rs bx :=
  ⟨h.pre, h.below.trans (hb.mono h.low), Nat.le_trans h.low hb.size, fun r hr => (h.rows r hr).to hb, h.ap, fun b hm => ⟨(h.box b hm).1.to hb (h.box b hm).1.lt, (h.box b hm).2⟩, h.nd⟩
theorem stable_mr (w0 : World) (base : Nat) (rs : List Rw) (bx : List Bk) : Stable fun W => MR w0 W base rs bx := fun w w' h hb => h.to hb
theorem MR.laid (h : MR w0 W base rs bx) : Laid W := h.pre.1.of h.below h.pre.2
theorem MR.drew (h : MR w0 W base rs bx) : MR w0 W.drew base rs bx := h.to (Below.refl _ _).drew
theorem MR.here (h : MR w0 W base rs bx) : MR W W base rs bx := ⟨⟨h.laid, h.pre.2⟩, Below.refl _ _, h.low, h.rows, h.ap, h.box, h.nd⟩
theorem MR.trans {rs' : List Rw} {bx' : List Bk} (h : MR w0 W base rs bx) (k : MR W W' base rs' bx') : MR w0 W' base rs' bx' :=
  ⟨h.pre, h.below.trans k.below, k.low, k.rows, k.ap, k.box, k.nd⟩
theorem MR.start {w : World} (h : Laid w) : MR w w w.heap.size [] [] := ⟨⟨h, h.lt⟩, Below.refl _ _, Nat.le_refl _, by simp, .nil, by simp, .nil⟩
theorem MR.alloc {k : Nat} {ty : TypeId} {cs : Array Value} (h : MR w0 W base rs bx) (hk : W.heap.size ≤ k) (hb : Below W.heap.size W W') (hG : Blk W' k ty cs) : MR w0 W' base rs ((k, ty, cs) :: bx) := by
  have h' := h.to hb
  refine ⟨h.pre, h'.below, h'.low, h'.rows, h.ap, ?_, ?_⟩
  · intro b hb'
    rcases List.mem_cons.1 hb' with rfl | hb'
    · exact ⟨hG, Nat.le_trans h.low hk, fun r hr e => by have := ((h.rows r hr).lt k e).2; omega⟩
    · exact h'.box b hb'
  · refine List.pairwise_cons.2 ⟨fun b hb' => ?_, h.nd⟩
    have := (h.box b hb').1.lt
    show k ≠ b.1
    omega
theorem MR.swap {a b : Bk} (h : MR w0 W base rs (a :: b :: bx)) : MR w0 W base rs (b :: a :: bx) := by
  refine ⟨h.pre, h.below, h.low, h.rows, h.ap, fun c hc => h.box c ?_, ?_⟩
  · rcases List.mem_cons.1 hc with rfl | hc
    · exact List.mem_cons_of_mem _ List.mem_cons_self
    · rcases List.mem_cons.1 hc with rfl | hc
      · exact List.mem_cons_self
      · exact List.mem_cons_of_mem _ (List.mem_cons_of_mem _ hc)
  · have h1 := List.pairwise_cons.1 h.nd
    have h2 := List.pairwise_cons.1 h1.2
    refine List.pairwise_cons.2 ⟨fun c hc => ?_, List.pairwise_cons.2 ⟨fun c hc => h1.1 c (List.mem_cons_of_mem _ hc), h2.2⟩⟩
    rcases List.mem_cons.1 hc with rfl | hc
    · exact Ne.symm (h1.1 b List.mem_cons_self)
    · exact h2.1 c hc
theorem MR.drop {a : Bk} (h : MR w0 W base rs (a :: bx)) : MR w0 W base rs bx := ⟨h.pre, h.below, h.low, h.rows, h.ap, fun b hb => h.box b (List.mem_cons_of_mem _ hb), (List.pairwise_cons.1 h.nd).2⟩
theorem MR.drop1 {a b : Bk} (h : MR w0 W base rs (a :: b :: bx)) : MR w0 W base rs (a :: bx) := h.swap.drop
theorem MR.b0 {k : Nat} {ty : TypeId} {cs : Array Value} (h : MR w0 W base rs ((k, ty, cs) :: bx)) : Blk W k ty cs := (h.box (k, ty, cs) List.mem_cons_self).1
theorem MR.b1 {k : Nat} {ty : TypeId} {cs : Array Value} {a : Bk} (h : MR w0 W base rs (a :: (k, ty, cs) :: bx)) : Blk W k ty cs := h.drop.b0
theorem MR.b2 {k : Nat} {ty : TypeId} {cs : Array Value} {a b : Bk} (h : MR w0 W base rs (a :: b :: (k, ty, cs) :: bx)) : Blk W k ty cs := h.drop.b1
theorem MR.b3 {k : Nat} {ty : TypeId} {cs : Array Value} {a b c : Bk} (h : MR w0 W base rs (a :: b :: c :: (k, ty, cs) :: bx)) : Blk W k ty cs := h.drop.b2
theorem MR.b4 {k : Nat} {ty : TypeId} {cs : Array Value} {a b c d : Bk} (h : MR w0 W base rs (a :: b :: c :: d :: (k, ty, cs) :: bx)) : Blk W k ty cs := h.drop.b3
theorem MR.b5 {k : Nat} {ty : TypeId} {cs : Array Value} {a b c d f : Bk} (h : MR w0 W base rs (a :: b :: c :: d :: f :: (k, ty, cs) :: bx)) : Blk W k ty cs := h.drop.b4
theorem MR.b6 {k : Nat} {ty : TypeId} {cs : Array Value} {a b c d f g : Bk} (h : MR w0 W base rs (a :: b :: c :: d :: f :: g :: (k, ty, cs) :: bx)) : Blk W k ty cs := h.drop.b5
theorem MR.s0 {k : Nat} {ty : TypeId} {cs cs' : Array Value} (h : MR w0 W base rs ((k, ty, cs) :: bx)) (hU : Upd k W W') (hG : Blk W' k ty cs') : MR w0 W' base rs ((k, ty, cs') :: bx) := by
  obtain ⟨_, hk, hr⟩ := h.box (k, ty, cs) List.mem_cons_self
  have hnd := List.pairwise_cons.1 h.nd
  refine ⟨h.pre, hU.below h.below hk, by rw [hU.size]; exact h.low, fun r hm => (h.rows r hm).upd hU (hr r hm), h.ap, ?_, List.pairwise_cons.2 ⟨hnd.1, hnd.2⟩⟩
  intro b hb
  rcases List.mem_cons.1 hb with rfl | hb
  · exact ⟨hG, hk, hr⟩
  · exact ⟨hU.blk (h.box b (List.mem_cons_of_mem _ hb)).1 (Ne.symm (hnd.1 b hb)), (h.box b (List.mem_cons_of_mem _ hb)).2⟩
theorem MR.rot {a b c : Bk} (h : MR w0 W base rs (a :: b :: c :: bx)) : MR w0 W base rs (c :: a :: b :: bx) := by
  have h1 := h.swap
  have p := List.pairwise_cons.1 h.nd
  have p2 := List.pairwise_cons.1 p.2
  have p3 := List.pairwise_cons.1 p2.2
  refine ⟨h.pre, h.below, h.low, h.rows, h.ap, fun d hd => h.box d ?_, ?_⟩
  · simp only [List.mem_cons] at hd ⊢
    rcases hd with h | h | h | h
    · exact .inr (.inr (.inl h))
    · exact .inl h
    · exact .inr (.inl h)
    · exact .inr (.inr (.inr h))
  · refine List.pairwise_cons.2 ⟨fun d hd => ?_, List.pairwise_cons.2 ⟨fun d hd => ?_, List.pairwise_cons.2 ⟨fun d hd => p2.1 d (List.mem_cons_of_mem _ hd), p3.2⟩⟩⟩
    · simp only [List.mem_cons] at hd
      rcases hd with rfl | rfl | hd
      · exact Ne.symm (p.1 c (by simp))
      · exact Ne.symm (p2.1 c (by simp))
      · exact p3.1 d hd
    · simp only [List.mem_cons] at hd
      rcases hd with rfl | hd
      · exact p.1 d (by simp)
      · exact p.1 d (by simp [hd])
theorem MR.rot' {a b c : Bk} (h : MR w0 W base rs (c :: a :: b :: bx)) : MR w0 W base rs (a :: b :: c :: bx) := h.rot.rot
theorem MR.s1 {k : Nat} {ty : TypeId} {cs cs' : Array Value} {a : Bk} (h : MR w0 W base rs (a :: (k, ty, cs) :: bx)) (hU : Upd k W W') (hG : Blk W' k ty cs') : MR w0 W' base rs (a :: (k, ty, cs') :: bx) := (h.swap.s0 hU hG).swap
theorem MR.s2 {k : Nat} {ty : TypeId} {cs cs' : Array Value} {a b : Bk} (h : MR w0 W base rs (a :: b :: (k, ty, cs) :: bx)) (hU : Upd k W W') (hG : Blk W' k ty cs') : MR w0 W' base rs (a :: b :: (k, ty, cs') :: bx) := (h.rot.s0 hU hG).rot'
theorem MR.row0 {r : Rw} (h : MR w0 W base (r :: rs) bx) : ownsAt W base r.e r.size r.v r.n r.xs := h.rows r List.mem_cons_self
theorem MR.rswap {r s : Rw} (h : MR w0 W base (r :: s :: rs) bx) : MR w0 W base (s :: r :: rs) bx := by
  have h1 := List.pairwise_cons.1 h.ap
  have h2 := List.pairwise_cons.1 h1.2
  refine ⟨h.pre, h.below, h.low, fun c hc => h.rows c ?_, List.pairwise_cons.2 ⟨fun c hc => ?_, List.pairwise_cons.2 ⟨fun c hc => h1.1 c (List.mem_cons_of_mem _ hc), h2.2⟩⟩, fun b hb => ⟨(h.box b hb).1, (h.box b hb).2.1, fun c hc => (h.box b hb).2.2 c ?_⟩, h.nd⟩
  · simp only [List.mem_cons] at hc ⊢
    rcases hc with h | h | h
    · exact .inr (.inl h)
    · exact .inl h
    · exact .inr (.inr h)
  · rcases List.mem_cons.1 hc with rfl | hc
    · exact fun k hk e => h1.1 s List.mem_cons_self k e hk
    · exact h2.1 c hc
  · simp only [List.mem_cons] at hc ⊢
    rcases hc with h | h | h
    · exact .inr (.inl h)
    · exact .inl h
    · exact .inr (.inr h)
theorem MR.rdrop {r : Rw} (h : MR w0 W base (r :: rs) bx) : MR w0 W base rs bx :=
  ⟨h.pre, h.below, h.low, fun c hc => h.rows c (List.mem_cons_of_mem _ hc), (List.pairwise_cons.1 h.ap).2, fun b hb => ⟨(h.box b hb).1, (h.box b hb).2.1, fun c hc => (h.box b hb).2.2 c (List.mem_cons_of_mem _ hc)⟩, h.nd⟩
theorem MR.rset {r r' : Rw} (h : MR w0 W base (r :: rs) bx) (ho : ownsAt W base r'.e r'.size r'.v r'.n r'.xs) (hv : r'.v.ownBlock = r.v.ownBlock) : MR w0 W base (r' :: rs) bx := by
  have h1 := List.pairwise_cons.1 h.ap
  refine ⟨h.pre, h.below, h.low, fun c hc => ?_, List.pairwise_cons.2 ⟨fun c hc k hk => h1.1 c hc k (by rw [← hv]; exact hk), h1.2⟩, fun b hb => ⟨(h.box b hb).1, (h.box b hb).2.1, fun c hc => ?_⟩, h.nd⟩
  · rcases List.mem_cons.1 hc with rfl | hc
    · exact ho
    · exact h.rows c (List.mem_cons_of_mem _ hc)
  · rcases List.mem_cons.1 hc with rfl | hc
    · rw [hv]; exact (h.box b hb).2.2 r List.mem_cons_self
    · exact (h.box b hb).2.2 c (List.mem_cons_of_mem _ hc)
theorem MR.rnil (h : MR w0 W base rs bx) (e : TypeId) (size : Nat) : MR w0 W base (⟨e, size, .slice none 0 0, 0, []⟩ :: rs) bx := by
  refine ⟨h.pre, h.below, h.low, fun c hc => ?_, List.pairwise_cons.2 ⟨fun c hc k hk => absurd hk (by simp [Value.ownBlock]), h.ap⟩, fun b hb => ⟨(h.box b hb).1, (h.box b hb).2.1, fun c hc => ?_⟩, h.nd⟩
  · rcases List.mem_cons.1 hc with rfl | hc
    · exact .nil _ _ _ _
    · exact h.rows c hc
  · rcases List.mem_cons.1 hc with rfl | hc
    · simp [Value.ownBlock]
    · exact (h.box b hb).2.2 c hc
theorem MR.app {r : Rw} {v' : Value} {m : Nat} {ys : List Value} (h : MR w0 W base (r :: rs) bx) (hown : ownsAt W' base r.e r.size v' m ys) (hg : W.grownBy W' r.v.ownBlock) (hat : v'.ownBlock = r.v.ownBlock ∨ v'.ownBlock = some W.heap.size) :
    MR w0 W' base (⟨r.e, r.size, v', m, ys⟩ :: rs) bx := by
  have h1 := List.pairwise_cons.1 h.ap
  have hr := h.row0
  have hblk : ∀ k, k < W.heap.size → r.v.ownBlock ≠ some k → W'.heap[k]? = W.heap[k]? := fun k hk hne => hg.block k hk (Ne.symm hne)
  refine ⟨h.pre, ⟨hg.os.trans h.below.os, hg.tape.trans h.below.tape, hg.output.trans h.below.output, Nat.le_trans h.below.size hg.size, fun k hk => (hblk k (by have := h.low; omega) (fun e => by have := (hr.lt k e).1; omega)).trans (h.below.block k hk)⟩, Nat.le_trans h.low hg.size, fun c hc => ?_, List.pairwise_cons.2 ⟨fun c hc k hk => ?_, h1.2⟩, fun b hb => ?_, h.nd⟩
  · rcases List.mem_cons.1 hc with rfl | hc
    · exact hown
    · exact (h.rows c (List.mem_cons_of_mem _ hc)).kept hg fun k hk e => h1.1 c hc k e hk
  · rcases hat with e | e
    · exact h1.1 c hc k (by rw [← e]; exact hk)
    · have hk' : k = W.heap.size := by rw [e] at hk; exact (Option.some.inj hk).symm
      intro e2
      have := ((h.rows c (List.mem_cons_of_mem _ hc)).lt k e2).2
      omega
  · obtain ⟨q1, q2, q3⟩ := h.box b hb
    have hlt := q1.lt
    refine ⟨(hblk b.1 hlt (q3 r List.mem_cons_self)).trans q1, q2, fun c hc => ?_⟩
    rcases List.mem_cons.1 hc with rfl | hc
    · rcases hat with e | e
      · rw [e]; exact q3 r List.mem_cons_self
      · rw [e]; intro e2; have := Option.some.inj e2; omega
    · exact q3 c (List.mem_cons_of_mem _ hc)
theorem MR.hole1 {P : Program} {ty t : TypeId} {g : Nat} {cs : Array Value} (o : Nat) (x : Value) (cs' : Array Value) (h : MR w0 W base rs ((g, t, cs) :: bx)) (hc : x.cells = #[x]) (hi : (P.info? ty).map (·.size) = some 1) (h1 : x.oneCell' = true) (hn : o < cs.size) (he : cs.setIfInBounds o x = cs') :
    ∃ w', (storeVar ty ⟨g, o, none⟩ x).run P W = .ok () w' ∧ MR w0 w' base rs ((g, t, cs') :: bx) := by
  obtain ⟨w', h2, h3, h4⟩ := run_store_one (P := P) h.b0 hc hi h1 hn
  exact ⟨w', h2, h.s0 h4 (he ▸ h3)⟩
theorem MR.hole {P : Program} {ty t : TypeId} {g : Nat} {cs : Array Value} (o : Nat) (vs : Array Value) (cs' : Array Value) (h : MR w0 W base rs ((g, t, cs) :: bx)) (hi : (P.info? ty).map (·.size) = some vs.size) (h1 : vs.toList.all (·.oneCell') = true) (hn : o + vs.size ≤ cs.size) (he : putAt cs o vs.toList = cs') :
    ∃ w', (storeVar ty ⟨g, o, none⟩ (.agg vs)).run P W = .ok () w' ∧ MR w0 w' base rs ((g, t, cs') :: bx) := by
  obtain ⟨w', h2, h3, h4⟩ := run_store_blk (P := P) h.b0 hi (by rw [← Array.all_toList]; exact h1) hn
  exact ⟨w', h2, h.s0 h4 (he ▸ h3)⟩
end
end Go.Proofs.YtihmbcnccdiecaaDoor
namespace Go.Proofs.YtihmbcnccdiecaaDoor
set_option maxRecDepth 100000
open Go.ChangeShapes Go.WideShapes Go.ChangeAt Go.RowKit
section
variable {P : Program} {ops : Array Oper} {Q : Exit → Act → World → Prop} {w0 W w : World} {base : Nat} {S : List Sec} {E : List Evt} {v u : Value} {bx : List Bk} {rs : List Rw} {o : Oper} {rest : List Oper} {a : Act}
theorem Mem.nw (hm : Mem w0 W base S E v u bx) {ty : TypeId} {cs : Array Value} (h : ∀ g w', Mem w0 w' base S E v u ((g, ty, cs) :: bx) → wpList P ops Q rest (a.put o.dst (.pointer (some ⟨g, 0, none⟩))) w') (hg : o.guard = none := by rfl)
    (hrun : (execOp a.eval o).run P W = .ok (.value (.pointer (some ⟨W.heap.size, 0, none⟩))) (W.alloc (.cells cs ty)) := by kernel_rfl) : wpList P ops Q (o :: rest) a W :=
  go_mem (fun g => .pointer (some ⟨g, 0, none⟩)) hg hrun fun g w' _ l hb G => h g w' (hm.alloc l hb G)
theorem Mem.nw1 {b : Bk} (hm : Mem w0 W base S E v u (b :: bx)) {ty : TypeId} {cs : Array Value} (h : ∀ g w', Mem w0 w' base S E v u (b :: (g, ty, cs) :: bx) → wpList P ops Q rest (a.put o.dst (.pointer (some ⟨g, 0, none⟩))) w') (hg : o.guard = none := by rfl)
    (hrun : (execOp a.eval o).run P W = .ok (.value (.pointer (some ⟨W.heap.size, 0, none⟩))) (W.alloc (.cells cs ty)) := by kernel_rfl) : wpList P ops Q (o :: rest) a W :=
  go_mem (fun g => .pointer (some ⟨g, 0, none⟩)) hg hrun fun g w' _ l hb G => h g w' (hm.alloc1 l hb G)
theorem MR.nw (hm : MR w0 W base rs bx) {ty : TypeId} {cs : Array Value} (h : ∀ g w', MR w0 w' base rs ((g, ty, cs) :: bx) → wpList P ops Q rest (a.put o.dst (.pointer (some ⟨g, 0, none⟩))) w') (hg : o.guard = none := by rfl)
    (hrun : (execOp a.eval o).run P W = .ok (.value (.pointer (some ⟨W.heap.size, 0, none⟩))) (W.alloc (.cells cs ty)) := by kernel_rfl) : wpList P ops Q (o :: rest) a W :=
  go_mem (fun g => .pointer (some ⟨g, 0, none⟩)) hg hrun fun g w' _ l hb G => h g w' (hm.alloc l hb G)
end
section
variable {p : Pr} {d : Sec} {now x : Int} {S T : Sd} {w w' : World} {base : Nat} {v u : Value} {bx : List Bk}
theorem outH (hS : handleK p now = S) (es : handleS S d = T) (hb : w.heap.size = base) (h : Mem w w' base T.sent T.told v u bx) : OutR w w' (handleP p d now).1 (handleP p d now).2.1 (handleP p d now).2.2 (.returned (.tuple #[.agg (prL T.p).toArray, v, u])) := by
  subst hS; subst es; subst hb
  exact ⟨_, _, rfl, h.below, h.sent, h.told⟩
theorem outU (hS : handleK p now = S) (es : userS S x = T) (hb : w.heap.size = base) (h : Mem w w' base T.sent T.told v u bx) : OutR w w' (userP p x now).1 (userP p x now).2.1 (userP p x now).2.2 (.returned (.tuple #[.agg (prL T.p).toArray, v, u])) := by
  subst hS; subst es; subst hb
  exact ⟨_, _, rfl, h.below, h.sent, h.told⟩
theorem outE (hS : handleK p now = S) (es : encS S = T) (hb : w.heap.size = base) (h : Mem w w' base T.sent T.told v u bx) : OutR w w' (encP p now).1 (encP p now).2.1 (encP p now).2.2 (.returned (.tuple #[.agg (prL T.p).toArray, v, u])) := by
  subst hS; subst es; subst hb
  exact ⟨_, _, rfl, h.below, h.sent, h.told⟩
end
end Go.Proofs.YtihmbcnccdiecaaDoor
namespace Go.Proofs.YtihmbcnccdiecaaDoor
set_option maxRecDepth 100000
open Go.RowKit
set_option linter.unusedVariables false
def cellEq : Value → Value → Bool
  | .int _ a, .int _ b => a == b
  | .bool a, .bool b => a == b
  | _, _ => false
def eqCells : List Value → List Value → Bool
  | [], [] => true
  | x :: xs, y :: ys => cellEq x y && eqCells xs ys
  | _, _ => false
def Kinds : List (Option IntKind) → List Value → Prop
  | [], [] => True
  | some k :: ks, v :: vs => (∃ a, v = .int k a) ∧ Kinds ks vs
  | none :: ks, v :: vs => (∃ b, v = .bool b) ∧ Kinds ks vs
  | _, _ => False
theorem Kinds.length : ∀ {ks : List (Option IntKind)} {vs : List Value}, Kinds ks vs → vs.length = ks.length
  | [], [], _ => rfl
  | some k :: ks, v :: vs, h => by simp [Kinds.length h.2]
  | none :: ks, v :: vs, h => by simp [Kinds.length h.2]
  | [], _ :: _, h => by simp [Kinds] at h
  | some _ :: _, [], h => by simp [Kinds] at h
  | none :: _, [], h => by simp [Kinds] at h
theorem kinds_append : ∀ (k1 k2 : List (Option IntKind)) (vs : List Value), Kinds (k1 ++ k2) vs → Kinds k1 (vs.take k1.length) ∧ Kinds k2 (vs.drop k1.length)
  | [], k2, vs, h => ⟨trivial, by simpa using h⟩
  | some k :: k1, k2, v :: vs, h => ⟨⟨h.1, (kinds_append k1 k2 vs h.2).1⟩, (kinds_append k1 k2 vs h.2).2⟩
  | none :: k1, k2, v :: vs, h => ⟨⟨h.1, (kinds_append k1 k2 vs h.2).1⟩, (kinds_append k1 k2 vs h.2).2⟩
  | some _ :: _, _, [], h => by simp [Kinds] at h
  | none :: _, _, [], h => by simp [Kinds] at h
theorem eqCells_split : ∀ (n : Nat) (xs ys : List Value), xs.length = ys.length → eqCells xs ys = (eqCells (xs.take n) (ys.take n) && eqCells (xs.drop n) (ys.drop n))
  | 0, xs, ys, _ => by simp [eqCells]
  | n + 1, [], [], _ => by simp [eqCells]
  | n + 1, x :: xs, y :: ys, h => by
    simp only [List.take_succ_cons, List.drop_succ_cons, eqCells]
    rw [eqCells_split n xs ys (by simpa using h), Bool.and_assoc]
  | n + 1, [], _ :: _, h => by simp at h
  | n + 1, _ :: _, [], h => by simp at h
def EqAgg (P : Program) (t : TypeId) (ks : List (Option IntKind)) (m : Nat) : Prop :=
  (∃ fs, P.underlying t = some (.struct fs)) ∧ (P.info? t).map (·.size) = some ks.length ∧
  ∀ (w : World) (d : Nat) (xs ys : List Value), m ≤ d → Kinds ks xs → Kinds ks ys → (Op.equalIn d t (.agg xs.toArray) (.agg ys.toArray)).run P w = .ok (eqCells xs ys) w
def EqField (P : Program) (t : TypeId) (ks : List (Option IntKind)) (m : Nat) : Prop :=
  (∃ k, ks = [some k] ∧ P.underlying t = some (.int k)) ∨ (ks = [none] ∧ P.underlying t = some .bool) ∨ EqAgg P t ks m
def FieldsEq (P : Program) (m : Nat) : Nat → List Field → List (List (Option IntKind)) → Prop
  | _, [], [] => True
  | off, f :: fs, ks :: kss => (EqField P f.type ks m ∧ (f.name == "_") = false ∧ f.offset = off) ∧ FieldsEq P m (off + ks.length) fs kss
  | _, _, _ => False
theorem run_part_leaf {P : Program} (w : World) {t : TypeId} {d : TypeDesc} (hu : P.underlying t = some d) (hd : (match d with | .struct _ | .array _ _ => true | _ => false) = false) (cs : List Value) (off : Nat) (v : Value) (h : cs[off]? = some v) :
    (part t cs.toArray off).run P w = .ok v w := by
  have ha : (isAgg t).run P w = .ok false w := by
    unfold isAgg
    simp only [Sem.run_bind, run_underlying hu, Result.andThen_ok]
    cases d <;> simp_all
  unfold part
  simp only [Sem.run_bind, ha, Result.andThen_ok, Bool.false_eq_true, if_false, List.getElem?_toArray, h, Sem.run_pure]
theorem run_part_agg {P : Program} (w : World) {t : TypeId} {fs : Array Field} (hu : P.underlying t = some (.struct fs)) {n : Nat} (hs : (P.info? t).map (·.size) = some n) (cs : List Value) (off : Nat) :
    (part t cs.toArray off).run P w = .ok (.agg ((cs.drop off).take n).toArray) w := by
  have ha : (isAgg t).run P w = .ok true w := by
    unfold isAgg
    simp only [Sem.run_bind, run_underlying hu, Result.andThen_ok, Sem.run_pure]
  obtain ⟨i, hi, rfl⟩ : ∃ i, P.info? t = some i ∧ i.size = n := by
    cases h : P.info? t with
    | none => rw [h] at hs; simp at hs
    | some i => rw [h] at hs; exact ⟨i, rfl, by simpa using hs⟩
  have hz : (sizeOf t).run P w = .ok i.size w := by simp [sizeOf, typeInfo, hi]
  unfold part
  simp only [Sem.run_bind, ha, Result.andThen_ok, if_true, hz, Sem.run_pure]
  rw [List.extract_toArray, List.extract_eq_take_drop, Nat.add_sub_cancel_left]
theorem eqFields_run {P : Program} {m : Nat} (w : World) (d : Nat) (hd : m ≤ d) (hd1 : 1 ≤ d) (xs ys : List Value) : ∀ (fs : List Field) (kss : List (List (Option IntKind))) (off : Nat), FieldsEq P m off fs kss →
    Kinds kss.flatten (xs.drop off) → Kinds kss.flatten (ys.drop off) → (Op.eqFields d xs.toArray ys.toArray fs).run P w = .ok (eqCells (xs.drop off) (ys.drop off)) w
  | [], [], off, _, hx, hy => by
    have h1 : xs.drop off = [] := List.length_eq_zero_iff.1 (by rw [hx.length]; rfl)
    have h2 : ys.drop off = [] := List.length_eq_zero_iff.1 (by rw [hy.length]; rfl)
    rw [h1, h2]
    rfl
  | f :: fs, ks :: kss, off, ⟨⟨hf, hn, ho⟩, hr⟩, hx, hy => by
    rw [List.flatten_cons] at hx hy
    obtain ⟨hx1, hx2⟩ := kinds_append _ _ _ hx
    obtain ⟨hy1, hy2⟩ := kinds_append _ _ _ hy
    rw [List.drop_drop] at hx2 hy2
    have ih := eqFields_run w d hd hd1 xs ys fs kss (off + ks.length) hr hx2 hy2
    have hlen : (xs.drop off).length = (ys.drop off).length := by rw [hx.length, hy.length]
    have hsp := eqCells_split ks.length (xs.drop off) (ys.drop off) hlen
    rw [List.drop_drop, List.drop_drop] at hsp
    have hne : f.name ≠ "_" := by simpa using hn
    rw [hsp]
    have fin : ∀ a b, (part f.type xs.toArray f.offset).run P w = .ok a w → (part f.type ys.toArray f.offset).run P w = .ok b w → (Op.equalIn d f.type a b).run P w = .ok (eqCells ((xs.drop off).take ks.length) ((ys.drop off).take ks.length)) w →
        (Op.eqFields d xs.toArray ys.toArray (f :: fs)).run P w = .ok (eqCells ((xs.drop off).take ks.length) ((ys.drop off).take ks.length) && eqCells (xs.drop (off + ks.length)) (ys.drop (off + ks.length))) w := fun a b h1 h2 h3 => by
      simp only [Op.eqFields, Sem.run_ite, hne, ne_eq, not_false_eq_true, if_true, Sem.run_bind, h1, h2, h3, Result.andThen_ok]
      cases eqCells ((xs.drop off).take ks.length) ((ys.drop off).take ks.length)
      · simp
      · simp [ih]
    subst ho
    have one : ∀ (zs : List Value) (v : Value), (zs.drop f.offset).take 1 = [v] → zs[f.offset]? = some v := fun zs v h => by
      have := congrArg (fun l : List Value => l[0]?) h
      simpa using this
    obtain ⟨d', rfl⟩ : ∃ d', d = d' + 1 := ⟨d - 1, by omega⟩
    rcases hf with ⟨k, rfl, hu⟩ | ⟨rfl, hu⟩ | ⟨⟨gs, hu⟩, hz, he⟩
    · obtain ⟨x, hxe⟩ : ∃ x, (xs.drop f.offset).take 1 = [x] := by
        have := hx1.length; match h : (xs.drop f.offset).take 1, this with | [x], _ => exact ⟨x, rfl⟩
      obtain ⟨y, hye⟩ : ∃ y, (ys.drop f.offset).take 1 = [y] := by
        have := hy1.length; match h : (ys.drop f.offset).take 1, this with | [y], _ => exact ⟨y, rfl⟩
      simp only [List.length_cons, List.length_nil, Nat.zero_add] at hx1 hy1 fin
      rw [hxe] at hx1 fin
      rw [hye] at hy1 fin
      obtain ⟨⟨a, rfl⟩, _⟩ := hx1
      obtain ⟨⟨b, rfl⟩, _⟩ := hy1
      simp only [List.length_cons, List.length_nil, Nat.zero_add]
      rw [hxe, hye]
      refine fin _ _ (run_part_leaf w hu rfl xs _ _ (one xs _ hxe)) (run_part_leaf w hu rfl ys _ _ (one ys _ hye)) ?_
      rw [run_equalIn_int w d' f.type k k a b hu]
      simp [eqCells, cellEq]
    · obtain ⟨x, hxe⟩ : ∃ x, (xs.drop f.offset).take 1 = [x] := by
        have := hx1.length; match h : (xs.drop f.offset).take 1, this with | [x], _ => exact ⟨x, rfl⟩
      obtain ⟨y, hye⟩ : ∃ y, (ys.drop f.offset).take 1 = [y] := by
        have := hy1.length; match h : (ys.drop f.offset).take 1, this with | [y], _ => exact ⟨y, rfl⟩
      simp only [List.length_cons, List.length_nil, Nat.zero_add] at hx1 hy1 fin
      rw [hxe] at hx1 fin
      rw [hye] at hy1 fin
      obtain ⟨⟨a, rfl⟩, _⟩ := hx1
      obtain ⟨⟨b, rfl⟩, _⟩ := hy1
      simp only [List.length_cons, List.length_nil, Nat.zero_add]
      rw [hxe, hye]
      refine fin _ _ (run_part_leaf w hu rfl xs _ _ (one xs _ hxe)) (run_part_leaf w hu rfl ys _ _ (one ys _ hye)) ?_
      rw [run_equalIn_bool' w d' f.type a b hu]
      simp [eqCells, cellEq]
    · exact fin _ _ (run_part_agg w hu hz xs _) (run_part_agg w hu hz ys _) (he w _ _ _ hd hx1 hy1)
  | [], _ :: _, _, h, _, _ => by simp [FieldsEq] at h
  | _ :: _, [], _, h, _, _ => by simp [FieldsEq] at h
theorem eq_agg {P : Program} {t : TypeId} {fs : Array Field} {m : Nat} (kss : List (List (Option IntKind))) (ht : P.underlying t = some (.struct fs)) (hs : (P.info? t).map (·.size) = some kss.flatten.length) (hp : P.stoodInHeld t = false) (hf : FieldsEq P m 0 fs.toList kss) :
    EqAgg P t kss.flatten (m + 2) := by
  refine ⟨⟨fs, ht⟩, hs, fun w d xs ys hd hx hy => ?_⟩
  obtain ⟨d', rfl⟩ : ∃ d', d = d' + 1 := ⟨d - 1, by omega⟩
  have hfs : P.fieldsOf t = fs := by simp [Program.fieldsOf, ht]
  rw [run_equalIn_struct w d' t xs.toArray ys.toArray (by rw [hfs]; exact ht) hp, hfs]
  have := eqFields_run (P := P) (m := m) w d' (by omega) (by omega) xs ys fs.toList kss 0 hf (by simpa using hx) (by simpa using hy)
  simpa using this
theorem eq_int {P : Program} {t : TypeId} {m : Nat} {k : IntKind} (h : P.underlying t = some (.int k)) : EqField P t [some k] m := .inl ⟨k, rfl, h⟩
theorem eq_bool {P : Program} {t : TypeId} {m : Nat} (h : P.underlying t = some .bool) : EqField P t [none] m := .inr (.inl ⟨rfl, h⟩)
theorem eq_sub {P : Program} {t : TypeId} {m m' : Nat} {ks : List (Option IntKind)} (h : EqAgg P t ks m') (hm : m' ≤ m) : EqField P t ks m := .inr (.inr ⟨h.1, h.2.1, fun w d xs ys hd => h.2.2 w d xs ys (by omega)⟩)
theorem run_eql_ks {P : Program} {t : TypeId} {ks : List (Option IntKind)} {m : Nat} (h : EqAgg P t ks m) (hm : m ≤ 10000) (w : World) (xs ys : List Value) (hx : Kinds ks xs) (hy : Kinds ks ys) :
    (binOp .eql t (.agg xs.toArray) (.agg ys.toArray)).run P w = .ok (.bool (eqCells xs ys)) w := by
  rw [run_eql_struct, h.2.2 w 10000 xs ys hm hx hy]
  rfl
theorem run_neq_ks {P : Program} {t : TypeId} {ks : List (Option IntKind)} {m : Nat} (h : EqAgg P t ks m) (hm : m ≤ 10000) (w : World) (xs ys : List Value) (hx : Kinds ks xs) (hy : Kinds ks ys) :
    (binOp .neq t (.agg xs.toArray) (.agg ys.toArray)).run P w = .ok (.bool (!eqCells xs ys)) w := by
  rw [run_neq_struct, h.2.2 w 10000 xs ys hm hx hy]
  rfl
end Go.Proofs.YtihmbcnccdiecaaDoor
namespace Go.Proofs.YtihmbcnccdiecaaDoor
set_option maxRecDepth 100000
open Go.RowKit
set_option linter.unusedVariables false
theorem eqagg_adr : EqAgg Tryd.prog 26 [some .i64, some .u64] 2 := eq_agg (P := Tryd.prog) (m := 0) [[some .i64], [some .u64]] Tryd.underlying26 (by kernel_rfl) (by kernel_rfl) ⟨⟨eq_int Tryd.underlying3, rfl, rfl⟩, ⟨eq_int Tryd.underlying24, rfl, rfl⟩, trivial⟩
theorem eqagg_feat : EqAgg Tryd.prog 23 [some .i64, none, none, none, none, none] 2 := eq_agg (P := Tryd.prog) (m := 0) [[some .i64], [none], [none], [none], [none], [none]] Tryd.underlying23 (by kernel_rfl) (by kernel_rfl) ⟨⟨eq_int Tryd.underlying3, rfl, rfl⟩, ⟨eq_bool Tryd.underlying4, rfl, rfl⟩, ⟨eq_bool Tryd.underlying4, rfl, rfl⟩, ⟨eq_bool Tryd.underlying4, rfl, rfl⟩, ⟨eq_bool Tryd.underlying4, rfl, rfl⟩, ⟨eq_bool Tryd.underlying4, rfl, rfl⟩, trivial⟩
theorem eqagg_ident : EqAgg Tryd.prog 29 [some .i64, some .u64, some .u64] 4 := eq_agg (P := Tryd.prog) (m := 2) [[some .i64, some .u64], [some .u64]] Tryd.underlying29 (by kernel_rfl) (by kernel_rfl) ⟨⟨eq_sub eqagg_adr (by decide), rfl, rfl⟩, ⟨eq_int Tryd.underlying27, rfl, rfl⟩, trivial⟩
theorem eqagg_oobdata : EqAgg Tryd.prog 32 [some .u64, some .u64] 2 := eq_agg (P := Tryd.prog) (m := 0) [[some .u64], [some .u64]] Tryd.underlying32 (by kernel_rfl) (by kernel_rfl) ⟨⟨eq_int Tryd.underlying24, rfl, rfl⟩, ⟨eq_int Tryd.underlying24, rfl, rfl⟩, trivial⟩
@[go_sem high] theorem run_eql_oobdata (a0 a1 : Int) (b0 b1 : Int) (w : World) : (binOp .eql 32 (.agg #[.int .u64 a0, .int .u64 a1]) (.agg #[.int .u64 b0, .int .u64 b1])).run Tryd.prog w = .ok (.bool ((a0 == b0 && (a1 == b1)))) w := by
  have h := run_eql_ks eqagg_oobdata (by decide) w [.int .u64 a0, .int .u64 a1] [.int .u64 b0, .int .u64 b1] ⟨⟨_, rfl⟩, ⟨_, rfl⟩, trivial⟩ ⟨⟨_, rfl⟩, ⟨_, rfl⟩, trivial⟩
  rw [show (#[.int .u64 a0, .int .u64 a1] : Array Value) = ([.int .u64 a0, .int .u64 a1] : List Value).toArray from rfl, show (#[.int .u64 b0, .int .u64 b1] : Array Value) = ([.int .u64 b0, .int .u64 b1] : List Value).toArray from rfl, h]
  simp only [eqCells, cellEq, Bool.and_true]
theorem eqagg_pcfg : EqAgg Tryd.prog 34 [some .i64, some .i64, none, none, none, none, none, some .i64, some .u64, some .i64, some .u64, some .i64, some .u64, some .u64, some .u32, some .u64, some .u64, some .u64, some .u64] 6 := eq_agg (P := Tryd.prog) (m := 4) [[some .i64], [some .i64, none, none, none, none, none], [some .i64, some .u64], [some .i64, some .u64], [some .i64, some .u64, some .u64], [some .u32], [some .u64], [some .u64], [some .u64, some .u64]] Tryd.underlying34 (by kernel_rfl) (by kernel_rfl) ⟨⟨eq_int Tryd.underlying3, rfl, rfl⟩, ⟨eq_sub eqagg_feat (by decide), rfl, rfl⟩, ⟨eq_sub eqagg_adr (by decide), rfl, rfl⟩, ⟨eq_sub eqagg_adr (by decide), rfl, rfl⟩, ⟨eq_sub eqagg_ident (by decide), rfl, rfl⟩, ⟨eq_int Tryd.underlying30, rfl, rfl⟩, ⟨eq_int Tryd.underlying24, rfl, rfl⟩, ⟨eq_int Tryd.underlying24, rfl, rfl⟩, ⟨eq_sub eqagg_oobdata (by decide), rfl, rfl⟩, trivial⟩
theorem eqagg_secpdu : EqAgg Tryd.prog 43 [some .i64, some .i64, none, none, none, none, none, some .u32, some .u64, some .i64, some .u64, some .u64, some .i64] 6 := eq_agg (P := Tryd.prog) (m := 4) [[some .i64], [some .i64, none, none, none, none, none], [some .u32], [some .u64], [some .i64, some .u64, some .u64], [some .i64]] Tryd.underlying43 (by kernel_rfl) (by kernel_rfl) ⟨⟨eq_int Tryd.underlying3, rfl, rfl⟩, ⟨eq_sub eqagg_feat (by decide), rfl, rfl⟩, ⟨eq_int Tryd.underlying30, rfl, rfl⟩, ⟨eq_int Tryd.underlying24, rfl, rfl⟩, ⟨eq_sub eqagg_ident (by decide), rfl, rfl⟩, ⟨eq_int Tryd.underlying3, rfl, rfl⟩, trivial⟩
end Go.Proofs.YtihmbcnccdiecaaDoor
namespace Go.Proofs.YtihmbcnccdiecaaDoor
set_option maxRecDepth 100000
open Go.ChangeShapes Go.WideShapes Go.ChangeAt Go.RowKit
set_option linter.unusedVariables false
set_option linter.unusedSimpArgs false
theorem eqagg_evt : EqAgg Tryd.prog 63 [some .i64, some .i64, some .u64, none, some .i64, some .u64, some .u64, some .i64] 6 := eq_agg (P := Tryd.prog) (m := 4) [[some .i64], [some .i64], [some .u64], [none], [some .i64, some .u64, some .u64], [some .i64]] Tryd.underlying63 (by kernel_rfl) (by kernel_rfl) ⟨⟨eq_int Tryd.underlying3, rfl, rfl⟩, ⟨eq_int Tryd.underlying3, rfl, rfl⟩, ⟨eq_int Tryd.underlying27, rfl, rfl⟩, ⟨eq_bool Tryd.underlying4, rfl, rfl⟩, ⟨eq_sub eqagg_ident (by decide), rfl, rfl⟩, ⟨eq_int Tryd.underlying3, rfl, rfl⟩, trivial⟩
theorem eqagg_pairer : EqAgg Tryd.prog 37 [some .i64, some .i64, none, none, none, none, none, some .i64, some .u64, some .i64, some .u64, some .i64, some .u64, some .u64, some .u32, some .u64, some .u64, some .u64, some .u64, some .i64, some .i64, some .i64, some .i64, none, none, none, none, none, some .i64, none, none, none, none, none, some .i64, none, none, none, none, none, some .u32, some .u32, some .u64, some .u64, some .u64, none, some .i64, some .i64, none, some .u64, none, none, some .u64, some .i64, some .u64, some .u64, some .i64, some .i64] 8 := eq_agg (P := Tryd.prog) (m := 6) [[some .i64, some .i64, none, none, none, none, none, some .i64, some .u64, some .i64, some .u64, some .i64, some .u64, some .u64, some .u32, some .u64, some .u64, some .u64, some .u64], [some .i64], [some .i64], [some .i64], [some .i64, none, none, none, none, none], [some .i64, none, none, none, none, none], [some .i64, none, none, none, none, none], [some .u32], [some .u32], [some .u64], [some .u64], [some .u64], [none], [some .i64], [some .i64], [none], [some .u64], [none], [none], [some .u64], [some .i64, some .u64, some .u64], [some .i64], [some .i64]] Tryd.underlying37 (by kernel_rfl) (by kernel_rfl) ⟨⟨eq_sub eqagg_pcfg (by decide), rfl, rfl⟩, ⟨eq_int Tryd.underlying3, rfl, rfl⟩, ⟨eq_int Tryd.underlying3, rfl, rfl⟩, ⟨eq_int Tryd.underlying3, rfl, rfl⟩, ⟨eq_sub eqagg_feat (by decide), rfl, rfl⟩, ⟨eq_sub eqagg_feat (by decide), rfl, rfl⟩, ⟨eq_sub eqagg_feat (by decide), rfl, rfl⟩, ⟨eq_int Tryd.underlying30, rfl, rfl⟩, ⟨eq_int Tryd.underlying30, rfl, rfl⟩, ⟨eq_int Tryd.underlying24, rfl, rfl⟩, ⟨eq_int Tryd.underlying24, rfl, rfl⟩, ⟨eq_int Tryd.underlying24, rfl, rfl⟩, ⟨eq_bool Tryd.underlying4, rfl, rfl⟩, ⟨eq_int Tryd.underlying3, rfl, rfl⟩, ⟨eq_int Tryd.underlying3, rfl, rfl⟩, ⟨eq_bool Tryd.underlying4, rfl, rfl⟩, ⟨eq_int Tryd.underlying24, rfl, rfl⟩, ⟨eq_bool Tryd.underlying4, rfl, rfl⟩, ⟨eq_bool Tryd.underlying4, rfl, rfl⟩, ⟨eq_int Tryd.underlying27, rfl, rfl⟩, ⟨eq_sub eqagg_ident (by decide), rfl, rfl⟩, ⟨eq_int Tryd.underlying3, rfl, rfl⟩, ⟨eq_int Tryd.underlying3, rfl, rfl⟩, trivial⟩
@[go_sem high] theorem eql_adrL (x y : Adr) (w : World) : (binOp .eql 26 (.agg (adrL x).toArray) (.agg (adrL y).toArray)).run Tryd.prog w = .ok (.bool (decide (x = y))) w := by
  rw [run_eql_ks eqagg_adr (by decide) w (adrL x) (adrL y) ⟨⟨_, rfl⟩, ⟨_, rfl⟩, trivial⟩ ⟨⟨_, rfl⟩, ⟨_, rfl⟩, trivial⟩, ← eqb_Adr]
  simp only [adrL, eqCells, cellEq, Bool.and_true]
@[go_sem high] theorem neq_adrL (x y : Adr) (w : World) : (binOp .neq 26 (.agg (adrL x).toArray) (.agg (adrL y).toArray)).run Tryd.prog w = .ok (.bool (!decide (x = y))) w := by
  rw [run_neq_ks eqagg_adr (by decide) w (adrL x) (adrL y) ⟨⟨_, rfl⟩, ⟨_, rfl⟩, trivial⟩ ⟨⟨_, rfl⟩, ⟨_, rfl⟩, trivial⟩, ← eqb_Adr]
  simp only [adrL, eqCells, cellEq, Bool.and_true]
@[go_sem high] theorem eql_featL (x y : Feat) (w : World) : (binOp .eql 23 (.agg (featL x).toArray) (.agg (featL y).toArray)).run Tryd.prog w = .ok (.bool (decide (x = y))) w := by
  rw [run_eql_ks eqagg_feat (by decide) w (featL x) (featL y) ⟨⟨_, rfl⟩, ⟨_, rfl⟩, ⟨_, rfl⟩, ⟨_, rfl⟩, ⟨_, rfl⟩, ⟨_, rfl⟩, trivial⟩ ⟨⟨_, rfl⟩, ⟨_, rfl⟩, ⟨_, rfl⟩, ⟨_, rfl⟩, ⟨_, rfl⟩, ⟨_, rfl⟩, trivial⟩, ← eqb_Feat]
  simp only [featL, eqCells, cellEq, Bool.and_true]
@[go_sem high] theorem neq_featL (x y : Feat) (w : World) : (binOp .neq 23 (.agg (featL x).toArray) (.agg (featL y).toArray)).run Tryd.prog w = .ok (.bool (!decide (x = y))) w := by
  rw [run_neq_ks eqagg_feat (by decide) w (featL x) (featL y) ⟨⟨_, rfl⟩, ⟨_, rfl⟩, ⟨_, rfl⟩, ⟨_, rfl⟩, ⟨_, rfl⟩, ⟨_, rfl⟩, trivial⟩ ⟨⟨_, rfl⟩, ⟨_, rfl⟩, ⟨_, rfl⟩, ⟨_, rfl⟩, ⟨_, rfl⟩, ⟨_, rfl⟩, trivial⟩, ← eqb_Feat]
  simp only [featL, eqCells, cellEq, Bool.and_true]
@[go_sem high] theorem eql_idnL (x y : Idn) (w : World) : (binOp .eql 29 (.agg (idnL x).toArray) (.agg (idnL y).toArray)).run Tryd.prog w = .ok (.bool (decide (x = y))) w := by
  rw [run_eql_ks eqagg_ident (by decide) w (idnL x) (idnL y) ⟨⟨_, rfl⟩, ⟨_, rfl⟩, ⟨_, rfl⟩, trivial⟩ ⟨⟨_, rfl⟩, ⟨_, rfl⟩, ⟨_, rfl⟩, trivial⟩, ← eqb_Idn]
  simp only [idnL, eqCells, cellEq, Bool.and_true]
@[go_sem high] theorem neq_idnL (x y : Idn) (w : World) : (binOp .neq 29 (.agg (idnL x).toArray) (.agg (idnL y).toArray)).run Tryd.prog w = .ok (.bool (!decide (x = y))) w := by
  rw [run_neq_ks eqagg_ident (by decide) w (idnL x) (idnL y) ⟨⟨_, rfl⟩, ⟨_, rfl⟩, ⟨_, rfl⟩, trivial⟩ ⟨⟨_, rfl⟩, ⟨_, rfl⟩, ⟨_, rfl⟩, trivial⟩, ← eqb_Idn]
  simp only [idnL, eqCells, cellEq, Bool.and_true]
@[go_sem high] theorem eql_cfgL (x y : Cfg) (w : World) : (binOp .eql 34 (.agg (cfgL x).toArray) (.agg (cfgL y).toArray)).run Tryd.prog w = .ok (.bool (decide (x = y))) w := by
  rw [run_eql_ks eqagg_pcfg (by decide) w (cfgL x) (cfgL y) ⟨⟨_, rfl⟩, ⟨_, rfl⟩, ⟨_, rfl⟩, ⟨_, rfl⟩, ⟨_, rfl⟩, ⟨_, rfl⟩, ⟨_, rfl⟩, ⟨_, rfl⟩, ⟨_, rfl⟩, ⟨_, rfl⟩, ⟨_, rfl⟩, ⟨_, rfl⟩, ⟨_, rfl⟩, ⟨_, rfl⟩, ⟨_, rfl⟩, ⟨_, rfl⟩, ⟨_, rfl⟩, ⟨_, rfl⟩, ⟨_, rfl⟩, trivial⟩ ⟨⟨_, rfl⟩, ⟨_, rfl⟩, ⟨_, rfl⟩, ⟨_, rfl⟩, ⟨_, rfl⟩, ⟨_, rfl⟩, ⟨_, rfl⟩, ⟨_, rfl⟩, ⟨_, rfl⟩, ⟨_, rfl⟩, ⟨_, rfl⟩, ⟨_, rfl⟩, ⟨_, rfl⟩, ⟨_, rfl⟩, ⟨_, rfl⟩, ⟨_, rfl⟩, ⟨_, rfl⟩, ⟨_, rfl⟩, ⟨_, rfl⟩, trivial⟩, ← eqb_Cfg]
  simp only [cfgL, eqCells, cellEq, Bool.and_true]
@[go_sem high] theorem neq_cfgL (x y : Cfg) (w : World) : (binOp .neq 34 (.agg (cfgL x).toArray) (.agg (cfgL y).toArray)).run Tryd.prog w = .ok (.bool (!decide (x = y))) w := by
  rw [run_neq_ks eqagg_pcfg (by decide) w (cfgL x) (cfgL y) ⟨⟨_, rfl⟩, ⟨_, rfl⟩, ⟨_, rfl⟩, ⟨_, rfl⟩, ⟨_, rfl⟩, ⟨_, rfl⟩, ⟨_, rfl⟩, ⟨_, rfl⟩, ⟨_, rfl⟩, ⟨_, rfl⟩, ⟨_, rfl⟩, ⟨_, rfl⟩, ⟨_, rfl⟩, ⟨_, rfl⟩, ⟨_, rfl⟩, ⟨_, rfl⟩, ⟨_, rfl⟩, ⟨_, rfl⟩, ⟨_, rfl⟩, trivial⟩ ⟨⟨_, rfl⟩, ⟨_, rfl⟩, ⟨_, rfl⟩, ⟨_, rfl⟩, ⟨_, rfl⟩, ⟨_, rfl⟩, ⟨_, rfl⟩, ⟨_, rfl⟩, ⟨_, rfl⟩, ⟨_, rfl⟩, ⟨_, rfl⟩, ⟨_, rfl⟩, ⟨_, rfl⟩, ⟨_, rfl⟩, ⟨_, rfl⟩, ⟨_, rfl⟩, ⟨_, rfl⟩, ⟨_, rfl⟩, ⟨_, rfl⟩, trivial⟩, ← eqb_Cfg]
  simp only [cfgL, eqCells, cellEq, Bool.and_true]
@[go_sem high] theorem eql_prL (x y : Pr) (w : World) : (binOp .eql 37 (.agg (prL x).toArray) (.agg (prL y).toArray)).run Tryd.prog w = .ok (.bool (decide (x = y))) w := by
  rw [run_eql_ks eqagg_pairer (by decide) w (prL x) (prL y) ⟨⟨_, rfl⟩, ⟨_, rfl⟩, ⟨_, rfl⟩, ⟨_, rfl⟩, ⟨_, rfl⟩, ⟨_, rfl⟩, ⟨_, rfl⟩, ⟨_, rfl⟩, ⟨_, rfl⟩, ⟨_, rfl⟩, ⟨_, rfl⟩, ⟨_, rfl⟩, ⟨_, rfl⟩, ⟨_, rfl⟩, ⟨_, rfl⟩, ⟨_, rfl⟩, ⟨_, rfl⟩, ⟨_, rfl⟩, ⟨_, rfl⟩, ⟨_, rfl⟩, ⟨_, rfl⟩, ⟨_, rfl⟩, ⟨_, rfl⟩, ⟨_, rfl⟩, ⟨_, rfl⟩, ⟨_, rfl⟩, ⟨_, rfl⟩, ⟨_, rfl⟩, ⟨_, rfl⟩, ⟨_, rfl⟩, ⟨_, rfl⟩, ⟨_, rfl⟩, ⟨_, rfl⟩, ⟨_, rfl⟩, ⟨_, rfl⟩, ⟨_, rfl⟩, ⟨_, rfl⟩, ⟨_, rfl⟩, ⟨_, rfl⟩, ⟨_, rfl⟩, ⟨_, rfl⟩, ⟨_, rfl⟩, ⟨_, rfl⟩, ⟨_, rfl⟩, ⟨_, rfl⟩, ⟨_, rfl⟩, ⟨_, rfl⟩, ⟨_, rfl⟩, ⟨_, rfl⟩, ⟨_, rfl⟩, ⟨_, rfl⟩, ⟨_, rfl⟩, ⟨_, rfl⟩, ⟨_, rfl⟩, ⟨_, rfl⟩, ⟨_, rfl⟩, ⟨_, rfl⟩, ⟨_, rfl⟩, trivial⟩ ⟨⟨_, rfl⟩, ⟨_, rfl⟩, ⟨_, rfl⟩, ⟨_, rfl⟩, ⟨_, rfl⟩, ⟨_, rfl⟩, ⟨_, rfl⟩, ⟨_, rfl⟩, ⟨_, rfl⟩, ⟨_, rfl⟩, ⟨_, rfl⟩, ⟨_, rfl⟩, ⟨_, rfl⟩, ⟨_, rfl⟩, ⟨_, rfl⟩, ⟨_, rfl⟩, ⟨_, rfl⟩, ⟨_, rfl⟩, ⟨_, rfl⟩, ⟨_, rfl⟩, ⟨_, rfl⟩, ⟨_, rfl⟩, ⟨_, rfl⟩, ⟨_, rfl⟩, ⟨_, rfl⟩, ⟨_, rfl⟩, ⟨_, rfl⟩, ⟨_, rfl⟩, ⟨_, rfl⟩, ⟨_, rfl⟩, ⟨_, rfl⟩, ⟨_, rfl⟩, ⟨_, rfl⟩, ⟨_, rfl⟩, ⟨_, rfl⟩, ⟨_, rfl⟩, ⟨_, rfl⟩, ⟨_, rfl⟩, ⟨_, rfl⟩, ⟨_, rfl⟩, ⟨_, rfl⟩, ⟨_, rfl⟩, ⟨_, rfl⟩, ⟨_, rfl⟩, ⟨_, rfl⟩, ⟨_, rfl⟩, ⟨_, rfl⟩, ⟨_, rfl⟩, ⟨_, rfl⟩, ⟨_, rfl⟩, ⟨_, rfl⟩, ⟨_, rfl⟩, ⟨_, rfl⟩, ⟨_, rfl⟩, ⟨_, rfl⟩, ⟨_, rfl⟩, ⟨_, rfl⟩, ⟨_, rfl⟩, trivial⟩, ← eqb_Pr]
  simp only [prL, eqCells, cellEq, Bool.and_true]
@[go_sem high] theorem neq_prL (x y : Pr) (w : World) : (binOp .neq 37 (.agg (prL x).toArray) (.agg (prL y).toArray)).run Tryd.prog w = .ok (.bool (!decide (x = y))) w := by
  rw [run_neq_ks eqagg_pairer (by decide) w (prL x) (prL y) ⟨⟨_, rfl⟩, ⟨_, rfl⟩, ⟨_, rfl⟩, ⟨_, rfl⟩, ⟨_, rfl⟩, ⟨_, rfl⟩, ⟨_, rfl⟩, ⟨_, rfl⟩, ⟨_, rfl⟩, ⟨_, rfl⟩, ⟨_, rfl⟩, ⟨_, rfl⟩, ⟨_, rfl⟩, ⟨_, rfl⟩, ⟨_, rfl⟩, ⟨_, rfl⟩, ⟨_, rfl⟩, ⟨_, rfl⟩, ⟨_, rfl⟩, ⟨_, rfl⟩, ⟨_, rfl⟩, ⟨_, rfl⟩, ⟨_, rfl⟩, ⟨_, rfl⟩, ⟨_, rfl⟩, ⟨_, rfl⟩, ⟨_, rfl⟩, ⟨_, rfl⟩, ⟨_, rfl⟩, ⟨_, rfl⟩, ⟨_, rfl⟩, ⟨_, rfl⟩, ⟨_, rfl⟩, ⟨_, rfl⟩, ⟨_, rfl⟩, ⟨_, rfl⟩, ⟨_, rfl⟩, ⟨_, rfl⟩, ⟨_, rfl⟩, ⟨_, rfl⟩, ⟨_, rfl⟩, ⟨_, rfl⟩, ⟨_, rfl⟩, ⟨_, rfl⟩, ⟨_, rfl⟩, ⟨_, rfl⟩, ⟨_, rfl⟩, ⟨_, rfl⟩, ⟨_, rfl⟩, ⟨_, rfl⟩, ⟨_, rfl⟩, ⟨_, rfl⟩, ⟨_, rfl⟩, ⟨_, rfl⟩, ⟨_, rfl⟩, ⟨_, rfl⟩, ⟨_, rfl⟩, ⟨_, rfl⟩, trivial⟩ ⟨⟨_, rfl⟩, ⟨_, rfl⟩, ⟨_, rfl⟩, ⟨_, rfl⟩, ⟨_, rfl⟩, ⟨_, rfl⟩, ⟨_, rfl⟩, ⟨_, rfl⟩, ⟨_, rfl⟩, ⟨_, rfl⟩, ⟨_, rfl⟩, ⟨_, rfl⟩, ⟨_, rfl⟩, ⟨_, rfl⟩, ⟨_, rfl⟩, ⟨_, rfl⟩, ⟨_, rfl⟩, ⟨_, rfl⟩, ⟨_, rfl⟩, ⟨_, rfl⟩, ⟨_, rfl⟩, ⟨_, rfl⟩, ⟨_, rfl⟩, ⟨_, rfl⟩, ⟨_, rfl⟩, ⟨_, rfl⟩, ⟨_, rfl⟩, ⟨_, rfl⟩, ⟨_, rfl⟩, ⟨_, rfl⟩, ⟨_, rfl⟩, ⟨_, rfl⟩, ⟨_, rfl⟩, ⟨_, rfl⟩, ⟨_, rfl⟩, ⟨_, rfl⟩, ⟨_, rfl⟩, ⟨_, rfl⟩, ⟨_, rfl⟩, ⟨_, rfl⟩, ⟨_, rfl⟩, ⟨_, rfl⟩, ⟨_, rfl⟩, ⟨_, rfl⟩, ⟨_, rfl⟩, ⟨_, rfl⟩, ⟨_, rfl⟩, ⟨_, rfl⟩, ⟨_, rfl⟩, ⟨_, rfl⟩, ⟨_, rfl⟩, ⟨_, rfl⟩, ⟨_, rfl⟩, ⟨_, rfl⟩, ⟨_, rfl⟩, ⟨_, rfl⟩, ⟨_, rfl⟩, ⟨_, rfl⟩, trivial⟩, ← eqb_Pr]
  simp only [prL, eqCells, cellEq, Bool.and_true]
@[go_sem high] theorem eql_secL (x y : Sec) (w : World) : (binOp .eql 43 (.agg (secL x).toArray) (.agg (secL y).toArray)).run Tryd.prog w = .ok (.bool (decide (x = y))) w := by
  rw [run_eql_ks eqagg_secpdu (by decide) w (secL x) (secL y) ⟨⟨_, rfl⟩, ⟨_, rfl⟩, ⟨_, rfl⟩, ⟨_, rfl⟩, ⟨_, rfl⟩, ⟨_, rfl⟩, ⟨_, rfl⟩, ⟨_, rfl⟩, ⟨_, rfl⟩, ⟨_, rfl⟩, ⟨_, rfl⟩, ⟨_, rfl⟩, ⟨_, rfl⟩, trivial⟩ ⟨⟨_, rfl⟩, ⟨_, rfl⟩, ⟨_, rfl⟩, ⟨_, rfl⟩, ⟨_, rfl⟩, ⟨_, rfl⟩, ⟨_, rfl⟩, ⟨_, rfl⟩, ⟨_, rfl⟩, ⟨_, rfl⟩, ⟨_, rfl⟩, ⟨_, rfl⟩, ⟨_, rfl⟩, trivial⟩, ← eqb_Sec]
  simp only [secL, eqCells, cellEq, Bool.and_true]
@[go_sem high] theorem neq_secL (x y : Sec) (w : World) : (binOp .neq 43 (.agg (secL x).toArray) (.agg (secL y).toArray)).run Tryd.prog w = .ok (.bool (!decide (x = y))) w := by
  rw [run_neq_ks eqagg_secpdu (by decide) w (secL x) (secL y) ⟨⟨_, rfl⟩, ⟨_, rfl⟩, ⟨_, rfl⟩, ⟨_, rfl⟩, ⟨_, rfl⟩, ⟨_, rfl⟩, ⟨_, rfl⟩, ⟨_, rfl⟩, ⟨_, rfl⟩, ⟨_, rfl⟩, ⟨_, rfl⟩, ⟨_, rfl⟩, ⟨_, rfl⟩, trivial⟩ ⟨⟨_, rfl⟩, ⟨_, rfl⟩, ⟨_, rfl⟩, ⟨_, rfl⟩, ⟨_, rfl⟩, ⟨_, rfl⟩, ⟨_, rfl⟩, ⟨_, rfl⟩, ⟨_, rfl⟩, ⟨_, rfl⟩, ⟨_, rfl⟩, ⟨_, rfl⟩, ⟨_, rfl⟩, trivial⟩, ← eqb_Sec]
  simp only [secL, eqCells, cellEq, Bool.and_true]
@[go_sem high] theorem eql_evtL (x y : Evt) (w : World) : (binOp .eql 63 (.agg (evtL x).toArray) (.agg (evtL y).toArray)).run Tryd.prog w = .ok (.bool (decide (x = y))) w := by
  rw [run_eql_ks eqagg_evt (by decide) w (evtL x) (evtL y) ⟨⟨_, rfl⟩, ⟨_, rfl⟩, ⟨_, rfl⟩, ⟨_, rfl⟩, ⟨_, rfl⟩, ⟨_, rfl⟩, ⟨_, rfl⟩, ⟨_, rfl⟩, trivial⟩ ⟨⟨_, rfl⟩, ⟨_, rfl⟩, ⟨_, rfl⟩, ⟨_, rfl⟩, ⟨_, rfl⟩, ⟨_, rfl⟩, ⟨_, rfl⟩, ⟨_, rfl⟩, trivial⟩, ← eqb_Evt]
  simp only [evtL, eqCells, cellEq, Bool.and_true]
@[go_sem high] theorem neq_evtL (x y : Evt) (w : World) : (binOp .neq 63 (.agg (evtL x).toArray) (.agg (evtL y).toArray)).run Tryd.prog w = .ok (.bool (!decide (x = y))) w := by
  rw [run_neq_ks eqagg_evt (by decide) w (evtL x) (evtL y) ⟨⟨_, rfl⟩, ⟨_, rfl⟩, ⟨_, rfl⟩, ⟨_, rfl⟩, ⟨_, rfl⟩, ⟨_, rfl⟩, ⟨_, rfl⟩, ⟨_, rfl⟩, trivial⟩ ⟨⟨_, rfl⟩, ⟨_, rfl⟩, ⟨_, rfl⟩, ⟨_, rfl⟩, ⟨_, rfl⟩, ⟨_, rfl⟩, ⟨_, rfl⟩, ⟨_, rfl⟩, trivial⟩, ← eqb_Evt]
  simp only [evtL, eqCells, cellEq, Bool.and_true]
end Go.Proofs.YtihmbcnccdiecaaDoor
