/- Numbers of fixed width as bit vectors, the way a walk writes them: every wrapped number of kind u8, u16, u32, u64 becomes W8, W16, W32, W64 of a bit vector. -/
import Derived.WalkKit
import Derived.WalkLawsBesides
namespace Go.Proofs.Ytbkaeoaepmeceaa
open Go.RowKit

def W64 (x : BitVec 64) : Int := (x.toNat : Int)
def W32 (x : BitVec 32) : Int := (x.toNat : Int)
def W16 (x : BitVec 16) : Int := (x.toNat : Int)
def W8 (x : BitVec 8) : Int := (x.toNat : Int)
theorem W64_bd (x : BitVec 64) : 0 ≤ W64 x ∧ W64 x ≤ 18446744073709551615 := by unfold W64; have := x.isLt; omega
theorem W64_inj {x y : BitVec 64} (h : W64 x = W64 y) : x = y := by unfold W64 at h; apply BitVec.eq_of_toNat_eq; omega
theorem W64_eq (x y : BitVec 64) : (W64 x = W64 y) = (x = y) := by apply propext; exact ⟨W64_inj, fun h => by rw [h]⟩
theorem W64_beq (x y : BitVec 64) : (W64 x == W64 y) = (x == y) := by rw [Bool.eq_iff_iff, beq_iff_eq, beq_iff_eq]; exact ⟨W64_inj, fun h => by rw [h]⟩
theorem W64_bne (x y : BitVec 64) : (W64 x != W64 y) = (x != y) := by unfold bne; rw [W64_beq]
theorem W64_lt (x y : BitVec 64) : (W64 x < W64 y) = (x < y) := by unfold W64; apply propext; rw [BitVec.lt_def]; omega
theorem W64_le (x y : BitVec 64) : (W64 x ≤ W64 y) = (x ≤ y) := by unfold W64; apply propext; rw [BitVec.le_def]; omega
theorem W64_toNat (x : BitVec 64) : (W64 x).toNat = x.toNat := by unfold W64; exact Int.toNat_natCast _
theorem W64_ofInt (n : Int) (h : 0 ≤ n ∧ n ≤ 18446744073709551615) : W64 (BitVec.ofInt 64 n) = n := by unfold W64; rw [BitVec.toNat_ofInt]; omega
theorem W32_bd (x : BitVec 32) : 0 ≤ W32 x ∧ W32 x ≤ 4294967295 := by unfold W32; have := x.isLt; omega
theorem W32_inj {x y : BitVec 32} (h : W32 x = W32 y) : x = y := by unfold W32 at h; apply BitVec.eq_of_toNat_eq; omega
theorem W32_eq (x y : BitVec 32) : (W32 x = W32 y) = (x = y) := by apply propext; exact ⟨W32_inj, fun h => by rw [h]⟩
theorem W32_beq (x y : BitVec 32) : (W32 x == W32 y) = (x == y) := by rw [Bool.eq_iff_iff, beq_iff_eq, beq_iff_eq]; exact ⟨W32_inj, fun h => by rw [h]⟩
theorem W32_bne (x y : BitVec 32) : (W32 x != W32 y) = (x != y) := by unfold bne; rw [W32_beq]
theorem W32_lt (x y : BitVec 32) : (W32 x < W32 y) = (x < y) := by unfold W32; apply propext; rw [BitVec.lt_def]; omega
theorem W32_le (x y : BitVec 32) : (W32 x ≤ W32 y) = (x ≤ y) := by unfold W32; apply propext; rw [BitVec.le_def]; omega
theorem W32_toNat (x : BitVec 32) : (W32 x).toNat = x.toNat := by unfold W32; exact Int.toNat_natCast _
theorem W32_ofInt (n : Int) (h : 0 ≤ n ∧ n ≤ 4294967295) : W32 (BitVec.ofInt 32 n) = n := by unfold W32; rw [BitVec.toNat_ofInt]; omega
theorem W16_bd (x : BitVec 16) : 0 ≤ W16 x ∧ W16 x ≤ 65535 := by unfold W16; have := x.isLt; omega
theorem W16_inj {x y : BitVec 16} (h : W16 x = W16 y) : x = y := by unfold W16 at h; apply BitVec.eq_of_toNat_eq; omega
theorem W16_eq (x y : BitVec 16) : (W16 x = W16 y) = (x = y) := by apply propext; exact ⟨W16_inj, fun h => by rw [h]⟩
theorem W16_beq (x y : BitVec 16) : (W16 x == W16 y) = (x == y) := by rw [Bool.eq_iff_iff, beq_iff_eq, beq_iff_eq]; exact ⟨W16_inj, fun h => by rw [h]⟩
theorem W16_bne (x y : BitVec 16) : (W16 x != W16 y) = (x != y) := by unfold bne; rw [W16_beq]
theorem W16_lt (x y : BitVec 16) : (W16 x < W16 y) = (x < y) := by unfold W16; apply propext; rw [BitVec.lt_def]; omega
theorem W16_le (x y : BitVec 16) : (W16 x ≤ W16 y) = (x ≤ y) := by unfold W16; apply propext; rw [BitVec.le_def]; omega
theorem W16_toNat (x : BitVec 16) : (W16 x).toNat = x.toNat := by unfold W16; exact Int.toNat_natCast _
theorem W16_ofInt (n : Int) (h : 0 ≤ n ∧ n ≤ 65535) : W16 (BitVec.ofInt 16 n) = n := by unfold W16; rw [BitVec.toNat_ofInt]; omega
theorem W8_bd (x : BitVec 8) : 0 ≤ W8 x ∧ W8 x ≤ 255 := by unfold W8; have := x.isLt; omega
theorem W8_inj {x y : BitVec 8} (h : W8 x = W8 y) : x = y := by unfold W8 at h; apply BitVec.eq_of_toNat_eq; omega
theorem W8_eq (x y : BitVec 8) : (W8 x = W8 y) = (x = y) := by apply propext; exact ⟨W8_inj, fun h => by rw [h]⟩
theorem W8_beq (x y : BitVec 8) : (W8 x == W8 y) = (x == y) := by rw [Bool.eq_iff_iff, beq_iff_eq, beq_iff_eq]; exact ⟨W8_inj, fun h => by rw [h]⟩
theorem W8_bne (x y : BitVec 8) : (W8 x != W8 y) = (x != y) := by unfold bne; rw [W8_beq]
theorem W8_lt (x y : BitVec 8) : (W8 x < W8 y) = (x < y) := by unfold W8; apply propext; rw [BitVec.lt_def]; omega
theorem W8_le (x y : BitVec 8) : (W8 x ≤ W8 y) = (x ≤ y) := by unfold W8; apply propext; rw [BitVec.le_def]; omega
theorem W8_toNat (x : BitVec 8) : (W8 x).toNat = x.toNat := by unfold W8; exact Int.toNat_natCast _
theorem W8_ofInt (n : Int) (h : 0 ≤ n ∧ n ≤ 255) : W8 (BitVec.ofInt 8 n) = n := by unfold W8; rw [BitVec.toNat_ofInt]; omega
@[go_sem] theorem wrap_W64 (n : Int) : IntKind.u64.wrap n = W64 (BitVec.ofInt 64 n) := by rw [IntKind.wrap_u64]; unfold W64; rw [BitVec.toNat_ofInt]; omega
@[go_sem] theorem wrap_W32 (n : Int) : IntKind.u32.wrap n = W32 (BitVec.ofInt 32 n) := by rw [IntKind.wrap_u32]; unfold W32; rw [BitVec.toNat_ofInt]; omega
@[go_sem] theorem wrap_W16 (n : Int) : IntKind.u16.wrap n = W16 (BitVec.ofInt 16 n) := by unfold W16; rw [BitVec.toNat_ofInt]; simp [IntKind.wrap, IntKind.bits, IntKind.signed]; omega
@[go_sem] theorem wrap_W8 (n : Int) : IntKind.u8.wrap n = W8 (BitVec.ofInt 8 n) := by rw [IntKind.wrap_u8]; unfold W8; rw [BitVec.toNat_ofInt]; omega
@[go_sem] theorem ofInt64_W64 (x : BitVec 64) : BitVec.ofInt 64 (W64 x) = x := by unfold W64; simp
@[go_sem] theorem ofInt64_W32 (x : BitVec 32) : BitVec.ofInt 64 (W32 x) = x.setWidth 64 := by unfold W32; apply BitVec.eq_of_toNat_eq; simp [BitVec.toNat_setWidth]
@[go_sem] theorem ofInt64_W16 (x : BitVec 16) : BitVec.ofInt 64 (W16 x) = x.setWidth 64 := by unfold W16; apply BitVec.eq_of_toNat_eq; simp [BitVec.toNat_setWidth]
@[go_sem] theorem ofInt64_W8 (x : BitVec 8) : BitVec.ofInt 64 (W8 x) = x.setWidth 64 := by unfold W8; apply BitVec.eq_of_toNat_eq; simp [BitVec.toNat_setWidth]
@[go_sem] theorem ofInt32_W64 (x : BitVec 64) : BitVec.ofInt 32 (W64 x) = x.setWidth 32 := by unfold W64; apply BitVec.eq_of_toNat_eq; simp [BitVec.toNat_setWidth]
@[go_sem] theorem ofInt32_W32 (x : BitVec 32) : BitVec.ofInt 32 (W32 x) = x := by unfold W32; simp
@[go_sem] theorem ofInt32_W16 (x : BitVec 16) : BitVec.ofInt 32 (W16 x) = x.setWidth 32 := by unfold W16; apply BitVec.eq_of_toNat_eq; simp [BitVec.toNat_setWidth]
@[go_sem] theorem ofInt32_W8 (x : BitVec 8) : BitVec.ofInt 32 (W8 x) = x.setWidth 32 := by unfold W8; apply BitVec.eq_of_toNat_eq; simp [BitVec.toNat_setWidth]
@[go_sem] theorem ofInt16_W64 (x : BitVec 64) : BitVec.ofInt 16 (W64 x) = x.setWidth 16 := by unfold W64; apply BitVec.eq_of_toNat_eq; simp [BitVec.toNat_setWidth]
@[go_sem] theorem ofInt16_W32 (x : BitVec 32) : BitVec.ofInt 16 (W32 x) = x.setWidth 16 := by unfold W32; apply BitVec.eq_of_toNat_eq; simp [BitVec.toNat_setWidth]
@[go_sem] theorem ofInt16_W16 (x : BitVec 16) : BitVec.ofInt 16 (W16 x) = x := by unfold W16; simp
@[go_sem] theorem ofInt16_W8 (x : BitVec 8) : BitVec.ofInt 16 (W8 x) = x.setWidth 16 := by unfold W8; apply BitVec.eq_of_toNat_eq; simp [BitVec.toNat_setWidth]
@[go_sem] theorem ofInt8_W64 (x : BitVec 64) : BitVec.ofInt 8 (W64 x) = x.setWidth 8 := by unfold W64; apply BitVec.eq_of_toNat_eq; simp [BitVec.toNat_setWidth]
@[go_sem] theorem ofInt8_W32 (x : BitVec 32) : BitVec.ofInt 8 (W32 x) = x.setWidth 8 := by unfold W32; apply BitVec.eq_of_toNat_eq; simp [BitVec.toNat_setWidth]
@[go_sem] theorem ofInt8_W16 (x : BitVec 16) : BitVec.ofInt 8 (W16 x) = x.setWidth 8 := by unfold W16; apply BitVec.eq_of_toNat_eq; simp [BitVec.toNat_setWidth]
@[go_sem] theorem ofInt8_W8 (x : BitVec 8) : BitVec.ofInt 8 (W8 x) = x := by unfold W8; simp
theorem ofInt_sub' {n : Nat} (x y : Int) : BitVec.ofInt n (x - y) = BitVec.ofInt n x - BitVec.ofInt n y := by
  rw [Int.sub_eq_add_neg, BitVec.ofInt_add, BitVec.ofInt_neg, BitVec.sub_eq_add_neg]
theorem ofInt_two_pow {n : Nat} (k : Nat) : BitVec.ofInt n (2 ^ k) = BitVec.twoPow n k := by
  apply BitVec.eq_of_toNat_eq
  rw [BitVec.toNat_twoPow, show ((2 : Int) ^ k) = ((2 ^ k : Nat) : Int) from by simp, BitVec.ofInt_natCast, BitVec.toNat_ofNat]
theorem ofInt_mul_pow {n : Nat} (x : Int) (k : Nat) : BitVec.ofInt n (x * 2 ^ k) = BitVec.ofInt n x <<< k := by
  rw [BitVec.ofInt_mul, ofInt_two_pow, BitVec.shiftLeft_eq_mul_twoPow]
attribute [go_sem] BitVec.ofInt_add BitVec.ofInt_mul ofInt_sub' ofInt_two_pow
attribute [go_sem high] ofInt_mul_pow
@[go_sem] theorem bits_and_W64 (x y : Int) : bits .and .u64 x y = W64 (BitVec.ofInt 64 x &&& BitVec.ofInt 64 y) := by unfold bits; simp only [wrap_W64]; exact congrArg W64 (ofInt64_W64 (BitVec.ofInt 64 x &&& BitVec.ofInt 64 y))
@[go_sem] theorem bits_or_W64 (x y : Int) : bits .or .u64 x y = W64 (BitVec.ofInt 64 x ||| BitVec.ofInt 64 y) := by unfold bits; simp only [wrap_W64]; exact congrArg W64 (ofInt64_W64 (BitVec.ofInt 64 x ||| BitVec.ofInt 64 y))
@[go_sem] theorem bits_xor_W64 (x y : Int) : bits .xor .u64 x y = W64 (BitVec.ofInt 64 x ^^^ BitVec.ofInt 64 y) := by unfold bits; simp only [wrap_W64]; exact congrArg W64 (ofInt64_W64 (BitVec.ofInt 64 x ^^^ BitVec.ofInt 64 y))
@[go_sem] theorem bits_andNot_W64 (x y : Int) : bits .andNot .u64 x y = W64 (BitVec.ofInt 64 x &&& ~~~BitVec.ofInt 64 y) := by unfold bits; simp only [wrap_W64]; exact congrArg W64 (ofInt64_W64 (BitVec.ofInt 64 x &&& ~~~BitVec.ofInt 64 y))
@[go_sem] theorem bits_and_W32 (x y : Int) : bits .and .u32 x y = W32 (BitVec.ofInt 32 x &&& BitVec.ofInt 32 y) := by unfold bits; simp only [wrap_W32]; exact congrArg W32 (ofInt32_W32 (BitVec.ofInt 32 x &&& BitVec.ofInt 32 y))
@[go_sem] theorem bits_or_W32 (x y : Int) : bits .or .u32 x y = W32 (BitVec.ofInt 32 x ||| BitVec.ofInt 32 y) := by unfold bits; simp only [wrap_W32]; exact congrArg W32 (ofInt32_W32 (BitVec.ofInt 32 x ||| BitVec.ofInt 32 y))
@[go_sem] theorem bits_xor_W32 (x y : Int) : bits .xor .u32 x y = W32 (BitVec.ofInt 32 x ^^^ BitVec.ofInt 32 y) := by unfold bits; simp only [wrap_W32]; exact congrArg W32 (ofInt32_W32 (BitVec.ofInt 32 x ^^^ BitVec.ofInt 32 y))
@[go_sem] theorem bits_andNot_W32 (x y : Int) : bits .andNot .u32 x y = W32 (BitVec.ofInt 32 x &&& ~~~BitVec.ofInt 32 y) := by unfold bits; simp only [wrap_W32]; exact congrArg W32 (ofInt32_W32 (BitVec.ofInt 32 x &&& ~~~BitVec.ofInt 32 y))
@[go_sem] theorem bits_and_W16 (x y : Int) : bits .and .u16 x y = W16 (BitVec.ofInt 16 x &&& BitVec.ofInt 16 y) := by unfold bits; simp only [wrap_W16]; exact congrArg W16 (ofInt16_W16 (BitVec.ofInt 16 x &&& BitVec.ofInt 16 y))
@[go_sem] theorem bits_or_W16 (x y : Int) : bits .or .u16 x y = W16 (BitVec.ofInt 16 x ||| BitVec.ofInt 16 y) := by unfold bits; simp only [wrap_W16]; exact congrArg W16 (ofInt16_W16 (BitVec.ofInt 16 x ||| BitVec.ofInt 16 y))
@[go_sem] theorem bits_xor_W16 (x y : Int) : bits .xor .u16 x y = W16 (BitVec.ofInt 16 x ^^^ BitVec.ofInt 16 y) := by unfold bits; simp only [wrap_W16]; exact congrArg W16 (ofInt16_W16 (BitVec.ofInt 16 x ^^^ BitVec.ofInt 16 y))
@[go_sem] theorem bits_andNot_W16 (x y : Int) : bits .andNot .u16 x y = W16 (BitVec.ofInt 16 x &&& ~~~BitVec.ofInt 16 y) := by unfold bits; simp only [wrap_W16]; exact congrArg W16 (ofInt16_W16 (BitVec.ofInt 16 x &&& ~~~BitVec.ofInt 16 y))
@[go_sem] theorem bits_and_W8 (x y : Int) : bits .and .u8 x y = W8 (BitVec.ofInt 8 x &&& BitVec.ofInt 8 y) := by unfold bits; simp only [wrap_W8]; exact congrArg W8 (ofInt8_W8 (BitVec.ofInt 8 x &&& BitVec.ofInt 8 y))
@[go_sem] theorem bits_or_W8 (x y : Int) : bits .or .u8 x y = W8 (BitVec.ofInt 8 x ||| BitVec.ofInt 8 y) := by unfold bits; simp only [wrap_W8]; exact congrArg W8 (ofInt8_W8 (BitVec.ofInt 8 x ||| BitVec.ofInt 8 y))
@[go_sem] theorem bits_xor_W8 (x y : Int) : bits .xor .u8 x y = W8 (BitVec.ofInt 8 x ^^^ BitVec.ofInt 8 y) := by unfold bits; simp only [wrap_W8]; exact congrArg W8 (ofInt8_W8 (BitVec.ofInt 8 x ^^^ BitVec.ofInt 8 y))
@[go_sem] theorem bits_andNot_W8 (x y : Int) : bits .andNot .u8 x y = W8 (BitVec.ofInt 8 x &&& ~~~BitVec.ofInt 8 y) := by unfold bits; simp only [wrap_W8]; exact congrArg W8 (ofInt8_W8 (BitVec.ofInt 8 x &&& ~~~BitVec.ofInt 8 y))
@[go_sem] theorem W64_shr (x : BitVec 64) (k : Nat) : W64 x / 2 ^ k = W64 (x >>> k) := by unfold W64; rw [BitVec.toNat_ushiftRight, Nat.shiftRight_eq_div_pow]; simp
@[go_sem] theorem W64_tmod (x y : BitVec 64) : (W64 x).tmod (W64 y) = W64 (x % y) := by unfold W64; rw [BitVec.toNat_umod]; rfl
@[go_sem] theorem W64_tdiv (x y : BitVec 64) : (W64 x).tdiv (W64 y) = W64 (x / y) := by unfold W64; rw [BitVec.toNat_udiv]; rfl
@[go_sem] theorem W32_shr (x : BitVec 32) (k : Nat) : W32 x / 2 ^ k = W32 (x >>> k) := by unfold W32; rw [BitVec.toNat_ushiftRight, Nat.shiftRight_eq_div_pow]; simp
@[go_sem] theorem W32_tmod (x y : BitVec 32) : (W32 x).tmod (W32 y) = W32 (x % y) := by unfold W32; rw [BitVec.toNat_umod]; rfl
@[go_sem] theorem W32_tdiv (x y : BitVec 32) : (W32 x).tdiv (W32 y) = W32 (x / y) := by unfold W32; rw [BitVec.toNat_udiv]; rfl
@[go_sem] theorem W16_shr (x : BitVec 16) (k : Nat) : W16 x / 2 ^ k = W16 (x >>> k) := by unfold W16; rw [BitVec.toNat_ushiftRight, Nat.shiftRight_eq_div_pow]; simp
@[go_sem] theorem W16_tmod (x y : BitVec 16) : (W16 x).tmod (W16 y) = W16 (x % y) := by unfold W16; rw [BitVec.toNat_umod]; rfl
@[go_sem] theorem W16_tdiv (x y : BitVec 16) : (W16 x).tdiv (W16 y) = W16 (x / y) := by unfold W16; rw [BitVec.toNat_udiv]; rfl
@[go_sem] theorem W8_shr (x : BitVec 8) (k : Nat) : W8 x / 2 ^ k = W8 (x >>> k) := by unfold W8; rw [BitVec.toNat_ushiftRight, Nat.shiftRight_eq_div_pow]; simp
@[go_sem] theorem W8_tmod (x y : BitVec 8) : (W8 x).tmod (W8 y) = W8 (x % y) := by unfold W8; rw [BitVec.toNat_umod]; rfl
@[go_sem] theorem W8_tdiv (x y : BitVec 8) : (W8 x).tdiv (W8 y) = W8 (x / y) := by unfold W8; rw [BitVec.toNat_udiv]; rfl
theorem W64_of_wf {a : Int} (h : (Lit.int .u64 a).wf = true) : ∃ x : BitVec 64, a = W64 x := ⟨BitVec.ofInt 64 a, by simp [Lit.wf, IntKind.min, IntKind.max, IntKind.signed, IntKind.bits] at h; exact (W64_ofInt a (by omega)).symm⟩
theorem W32_of_wf {a : Int} (h : (Lit.int .u32 a).wf = true) : ∃ x : BitVec 32, a = W32 x := ⟨BitVec.ofInt 32 a, by simp [Lit.wf, IntKind.min, IntKind.max, IntKind.signed, IntKind.bits] at h; exact (W32_ofInt a (by omega)).symm⟩
theorem W16_of_wf {a : Int} (h : (Lit.int .u16 a).wf = true) : ∃ x : BitVec 16, a = W16 x := ⟨BitVec.ofInt 16 a, by simp [Lit.wf, IntKind.min, IntKind.max, IntKind.signed, IntKind.bits] at h; exact (W16_ofInt a (by omega)).symm⟩
theorem W8_of_wf {a : Int} (h : (Lit.int .u8 a).wf = true) : ∃ x : BitVec 8, a = W8 x := ⟨BitVec.ofInt 8 a, by simp [Lit.wf, IntKind.min, IntKind.max, IntKind.signed, IntKind.bits] at h; exact (W8_ofInt a (by omega)).symm⟩
@[go_sem] theorem W64_tmod_lit (x : BitVec 64) (n : Nat) (h : n ≤ 18446744073709551615) : (W64 x).tmod (no_index (@OfNat.ofNat Int n instOfNat)) = W64 (x % BitVec.ofNat 64 n) := by
  rw [← W64_tmod]
  congr 1
  unfold W64
  rw [BitVec.toNat_ofNat, Nat.mod_eq_of_lt (by omega)]
  rfl
@[go_sem] theorem W64_tdiv_lit (x : BitVec 64) (n : Nat) (h : n ≤ 18446744073709551615) : (W64 x).tdiv (no_index (@OfNat.ofNat Int n instOfNat)) = W64 (x / BitVec.ofNat 64 n) := by
  rw [← W64_tdiv]
  congr 1
  unfold W64
  rw [BitVec.toNat_ofNat, Nat.mod_eq_of_lt (by omega)]
  rfl
@[go_sem] theorem W32_tmod_lit (x : BitVec 32) (n : Nat) (h : n ≤ 4294967295) : (W32 x).tmod (no_index (@OfNat.ofNat Int n instOfNat)) = W32 (x % BitVec.ofNat 32 n) := by
  rw [← W32_tmod]
  congr 1
  unfold W32
  rw [BitVec.toNat_ofNat, Nat.mod_eq_of_lt (by omega)]
  rfl
@[go_sem] theorem W32_tdiv_lit (x : BitVec 32) (n : Nat) (h : n ≤ 4294967295) : (W32 x).tdiv (no_index (@OfNat.ofNat Int n instOfNat)) = W32 (x / BitVec.ofNat 32 n) := by
  rw [← W32_tdiv]
  congr 1
  unfold W32
  rw [BitVec.toNat_ofNat, Nat.mod_eq_of_lt (by omega)]
  rfl
@[go_sem] theorem W16_tmod_lit (x : BitVec 16) (n : Nat) (h : n ≤ 65535) : (W16 x).tmod (no_index (@OfNat.ofNat Int n instOfNat)) = W16 (x % BitVec.ofNat 16 n) := by
  rw [← W16_tmod]
  congr 1
  unfold W16
  rw [BitVec.toNat_ofNat, Nat.mod_eq_of_lt (by omega)]
  rfl
@[go_sem] theorem W16_tdiv_lit (x : BitVec 16) (n : Nat) (h : n ≤ 65535) : (W16 x).tdiv (no_index (@OfNat.ofNat Int n instOfNat)) = W16 (x / BitVec.ofNat 16 n) := by
  rw [← W16_tdiv]
  congr 1
  unfold W16
  rw [BitVec.toNat_ofNat, Nat.mod_eq_of_lt (by omega)]
  rfl
@[go_sem] theorem W8_tmod_lit (x : BitVec 8) (n : Nat) (h : n ≤ 255) : (W8 x).tmod (no_index (@OfNat.ofNat Int n instOfNat)) = W8 (x % BitVec.ofNat 8 n) := by
  rw [← W8_tmod]
  congr 1
  unfold W8
  rw [BitVec.toNat_ofNat, Nat.mod_eq_of_lt (by omega)]
  rfl
@[go_sem] theorem W8_tdiv_lit (x : BitVec 8) (n : Nat) (h : n ≤ 255) : (W8 x).tdiv (no_index (@OfNat.ofNat Int n instOfNat)) = W8 (x / BitVec.ofNat 8 n) := by
  rw [← W8_tdiv]
  congr 1
  unfold W8
  rw [BitVec.toNat_ofNat, Nat.mod_eq_of_lt (by omega)]
  rfl
def shlW {n m : Nat} (x : BitVec n) (y : BitVec m) : BitVec n := x <<< y.toNat
def shrW {n m : Nat} (x : BitVec n) (y : BitVec m) : BitVec n := x >>> y.toNat
theorem shift_shl_nat64 (x : BitVec 64) (yk : IntKind) (y : Nat) : Op.shift .shl .u64 (W64 x) yk (y : Int) = pure (.int .u64 (W64 (x <<< y))) := by
  unfold Op.shift
  rw [if_neg (by omega)]
  simp only [Int.toNat_natCast, IntKind.bits]
  rw [wrap_W64, ofInt_mul_pow, ofInt64_W64]
  by_cases h : y ≤ 64
  · rw [Nat.min_eq_left h]
  · rw [Nat.min_eq_right (by omega), BitVec.shiftLeft_eq_zero (by omega), BitVec.shiftLeft_eq_zero (by omega)]
theorem shift_shr_nat64 (x : BitVec 64) (yk : IntKind) (y : Nat) : Op.shift .shr .u64 (W64 x) yk (y : Int) = pure (.int .u64 (W64 (x >>> y))) := by
  unfold Op.shift
  rw [if_neg (by omega)]
  simp only [Int.toNat_natCast, IntKind.bits]
  rw [Int.fdiv_eq_ediv_of_nonneg _ (Int.pow_nonneg (by decide)), W64_shr]
  by_cases h : y ≤ 64
  · rw [Nat.min_eq_left h]
  · rw [Nat.min_eq_right (by omega), BitVec.ushiftRight_eq_zero (by omega), BitVec.ushiftRight_eq_zero (by omega)]
@[go_sem high] theorem shift_shl_var64 (x : BitVec 64) (yk : IntKind) (y : Int) (h : 0 ≤ y) : Op.shift .shl .u64 (W64 x) yk y = pure (.int .u64 (W64 (x <<< y.toNat))) := by
  obtain ⟨k, rfl⟩ := Int.eq_ofNat_of_zero_le h
  exact shift_shl_nat64 x yk k
@[go_sem high] theorem shift_shr_var64 (x : BitVec 64) (yk : IntKind) (y : Int) (h : 0 ≤ y) : Op.shift .shr .u64 (W64 x) yk y = pure (.int .u64 (W64 (x >>> y.toNat))) := by
  obtain ⟨k, rfl⟩ := Int.eq_ofNat_of_zero_le h
  exact shift_shr_nat64 x yk k
@[go_sem high] theorem shift_shl_W64_64 (x : BitVec 64) (yk : IntKind) (y : BitVec 64) : Op.shift .shl .u64 (W64 x) yk (W64 y) = pure (.int .u64 (W64 (shlW x y))) := shift_shl_nat64 x yk y.toNat
@[go_sem high] theorem shift_shr_W64_64 (x : BitVec 64) (yk : IntKind) (y : BitVec 64) : Op.shift .shr .u64 (W64 x) yk (W64 y) = pure (.int .u64 (W64 (shrW x y))) := shift_shr_nat64 x yk y.toNat
@[go_sem high] theorem shift_shl_W64_32 (x : BitVec 64) (yk : IntKind) (y : BitVec 32) : Op.shift .shl .u64 (W64 x) yk (W32 y) = pure (.int .u64 (W64 (shlW x y))) := shift_shl_nat64 x yk y.toNat
@[go_sem high] theorem shift_shr_W64_32 (x : BitVec 64) (yk : IntKind) (y : BitVec 32) : Op.shift .shr .u64 (W64 x) yk (W32 y) = pure (.int .u64 (W64 (shrW x y))) := shift_shr_nat64 x yk y.toNat
@[go_sem high] theorem shift_shl_W64_8 (x : BitVec 64) (yk : IntKind) (y : BitVec 8) : Op.shift .shl .u64 (W64 x) yk (W8 y) = pure (.int .u64 (W64 (shlW x y))) := shift_shl_nat64 x yk y.toNat
@[go_sem high] theorem shift_shr_W64_8 (x : BitVec 64) (yk : IntKind) (y : BitVec 8) : Op.shift .shr .u64 (W64 x) yk (W8 y) = pure (.int .u64 (W64 (shrW x y))) := shift_shr_nat64 x yk y.toNat
theorem shift_shl_nat32 (x : BitVec 32) (yk : IntKind) (y : Nat) : Op.shift .shl .u32 (W32 x) yk (y : Int) = pure (.int .u32 (W32 (x <<< y))) := by
  unfold Op.shift
  rw [if_neg (by omega)]
  simp only [Int.toNat_natCast, IntKind.bits]
  rw [wrap_W32, ofInt_mul_pow, ofInt32_W32]
  by_cases h : y ≤ 32
  · rw [Nat.min_eq_left h]
  · rw [Nat.min_eq_right (by omega), BitVec.shiftLeft_eq_zero (by omega), BitVec.shiftLeft_eq_zero (by omega)]
theorem shift_shr_nat32 (x : BitVec 32) (yk : IntKind) (y : Nat) : Op.shift .shr .u32 (W32 x) yk (y : Int) = pure (.int .u32 (W32 (x >>> y))) := by
  unfold Op.shift
  rw [if_neg (by omega)]
  simp only [Int.toNat_natCast, IntKind.bits]
  rw [Int.fdiv_eq_ediv_of_nonneg _ (Int.pow_nonneg (by decide)), W32_shr]
  by_cases h : y ≤ 32
  · rw [Nat.min_eq_left h]
  · rw [Nat.min_eq_right (by omega), BitVec.ushiftRight_eq_zero (by omega), BitVec.ushiftRight_eq_zero (by omega)]
@[go_sem high] theorem shift_shl_var32 (x : BitVec 32) (yk : IntKind) (y : Int) (h : 0 ≤ y) : Op.shift .shl .u32 (W32 x) yk y = pure (.int .u32 (W32 (x <<< y.toNat))) := by
  obtain ⟨k, rfl⟩ := Int.eq_ofNat_of_zero_le h
  exact shift_shl_nat32 x yk k
@[go_sem high] theorem shift_shr_var32 (x : BitVec 32) (yk : IntKind) (y : Int) (h : 0 ≤ y) : Op.shift .shr .u32 (W32 x) yk y = pure (.int .u32 (W32 (x >>> y.toNat))) := by
  obtain ⟨k, rfl⟩ := Int.eq_ofNat_of_zero_le h
  exact shift_shr_nat32 x yk k
@[go_sem high] theorem shift_shl_W32_64 (x : BitVec 32) (yk : IntKind) (y : BitVec 64) : Op.shift .shl .u32 (W32 x) yk (W64 y) = pure (.int .u32 (W32 (shlW x y))) := shift_shl_nat32 x yk y.toNat
@[go_sem high] theorem shift_shr_W32_64 (x : BitVec 32) (yk : IntKind) (y : BitVec 64) : Op.shift .shr .u32 (W32 x) yk (W64 y) = pure (.int .u32 (W32 (shrW x y))) := shift_shr_nat32 x yk y.toNat
@[go_sem high] theorem shift_shl_W32_32 (x : BitVec 32) (yk : IntKind) (y : BitVec 32) : Op.shift .shl .u32 (W32 x) yk (W32 y) = pure (.int .u32 (W32 (shlW x y))) := shift_shl_nat32 x yk y.toNat
@[go_sem high] theorem shift_shr_W32_32 (x : BitVec 32) (yk : IntKind) (y : BitVec 32) : Op.shift .shr .u32 (W32 x) yk (W32 y) = pure (.int .u32 (W32 (shrW x y))) := shift_shr_nat32 x yk y.toNat
@[go_sem high] theorem shift_shl_W32_8 (x : BitVec 32) (yk : IntKind) (y : BitVec 8) : Op.shift .shl .u32 (W32 x) yk (W8 y) = pure (.int .u32 (W32 (shlW x y))) := shift_shl_nat32 x yk y.toNat
@[go_sem high] theorem shift_shr_W32_8 (x : BitVec 32) (yk : IntKind) (y : BitVec 8) : Op.shift .shr .u32 (W32 x) yk (W8 y) = pure (.int .u32 (W32 (shrW x y))) := shift_shr_nat32 x yk y.toNat
theorem shift_shl_nat16 (x : BitVec 16) (yk : IntKind) (y : Nat) : Op.shift .shl .u16 (W16 x) yk (y : Int) = pure (.int .u16 (W16 (x <<< y))) := by
  unfold Op.shift
  rw [if_neg (by omega)]
  simp only [Int.toNat_natCast, IntKind.bits]
  rw [wrap_W16, ofInt_mul_pow, ofInt16_W16]
  by_cases h : y ≤ 16
  · rw [Nat.min_eq_left h]
  · rw [Nat.min_eq_right (by omega), BitVec.shiftLeft_eq_zero (by omega), BitVec.shiftLeft_eq_zero (by omega)]
theorem shift_shr_nat16 (x : BitVec 16) (yk : IntKind) (y : Nat) : Op.shift .shr .u16 (W16 x) yk (y : Int) = pure (.int .u16 (W16 (x >>> y))) := by
  unfold Op.shift
  rw [if_neg (by omega)]
  simp only [Int.toNat_natCast, IntKind.bits]
  rw [Int.fdiv_eq_ediv_of_nonneg _ (Int.pow_nonneg (by decide)), W16_shr]
  by_cases h : y ≤ 16
  · rw [Nat.min_eq_left h]
  · rw [Nat.min_eq_right (by omega), BitVec.ushiftRight_eq_zero (by omega), BitVec.ushiftRight_eq_zero (by omega)]
@[go_sem high] theorem shift_shl_var16 (x : BitVec 16) (yk : IntKind) (y : Int) (h : 0 ≤ y) : Op.shift .shl .u16 (W16 x) yk y = pure (.int .u16 (W16 (x <<< y.toNat))) := by
  obtain ⟨k, rfl⟩ := Int.eq_ofNat_of_zero_le h
  exact shift_shl_nat16 x yk k
@[go_sem high] theorem shift_shr_var16 (x : BitVec 16) (yk : IntKind) (y : Int) (h : 0 ≤ y) : Op.shift .shr .u16 (W16 x) yk y = pure (.int .u16 (W16 (x >>> y.toNat))) := by
  obtain ⟨k, rfl⟩ := Int.eq_ofNat_of_zero_le h
  exact shift_shr_nat16 x yk k
@[go_sem high] theorem shift_shl_W16_64 (x : BitVec 16) (yk : IntKind) (y : BitVec 64) : Op.shift .shl .u16 (W16 x) yk (W64 y) = pure (.int .u16 (W16 (shlW x y))) := shift_shl_nat16 x yk y.toNat
@[go_sem high] theorem shift_shr_W16_64 (x : BitVec 16) (yk : IntKind) (y : BitVec 64) : Op.shift .shr .u16 (W16 x) yk (W64 y) = pure (.int .u16 (W16 (shrW x y))) := shift_shr_nat16 x yk y.toNat
@[go_sem high] theorem shift_shl_W16_32 (x : BitVec 16) (yk : IntKind) (y : BitVec 32) : Op.shift .shl .u16 (W16 x) yk (W32 y) = pure (.int .u16 (W16 (shlW x y))) := shift_shl_nat16 x yk y.toNat
@[go_sem high] theorem shift_shr_W16_32 (x : BitVec 16) (yk : IntKind) (y : BitVec 32) : Op.shift .shr .u16 (W16 x) yk (W32 y) = pure (.int .u16 (W16 (shrW x y))) := shift_shr_nat16 x yk y.toNat
@[go_sem high] theorem shift_shl_W16_8 (x : BitVec 16) (yk : IntKind) (y : BitVec 8) : Op.shift .shl .u16 (W16 x) yk (W8 y) = pure (.int .u16 (W16 (shlW x y))) := shift_shl_nat16 x yk y.toNat
@[go_sem high] theorem shift_shr_W16_8 (x : BitVec 16) (yk : IntKind) (y : BitVec 8) : Op.shift .shr .u16 (W16 x) yk (W8 y) = pure (.int .u16 (W16 (shrW x y))) := shift_shr_nat16 x yk y.toNat
theorem shift_shl_nat8 (x : BitVec 8) (yk : IntKind) (y : Nat) : Op.shift .shl .u8 (W8 x) yk (y : Int) = pure (.int .u8 (W8 (x <<< y))) := by
  unfold Op.shift
  rw [if_neg (by omega)]
  simp only [Int.toNat_natCast, IntKind.bits]
  rw [wrap_W8, ofInt_mul_pow, ofInt8_W8]
  by_cases h : y ≤ 8
  · rw [Nat.min_eq_left h]
  · rw [Nat.min_eq_right (by omega), BitVec.shiftLeft_eq_zero (by omega), BitVec.shiftLeft_eq_zero (by omega)]
theorem shift_shr_nat8 (x : BitVec 8) (yk : IntKind) (y : Nat) : Op.shift .shr .u8 (W8 x) yk (y : Int) = pure (.int .u8 (W8 (x >>> y))) := by
  unfold Op.shift
  rw [if_neg (by omega)]
  simp only [Int.toNat_natCast, IntKind.bits]
  rw [Int.fdiv_eq_ediv_of_nonneg _ (Int.pow_nonneg (by decide)), W8_shr]
  by_cases h : y ≤ 8
  · rw [Nat.min_eq_left h]
  · rw [Nat.min_eq_right (by omega), BitVec.ushiftRight_eq_zero (by omega), BitVec.ushiftRight_eq_zero (by omega)]
@[go_sem high] theorem shift_shl_var8 (x : BitVec 8) (yk : IntKind) (y : Int) (h : 0 ≤ y) : Op.shift .shl .u8 (W8 x) yk y = pure (.int .u8 (W8 (x <<< y.toNat))) := by
  obtain ⟨k, rfl⟩ := Int.eq_ofNat_of_zero_le h
  exact shift_shl_nat8 x yk k
@[go_sem high] theorem shift_shr_var8 (x : BitVec 8) (yk : IntKind) (y : Int) (h : 0 ≤ y) : Op.shift .shr .u8 (W8 x) yk y = pure (.int .u8 (W8 (x >>> y.toNat))) := by
  obtain ⟨k, rfl⟩ := Int.eq_ofNat_of_zero_le h
  exact shift_shr_nat8 x yk k
@[go_sem high] theorem shift_shl_W8_64 (x : BitVec 8) (yk : IntKind) (y : BitVec 64) : Op.shift .shl .u8 (W8 x) yk (W64 y) = pure (.int .u8 (W8 (shlW x y))) := shift_shl_nat8 x yk y.toNat
@[go_sem high] theorem shift_shr_W8_64 (x : BitVec 8) (yk : IntKind) (y : BitVec 64) : Op.shift .shr .u8 (W8 x) yk (W64 y) = pure (.int .u8 (W8 (shrW x y))) := shift_shr_nat8 x yk y.toNat
@[go_sem high] theorem shift_shl_W8_32 (x : BitVec 8) (yk : IntKind) (y : BitVec 32) : Op.shift .shl .u8 (W8 x) yk (W32 y) = pure (.int .u8 (W8 (shlW x y))) := shift_shl_nat8 x yk y.toNat
@[go_sem high] theorem shift_shr_W8_32 (x : BitVec 8) (yk : IntKind) (y : BitVec 32) : Op.shift .shr .u8 (W8 x) yk (W32 y) = pure (.int .u8 (W8 (shrW x y))) := shift_shr_nat8 x yk y.toNat
@[go_sem high] theorem shift_shl_W8_8 (x : BitVec 8) (yk : IntKind) (y : BitVec 8) : Op.shift .shl .u8 (W8 x) yk (W8 y) = pure (.int .u8 (W8 (shlW x y))) := shift_shl_nat8 x yk y.toNat
@[go_sem high] theorem shift_shr_W8_8 (x : BitVec 8) (yk : IntKind) (y : BitVec 8) : Op.shift .shr .u8 (W8 x) yk (W8 y) = pure (.int .u8 (W8 (shrW x y))) := shift_shr_nat8 x yk y.toNat
@[go_sem high] theorem run_min_i64 {P : Program} (w : World) (ts : Array TypeId) (t : TypeId) (k' : IntKind) (x y : Int) : (Builtin.min_ ts t #[.int .i64 x, .int k' y]).run P w = .ok (.int .i64 (min x y)) w := by
  rw [run_min_int2]; congr 2; split <;> omega
@[go_sem high] theorem run_max_i64 {P : Program} (w : World) (ts : Array TypeId) (t : TypeId) (k' : IntKind) (x y : Int) : (Builtin.max_ ts t #[.int .i64 x, .int k' y]).run P w = .ok (.int .i64 (max x y)) w := by
  rw [run_max_int2]; congr 2; split <;> omega
end Go.Proofs.Ytbkaeoaepmeceaa
