/- What the functions of layer 10 (confirm) compute. No program here. -/
import Derived.Test.YtbkaeoaepmeceaaMacFn
namespace Go.Proofs.Ytbkaeoaepmeceaa

/-- The number of an address. -/
def numA (kind : Int) (bits : BitVec 64) : BitVec 64 := BitVec.ofInt 64 kind <<< 48 + bits
theorem numA_mul (kind : Int) (bits : BitVec 64) : BitVec.ofInt 64 kind * 281474976710656#64 + bits = numA kind bits := by
  unfold numA
  rw [BitVec.shiftLeft_eq_mul_twoPow]
  rfl
def flagsTo (bs : List Bool) : Nat → BitVec 64
  | 0 => 0#64
  | k + 1 => if bs.getD k false then flagsTo bs k ||| 1#64 <<< k else flagsTo bs k
theorem flagsTo_succ (bs : List Bool) (k : Nat) : flagsTo bs (k + 1) = if bs.getD k false then flagsTo bs k ||| 1#64 <<< k else flagsTo bs k := rfl
/-- The number of features. -/
def featK (io : Int) (bs : List Bool) : BitVec 64 := (BitVec.ofInt 32 io).setWidth 64 ||| flagsTo bs bs.length <<< 32
def bitB (b : Bool) (n : BitVec 64) : BitVec 64 := if b then n else 0#64
def bitSum (b1 b2 b3 b4 b5 : Bool) : BitVec 64 := bitB b1 1#64 + bitB b2 2#64 + bitB b3 4#64 + bitB b4 8#64 + bitB b5 16#64
theorem bitSum_flags (b1 b2 b3 b4 b5 : Bool) : bitSum b1 b2 b3 b4 b5 = flagsTo [b1, b2, b3, b4, b5] 5 := by
  cases b1 <;> cases b2 <;> cases b3 <;> cases b4 <;> cases b5 <;> decide
theorem low32i (io : Int) : BitVec.ofInt 64 io % 4294967296#64 = (BitVec.ofInt 32 io).setWidth 64 := by
  apply BitVec.eq_of_toNat_eq
  rw [BitVec.toNat_umod, BitVec.toNat_setWidth, BitVec.toNat_ofInt, BitVec.toNat_ofInt]
  have e : (4294967296#64).toNat = 4294967296 := rfl
  rw [e]
  omega
theorem or_add32 (x : BitVec 32) (y : BitVec 64) : x.setWidth 64 + y * 4294967296#64 = x.setWidth 64 ||| y <<< 32 := by
  have e : y * 4294967296#64 = y <<< 32 := by rw [BitVec.shiftLeft_eq_mul_twoPow]; rfl
  rw [e, BitVec.add_eq_or_of_and_eq_zero]
  apply BitVec.eq_of_getLsbD_eq
  intro i hi
  rw [BitVec.getLsbD_and, BitVec.getLsbD_shiftLeft, BitVec.getLsbD_setWidth]
  by_cases h : i < 32
  · simp [h]
  · have := BitVec.getLsbD_of_ge x i (by omega)
    simp [this]
theorem feat_ref (io : Int) (b1 b2 b3 b4 b5 : Bool) : BitVec.ofInt 64 io % 4294967296#64 + bitSum b1 b2 b3 b4 b5 * 4294967296#64 = featK io [b1, b2, b3, b4, b5] := by
  rw [low32i, or_add32, bitSum_flags]
  rfl
def lblCommit : ByteArray := ⟨#[99, 111, 109, 109, 105, 116]⟩
def lblDigits : ByteArray := ⟨#[100, 105, 103, 105, 116, 115]⟩
def lblLtk : ByteArray := ⟨#[108, 116, 107]⟩
def lblCheck : ByteArray := ⟨#[99, 104, 101, 99, 107]⟩
/-- The bytes of a string. -/
def lbytes (s : ByteArray) : List (BitVec 8) := s.data.toList.map (·.toBitVec)
def commitK (u v : BitVec 32) (nonce : BitVec 64) (z : BitVec 8) : BitVec 64 := mix (derive (joinW u v) (lbytes lblCommit) [z.setWidth 64]) nonce
def digitsK (u v : BitVec 32) (na nb : BitVec 64) : BitVec 64 := derive (joinW u v) (lbytes lblDigits) [na, nb] % 1000000#64
def ltkK (sh : BitVec 32) (na nb x y : BitVec 64) : BitVec 64 := derive (sh.setWidth 64) (lbytes lblLtk) [na, nb, x, y]
def checkK (sh : BitVec 32) (n r f x y : BitVec 64) : BitVec 64 := mix (derive 0#64 (lbytes lblCheck) [n, r, f, x, y]) (sh.setWidth 64)
theorem digitsK_lt (u v : BitVec 32) (na nb : BitVec 64) : (digitsK u v na nb).toNat < 1000000 := by
  unfold digitsK
  rw [BitVec.toNat_umod]
  exact Nat.mod_lt _ (by decide)
theorem setWidth_inj32 {x y : BitVec 32} (h : x.setWidth 64 = y.setWidth 64) : x = y := by
  have := congrArg BitVec.toNat h
  simp only [BitVec.toNat_setWidth] at this
  apply BitVec.eq_of_toNat_eq
  have h1 := x.isLt
  have h2 := y.isLt
  omega
theorem commit_inj (u v : BitVec 32) (a b : BitVec 64) (z : BitVec 8) : (commitK u v a z == commitK u v b z) = (a == b) := mix_inj _ _ _
theorem check_inj (s t : BitVec 32) (n r f x y : BitVec 64) : (checkK s n r f x y == checkK t n r f x y) = (s == t) := by
  unfold checkK
  rw [mix_inj, Bool.eq_iff_iff, beq_iff_eq, beq_iff_eq]
  exact ⟨setWidth_inj32, fun h => by rw [h]⟩
end Go.Proofs.Ytbkaeoaepmeceaa
