/- What the functions of layer 47 (meshkey) compute. No program here. -/
import Derived.Test.YtbkaeoaepmeceaaConfFn
namespace Go.Proofs.Ytbkaeoaepmeceaa
def lblNid : ByteArray := ⟨#[110, 105, 100]⟩
def lblEnc : ByteArray := ⟨#[101, 110, 99, 114, 121, 112, 116]⟩
def lblHide : ByteArray := ⟨#[104, 105, 100, 101]⟩
def lblBea : ByteArray := ⟨#[98, 101, 97, 99, 111, 110]⟩
def lblNonce : ByteArray := ⟨#[110, 111, 110, 99, 101]⟩
def nidK (k : BitVec 64) : BitVec 64 := derive k (lbytes lblNid) [] % 128#64
def encK (k : BitVec 64) : BitVec 64 := derive k (lbytes lblEnc) []
def hideK (k : BitVec 64) : BitVec 64 := derive k (lbytes lblHide) []
def beaK (k : BitVec 64) : BitVec 64 := derive k (lbytes lblBea) []
theorem nidK_lt (k : BitVec 64) : (nidK k).toNat < 128 := by
  unfold nidK
  rw [BitVec.toNat_umod]
  exact Nat.mod_lt _ (by decide)
def nonceK (kind : Int) (src : BitVec 16) (seq iv : BitVec 32) : BitVec 64 := derive 0#64 (lbytes lblNonce) [BitVec.ofInt 64 kind, src.setWidth 64, seq.setWidth 64, iv.setWidth 64]
/-- The nonce of an access message. -/
def appK (app : Bool) (src : BitVec 16) (iv seq : BitVec 32) : BitVec 64 := nonceK (if app then 1 else 2) src seq iv
/-- The header of an access message. -/
def hdr (dst : BitVec 16) : List (BitVec 8) := numB 2 (dst.setWidth 64)
theorem hdr_length (dst : BitVec 16) : (hdr dst).length = 2 := numB_length _ _
theorem hdr_eq (dst : BitVec 16) : hdr dst = [dst.setWidth 8, (dst >>> 8).setWidth 8] := by
  have e1 : ((dst.setWidth 64) >>> (8 * 0)).setWidth 8 = dst.setWidth 8 := by
    apply BitVec.eq_of_toNat_eq
    simp only [BitVec.toNat_setWidth, BitVec.toNat_ushiftRight, Nat.shiftRight_eq_div_pow]
    have := dst.isLt
    omega
  have e2 : ((dst.setWidth 64) >>> (8 * 1)).setWidth 8 = (dst >>> 8).setWidth 8 := by
    apply BitVec.eq_of_toNat_eq
    simp only [BitVec.toNat_setWidth, BitVec.toNat_ushiftRight, Nat.shiftRight_eq_div_pow]
    have := dst.isLt
    omega
  show [((dst.setWidth 64) >>> (8 * 0)).setWidth 8, ((dst.setWidth 64) >>> (8 * 1)).setWidth 8] = _
  rw [e1, e2]
end Go.Proofs.Ytbkaeoaepmeceaa
