/- What the functions of layer 29 (encrypt) compute. No program here. -/
import Derived.Test.YtmehemojopfihaaConfFn
namespace Go.Proofs.Ytmehemojopfihaa
structure Ses where
  role : Int
  key : BitVec 64
  salt : BitVec 64
  txOn : Bool
  rxOn : Bool
  tx : BitVec 64
  rx : BitVec 64
  deriving DecidableEq
def lblSession : ByteArray := ⟨#[115, 101, 115, 115, 105, 111, 110]⟩
def newS (role : Int) (k c p : BitVec 64) : Ses := ⟨if role = 1 then 1 else 0, derive k (lbytes lblSession) [c, p], c ^^^ p, false, false, 0#64, 0#64⟩
def turnS (s : Ses) (tx rx : Bool) : Ses := { s with txOn := tx, rxOn := rx }
def nextS (s : Ses) (sent got : Bool) : Ses := { s with tx := if sent && s.txOn then s.tx + 1#64 else s.tx, rx := if got && s.rxOn then s.rx + 1#64 else s.rx }
/-- The direction of what a role sends, and of what it gets. -/
def sentD (role : Int) : BitVec 64 := if role = 1 then 1#64 else 0#64
def gotD (role : Int) : BitVec 64 := if role = 1 then 0#64 else 1#64
/-- The nonce of a packet. -/
def nonceS (salt d n : BitVec 64) : BitVec 64 := salt ^^^ (2#64 * n + d)
structure Pdu where
  sn : Int
  nesn : Int
  md : Int
  ll : Int
  pay : List (BitVec 8)
  deriving DecidableEq
def nilP : Pdu := ⟨0, 0, 0, 0, []⟩
def bitS (n : Int) : Bool := decide (n = 0 ∨ n = 1)
def checkL (ll : Int) (n : Nat) : Int := if ll < 1 ∨ 3 < ll then 12 else if n = 0 ∧ ll ≠ 1 then 1 else if 255 < n then 4 else 0
def checkS (p : Pdu) : Int := if bitS p.sn && bitS p.nesn && bitS p.md then checkL p.ll p.pay.length else 5
def blankS (p : Pdu) : Bool := decide (p.ll = 1) && decide (p.pay.length = 0)
def sealS (s : Ses) (p : Pdu) : Pdu × Int :=
  if checkS p ≠ 0 then (nilP, checkS p) else if !s.txOn || blankS p then (p, 0) else if 251 < p.pay.length then (nilP, 4)
  else ({ p with pay := sealB s.key (nonceS s.salt (sentD s.role) s.tx) [BitVec.ofInt 8 p.ll] p.pay }, 0)
def openS (s : Ses) (p : Pdu) : Pdu × Int :=
  if checkS p ≠ 0 then (nilP, checkS p) else if !s.rxOn || blankS p then (p, 0) else if p.pay.length < 5 then (nilP, 3)
  else if (openB s.key (nonceS s.salt (gotD s.role) s.rx) [BitVec.ofInt 8 p.ll] p.pay).2 ≠ 0 then (nilP, (openB s.key (nonceS s.salt (gotD s.role) s.rx) [BitVec.ofInt 8 p.ll] p.pay).2)
  else ({ p with pay := (openB s.key (nonceS s.salt (gotD s.role) s.rx) [BitVec.ofInt 8 p.ll] p.pay).1 }, 0)
end Go.Proofs.Ytmehemojopfihaa
