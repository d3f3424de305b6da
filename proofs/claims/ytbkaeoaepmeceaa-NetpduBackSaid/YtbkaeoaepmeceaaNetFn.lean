/- What the functions of layer 48 (netpdu) compute. No program here. -/
import Derived.Test.YtbkaeoaepmeceaaRefrFn
import Derived.Test.YtbkaeoaepmeceaaMacLaws
namespace Go.Proofs.Ytbkaeoaepmeceaa
set_option linter.unusedVariables false
set_option linter.unusedSimpArgs false
structure NP where
  iv : BitVec 32
  nid : Int
  ctl : Bool
  ttl : Int
  seq : BitVec 32
  src : BitVec 16
  dst : BitVec 16
  pay : List (BitVec 8)
  deriving DecidableEq
def np0 : NP := ⟨0#32, 0, false, 0, 0#32, 0#16, 0#16, []⟩
def nodeK (a : BitVec 16) : Bool := decide (0#16 < a) && decide (a ≤ 32767#16)
def groupK (a : BitVec 16) : Bool := decide (49152#16 ≤ a)
def rangeN (p : NP) : Prop := p.nid < 0 ∨ 127 < p.nid ∨ p.ttl < 0 ∨ 127 < p.ttl ∨ 16777215#32 < p.seq
def shapeN (p : NP) : Prop := nodeK p.src = false ∨ (nodeK p.dst = false ∧ groupK p.dst = false) ∨ p.pay.length = 0
instance (p : NP) : Decidable (rangeN p) := by unfold rangeN; exact inferInstance
instance (p : NP) : Decidable (shapeN p) := by unfold shapeN; exact inferInstance
def checkN (p : NP) : Int := if rangeN p then 5 else if shapeN p then 1 else if 16 < p.pay.length then 4 else 0
def ctlB (ctl : Bool) (ttl : Int) : BitVec 8 := if ctl then BitVec.ofInt 8 ttl ||| 128#8 else BitVec.ofInt 8 ttl
def openL (p : NP) : List (BitVec 8) := [ctlB p.ctl p.ttl, p.seq.setWidth 8, (p.seq >>> 8).setWidth 8, (p.seq >>> 16).setWidth 8, p.src.setWidth 8, (p.src >>> 8).setWidth 8]
def maskX (k : NK) (iv : BitVec 32) (sealed : List (BitVec 8)) : BitVec 64 := derive k.hide (lbytes lblHide) [iv.setWidth 64, leVal (sealed.take 7)]
def maskL (k : NK) (iv : BitVec 32) (sealed : List (BitVec 8)) : List (BitVec 8) := numB 6 (maskX k iv sealed)
theorem maskL_length (k : NK) (iv : BitVec 32) (sealed : List (BitVec 8)) : (maskL k iv sealed).length = 6 := numB_length _ _
def plainL (p : NP) : List (BitVec 8) := hdr p.dst ++ p.pay
def partL (k : NK) (p : NP) : List (BitVec 8) := sealB k.enc (nonceK 0 p.src p.seq p.iv) [ctlB p.ctl p.ttl] (plainL p)
def headN (iv : BitVec 32) (nid : Int) : BitVec 8 := BitVec.ofInt 8 nid ||| (BitVec.setWidth 8 (iv &&& 1#32) <<< 7)
def encB (k : NK) (p : NP) : List (BitVec 8) := [headN p.iv p.nid] ++ (xorB (openL p) (maskL k p.iv (partL k p)) ++ partL k p)
def encN (k : NK) (p : NP) : List (BitVec 8) × Int := if checkN p ≠ 0 then ([], checkN p) else if p.nid ≠ k.nid then ([], 17) else (encB k p, 0)
def preN (nid : Int) (iv : BitVec 32) (o : List (BitVec 8)) : NP :=
  match o with
  | [o0, o1, o2, o3, o4, o5] => ⟨iv, nid, o0 &&& 128#8 != 0#8, W8 (o0 &&& 127#8), o1.setWidth 32 ||| (o2.setWidth 32 <<< 8) ||| (o3.setWidth 32 <<< 16), o4.setWidth 16 ||| (o5.setWidth 16 <<< 8), 0#16, []⟩
  | _ => np0
def dstN (l : List (BitVec 8)) : BitVec 16 :=
  match l with
  | a :: b :: _ => a.setWidth 16 ||| (b.setWidth 16 <<< 8)
  | _ => 0#16
def decOpen (k : NK) (iv : BitVec 32) (b : List (BitVec 8)) : List (BitVec 8) := xorB ((b.drop 1).take 6) (maskL k iv (b.drop 7))
def badHint (k : NK) (iv : BitVec 32) (b0 : BitVec 8) : Prop := W8 (b0 &&& 127#8) ≠ k.nid ∨ W8 (b0 >>> 7) ≠ W32 (iv &&& 1#32)
instance (k : NK) (iv : BitVec 32) (b0 : BitVec 8) : Decidable (badHint k iv b0) := by unfold badHint; exact inferInstance
def endN (q : NP) (r : List (BitVec 8) × Int) : NP × Int :=
  if r.2 ≠ 0 then (np0, r.2)
  else if checkN { q with dst := dstN r.1, pay := r.1.drop 2 } ≠ 0 then (np0, checkN { q with dst := dstN r.1, pay := r.1.drop 2 })
  else ({ q with dst := dstN r.1, pay := r.1.drop 2 }, 0)
def decN (k : NK) (iv : BitVec 32) (b : List (BitVec 8)) : NP × Int :=
  if b.length < 14 then (np0, 3)
  else if 29 < b.length then (np0, 4)
  else if badHint k iv (b.headD 0#8) then (np0, 17)
  else endN (preN k.nid iv (decOpen k iv b)) (openB k.enc (nonceK 0 (preN k.nid iv (decOpen k iv b)).src (preN k.nid iv (decOpen k iv b)).seq iv) ((decOpen k iv b).take 1) (b.drop 7))
/-! ### bytes -/
theorem ctl_ref : ∀ ttl : Int, 0 ≤ ttl → ttl ≤ 127 → BitVec.ofInt 8 (ttl + 128) = BitVec.ofInt 8 ttl ||| 128#8 := by
  intro ttl h0 h1
  obtain ⟨n, rfl⟩ := Int.eq_ofNat_of_zero_le h0
  have h : ∀ n : Nat, n < 128 → BitVec.ofInt 8 ((n : Int) + 128) = BitVec.ofInt 8 (n : Int) ||| 128#8 := by decide
  exact h n (by omega)
theorem ctl_ok : ∀ (c : Bool) (ttl : Int), 0 ≤ ttl → ttl ≤ 127 → ((ctlB c ttl &&& 128#8 != 0#8) = c) ∧ W8 (ctlB c ttl &&& 127#8) = ttl := by
  intro c ttl h0 h1
  obtain ⟨n, rfl⟩ := Int.eq_ofNat_of_zero_le h0
  have h : ∀ n : Nat, n < 128 → ∀ c : Bool, ((ctlB c (n : Int) &&& 128#8 != 0#8) = c) ∧ W8 (ctlB c (n : Int) &&& 127#8) = (n : Int) := by decide
  exact h n (by omega) c
theorem ctl_of : ∀ x : BitVec 8, ctlB (x &&& 128#8 != 0#8) (W8 (x &&& 127#8)) = x := by decide
theorem head_ok : ∀ (iv : BitVec 32) (nid : Int), 0 ≤ nid → nid ≤ 127 → W8 (headN iv nid &&& 127#8) = nid ∧ W8 (headN iv nid >>> 7) = W32 (iv &&& 1#32) := by
  intro iv nid h0 h1
  obtain ⟨n, rfl⟩ := Int.eq_ofNat_of_zero_le h0
  have hb : iv &&& 1#32 = 0#32 ∨ iv &&& 1#32 = 1#32 := by
    have h2 : (iv &&& 1#32).toNat = iv.toNat % 2 := by rw [BitVec.toNat_and]; exact Nat.and_two_pow_sub_one_eq_mod iv.toNat 1
    rcases Nat.mod_two_eq_zero_or_one iv.toNat with h | h
    · exact .inl (BitVec.eq_of_toNat_eq (by rw [h2, h]; rfl))
    · exact .inr (BitVec.eq_of_toNat_eq (by rw [h2, h]; rfl))
  have h : ∀ n : Nat, n < 128 → (W8 ((BitVec.ofInt 8 (n : Int) ||| (BitVec.setWidth 8 (0#32) <<< 7)) &&& 127#8) = (n : Int) ∧ W8 ((BitVec.ofInt 8 (n : Int) ||| (BitVec.setWidth 8 (0#32) <<< 7)) >>> 7) = W32 0#32) ∧ (W8 ((BitVec.ofInt 8 (n : Int) ||| (BitVec.setWidth 8 (1#32) <<< 7)) &&& 127#8) = (n : Int) ∧ W8 ((BitVec.ofInt 8 (n : Int) ||| (BitVec.setWidth 8 (1#32) <<< 7)) >>> 7) = W32 1#32) := by decide
  have h3 := h n (by omega)
  unfold headN
  rcases hb with e | e
  · rw [e]; exact h3.1
  · rw [e]; exact h3.2
theorem head_of : ∀ (iv : BitVec 32) (x : BitVec 8), W8 (x >>> 7) = W32 (iv &&& 1#32) → headN iv (W8 (x &&& 127#8)) = x := by
  intro iv x hx
  have h : ∀ x : BitVec 8, BitVec.ofInt 8 (W8 (x &&& 127#8)) ||| (x >>> 7) <<< 7 = x := by decide
  have e : BitVec.setWidth 8 (iv &&& 1#32) = x >>> 7 := by
    apply BitVec.eq_of_toNat_eq
    unfold W8 W32 at hx
    have hx' : (x >>> 7).toNat = (iv &&& 1#32).toNat := by omega
    rw [BitVec.toNat_setWidth, ← hx']
    have := (x >>> 7).isLt
    omega
  unfold headN
  rw [e]
  exact h x
theorem head_ref : ∀ (iv : BitVec 32) (nid : Int), 0 ≤ nid → nid ≤ 127 → BitVec.setWidth 8 (BitVec.ofInt 32 nid + iv % 2#32 * 128#32) = headN iv nid := by
  intro iv nid h0 h1
  obtain ⟨n, rfl⟩ := Int.eq_ofNat_of_zero_le h0
  have hb : iv % 2#32 = iv &&& 1#32 := by
    apply BitVec.eq_of_toNat_eq
    rw [BitVec.toNat_umod, BitVec.toNat_and]
    exact (Nat.and_two_pow_sub_one_eq_mod iv.toNat 1).symm
  have hc : iv &&& 1#32 = 0#32 ∨ iv &&& 1#32 = 1#32 := by
    have h2 : (iv &&& 1#32).toNat = iv.toNat % 2 := by rw [BitVec.toNat_and]; exact Nat.and_two_pow_sub_one_eq_mod iv.toNat 1
    rcases Nat.mod_two_eq_zero_or_one iv.toNat with h | h
    · exact .inl (BitVec.eq_of_toNat_eq (by rw [h2, h]; rfl))
    · exact .inr (BitVec.eq_of_toNat_eq (by rw [h2, h]; rfl))
  have h : ∀ n : Nat, n < 128 → BitVec.setWidth 8 (BitVec.ofInt 32 (n : Int) + 0#32 * 128#32) = (BitVec.ofInt 8 (n : Int) ||| (BitVec.setWidth 8 (0#32) <<< 7)) ∧ BitVec.setWidth 8 (BitVec.ofInt 32 (n : Int) + 1#32 * 128#32) = (BitVec.ofInt 8 (n : Int) ||| (BitVec.setWidth 8 (1#32) <<< 7)) := by decide
  have h3 := h n (by omega)
  unfold headN
  rw [hb]
  rcases hc with e | e
  · rw [e]; exact h3.1
  · rw [e]; exact h3.2
end Go.Proofs.Ytbkaeoaepmeceaa
