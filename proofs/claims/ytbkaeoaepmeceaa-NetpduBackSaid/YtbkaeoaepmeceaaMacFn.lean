/- What the functions of layers 2 and 6 (octets, mac) compute, on lists of bytes. No program here. -/
import Derived.Test.YtbkaeoaepmeceaaBlkFn
namespace Go.Proofs.Ytbkaeoaepmeceaa

/-- The number of bytes, the least significant one first. -/
def leVal : List (BitVec 8) → BitVec 64
  | [] => 0#64
  | c :: cs => leVal cs <<< 8 ||| c.setWidth 64
/-- A number in n bytes, the least significant one first. -/
def numB (n : Nat) (x : BitVec 64) : List (BitVec 8) := (List.range n).map fun i => (x >>> (8 * i)).setWidth 8
theorem numB_length (n : Nat) (x : BitVec 64) : (numB n x).length = n := by simp [numB]
theorem numB_succ (n : Nat) (x : BitVec 64) : numB (n + 1) x = numB n x ++ [(x >>> (8 * n)).setWidth 8] := by simp [numB, List.range_succ]
theorem leVal_snoc (l : List (BitVec 8)) (c : BitVec 8) : leVal (l ++ [c]) = leVal l ||| c.setWidth 64 <<< (8 * l.length) := by
  induction l with
  | nil => simp [leVal]
  | cons a l ih =>
    simp only [List.cons_append, leVal, ih, List.length_cons, BitVec.shiftLeft_or_distrib]
    rw [show 8 * (l.length + 1) = 8 * l.length + 8 by omega, BitVec.shiftLeft_add, BitVec.or_assoc, BitVec.or_assoc, BitVec.or_comm (BitVec.setWidth 64 a)]
theorem leVal_cons_mul (c : BitVec 8) (cs : List (BitVec 8)) : leVal (c :: cs) = leVal cs * 256#64 + c.setWidth 64 := by
  have e : leVal cs * 256#64 = leVal cs <<< 8 := by rw [BitVec.shiftLeft_eq_mul_twoPow]; rfl
  rw [e, BitVec.add_eq_or_of_and_eq_zero]
  · rfl
  · apply BitVec.eq_of_getLsbD_eq
    intro i hi
    rw [BitVec.getLsbD_and, BitVec.getLsbD_shiftLeft, BitVec.getLsbD_setWidth]
    by_cases h : i < 8
    · simp [h]
    · have := BitVec.getLsbD_of_ge c i (by omega)
      simp [this]

theorem shr_div (x : BitVec 64) (n : Nat) : (x >>> (8 * n)) / 256#64 = x >>> (8 * (n + 1)) := by
  apply BitVec.eq_of_toNat_eq
  rw [BitVec.toNat_udiv, BitVec.toNat_ushiftRight, BitVec.toNat_ushiftRight, Nat.shiftRight_eq_div_pow, Nat.shiftRight_eq_div_pow, show 8 * (n + 1) = 8 * n + 8 by omega, Nat.pow_add, ← Nat.div_div_eq_div_mul]
  rfl
theorem byte_mod (x : BitVec 64) : BitVec.setWidth 8 (x % 256#64) = x.setWidth 8 := by
  apply BitVec.eq_of_toNat_eq
  rw [BitVec.toNat_setWidth, BitVec.toNat_setWidth, BitVec.toNat_umod]
  have : (256#64).toNat = 256 := rfl
  rw [this]
  omega
/-- The number of the bytes from j on. -/
def valFrom (bs : List (BitVec 8)) (j : Nat) : BitVec 64 := leVal (bs.drop j)
theorem valFrom_all (bs : List (BitVec 8)) : valFrom bs bs.length = 0#64 := by simp [valFrom, leVal]
theorem valFrom_zero (bs : List (BitVec 8)) : valFrom bs 0 = leVal bs := rfl
theorem valFrom_step (bs : List (BitVec 8)) (j : Nat) (h : j < bs.length) : valFrom bs (j + 1) * 256#64 + (bs[j]).setWidth 64 = valFrom bs j := by
  unfold valFrom
  rw [List.drop_eq_getElem_cons h, leVal_cons_mul]
/-! ### groups and tags -/
def nGroups (n : Nat) : Nat := (n + 7) / 8
def groupAt (bs : List (BitVec 8)) (i : Nat) : BitVec 64 := leVal ((bs.drop (8 * i)).take 8)
def groupsTo (bs : List (BitVec 8)) (n : Nat) : List (BitVec 64) := (List.range n).map (groupAt bs)
theorem groupsTo_succ (bs : List (BitVec 8)) (n : Nat) : groupsTo bs (n + 1) = groupsTo bs n ++ [groupAt bs n] := by simp [groupsTo, List.range_succ]
theorem groupsTo_length (bs : List (BitVec 8)) (n : Nat) : (groupsTo bs n).length = n := by simp [groupsTo]
def tagFold (k x : BitVec 64) (gs : List (BitVec 64)) : BitVec 64 := gs.foldl (fun x g => mix k (x ^^^ g)) x
theorem tagFold_snoc (k x : BitVec 64) (gs : List (BitVec 64)) (g : BitVec 64) : tagFold k x (gs ++ [g]) = mix k (tagFold k x gs ^^^ g) := by simp [tagFold]
def tagStart (k : BitVec 64) (n : Nat) : BitVec 64 := mix k (BitVec.ofNat 64 n)
def tag (k : BitVec 64) (bs : List (BitVec 8)) : BitVec 64 := tagFold k (tagStart k bs.length) (groupsTo bs (nGroups bs.length))
def nums8 (xs : List (BitVec 64)) : List (BitVec 8) := xs.flatMap (numB 8)
theorem nums8_length (xs : List (BitVec 64)) : (nums8 xs).length = xs.length * 8 := by
  induction xs with
  | nil => rfl
  | cons x xs ih => simp only [nums8, List.flatMap_cons, List.length_append, numB_length, List.length_cons] at *; omega
theorem nums8_snoc (xs : List (BitVec 64)) (x : BitVec 64) : nums8 (xs ++ [x]) = nums8 xs ++ numB 8 x := by simp [nums8]
/-- The key that is derived for a label and numbers. -/
def derive (k : BitVec 64) (label : List (BitVec 8)) (parts : List (BitVec 64)) : BitVec 64 := tag k (label ++ [0#8] ++ nums8 parts)

def chunk (bs : List (BitVec 8)) (k : Nat) : List (BitVec 8) := (bs.drop (8 * k)).take 8
theorem chunk_length (bs : List (BitVec 8)) (k : Nat) : (chunk bs k).length = min 8 (bs.length - 8 * k) := by simp [chunk]
theorem chunk_get (bs : List (BitVec 8)) (k j : Nat) (h : j < (chunk bs k).length) (h2 : 8 * k + j < bs.length) : (chunk bs k)[j] = bs[8 * k + j] := by simp [chunk]
theorem groupAt_chunk (bs : List (BitVec 8)) (k : Nat) : groupAt bs k = leVal (chunk bs k) := rfl
/-- The number of the first j bytes of group k. -/
def partVal (bs : List (BitVec 8)) (k j : Nat) : BitVec 64 := leVal ((chunk bs k).take j)
theorem partVal_zero (bs : List (BitVec 8)) (k : Nat) : partVal bs k 0 = 0#64 := by simp [partVal, leVal]
theorem partVal_all (bs : List (BitVec 8)) (k j : Nat) (h : (chunk bs k).length ≤ j) : partVal bs k j = groupAt bs k := by unfold partVal; rw [List.take_of_length_le h]; rfl
theorem partVal_succ (bs : List (BitVec 8)) (k j : Nat) (h : j < (chunk bs k).length) (h2 : 8 * k + j < bs.length) : partVal bs k (j + 1) = partVal bs k j ||| (bs[8 * k + j]).setWidth 64 <<< (8 * j) := by
  unfold partVal
  rw [List.take_succ_eq_append_getElem h, leVal_snoc, chunk_get bs k j h h2, List.length_take, Nat.min_eq_left (by omega)]
/-! ### streams, sealed bytes -/
def streamNums (k nonce : BitVec 64) (n : Nat) : List (BitVec 64) := (List.range n).map fun j => mix k (mix k nonce + BitVec.ofNat 64 j)
theorem streamNums_succ (k nonce : BitVec 64) (n : Nat) : streamNums k nonce (n + 1) = streamNums k nonce n ++ [mix k (mix k nonce + BitVec.ofNat 64 n)] := by simp [streamNums, List.range_succ]
theorem streamNums_length (k nonce : BitVec 64) (n : Nat) : (streamNums k nonce n).length = n := by simp [streamNums]
/-- The first n bytes of the key stream. -/
def stream (k nonce : BitVec 64) (n : Nat) : List (BitVec 8) := (nums8 (streamNums k nonce (nGroups n))).take n
theorem stream_length (k nonce : BitVec 64) (n : Nat) : (stream k nonce n).length = n := by
  unfold stream nGroups
  rw [List.length_take, nums8_length, streamNums_length]
  omega
def xorB (a b : List (BitVec 8)) : List (BitVec 8) := List.zipWith (· ^^^ ·) a b
/-- What stands in the row of Xor after k rounds. -/
def xorRow (a b : List (BitVec 8)) (k : Nat) : List (BitVec 8) := (xorB a b).take k ++ List.replicate ((xorB a b).length - k) 0#8
theorem xorB_length (a b : List (BitVec 8)) : (xorB a b).length = min a.length b.length := by simp [xorB]
theorem xorRow_length (a b : List (BitVec 8)) (k : Nat) : (xorRow a b k).length = (xorB a b).length := by
  unfold xorRow
  rw [List.length_append, List.length_take, List.length_replicate]
  omega
theorem xorRow_succ (a b : List (BitVec 8)) (k : Nat) (h : k < (xorB a b).length) (ha : k < a.length) (hb : k < b.length) : xorRow a b (k + 1) = (xorRow a b k).set k (a[k] ^^^ b[k]) := by
  have hx : (xorB a b)[k] = a[k] ^^^ b[k] := by simp [xorB]
  unfold xorRow
  rw [List.take_succ_eq_append_getElem h, hx]
  have hl : ((xorB a b).take k).length = k := by rw [List.length_take]; omega
  rw [List.set_append_right _ _ (by omega), hl, Nat.sub_self]
  obtain ⟨m, hm⟩ : ∃ m, (xorB a b).length - k = m + 1 := ⟨(xorB a b).length - k - 1, by omega⟩
  rw [hm, show (xorB a b).length - (k + 1) = m by omega, List.replicate_succ, List.set_cons_zero, List.append_assoc]
  rfl
theorem xorRow_all (a b : List (BitVec 8)) : xorRow a b (xorB a b).length = xorB a b := by unfold xorRow; rw [List.take_length, Nat.sub_self]; simp
def tagInput (nonce : BitVec 64) (header c : List (BitVec 8)) : List (BitVec 8) := numB 8 nonce ++ numB 4 ((BitVec.ofNat 32 header.length).setWidth 64) ++ header ++ c
def tailB (k nonce : BitVec 64) (header c : List (BitVec 8)) : List (BitVec 8) := numB 4 (tag k (tagInput nonce header c))
def crypt (k nonce : BitVec 64) (plain : List (BitVec 8)) : List (BitVec 8) := xorB plain (stream k nonce plain.length)
def sealB (k nonce : BitVec 64) (header plain : List (BitVec 8)) : List (BitVec 8) := crypt k nonce plain ++ tailB k nonce header (crypt k nonce plain)
theorem crypt_length (k nonce : BitVec 64) (plain : List (BitVec 8)) : (crypt k nonce plain).length = plain.length := by simp [crypt, xorB, stream_length]
theorem tailB_length (k nonce : BitVec 64) (header c : List (BitVec 8)) : (tailB k nonce header c).length = 4 := numB_length _ _
theorem sealB_length (k nonce : BitVec 64) (header plain : List (BitVec 8)) : (sealB k nonce header plain).length = plain.length + 4 := by simp [sealB, crypt_length, tailB_length]
/-- What Open returns: bytes and an error (0, 3 ErrTruncated, 15 ErrAuth). -/
def openB (k nonce : BitVec 64) (header sealed : List (BitVec 8)) : List (BitVec 8) × Int :=
  if sealed.length < 4 then ([], 3)
  else if tailB k nonce header (sealed.take (sealed.length - 4)) = sealed.drop (sealed.length - 4) then (crypt k nonce (sealed.take (sealed.length - 4)), 0)
  else ([], 15)
end Go.Proofs.Ytbkaeoaepmeceaa
