/- What the functions of layer 5 (block) compute, as functions on bit vectors; the plain laws. No program here. -/
import Derived.Test.YtbkaeoaepmeceaaSerFn
namespace Go.Proofs.Ytbkaeoaepmeceaa

def rotl64 (x : BitVec 64) (s : Nat) : BitVec 64 := x <<< s ||| x >>> (64 - s)
def rotl32 (x : BitVec 32) (s : Nat) : BitVec 32 := x <<< s ||| x >>> (32 - s)
/-- The low half of a key that is rotated for a round. -/
def kLow (k : BitVec 64) (i : Int) : BitVec 32 := (rotl64 k ((11 * i) % 64).toNat).setWidth 32
/-- The round function. -/
def rnd (k : BitVec 64) (i : Int) (h : BitVec 32) : BitVec 32 := rotl32 (h + kLow k i) 7 * 2654435761#32 ^^^ rotl32 (kLow k i) 16
def hiW (x : BitVec 64) : BitVec 32 := (x >>> 32).setWidth 32
def loW (x : BitVec 64) : BitVec 32 := x.setWidth 32
def joinW (l r : BitVec 32) : BitVec 64 := l.setWidth 64 <<< 32 ||| r.setWidth 64
/-- The halves after n rounds. -/
def fwd (k : BitVec 64) (l r : BitVec 32) : Nat → BitVec 32 × BitVec 32
  | 0 => (l, r)
  | n + 1 => ((fwd k l r n).2, (fwd k l r n).1 ^^^ rnd k n (fwd k l r n).2)
/-- The halves after n rounds back, from round 7 down. -/
def bwd (k : BitVec 64) (l r : BitVec 32) : Nat → BitVec 32 × BitVec 32
  | 0 => (l, r)
  | n + 1 => ((bwd k l r n).2 ^^^ rnd k (7 - n : Nat) (bwd k l r n).1, (bwd k l r n).1)
def mix (k x : BitVec 64) : BitVec 64 := joinW (fwd k (hiW x) (loW x) 8).1 (fwd k (hiW x) (loW x) 8).2
def unmix (k x : BitVec 64) : BitVec 64 := joinW (bwd k (hiW x) (loW x) 8).1 (bwd k (hiW x) (loW x) 8).2
theorem and63 (k : Int) : (BitVec.ofInt 64 k &&& 63#64).toNat = (k % 64).toNat := by
  rw [BitVec.toNat_and, BitVec.toNat_ofInt]
  have h := Nat.and_two_pow_sub_one_eq_mod (k % ((2 ^ 64 : Nat) : Int)).toNat 6
  have e : (63#64).toNat = 2 ^ 6 - 1 := rfl
  rw [e, h]
  omega
theorem and31 (k : Int) : (BitVec.ofInt 64 k &&& 31#64).toNat = (k % 32).toNat := by
  rw [BitVec.toNat_and, BitVec.toNat_ofInt]
  have h := Nat.and_two_pow_sub_one_eq_mod (k % ((2 ^ 64 : Nat) : Int)).toNat 5
  have e : (31#64).toNat = 2 ^ 5 - 1 := rfl
  rw [e, h]
  omega
theorem rot64_eq (x : BitVec 64) (k : Int) : shlW x (BitVec.ofInt 64 k &&& 63#64) ||| shrW x (64#64 - (BitVec.ofInt 64 k &&& 63#64)) = rotl64 x (k % 64).toNat := by
  have h := and63 k
  have h2 : (64#64 - (BitVec.ofInt 64 k &&& 63#64)).toNat = 64 - (k % 64).toNat := by
    rw [BitVec.toNat_sub, h]
    have : (64#64).toNat = 64 := rfl
    omega
  unfold rotl64 shlW shrW
  rw [h, h2]
theorem rot32_eq (x : BitVec 32) (k : Int) : shlW x (BitVec.ofInt 64 k &&& 31#64) ||| shrW x (32#64 - (BitVec.ofInt 64 k &&& 31#64)) = rotl32 x (k % 32).toNat := by
  have h := and31 k
  have h2 : (32#64 - (BitVec.ofInt 64 k &&& 31#64)).toNat = 32 - (k % 32).toNat := by
    rw [BitVec.toNat_sub, h]
    have : (32#64).toNat = 32 := rfl
    omega
  unfold rotl32 shlW shrW
  rw [h, h2]
theorem tmod64 (i : Int) : -63 ≤ i.tmod 64 ∧ i.tmod 64 ≤ 63 := by
  rw [Int.tmod_def]
  have h := Int.tdiv_eq_ediv (a := i) (b := 64)
  have h2 : Int.sign 64 = 1 := rfl
  rw [h2] at h
  split at h <;> omega
theorem turn_eq (i : Int) : (11 * i.tmod 64).tmod 64 % 64 = (11 * i) % 64 := by
  have h1 : i.tmod 64 % 64 = i % 64 := by rw [Int.tmod_def]; omega
  have h2 : (11 * i.tmod 64).tmod 64 % 64 = (11 * i.tmod 64) % 64 := by rw [Int.tmod_def (11 * i.tmod 64)]; omega
  rw [h2]
  omega
theorem hi_div (x : BitVec 64) : BitVec.setWidth 32 (x / 4294967296#64) = hiW x := by
  unfold hiW
  apply BitVec.eq_of_toNat_eq
  rw [BitVec.toNat_setWidth, BitVec.toNat_setWidth, BitVec.toNat_udiv, BitVec.toNat_ushiftRight, Nat.shiftRight_eq_div_pow]
  rfl
theorem lo_mod (x : BitVec 64) : BitVec.setWidth 32 (x % 4294967296#64) = loW x := by
  unfold loW
  apply BitVec.eq_of_toNat_eq
  rw [BitVec.toNat_setWidth, BitVec.toNat_setWidth, BitVec.toNat_umod]
  have : (4294967296#64).toNat = 4294967296 := rfl
  rw [this]
  omega
theorem join_mul (l r : BitVec 32) : BitVec.setWidth 64 l * 4294967296#64 + BitVec.setWidth 64 r = joinW l r := by
  unfold joinW
  have e : BitVec.setWidth 64 l * 4294967296#64 = BitVec.setWidth 64 l <<< 32 := by
    rw [BitVec.shiftLeft_eq_mul_twoPow]; rfl
  rw [e, BitVec.add_eq_or_of_and_eq_zero]
  apply BitVec.eq_of_getLsbD_eq
  intro i hi
  rw [BitVec.getLsbD_and, BitVec.getLsbD_shiftLeft, BitVec.getLsbD_setWidth, BitVec.getLsbD_setWidth]
  by_cases h : i < 32
  · simp [h]
  · have := BitVec.getLsbD_of_ge r i (by omega)
    simp [this]
theorem hi_join (l r : BitVec 32) : hiW (joinW l r) = l := by
  unfold hiW joinW
  apply BitVec.eq_of_getLsbD_eq
  intro i hi
  rw [BitVec.getLsbD_setWidth, BitVec.getLsbD_ushiftRight, BitVec.getLsbD_or, BitVec.getLsbD_shiftLeft, BitVec.getLsbD_setWidth, BitVec.getLsbD_setWidth]
  have := BitVec.getLsbD_of_ge r (32 + i) (by omega)
  rw [this, show 32 + i - 32 = i by omega]
  have h1 : 32 + i < 64 := by omega
  have h2 : i < 64 := by omega
  simp [hi, h1, h2]
theorem lo_join (l r : BitVec 32) : loW (joinW l r) = r := by
  unfold loW joinW
  apply BitVec.eq_of_getLsbD_eq
  intro i hi
  rw [BitVec.getLsbD_setWidth, BitVec.getLsbD_or, BitVec.getLsbD_shiftLeft, BitVec.getLsbD_setWidth, BitVec.getLsbD_setWidth]
  simp [hi]
  omega
theorem join_halves (x : BitVec 64) : joinW (hiW x) (loW x) = x := by
  unfold hiW loW joinW
  apply BitVec.eq_of_getLsbD_eq
  intro i hi
  rw [BitVec.getLsbD_or, BitVec.getLsbD_shiftLeft, BitVec.getLsbD_setWidth, BitVec.getLsbD_setWidth, BitVec.getLsbD_setWidth, BitVec.getLsbD_setWidth, BitVec.getLsbD_ushiftRight]
  by_cases h : i < 32
  · simp [h, hi]
  · rw [show 32 + (i - 32) = i by omega]
    have : i - 32 < 32 := by omega
    simp [h, hi, this]
    omega
/-- n rounds back undo n rounds, the last ones first. -/
theorem fwd_succ (k : BitVec 64) (l r : BitVec 32) (n : Nat) : fwd k l r (n + 1) = ((fwd k l r n).2, (fwd k l r n).1 ^^^ rnd k n (fwd k l r n).2) := rfl
theorem bwd_succ (k : BitVec 64) (l r : BitVec 32) (n : Nat) : bwd k l r (n + 1) = ((bwd k l r n).2 ^^^ rnd k (7 - n : Nat) (bwd k l r n).1, (bwd k l r n).1) := rfl
theorem bwd_fwd (k : BitVec 64) (l r : BitVec 32) (n : Nat) (h : n ≤ 8) : bwd k (fwd k l r 8).1 (fwd k l r 8).2 n = fwd k l r (8 - n) := by
  induction n with
  | zero => rfl
  | succ n ih =>
    have ih := ih (by omega)
    obtain ⟨m, hm⟩ : ∃ m, 8 - n = m + 1 := ⟨7 - n, by omega⟩
    have e : 8 - (n + 1) = m := by omega
    have e2 : 7 - n = m := by omega
    rw [hm] at ih
    rw [e]
    rw [bwd_succ, ih, e2, fwd_succ]
    simp only [BitVec.xor_assoc, BitVec.xor_self, BitVec.xor_zero]
theorem fwd_bwd (k : BitVec 64) (l r : BitVec 32) (n : Nat) (h : n ≤ 8) : fwd k (bwd k l r 8).1 (bwd k l r 8).2 n = bwd k l r (8 - n) := by
  induction n with
  | zero => rfl
  | succ n ih =>
    have ih := ih (by omega)
    obtain ⟨m, hm⟩ : ∃ m, 8 - n = m + 1 := ⟨7 - n, by omega⟩
    have e : 8 - (n + 1) = m := by omega
    have e2 : 7 - m = n := by omega
    rw [hm] at ih
    rw [e]
    rw [fwd_succ, ih, bwd_succ, e2]
    simp only [BitVec.xor_assoc, BitVec.xor_self, BitVec.xor_zero]
theorem unmix_mix (k x : BitVec 64) : unmix k (mix k x) = x := by
  have h := bwd_fwd k (hiW x) (loW x) 8 (by omega)
  unfold unmix mix
  rw [hi_join, lo_join, h]
  exact join_halves x
theorem mix_unmix (k x : BitVec 64) : mix k (unmix k x) = x := by
  have h := fwd_bwd k (hiW x) (loW x) 8 (by omega)
  unfold unmix mix
  rw [hi_join, lo_join, h]
  exact join_halves x
theorem mix_inj (k x y : BitVec 64) : (mix k x == mix k y) = (x == y) := by
  rw [Bool.eq_iff_iff, beq_iff_eq, beq_iff_eq]
  exact ⟨fun h => by rw [← unmix_mix k x, h, unmix_mix], fun h => by rw [h]⟩
theorem unmix_inj (k x y : BitVec 64) : (unmix k x == unmix k y) = (x == y) := by
  rw [Bool.eq_iff_iff, beq_iff_eq, beq_iff_eq]
  exact ⟨fun h => by rw [← mix_unmix k x, h, mix_unmix], fun h => by rw [h]⟩
theorem rotl32_inj7 (x y : BitVec 32) (h : rotl32 x 7 = rotl32 y 7) : x = y := by
  unfold rotl32 at h
  apply BitVec.eq_of_getLsbD_eq
  intro i hi
  by_cases c : i < 25
  · have e := congrArg (fun v => BitVec.getLsbD v (i + 7)) h
    simp only [BitVec.getLsbD_or, BitVec.getLsbD_shiftLeft, BitVec.getLsbD_ushiftRight] at e
    have h1 := BitVec.getLsbD_of_ge x (32 - 7 + (i + 7)) (by omega)
    have h2 := BitVec.getLsbD_of_ge y (32 - 7 + (i + 7)) (by omega)
    rw [h1, h2, show i + 7 - 7 = i by omega] at e
    have h3 : i + 7 < 32 := by omega
    have h4 : ¬ i + 7 < 7 := by omega
    simpa [h3, h4] using e
  · have e := congrArg (fun v => BitVec.getLsbD v (i - 25)) h
    simp only [BitVec.getLsbD_or, BitVec.getLsbD_shiftLeft, BitVec.getLsbD_ushiftRight] at e
    have h3 : i - 25 < 7 := by omega
    rw [show 32 - 7 + (i - 25) = i by omega] at e
    simpa [h3] using e
theorem mul_odd_inj (x y : BitVec 32) (h : x * 2654435761#32 = y * 2654435761#32) : x = y := by
  have e := congrArg (fun v => v * 244002641#32) h
  simp only [BitVec.mul_assoc] at e
  have c : (2654435761#32 * 244002641#32 : BitVec 32) = 1#32 := by decide
  rw [c, BitVec.mul_one, BitVec.mul_one] at e
  exact e
theorem rnd_inj (k : BitVec 64) (i : Int) (a b : BitVec 32) : (rnd k i a == rnd k i b) = (a == b) := by
  rw [Bool.eq_iff_iff, beq_iff_eq, beq_iff_eq]
  refine ⟨fun h => ?_, fun h => by rw [h]⟩
  unfold rnd at h
  have h1 := congrArg (fun v => v ^^^ rotl32 (kLow k i) 16) h
  simp only [BitVec.xor_assoc, BitVec.xor_self, BitVec.xor_zero] at h1
  have h2 := rotl32_inj7 _ _ (mul_odd_inj _ _ h1)
  have h3 := congrArg (fun v => v - kLow k i) h2
  simpa [BitVec.add_sub_cancel] using h3
theorem rnd_mod (k : BitVec 64) (i j : Int) (h : BitVec 32) (e : i % 64 = j % 64) : rnd k i h = rnd k j h := by
  have : (11 * i) % 64 = (11 * j) % 64 := by omega
  unfold rnd kLow
  rw [this]
theorem rnd_tmod (k : BitVec 64) (i : Int) (h : BitVec 32) : rnd k (i.tmod 64) h = rnd k i h :=
  rnd_mod k _ _ h (by rw [Int.tmod_def]; omega)
theorem rnd_tmod64 (k : BitVec 64) (i : Int) (h : BitVec 32) : rnd k (i.tmod 64 + 64) h = rnd k i h :=
  rnd_mod k _ _ h (by rw [Int.tmod_def]; omega)
theorem ref_turn (i : Int) : ((i.tmod 64 + 64) * 11) % 64 = (11 * i) % 64 := by
  have h1 : i.tmod 64 % 64 = i % 64 := by rw [Int.tmod_def]; omega
  omega
theorem rotl64_zero (x : BitVec 64) : rotl64 x 0 = x := by
  unfold rotl64
  apply BitVec.eq_of_getLsbD_eq
  intro i hi
  simp
end Go.Proofs.Ytbkaeoaepmeceaa
