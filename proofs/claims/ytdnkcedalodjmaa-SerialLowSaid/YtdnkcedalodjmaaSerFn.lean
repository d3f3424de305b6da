/- What the functions of layer 1 (serial) compute, as functions on bit vectors; the plain laws. No program here. -/
import Derived.Test.YtdnkcedalodjmaaBv
namespace Go.Proofs.Ytdnkcedalodjmaa

/-- The lowest bits. -/
def low (n : BitVec 64) (b : Int) : BitVec 64 := if b ≤ 0 then 0#64 else if 64 ≤ b then n else n &&& (BitVec.twoPow 64 b.toNat - 1#64)

theorem twoPow_sub_one_toNat (k : Nat) (h : k < 64) : (BitVec.twoPow 64 k - 1#64).toNat = 2 ^ k - 1 := by
  have hp : 2 ^ k < 2 ^ 64 := Nat.pow_lt_pow_right (by omega) h
  have h1 : 1 ≤ 2 ^ k := Nat.one_le_two_pow
  rw [BitVec.toNat_sub, BitVec.toNat_twoPow, Nat.mod_eq_of_lt hp]
  simp
  omega
theorem twoPow_toNat (k : Nat) (h : k < 64) : (BitVec.twoPow 64 k).toNat = 2 ^ k := by
  rw [BitVec.toNat_twoPow, Nat.mod_eq_of_lt (Nat.pow_lt_pow_right (by omega) h)]
theorem low_mod (n : BitVec 64) (k : Nat) (h : k < 64) : n &&& (BitVec.twoPow 64 k - 1#64) = n % BitVec.twoPow 64 k := by
  apply BitVec.eq_of_toNat_eq
  rw [BitVec.toNat_and, twoPow_sub_one_toNat k h, BitVec.toNat_umod, twoPow_toNat k h, Nat.and_two_pow_sub_one_eq_mod]
theorem low_of_mod (n : BitVec 64) (b : Int) (h0 : 0 ≤ b) (h1 : b < 64) : n % BitVec.twoPow 64 b.toNat = low n b := by
  unfold low
  rw [if_neg (show ¬ 64 ≤ b by omega)]
  by_cases h : b ≤ 0
  · obtain rfl : b = 0 := by omega
    rw [if_pos (by omega)]
    apply BitVec.eq_of_toNat_eq
    rw [BitVec.toNat_umod, show (0 : Int).toNat = 0 from rfl, twoPow_toNat 0 (by omega)]
    simp [Nat.mod_one]
  · rw [if_neg h, low_mod n _ (by omega)]
theorem low32 (n : BitVec 64) : (low n 32).setWidth 32 = n.setWidth 32 := by
  rw [← low_of_mod n 32 (by omega) (by omega)]
  apply BitVec.eq_of_toNat_eq
  rw [BitVec.toNat_setWidth, BitVec.toNat_setWidth, BitVec.toNat_umod, show ((32 : Int).toNat) = 32 from rfl, twoPow_toNat 32 (by omega)]
  omega
theorem twoPow_succ (k : Nat) : BitVec.twoPow 64 k * 2#64 = BitVec.twoPow 64 (k + 1) := by
  apply BitVec.eq_of_toNat_eq
  rw [BitVec.toNat_mul, BitVec.toNat_twoPow, BitVec.toNat_twoPow, Nat.pow_succ, BitVec.toNat_ofNat]
  have h : (2 : Nat) ^ 64 = 18446744073709551616 := rfl
  rw [h]
  omega
theorem twoPow_ne (b : Int) (h0 : 0 ≤ b) (h1 : b < 64) : ¬ W64 (BitVec.twoPow 64 b.toNat) = 0 := by
  unfold W64
  rw [twoPow_toNat _ (by omega)]
  have := Nat.one_le_two_pow (n := b.toNat)
  omega

theorem i16_W16 (x : BitVec 16) : IntKind.i16.wrap (W16 x) = x.toInt := by
  have h := x.isLt
  unfold W16
  rw [BitVec.toInt_eq_toNat_cond]
  simp only [IntKind.wrap, IntKind.bits, IntKind.signed]
  simp
  split <;> split <;> omega
theorem wrap64_toInt16 (x : BitVec 16) : RowKit.wrap64 x.toInt = x.toInt := by
  have h := x.isLt
  rw [BitVec.toInt_eq_toNat_cond]
  unfold RowKit.wrap64
  split <;> omega
/-- The distance from a to b, out of the numbers. -/
def dist16 (a b : Int) : Int := if b - a < -32768 then b - a + 65536 else if 32767 < b - a then b - a - 65536 else b - a
/-- The number from -32768 to 32767 that leads from a to b. -/
def diff16 (a b : BitVec 16) : Int := (b - a).toInt
theorem diff_toInt (a b : BitVec 16) : diff16 a b = dist16 (W16 a) (W16 b) := by
  unfold diff16
  have ha := a.isLt
  have hb := b.isLt
  rw [BitVec.toInt_eq_toNat_cond, BitVec.toNat_sub]
  unfold dist16 W16
  split <;> split <;> (try split) <;> omega
/-- The distance of two numbers. -/
def dist (a b : BitVec 64) : BitVec 64 := if W64 a < W64 b then b - a else a - b
theorem dist_W (a b : BitVec 64) : W64 (dist a b) = if W64 a < W64 b then W64 b - W64 a else W64 a - W64 b := by
  have ha := a.isLt
  have hb := b.isLt
  unfold dist
  split <;> (rename_i h; unfold W64 at h ⊢; rw [BitVec.toNat_sub]; omega)
/-- a plus n. -/
def add16 (a : BitVec 16) (n : Int) : BitVec 16 := a + BitVec.ofInt 16 n
def passed (now inst : BitVec 16) : Bool := decide (0 ≤ diff16 inst now)
def between (a b c : BitVec 16) : Bool := decide (W16 (c - a) ≤ W16 (b - a))
theorem W16_sub (a b : BitVec 16) : W16 (b - a) = (W16 b - W16 a) % 65536 := by
  have ha := a.isLt
  have hb := b.isLt
  unfold W16
  rw [BitVec.toNat_sub]
  omega
theorem tmod_bd (n : Int) : -65535 ≤ n.tmod 65536 ∧ n.tmod 65536 ≤ 65535 := by
  rw [Int.tmod_def]
  have h := Int.tdiv_eq_ediv (a := n) (b := 65536)
  have h2 : Int.sign 65536 = 1 := rfl
  rw [h2] at h
  split at h <;> omega
theorem ref_add (a : BitVec 16) (n : Int) : W16 (BitVec.ofInt 16 ((W16 a + n.tmod 65536) % 65536)) = W16 (add16 a n) := by
  have ha := a.isLt
  unfold W16 add16
  rw [BitVec.toNat_add, BitVec.toNat_ofInt, BitVec.toNat_ofInt]
  have h : n.tmod 65536 % 65536 = n % 65536 := by
    rw [Int.tmod_def]
    omega
  omega

/-- How many bits count. -/
def bitsOf (b : Int) : Nat := (max 1 (min b 63)).toNat
/-- The number with the lowest bits of low that agrees with last above them. -/
def same (last low p : BitVec 64) : BitVec 64 := last &&& ~~~(p - 1#64) ||| low &&& (p - 1#64)
/-- The best so far, without the number above. -/
def best1 (last s p : BitVec 64) : BitVec 64 := if W64 p ≤ W64 s ∧ W64 (dist (s - p) last) < W64 (dist s last) then s - p else s
def best2 (last s p : BitVec 64) : BitVec 64 := if W64 s ≤ W64 (s + p) ∧ W64 (dist (s + p) last) ≤ W64 (dist (best1 last s p) last) then s + p else best1 last s p
def extend (last low : BitVec 64) (b : Int) : BitVec 64 := best2 last (same last low (BitVec.twoPow 64 (bitsOf b))) (BitVec.twoPow 64 (bitsOf b))
theorem bitsOf_bd (b : Int) : 1 ≤ bitsOf b ∧ bitsOf b ≤ 63 := by unfold bitsOf; omega
theorem dist_comm (a b : BitVec 64) : dist a b = dist b a := by
  apply W64_inj
  rw [dist_W, dist_W]
  split <;> split <;> omega
theorem and_not_eq_sub {n : Nat} (x m : BitVec n) : x &&& ~~~m = x - (x &&& m) := by
  have h : (x &&& m) + (x &&& ~~~m) = x := by
    rw [BitVec.add_eq_or_of_and_eq_zero]
    · apply BitVec.eq_of_getLsbD_eq
      intro i hi
      simp only [BitVec.getLsbD_or, BitVec.getLsbD_and, BitVec.getLsbD_not, hi]
      cases x.getLsbD i <;> cases m.getLsbD i <;> rfl
    · apply BitVec.eq_of_getLsbD_eq
      intro i hi
      simp only [BitVec.getLsbD_and, BitVec.getLsbD_not, hi, BitVec.getLsbD_zero]
      cases x.getLsbD i <;> cases m.getLsbD i <;> rfl
  rw [BitVec.eq_sub_iff_add_eq, BitVec.add_comm]
  exact h
theorem same_eq (last lo : BitVec 64) (b : Int) (h0 : 1 ≤ b) (h1 : b < 64) :
    last - last % BitVec.twoPow 64 b.toNat + lo % BitVec.twoPow 64 b.toNat = same last lo (BitVec.twoPow 64 b.toNat) := by
  have hk : b.toNat < 64 := by omega
  rw [← low_mod last b.toNat hk, ← low_mod lo b.toNat hk]
  unfold same
  generalize BitVec.twoPow 64 b.toNat - 1#64 = m
  rw [← and_not_eq_sub, BitVec.add_eq_or_of_and_eq_zero]
  apply BitVec.eq_of_getLsbD_eq
  intro i hi
  simp only [BitVec.getLsbD_and, BitVec.getLsbD_not, hi, BitVec.getLsbD_zero]
  cases last.getLsbD i <;> cases lo.getLsbD i <;> cases m.getLsbD i <;> rfl
theorem add_ne (s p : BitVec 64) (h : ¬ W64 p = 0) : ¬ W64 (s + p) = W64 s := by
  have h1 := s.isLt
  have h2 := p.isLt
  unfold W64 at *
  rw [BitVec.toNat_add]
  omega
end Go.Proofs.Ytdnkcedalodjmaa
