/- What the functions of layer 1 (serial) compute, as functions on bit vectors; the plain laws. No program here. -/
import Derived.Test.YtbkaeoaepmeceaaBv
namespace Go.Proofs.Ytbkaeoaepmeceaa

/-- The lowest bits. -/
def low (n : BitVec 64) (b : Int) : BitVec 64 := if b ≤ 0 then 0#64 else if 64 ≤ b then n else n &&& (BitVec.twoPow 64 b.toNat - 1#64)

theorem twoPow_sub_one_toNat (k : Nat) (h : k < 64) : (BitVec.twoPow 64 k - 1#64).toNat = 2 ^ k - 1 := by
  have hp : 2 ^ k < 2 ^ 64 := Nat.pow_lt_pow_right (by omega) h
  have h1 : 1 ≤ 2 ^ k := Nat.one_le_two_pow
  rw [BitVec.toNat_sub, BitVec.toNat_twoPow, Nat.mod_eq_of_lt hp]
  simp
  omega
theorem twoPow_toNat (k : Nat) (h : k < 64) : (BitVec.twoPow 64 k).toNat = 2 ^ k := by
  rw [BitVec.toNat_twoPow, Nat.mod_eq_of_lt (Nat.pow_lt_pow_right (by omega) h)]
theorem low_mod (n : BitVec 64) (k : Nat) (h : k < 64) : n &&& (BitVec.twoPow 64 k - 1#64) = n % BitVec.twoPow 64 k := by
  apply BitVec.eq_of_toNat_eq
  rw [BitVec.toNat_and, twoPow_sub_one_toNat k h, BitVec.toNat_umod, twoPow_toNat k h, Nat.and_two_pow_sub_one_eq_mod]
theorem low_of_mod (n : BitVec 64) (b : Int) (h0 : 0 ≤ b) (h1 : b < 64) : n % BitVec.twoPow 64 b.toNat = low n b := by
  unfold low
  rw [if_neg (show ¬ 64 ≤ b by omega)]
  by_cases h : b ≤ 0
  · obtain rfl : b = 0 := by omega
    rw [if_pos (by omega)]
    apply BitVec.eq_of_toNat_eq
    rw [BitVec.toNat_umod, show (0 : Int).toNat = 0 from rfl, twoPow_toNat 0 (by omega)]
    simp [Nat.mod_one]
  · rw [if_neg h, low_mod n _ (by omega)]
theorem low32 (n : BitVec 64) : (low n 32).setWidth 32 = n.setWidth 32 := by
  rw [← low_of_mod n 32 (by omega) (by omega)]
  apply BitVec.eq_of_toNat_eq
  rw [BitVec.toNat_setWidth, BitVec.toNat_setWidth, BitVec.toNat_umod, show ((32 : Int).toNat) = 32 from rfl, twoPow_toNat 32 (by omega)]
  omega
theorem twoPow_succ (k : Nat) : BitVec.twoPow 64 k * 2#64 = BitVec.twoPow 64 (k + 1) := by
  apply BitVec.eq_of_toNat_eq
  rw [BitVec.toNat_mul, BitVec.toNat_twoPow, BitVec.toNat_twoPow, Nat.pow_succ, BitVec.toNat_ofNat]
  have h : (2 : Nat) ^ 64 = 18446744073709551616 := rfl
  rw [h]
  omega
theorem twoPow_ne (b : Int) (h0 : 0 ≤ b) (h1 : b < 64) : ¬ W64 (BitVec.twoPow 64 b.toNat) = 0 := by
  unfold W64
  rw [twoPow_toNat _ (by omega)]
  have := Nat.one_le_two_pow (n := b.toNat)
  omega

theorem i16_W16 (x : BitVec 16) : IntKind.i16.wrap (W16 x) = x.toInt := by
  have h := x.isLt
  unfold W16
  rw [BitVec.toInt_eq_toNat_cond]
  simp only [IntKind.wrap, IntKind.bits, IntKind.signed]
  simp
  split <;> split <;> omega
theorem wrap64_toInt16 (x : BitVec 16) : RowKit.wrap64 x.toInt = x.toInt := by
  have h := x.isLt
  rw [BitVec.toInt_eq_toNat_cond]
  unfold RowKit.wrap64
  split <;> omega
/-- The distance from a to b, out of the numbers. -/
def dist16 (a b : Int) : Int := if b - a < -32768 then b - a + 65536 else if 32767 < b - a then b - a - 65536 else b - a
/-- The number from -32768 to 32767 that leads from a to b. -/
def diff16 (a b : BitVec 16) : Int := (b - a).toInt
theorem diff_toInt (a b : BitVec 16) : diff16 a b = dist16 (W16 a) (W16 b) := by
  unfold diff16
  have ha := a.isLt
  have hb := b.isLt
  rw [BitVec.toInt_eq_toNat_cond, BitVec.toNat_sub]
  unfold dist16 W16
  split <;> split <;> (try split) <;> omega
/-- The distance of two numbers. -/
def dist (a b : BitVec 64) : BitVec 64 := if W64 a < W64 b then b - a else a - b
theorem dist_W (a b : BitVec 64) : W64 (dist a b) = if W64 a < W64 b then W64 b - W64 a else W64 a - W64 b := by
  have ha := a.isLt
  have hb := b.isLt
  unfold dist
  split <;> (rename_i h; unfold W64 at h ⊢; rw [BitVec.toNat_sub]; omega)
/-- a plus n. -/
def add16 (a : BitVec 16) (n : Int) : BitVec 16 := a + BitVec.ofInt 16 n
def passed (now inst : BitVec 16) : Bool := decide (0 ≤ diff16 inst now)
def between (a b c : BitVec 16) : Bool := decide (W16 (c - a) ≤ W16 (b - a))
theorem W16_sub (a b : BitVec 16) : W16 (b - a) = (W16 b - W16 a) % 65536 := by
  have ha := a.isLt
  have hb := b.isLt
  unfold W16
  rw [BitVec.toNat_sub]
  omega
theorem tmod_bd (n : Int) : -65535 ≤ n.tmod 65536 ∧ n.tmod 65536 ≤ 65535 := by
  rw [Int.tmod_def]
  have h := Int.tdiv_eq_ediv (a := n) (b := 65536)
  have h2 : Int.sign 65536 = 1 := rfl
  rw [h2] at h
  split at h <;> omega
theorem ref_add (a : BitVec 16) (n : Int) : W16 (BitVec.ofInt 16 ((W16 a + n.tmod 65536) % 65536)) = W16 (add16 a n) := by
  have ha := a.isLt
  unfold W16 add16
  rw [BitVec.toNat_add, BitVec.toNat_ofInt, BitVec.toNat_ofInt]
  have h : n.tmod 65536 % 65536 = n % 65536 := by
    rw [Int.tmod_def]
    omega
  omega

/-- How many bits count. -/
def bitsOf (b : Int) : Nat := (max 1 (min b 63)).toNat
/-- The number with the lowest bits of low that agrees with last above them. -/
def same (last low p : BitVec 64) : BitVec 64 := last &&& ~~~(p - 1#64) ||| low &&& (p - 1#64)
/-- The best so far, without the number above. -/
def best1 (last s p : BitVec 64) : BitVec 64 := if W64 p ≤ W64 s ∧ W64 (dist (s - p) last) < W64 (dist s last) then s - p else s
def best2 (last s p : BitVec 64) : BitVec 64 := if W64 s ≤ W64 (s + p) ∧ W64 (dist (s + p) last) ≤ W64 (dist (best1 last s p) last) then s + p else best1 last s p
def extend (last low : BitVec 64) (b : Int) : BitVec 64 := best2 last (same last low (BitVec.twoPow 64 (bitsOf b))) (BitVec.twoPow 64 (bitsOf b))
theorem bitsOf_bd (b : Int) : 1 ≤ bitsOf b ∧ bitsOf b ≤ 63 := by unfold bitsOf; omega
theorem dist_comm (a b : BitVec 64) : dist a b = dist b a := by
  apply W64_inj
  rw [dist_W, dist_W]
  split <;> split <;> omega
theorem and_not_eq_sub {n : Nat} (x m : BitVec n) : x &&& ~~~m = x - (x &&& m) := by
  have h : (x &&& m) + (x &&& ~~~m) = x := by
    rw [BitVec.add_eq_or_of_and_eq_zero]
    · apply BitVec.eq_of_getLsbD_eq
      intro i hi
      simp only [BitVec.getLsbD_or, BitVec.getLsbD_and, BitVec.getLsbD_not, hi]
      cases x.getLsbD i <;> cases m.getLsbD i <;> rfl
    · apply BitVec.eq_of_getLsbD_eq
      intro i hi
      simp only [BitVec.getLsbD_and, BitVec.getLsbD_not, hi, BitVec.getLsbD_zero]
      cases x.getLsbD i <;> cases m.getLsbD i <;> rfl
  rw [BitVec.eq_sub_iff_add_eq, BitVec.add_comm]
  exact h
theorem same_eq (last lo : BitVec 64) (b : Int) (h0 : 1 ≤ b) (h1 : b < 64) :
    last - last % BitVec.twoPow 64 b.toNat + lo % BitVec.twoPow 64 b.toNat = same last lo (BitVec.twoPow 64 b.toNat) := by
  have hk : b.toNat < 64 := by omega
  rw [← low_mod last b.toNat hk, ← low_mod lo b.toNat hk]
  unfold same
  generalize BitVec.twoPow 64 b.toNat - 1#64 = m
  rw [← and_not_eq_sub, BitVec.add_eq_or_of_and_eq_zero]
  apply BitVec.eq_of_getLsbD_eq
  intro i hi
  simp only [BitVec.getLsbD_and, BitVec.getLsbD_not, hi, BitVec.getLsbD_zero]
  cases last.getLsbD i <;> cases lo.getLsbD i <;> cases m.getLsbD i <;> rfl
theorem add_diff (a b : BitVec 16) : add16 a (diff16 a b) = b := by
  unfold add16 diff16
  rw [BitVec.ofInt_toInt]
  apply BitVec.eq_of_toNat_eq
  have ha := a.isLt
  have hb := b.isLt
  rw [BitVec.toNat_add, BitVec.toNat_sub]
  omega
/-- An instant less than 2^15 events ahead. -/
theorem passed_add (event : BitVec 16) (ahead later : Int) (h0 : 0 ≤ ahead) (h1 : ahead ≤ 32767) (h2 : 0 ≤ later) (h3 : later ≤ 32767) :
    passed (add16 event later) (add16 event ahead) = decide (ahead ≤ later) := by
  have he := event.isLt
  unfold passed
  rw [diff_toInt]
  unfold dist16 add16 W16
  rw [BitVec.toNat_add, BitVec.toNat_add, BitVec.toNat_ofInt, BitVec.toNat_ofInt]
  rw [decide_eq_decide]
  split
  · omega
  · split <;> omega
theorem W64_add (s p : BitVec 64) : W64 (s + p) = if W64 s + W64 p ≤ 18446744073709551615 then W64 s + W64 p else W64 s + W64 p - 18446744073709551616 := by
  have h1 := s.isLt
  have h2 := p.isLt
  unfold W64
  rw [BitVec.toNat_add]
  split <;> omega
theorem W64_sub (s p : BitVec 64) : W64 (s - p) = if W64 p ≤ W64 s then W64 s - W64 p else W64 s - W64 p + 18446744073709551616 := by
  have h1 := s.isLt
  have h2 := p.isLt
  unfold W64
  rw [BitVec.toNat_sub]
  split <;> omega
/-- A number that is near is the nearest one with its lowest bits. -/
theorem best2_near (last s p n : BitVec 64) (h : W64 s = W64 n ∨ W64 s = W64 n + W64 p ∨ W64 s = W64 n - W64 p) (hp : 2 ≤ W64 p) (hd : 2 * W64 (dist last n) < W64 p) : best2 last s p = n := by
  have b1 := W64_bd last
  have b2 := W64_bd s
  have b3 := W64_bd p
  have b4 := W64_bd n
  apply W64_inj
  rw [dist_W] at hd
  unfold best2 best1
  rcases h with h | h | h
  · obtain rfl := W64_inj h
    have h1 : ¬ (W64 p ≤ W64 s ∧ W64 (dist (s - p) last) < W64 (dist s last)) := by
      rw [dist_W, dist_W, W64_sub]
      split at hd <;> split <;> (try split) <;> (try split) <;> omega
    rw [if_neg h1]
    have h2 : ¬ (W64 s ≤ W64 (s + p) ∧ W64 (dist (s + p) last) ≤ W64 (dist s last)) := by
      rw [dist_W, dist_W, W64_add]
      split at hd <;> split <;> (try split) <;> (try split) <;> omega
    rw [if_neg h2]
  · have e : s - p = n := by apply W64_inj; rw [W64_sub, if_pos (by omega)]; omega
    rw [e]
    have h1 : W64 p ≤ W64 s ∧ W64 (dist n last) < W64 (dist s last) := by
      rw [dist_W, dist_W]
      split at hd <;> split <;> (try split) <;> omega
    rw [if_pos h1]
    have h2 : ¬ (W64 s ≤ W64 (s + p) ∧ W64 (dist (s + p) last) ≤ W64 (dist n last)) := by
      rw [dist_W, dist_W, W64_add]
      split at hd <;> split <;> (try split) <;> (try split) <;> omega
    rw [if_neg h2]
  · have e : s + p = n := by apply W64_inj; rw [W64_add, if_pos (by omega)]; omega
    rw [e]
    have h1 : ¬ (W64 p ≤ W64 s ∧ W64 (dist (s - p) last) < W64 (dist s last)) := by
      rw [dist_W, dist_W, W64_sub]
      split at hd <;> split <;> (try split) <;> (try split) <;> omega
    rw [if_neg h1]
    have h2 : W64 s ≤ W64 n ∧ W64 (dist n last) ≤ W64 (dist s last) := by
      rw [dist_W, dist_W]
      split at hd <;> split <;> (try split) <;> omega
    rw [if_pos h2]
theorem near_mult (L N P : Int) (hP : 1 ≤ P) (h1 : N - L < P) (h2 : L - N < P) :
    L - L % P + N % P = N ∨ L - L % P + N % P = N + P ∨ L - L % P + N % P = N - P := by
  have e1 := Int.emod_add_mul_ediv L P
  have e2 := Int.emod_add_mul_ediv N P
  have r1 := Int.emod_nonneg L (b := P) (by omega)
  have r2 := Int.emod_nonneg N (b := P) (by omega)
  have r3 := Int.emod_lt_of_pos L (b := P) (by omega)
  have r4 := Int.emod_lt_of_pos N (b := P) (by omega)
  have e3 : P * (L / P) - P * (N / P) = P * (L / P - N / P) := (Int.mul_sub _ _ _).symm
  generalize L / P - N / P = q at e3
  by_cases c1 : 2 ≤ q
  · have := Int.mul_le_mul_of_nonneg_left c1 (show 0 ≤ P by omega)
    omega
  by_cases c2 : q ≤ -2
  · have := Int.mul_le_mul_of_nonneg_left c2 (show 0 ≤ P by omega)
    omega
  obtain rfl | rfl | rfl : q = -1 ∨ q = 0 ∨ q = 1 := by omega
  · simp only [Int.mul_neg, Int.mul_one] at e3; omega
  · simp only [Int.mul_zero] at e3; omega
  · simp only [Int.mul_one] at e3; omega
theorem W64_twoPow (k : Nat) (h : k < 64) : W64 (BitVec.twoPow 64 k) = 2 ^ k := by unfold W64; rw [twoPow_toNat k h]; simp
theorem W64_mod (a b : BitVec 64) : W64 (a % b) = W64 a % W64 b := by unfold W64; rw [BitVec.toNat_umod]; simp
theorem extend_near (last lo n : BitVec 64) (b : Int) (h0 : 1 ≤ b) (h1 : b ≤ 63) (hd : W64 (dist last n) < W64 (BitVec.twoPow 64 (b - 1).toNat))
    (hl : lo % BitVec.twoPow 64 b.toNat = n % BitVec.twoPow 64 b.toNat) : extend last lo b = n := by
  have hb : bitsOf b = b.toNat := by unfold bitsOf; omega
  have hk : b.toNat = (b - 1).toNat + 1 := by omega
  have e1 := W64_twoPow (b - 1).toNat (by omega)
  have e2 := W64_twoPow b.toNat (by omega)
  have e3 : (2 : Int) ^ b.toNat = 2 ^ (b - 1).toNat * 2 := by rw [hk]; exact Int.pow_succ _ _
  have e4 : (1 : Int) ≤ 2 ^ (b - 1).toNat := by
    have := Nat.one_le_two_pow (n := (b - 1).toNat)
    have : ((1 : Nat) : Int) ≤ ((2 ^ (b - 1).toNat : Nat) : Int) := by omega
    simpa using this
  have hs := same_eq last lo b h0 (by omega)
  have hd2 := dist_W last n
  have b1 := W64_bd last
  have b4 := W64_bd n
  unfold extend
  rw [hb]
  refine best2_near _ _ _ _ ?_ (by omega) (by omega)
  rw [← hs, hl]
  have hm1 := W64_mod last (BitVec.twoPow 64 b.toNat)
  have hm2 := W64_mod n (BitVec.twoPow 64 b.toNat)
  have hnm := near_mult (W64 last) (W64 n) (W64 (BitVec.twoPow 64 b.toNat)) (by omega) (by split at hd2 <;> omega) (by split at hd2 <;> omega)
  have r1 := Int.emod_nonneg (W64 n) (b := W64 (BitVec.twoPow 64 b.toNat)) (by omega)
  have r2 := Int.emod_lt_of_pos (W64 n) (b := W64 (BitVec.twoPow 64 b.toNat)) (by omega)
  have r3 := Int.emod_nonneg (W64 last) (b := W64 (BitVec.twoPow 64 b.toNat)) (by omega)
  have r4 : W64 last % W64 (BitVec.twoPow 64 b.toNat) ≤ W64 last := by
    have e1 := Int.emod_add_mul_ediv (W64 last) (W64 (BitVec.twoPow 64 b.toNat))
    have := Int.mul_nonneg (show 0 ≤ W64 (BitVec.twoPow 64 b.toNat) by omega) (Int.ediv_nonneg (a := W64 last) (b := W64 (BitVec.twoPow 64 b.toNat)) (by omega) (by omega))
    omega
  have d1 : (W64 last - W64 last % W64 (BitVec.twoPow 64 b.toNat)) + W64 (BitVec.twoPow 64 b.toNat) ≤ 18446744073709551616 := by
    have hdvd : ∃ c : Int, (18446744073709551616 : Int) = W64 (BitVec.twoPow 64 b.toNat) * c := by
      refine ⟨2 ^ (64 - b.toNat), ?_⟩
      rw [e2, ← Int.pow_add, show b.toNat + (64 - b.toNat) = 64 by omega]
      rfl
    obtain ⟨c, hc⟩ := hdvd
    have e5 := Int.emod_add_mul_ediv (W64 last) (W64 (BitVec.twoPow 64 b.toNat))
    by_cases hq : W64 last / W64 (BitVec.twoPow 64 b.toNat) + 1 ≤ c
    · have := Int.mul_le_mul_of_nonneg_left hq (show 0 ≤ W64 (BitVec.twoPow 64 b.toNat) by omega)
      rw [Int.mul_add, Int.mul_one] at this
      omega
    · have := Int.mul_le_mul_of_nonneg_left (show c ≤ W64 last / W64 (BitVec.twoPow 64 b.toNat) by omega) (show 0 ≤ W64 (BitVec.twoPow 64 b.toNat) by omega)
      omega
  have f : W64 (last - last % BitVec.twoPow 64 b.toNat + n % BitVec.twoPow 64 b.toNat) = W64 last - W64 last % W64 (BitVec.twoPow 64 b.toNat) + W64 n % W64 (BitVec.twoPow 64 b.toNat) := by
    rw [W64_add, W64_sub, hm1, hm2, if_pos (show W64 last % W64 (BitVec.twoPow 64 b.toNat) ≤ W64 last from r4), if_pos (by omega)]
  rw [f]
  exact hnm
theorem low_low (n : BitVec 64) (b : Int) (h0 : 1 ≤ b) (h1 : b ≤ 63) : low n b % BitVec.twoPow 64 b.toNat = n % BitVec.twoPow 64 b.toNat := by
  rw [← low_of_mod n b (by omega) (by omega)]
  apply BitVec.eq_of_toNat_eq
  simp only [BitVec.toNat_umod]
  exact Nat.mod_mod _ _
theorem add_ne (s p : BitVec 64) (h : ¬ W64 p = 0) : ¬ W64 (s + p) = W64 s := by
  have h1 := s.isLt
  have h2 := p.isLt
  unfold W64 at *
  rw [BitVec.toNat_add]
  omega
end Go.Proofs.Ytbkaeoaepmeceaa
