/- Plain laws of layer 52 (refresh). No program here. -/
import Derived.Test.YtmehemojopfihaaRefrFn
namespace Go.Proofs.Ytmehemojopfihaa
theorem ofInt_bit (x : BitVec 32) : BitVec.ofInt 32 (W32 (x % 2#32)) = x &&& 1#32 := by
  unfold W32
  rw [BitVec.ofInt_natCast]
  apply BitVec.eq_of_toNat_eq
  rw [BitVec.toNat_ofNat, BitVec.toNat_umod, BitVec.toNat_and]
  have h : x.toNat &&& (1#32).toNat = x.toNat % 2 := Nat.and_two_pow_sub_one_eq_mod x.toNat 1
  rw [h, show (2#32).toNat = 2 from rfl]
  omega
theorem bit_range (x : BitVec 32) : W32 (x % 2#32) = 0 ∨ W32 (x % 2#32) = 1 := by
  unfold W32
  rw [BitVec.toNat_umod, show (2#32).toNat = 2 from rfl]
  omega
theorem and1_toNat (x : BitVec 32) : (x &&& 1#32).toNat = x.toNat % 2 := by
  rw [BitVec.toNat_and]
  exact Nat.and_two_pow_sub_one_eq_mod x.toNat 1
/-- The bit of an index that is sent is understood by whoever has this index or the next. -/
theorem rx_of (v : IV) (t : BitVec 32) (h : t = v.index ∨ (v.index ≠ 0#32 ∧ t = v.index - 1#32)) : rxK v (W32 (t % 2#32)) = (t, true) := by
  unfold rxK
  have hb := bit_range t
  rw [if_neg (by omega), ofInt_bit]
  rcases h with rfl | ⟨h0, rfl⟩
  · rw [if_pos rfl]
  · have hne : (v.index - 1#32) &&& 1#32 ≠ v.index &&& 1#32 := fun he => by
      have h1 := congrArg BitVec.toNat he
      rw [and1_toNat, and1_toNat, BitVec.toNat_sub] at h1
      have h2 := v.index.isLt
      have h3 : v.index.toNat ≠ 0 := fun h => h0 (BitVec.eq_of_toNat_eq (by rw [h]; rfl))
      have h4 : (1#32).toNat = 1 := rfl
      omega
    rw [if_neg hne, if_neg h0]
theorem rx_tx (v : IV) : rxK v (W32 (txK v % 2#32)) = (txK v, true) := by
  apply rx_of
  unfold txK
  split
  · rename_i h
    exact .inr ⟨h.2, rfl⟩
  · exact .inl rfl
theorem recv_len (k : KS) : 1 ≤ (recvK k).length ∧ (recvK k).length ≤ 2 := by
  unfold recvK
  split
  · exact ⟨Nat.le_succ 1, Nat.le_refl 2⟩
  · split
    · exact ⟨Nat.le_succ 1, Nat.le_refl 2⟩
    · exact ⟨Nat.le_refl 1, Nat.le_succ 1⟩
theorem recv_head (k : KS) : ∃ l, recvK k = sendK k :: l := by
  unfold recvK sendK
  by_cases h1 : k.phase = 1
  · rw [if_pos h1, if_neg (by omega)]; exact ⟨_, rfl⟩
  · rw [if_neg h1]
    by_cases h2 : k.phase = 2
    · rw [if_pos h2, if_pos h2]; exact ⟨_, rfl⟩
    · rw [if_neg h2, if_neg h2]; exact ⟨_, rfl⟩
theorem begin_ok (v : IV) (now : Int) (h : v.since ≤ now) (h0 : 0 ≤ v.since) : v.index ≤ (beginK v now).1.index ∧ 0 ≤ (beginK v now).1.since ∧ (beginK v now).1.since ≤ now := by
  unfold beginK
  split
  · exact ⟨BitVec.le_refl _, h0, h⟩
  · split
    · exact ⟨BitVec.le_refl _, h0, h⟩
    · split
      · exact ⟨BitVec.le_refl _, h0, h⟩
      · rename_i h3
        refine ⟨?_, by dsimp only; omega, by dsimp only; omega⟩
        rw [BitVec.le_def]
        dsimp only
        rw [BitVec.toNat_add]
        have h1 := v.index.isLt
        have h4 : v.index.toNat ≠ 4294967295 := fun he => h3 (BitVec.eq_of_toNat_eq (by rw [he]; rfl))
        have h5 : (1#32).toNat = 1 := rfl
        omega
theorem end_ok (v : IV) (now : Int) (h : v.since ≤ now) (h0 : 0 ≤ v.since) : v.index ≤ (endK v now).1.index ∧ 0 ≤ (endK v now).1.since ∧ (endK v now).1.since ≤ now := by
  unfold endK
  split
  · exact ⟨BitVec.le_refl _, h0, h⟩
  · split
    · exact ⟨BitVec.le_refl _, h0, h⟩
    · exact ⟨BitVec.le_refl _, by dsimp only; omega, by dsimp only; omega⟩
theorem hearIV_ok (v : IV) (b : Bea) (now : Int) (h : v.since ≤ now) (h0 : 0 ≤ v.since) : v.index ≤ (hearIVK v b now).index ∧ 0 ≤ (hearIVK v b now).since ∧ (hearIVK v b now).since ≤ now := by
  unfold hearIVK
  split
  · rename_i h1
    exact ⟨by dsimp only; rw [h1.1]; exact BitVec.le_refl _, by dsimp only; omega, by dsimp only; omega⟩
  · split
    · exact ⟨BitVec.le_refl _, h0, h⟩
    · rename_i h2
      have h3 : v.index ≤ b.index := by
        rcases BitVec.le_total v.index b.index with h | h
        · exact h
        · exact absurd (.inl h) h2
      split
      · exact ⟨BitVec.le_refl _, h0, h⟩
      · exact ⟨h3, by dsimp only; omega, by dsimp only; omega⟩
theorem hear_ok (k : KS) (v : IV) (b : Bea) (ix now : Int) (h : v.since ≤ now) (h0 : 0 ≤ v.since) : v.index ≤ (hearK k v b ix now).2.index ∧ 0 ≤ (hearK k v b ix now).2.since ∧ (hearK k v b ix now).2.since ≤ now := by
  unfold hearK
  split
  · exact ⟨BitVec.le_refl _, h0, h⟩
  · split
    · exact hearIV_ok v b now h h0
    · exact hearIV_ok v b now h h0
end Go.Proofs.Ytmehemojopfihaa
