/- What a side opens of what the other side sealed. No program here. -/
import Derived.Test.YtmehemojopfihaaEncFn
import Derived.Test.YtmehemojopfihaaMacLaws
import Derived.Test.YtmehemojopfihaaEncL4
namespace Go.Proofs.Ytmehemojopfihaa
theorem checkL_ok {ll : Int} {n : Nat} (h : checkL ll n = 0) : 1 ≤ ll ∧ ll ≤ 3 ∧ (n = 0 → ll = 1) ∧ n ≤ 255 := by
  unfold checkL at h
  split at h
  · omega
  · split at h
    · omega
    · split at h
      · omega
      · omega
theorem checkL_mk {ll : Int} {n : Nat} (h1 : 1 ≤ ll) (h2 : ll ≤ 3) (h3 : 0 < n) (h4 : n ≤ 255) : checkL ll n = 0 := by
  unfold checkL
  rw [if_neg (by omega), if_neg (by omega), if_neg (by omega)]
theorem open_seal_pdu (s s' : Ses) (p : Pdu) (hk : s'.key = s.key) (hs : s'.salt = s.salt) (hr : s'.rx = s.tx) (hg : gotD s'.role = sentD s.role) (ht : s.txOn = true) (hx : s'.rxOn = true) (hc : checkS p = 0) (hl : p.pay.length ≤ 251) :
    openS s' { p with pay := sealPay s p.ll p.pay } = (p, 0) := by
  obtain ⟨sn, ne, md, ll, pay⟩ := p
  dsimp only at *
  obtain ⟨hb, hcl⟩ := checkS_bits hc
  obtain ⟨l1, l2, l3, l4⟩ := checkL_ok hcl
  by_cases hbl : (decide (ll = 1) && decide (pay.length = 0)) = true
  · have e : sealPay s ll pay = pay := by unfold sealPay; rw [ht, if_pos (by rw [hbl]; rfl)]
    rw [e]
    unfold openS blankS
    rw [hc, if_neg (by simp), if_pos (by dsimp only; rw [hbl]; simp)]
  · have e : sealPay s ll pay = sealB s.key (nonceS s.salt (sentD s.role) s.tx) [BitVec.ofInt 8 ll] pay := by
      unfold sealPay; rw [ht, if_neg (by simpa using hbl)]
    have hp : 0 < pay.length := by
      rcases Nat.eq_zero_or_pos pay.length with h | h
      · exact absurd (by rw [l3 h, h]; rfl) hbl
      · exact h
    have hln := sealB_length s.key (nonceS s.salt (sentD s.role) s.tx) [BitVec.ofInt 8 ll] pay
    rw [e]
    unfold openS blankS checkS
    dsimp only
    rw [if_pos hb, hln, checkL_mk l1 l2 (by omega) (by omega), if_neg (by simp), hx, if_neg (by simp), if_neg (by omega), hk, hs, hr, hg, open_seal, if_neg (by simp)]
theorem sealPay_blank (s : Ses) (ll : Int) (pay : List (BitVec 8)) (h : (decide (ll = 1) && decide (pay.length = 0)) = true) : sealPay s ll pay = pay := by unfold sealPay; rw [if_pos (by rw [h]; simp)]
theorem sealPay_len (s : Ses) (ll : Int) (pay : List (BitVec 8)) (ht : s.txOn = true) (h : (decide (ll = 1) && decide (pay.length = 0)) = false) : (sealPay s ll pay).length = pay.length + 4 := by
  unfold sealPay; rw [ht, if_neg (by rw [h]; simp), sealB_length]
end Go.Proofs.Ytmehemojopfihaa
