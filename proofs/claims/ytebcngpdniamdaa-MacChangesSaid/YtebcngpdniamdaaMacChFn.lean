/- A changed byte of sealed bytes is noticed. No program here. -/
import Derived.Test.YtebcngpdniamdaaMacLaws
namespace Go.Proofs.Ytebcngpdniamdaa

theorem numB4_mod (v w : BitVec 64) (h : numB 4 v = numB 4 w) : v % 4294967296#64 = w % 4294967296#64 := by
  have h0 := congrArg (fun l => l[0]?) h
  have h1 := congrArg (fun l => l[1]?) h
  have h2 := congrArg (fun l => l[2]?) h
  have h3 := congrArg (fun l => l[3]?) h
  simp only [numB, List.range, List.range.loop, List.map_cons, List.map_nil, List.getElem?_cons_zero, List.getElem?_cons_succ, Option.some.injEq] at h0 h1 h2 h3
  have g0 := congrArg BitVec.toNat h0
  have g1 := congrArg BitVec.toNat h1
  have g2 := congrArg BitVec.toNat h2
  have g3 := congrArg BitVec.toNat h3
  simp only [BitVec.toNat_setWidth, BitVec.toNat_ushiftRight, Nat.shiftRight_eq_div_pow] at g0 g1 g2 g3
  apply BitVec.eq_of_toNat_eq
  simp only [BitVec.toNat_umod]
  have e : (4294967296#64).toNat = 4294967296 := rfl
  rw [e]
  omega
/-- sb with x combined into the byte at a. -/
def flipB (sb : List (BitVec 8)) (a : Nat) (x : BitVec 8) : List (BitVec 8) := sb.set a (sb.getD a 0#8 ^^^ x)
theorem flipB_length (sb : List (BitVec 8)) (a : Nat) (x : BitVec 8) : (flipB sb a x).length = sb.length := by simp [flipB]
theorem flipB_at (sb : List (BitVec 8)) (a : Nat) (x : BitVec 8) (h : a < sb.length) : flipB sb a x = sb.set a (sb[a] ^^^ x) := by
  unfold flipB
  rw [List.getD_eq_getElem?_getD, List.getElem?_eq_getElem h]
  rfl
theorem changes (k n7 : BitVec 64) (hd pl : List (BitVec 8)) (a : Nat) (x : BitVec 8) (ha : a < pl.length + 4) (hx : x ≠ 0#8) :
    openB k n7 hd (flipB (sealB k n7 hd pl) a x) = ([], 15) ∨ ∃ bs, openB k n7 hd (flipB (sealB k n7 hd pl) a x) = (bs, 0) ∧ bs.length = pl.length ∧ a < pl.length ∧
      tag k (tagInput n7 hd ((sealB k n7 hd pl).take pl.length)) % 4294967296#64 = tag k (tagInput n7 hd ((flipB (sealB k n7 hd pl) a x).take pl.length)) % 4294967296#64 := by
  have hl := sealB_length k n7 hd pl
  have hol := flipB_length (sealB k n7 hd pl) a x
  have hcl := crypt_length k n7 pl
  have ht : (sealB k n7 hd pl).take pl.length = crypt k n7 pl := by unfold sealB; rw [List.take_left' hcl]
  have hdr : (sealB k n7 hd pl).drop pl.length = tailB k n7 hd (crypt k n7 pl) := by unfold sealB; rw [List.drop_left' hcl]
  have he : (flipB (sealB k n7 hd pl) a x).length - 4 = pl.length := by omega
  rw [ht]
  unfold openB
  rw [if_neg (by omega), he]
  by_cases hq : tailB k n7 hd ((flipB (sealB k n7 hd pl) a x).take pl.length) = (flipB (sealB k n7 hd pl) a x).drop pl.length
  · rw [if_pos hq]
    have hlt : a < pl.length := by
      rcases Nat.lt_or_ge a pl.length with h | h
      · exact h
      · exfalso
        have h1 : (flipB (sealB k n7 hd pl) a x).take pl.length = crypt k n7 pl := by
          rw [← ht]
          unfold flipB
          rw [List.take_set_of_le h]
        rw [h1, ← hdr] at hq
        have h2 := congrArg (fun l => l[a - pl.length]?) hq
        simp only [List.getElem?_drop, show pl.length + (a - pl.length) = a by omega] at h2
        rw [flipB_at _ _ _ (by omega), List.getElem?_set_self (by omega), List.getElem?_eq_getElem (by omega)] at h2
        injection h2 with h2
        apply hx
        generalize (sealB k n7 hd pl)[a]'(by omega) = y at h2
        have h3 := congrArg (y ^^^ ·) h2
        simp only [← BitVec.xor_assoc, BitVec.xor_self, BitVec.zero_xor] at h3
        first | exact h3 | exact h3.symm
    refine .inr ⟨_, rfl, ?_, hlt, ?_⟩
    · rw [crypt_length, List.length_take]
      omega
    · have h3 : (flipB (sealB k n7 hd pl) a x).drop pl.length = tailB k n7 hd (crypt k n7 pl) := by
        rw [← hdr]
        unfold flipB
        rw [List.drop_set_of_lt hlt]
      rw [h3] at hq
      unfold tailB at hq
      exact (numB4_mod _ _ hq).symm
  · rw [if_neg hq]
    exact .inl rfl
end Go.Proofs.Ytebcngpdniamdaa
