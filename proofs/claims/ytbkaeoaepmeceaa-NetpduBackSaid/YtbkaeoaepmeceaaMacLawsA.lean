/- The walks of four laws of layer 6 (mac): tags, derived keys, streams. -/
import Derived.Test.YtbkaeoaepmeceaaMacLaws
namespace Go.Proofs.Ytbkaeoaepmeceaa
set_option maxRecDepth 100000
open Go.ChangeShapes Go.WideShapes Go.ChangeAt Go.RowKit
set_option linter.unusedVariables false

theorem same_n (A B : Option Addr) (c d n m : Nat) (a b : List (BitVec 8)) (w : World) (hra : RdB w A a) (hrb : RdB w B b) (hn : a.length = n) (hm : b.length = m) :
    Calls Try.prog 20 #[.slice A n c, .slice B m d] w fun e w' => e = .returned (.bool (decide (a = b))) ∧ w = w' := by
  subst hn
  subst hm
  exact ref2_Same A B c d a b w hra hrb
theorem same_self (A B : Option Addr) (c d n m : Nat) (a : List (BitVec 8)) (w : World) (hra : RdB w A a) (hrb : RdB w B a) (hn : a.length = n) (hm : a.length = m) :
    Calls Try.prog 20 #[.slice A n c, .slice B m d] w fun e w' => e = .returned (.bool true) ∧ w = w' := by
  have := same_n A B c d n m a a w hra hrb hn hm
  rwa [decide_eq_true rfl] at this
theorem nums8_append (a b : List (BitVec 64)) : nums8 (a ++ b) = nums8 a ++ nums8 b := by simp [nums8]
theorem streamNums_take (k nonce : BitVec 64) (a b : Nat) (h : a ≤ b) : (streamNums k nonce b).take a = streamNums k nonce a := by
  unfold streamNums
  rw [← List.map_take, List.take_range, Nat.min_eq_left h]
theorem stream_take (k nonce : BitVec 64) (a b : Nat) (h : a ≤ b) : (stream k nonce b).take a = stream k nonce a := by
  have hg : nGroups a ≤ nGroups b := by unfold nGroups; omega
  unfold stream
  rw [List.take_take, Nat.min_eq_left h]
  have h1 := List.take_append_drop (nGroups a) (streamNums k nonce (nGroups b))
  rw [streamNums_take k nonce _ _ hg] at h1
  rw [← h1, nums8_append, List.take_append_of_le_length]
  rw [nums8_length, streamNums_length]
  unfold nGroups
  omega
end Go.Proofs.Ytbkaeoaepmeceaa
