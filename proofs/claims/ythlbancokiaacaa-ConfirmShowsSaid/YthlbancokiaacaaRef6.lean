/- Contracts of the functions of the reference of layer 6. -/
import Derived.Test.YthlbancokiaacaaRef2
import Derived.Test.YthlbancokiaacaaRet
namespace Go.Proofs.Ythlbancokiaacaa
open Go.ChangeShapes Go.WideShapes Go.ChangeAt Go.RowKit
set_option linter.unusedVariables false

theorem ref6_Tag (k : BitVec 64) (A : Option Addr) (c : Nat) (bs : List (BitVec 8)) (w : World) (hr : RdB w A bs) (hlen : bs.length ≤ 1048576) (hcap : bs.length ≤ c) :
    Calls Try.prog 42 #[.int .u64 (W64 k), .slice A bs.length c] w fun e w' => e = .returned (.int .u64 (W64 (tag k bs))) ∧ Below w.heap.size w w' := by
  go_enter Try.func42, Try.ntmps42
  go_wp2_with fail
  refine (ref5_Mix _ _ _).mono ?_; rintro e w1 ⟨rfl, hb1⟩
  go_wp2
  go_loopw [5, 6] (fun x i wr => ∃ j : Nat, j ≤ nGroups bs.length ∧ i = .int .i64 (8 * j : Nat) ∧ x = .int .u64 (W64 (tagFold k (tagStart k bs.length) (groupsTo bs j))) ∧ Below w.heap.size w wr) (fun _ i _ => bs.length + 8 - (intOf i).toNat)
  case atStart => exact ⟨0, by omega, rfl, rfl, hb1⟩
  case round =>
    obtain ⟨j, hj, rfl, rfl, hb⟩ := hrel
    by_cases hlt : 8 * j < bs.length
    · have hjn : j < nGroups bs.length := by unfold nGroups; omega
      have hq : (chunk bs j).length ≤ bs.length - 8 * j ∧ (chunk bs j).length ≤ 8 ∧ ((chunk bs j).length = 8 ∨ (chunk bs j).length = bs.length - 8 * j) := by rw [chunk_length]; omega
      obtain ⟨hq1, hq2, hq3⟩ := hq
      obtain ⟨m, hm, hm2⟩ : ∃ m : Nat, min (8 * (j : Int) + 8) (bs.length : Int) = (m : Int) ∧ m = 8 * j + (chunk bs j).length := ⟨8 * j + (chunk bs j).length, by rcases hq3 with h | h <;> omega, rfl⟩
      obtain ⟨b, off, rfl, hbn, _⟩ := hr.open_ (by rw [bcells_length]; omega)
      have hrc : RdB w (some ⟨b, off + 8 * j, none⟩) (chunk bs j) := RdB.take (rd_cut hr hbn (8 * j)) 8
      have hv := fun cc => ref2_Value (some ⟨b, off + 8 * j, none⟩) cc (chunk bs j) wr (hrc.to hb) (by omega)
      have hm3 : 8 * j ≤ m := by omega
      have hm4 : m ≤ bs.length := by omega
      rw [show (chunk bs j).length = m - 8 * j by omega] at hv
      have HV := Lib.hid hv
      have HM := Lib.hid hm2
      have HT := Lib.hid (tagFold_snoc k (tagStart k bs.length) (groupsTo bs j) (groupAt bs j))
      clear hv hm2 hq3 hq1 hq2
      go_wp2_with fail
      refine (HV.out _).mono ?_; rintro e w2 ⟨rfl, rfl⟩
      go_wp2_with fail
      refine (ref5_Mix _ _ _).mono ?_; rintro e w3 ⟨rfl, hb3⟩
      rw [show leVal (chunk bs j) = groupAt bs j from rfl, ← HT.out, ← groupsTo_succ]
      go_wp2
      go_roundw
      case rel => exact ⟨j + 1, by omega, by go_num, rfl, hb.trans (hb3.mono hb.size)⟩
      case measure => simp [intOf]; omega
    · have hjn : j = nGroups bs.length := by unfold nGroups at hj ⊢; omega
      subst hjn
      go_wp2
      go_ret
      exact ⟨rfl, hb⟩
end Go.Proofs.Ythlbancokiaacaa
