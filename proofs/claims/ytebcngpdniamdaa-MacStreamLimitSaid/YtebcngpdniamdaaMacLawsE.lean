/- The walk of the law MacStreamLimit. -/
import Derived.Test.YtebcngpdniamdaaMacLawsA
import Derived.Deep.RegionHeld3
namespace Go.Proofs.Ytebcngpdniamdaa
open Go.ChangeShapes Go.WideShapes Go.ChangeAt Go.RowKit
set_option linter.unusedVariables false

theorem below_on {a b c : World} (h1 : Below a.heap.size a b) (h2 : Below b.heap.size b c) : Below a.heap.size a c := h1.trans (h2.mono h1.size)
set_option maxHeartbeats 2000000 in
theorem law_MacStreamLimit (k nonce : BitVec 64) (n : Int) (wn : (Lit.int .i64 n).wf = true) (m : Int) (wm : (Lit.int .i64 m).wf = true) (w : World) :
    Calls Try.prog 10 #[.int .u64 (W64 k), .int .u64 (W64 nonce), .int .i64 n, .int .i64 m] w fun e w' => e = .returned (.bool true) ∧ Below w.heap.size w w' := by
  have hcases : (n < 0 ∨ ¬ n < 0 ∧ m < n ∨ ¬ n < 0 ∧ ¬ m < n ∧ 400 < n ∨ ¬ n < 0 ∧ ¬ m < n ∧ ¬ 400 < n ∧ 400 < m ∧ m < 65536) ∨ (¬ n < 0 ∧ ¬ m < n ∧ ¬ 400 < n ∧ (¬ 400 < m ∨ 400 < m ∧ ¬ m < 65536)) := by omega
  rcases hcases with hcs | ⟨h1, h2, h3, h4⟩
  · rcases hcs with h | ⟨h1, h2⟩ | ⟨h1, h2, h3⟩ | ⟨h1, h2, h3, h4, h5⟩
    all_goals
      go_enter Try.func10, Try.ntmps10
      go_wp2_with fail
      refine (lives6 _).mono ?_; rintro e w1 ⟨rfl, hb1⟩
      go_wp2
      go_ret
      exact ⟨rfl, hb1⟩
  · have H1 := Lib.hid (fun W => mac_Stream k nonce m W)
    have H2 := Lib.hid (fun W => mac_Stream k nonce n W)
    obtain ⟨a, rfl⟩ := Int.eq_ofNat_of_zero_le (show 0 ≤ n by omega)
    have hca : cutN (a : Int) = a := by unfold cutN; omega
    have hcm : (cutN m : Int) = min m 65536 := by unfold cutN; omega
    have hst := stream_take k nonce a (cutN m) (by omega)
    have hac : a ≤ cutN m := by omega
    rw [hca] at H2
    have HL := Lib.hid (stream_length k nonce (cutN m))
    have HL2 := Lib.hid (stream_length k nonce a)
    generalize cutN m = b at *
    generalize stream k nonce b = lg at *
    rw [← hst] at H2 HL2
    clear hst hca
    have hmin : min m 65536 = (b : Int) := hcm.symm
    clear hcm
    rcases h4 with h4 | ⟨h4, h5⟩
    all_goals
      go_enter Try.func10, Try.ntmps10
      go_wp2_with fail
      refine (H1.out _).mono ?_; rintro e w1 hp1
      obtain ⟨A1, c1, rfl, hr1, hc1, hb1⟩ := hp1.at_ HL.out
      have hac1 : a ≤ c1 := Nat.le_trans hac hc1
      have ht1 : RdB w1 A1 (lg.take a) := RdB.take hr1 a
      go_wp2
      go_region_held3 (fun w' => Below w1.heap.size w1 w') (first | assumption | exact Below.refl _ _ | exact (Below.refl _ _).drew)
        (first
        | (go_at_call 12; refine (lives6 _).mono ?_; rintro e w2 ⟨rfl, hb2⟩; have hb12 : Below w1.heap.size w1 w2 := by (refine below_on ?_ hb2; assumption))
        | (go_at_call 23; refine (H2.out _).mono ?_; rintro e w3 hp3; obtain ⟨A3, c3, rfl, hr3, hc3, hb3⟩ := hp3.at_ HL2.out; have hb13 : Below w1.heap.size w1 w3 := below_on hb12 hb3)
        | (go_at_call 15; refine (same_self A3 A1 c3 _ a a (lg.take a) w3 hr3 (Rd.to ht1 hb13) HL2.out HL2.out).mono ?_; rintro e w4 ⟨rfl, rfl⟩))
      all_goals
        go_wp2
        go_ret
        exact ⟨rfl, hb1.trans (hb13.mono hb1.size)⟩
end Go.Proofs.Ytebcngpdniamdaa
