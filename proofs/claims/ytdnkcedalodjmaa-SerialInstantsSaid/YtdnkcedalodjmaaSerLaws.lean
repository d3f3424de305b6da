/- The walks of the six laws of layer 1 (serial). -/
import Derived.Test.YtdnkcedalodjmaaSer
namespace Go.Proofs.Ytdnkcedalodjmaa
open Go.ChangeShapes Go.WideShapes Go.ChangeAt Go.RowKit
set_option linter.unusedVariables false

theorem lives1 (w : World) : Calls Try.prog 16 #[] w fun e w' => e = .returned (.bool true) ∧ Below w.heap.size w w' := by
  have c1 : ∀ w, Calls Try.prog 17 #[.int .u64 258, .int .i64 8] w fun e w' => e = .returned (.int .u64 2) ∧ w = w' := fun w => serial_Low 258#64 8 w
  have c2 : ∀ w, Calls Try.prog 19 #[.int .u16 65535, .int .u16 2] w fun e w' => e = .returned (.int .i64 3) ∧ w = w' := fun w => serial_Diff 65535#16 2#16 w
  have c3 : ∀ w, Calls Try.prog 21 #[.int .u16 2, .int .i64 (-3)] w fun e w' => e = .returned (.int .u16 65535) ∧ w = w' := fun w => serial_Add 2#16 (-3) w
  have c4 : ∀ w, Calls Try.prog 23 #[.int .u16 2, .int .u16 65530] w fun e w' => e = .returned (.bool true) ∧ w = w' := fun w => serial_Passed 2#16 65530#16 w
  have c5 : ∀ w, Calls Try.prog 23 #[.int .u16 65530, .int .u16 2] w fun e w' => e = .returned (.bool false) ∧ w = w' := fun w => serial_Passed 65530#16 2#16 w
  have c6 : ∀ w, Calls Try.prog 25 #[.int .u16 65534, .int .u16 1, .int .u16 0] w fun e w' => e = .returned (.bool true) ∧ w = w' := fun w => serial_Between 65534#16 1#16 0#16 w
  have c7 : ∀ w, Calls Try.prog 27 #[.int .u64 260, .int .u64 1, .int .i64 8] w fun e w' => e = .returned (.int .u64 257) ∧ Below w.heap.size w w' := fun w => serial_Extend 260#64 1#64 8 w
  have d1 := Lib.hid c1
  have d2 := Lib.hid c2
  have d3 := Lib.hid c3
  have d4 := Lib.hid c4
  have d5 := Lib.hid c5
  have d6 := Lib.hid c6
  have d7 := Lib.hid c7
  clear c1 c2 c3 c4 c5 c6 c7
  go_enter Try.func16, Try.ntmps16
  go_wp2_with fail
  refine (d1.out _).mono ?_; rintro e w' ⟨rfl, rfl⟩
  go_wp2_with fail
  refine (d2.out _).mono ?_; rintro e w' ⟨rfl, rfl⟩
  go_wp2_with fail
  refine (d3.out _).mono ?_; rintro e w' ⟨rfl, rfl⟩
  go_wp2_with fail
  refine (d4.out _).mono ?_; rintro e w' ⟨rfl, rfl⟩
  go_wp2_with fail
  refine (d5.out _).mono ?_; rintro e w' ⟨rfl, rfl⟩
  go_wp2_with fail
  refine (d6.out _).mono ?_; rintro e w' ⟨rfl, rfl⟩
  go_wp2_with fail
  refine (d7.out _).mono ?_; rintro e w' ⟨rfl, hb⟩
  go_wp2
  go_ret
  exact ⟨rfl, hb⟩
theorem law_SerialLow (n : BitVec 64) (b : Int) (wb : (Lit.int .i64 b).wf = true) (w : World) :
    Calls Try.prog 3 #[.int .u64 (W64 n), .int .i64 b] w fun e w' => e = .returned (.bool true) ∧ Below w.heap.size w w' := by
  go_enter Try.func3, Try.ntmps3
  go_wp2_with fail
  refine (lives1 _).mono ?_; rintro e w' ⟨rfl, hb⟩
  go_wp2_with fail
  refine (serial_Low _ _ _).mono ?_; rintro e w' ⟨rfl, rfl⟩
  go_wp2_with fail
  refine (ref1_Low _ _ _).mono ?_; rintro e w' ⟨rfl, rfl⟩
  go_wp2
  go_ret
  exact ⟨rfl, hb⟩
theorem law_SerialCounts (a b : BitVec 16) (n : Int) (wn : (Lit.int .i64 n).wf = true) (w : World) :
    Calls Try.prog 4 #[.int .u16 (W16 a), .int .u16 (W16 b), .int .i64 n] w fun e w' => e = .returned (.bool true) ∧ Below w.heap.size w w' := by
  have H := Lib.hid (add_diff a b)
  go_enter Try.func4, Try.ntmps4
  go_wp2_with fail
  refine (lives1 _).mono ?_; rintro e w' ⟨rfl, hb⟩
  go_wp2_with fail
  refine (serial_Diff _ _ _).mono ?_; rintro e w' ⟨rfl, rfl⟩
  go_wp2_with fail
  refine (ref1_Diff _ _ _).mono ?_; rintro e w' ⟨rfl, rfl⟩
  go_wp2_with fail
  refine (serial_Add _ _ _).mono ?_; rintro e w' ⟨rfl, rfl⟩
  go_wp2_with fail
  refine (ref1_Add _ _ _).mono ?_; rintro e w' ⟨rfl, rfl⟩
  go_wp2_with fail
  refine (serial_Diff _ _ _).mono ?_; rintro e w' ⟨rfl, rfl⟩
  go_wp2_with fail
  refine (serial_Add _ _ _).mono ?_; rw [H.out]; rintro e w' ⟨rfl, rfl⟩
  go_wp2
  go_ret
  exact ⟨rfl, hb⟩
theorem law_SerialPasses (a b c : BitVec 16) (w : World) :
    Calls Try.prog 5 #[.int .u16 (W16 a), .int .u16 (W16 b), .int .u16 (W16 c)] w fun e w' => e = .returned (.bool true) ∧ Below w.heap.size w w' := by
  go_enter Try.func5, Try.ntmps5
  go_wp2_with fail
  refine (lives1 _).mono ?_; rintro e w' ⟨rfl, hb⟩
  go_wp2_with fail
  refine (serial_Passed _ _ _).mono ?_; rintro e w' ⟨rfl, rfl⟩
  go_wp2_with fail
  refine (ref1_Passed _ _ _).mono ?_; rintro e w' ⟨rfl, rfl⟩
  go_wp2_with fail
  refine (serial_Between _ _ _ _).mono ?_; rintro e w' ⟨rfl, rfl⟩
  go_wp2_with fail
  refine (ref1_Between _ _ _ _).mono ?_; rintro e w' ⟨rfl, rfl⟩
  go_wp2
  go_ret
  exact ⟨rfl, hb⟩
theorem law_SerialNearest (a b : BitVec 64) (n : Int) (wn : (Lit.int .i64 n).wf = true) (w : World) :
    Calls Try.prog 6 #[.int .u64 (W64 a), .int .u64 (W64 b), .int .i64 n] w fun e w' => e = .returned (.bool true) ∧ Below w.heap.size w w' := by
  go_enter Try.func6, Try.ntmps6
  go_wp2_with fail
  refine (lives1 _).mono ?_; rintro e w' ⟨rfl, hb⟩
  go_wp2_with fail
  refine (serial_Extend _ _ _ _).mono ?_; rintro e w2 ⟨rfl, hb2⟩
  go_wp2_with fail
  refine (ref1_Extend _ _ _ _).mono ?_; rintro e w3 ⟨rfl, hb3⟩
  go_wp2
  go_ret
  exact ⟨rfl, hb.trans ((hb2.mono hb.size).trans (hb3.mono (Nat.le_trans hb.size hb2.size)))⟩
theorem law_SerialExtends (last n : BitVec 64) (b : Int) (wb : (Lit.int .i64 b).wf = true) (w : World) :
    Calls Try.prog 7 #[.int .u64 (W64 last), .int .u64 (W64 n), .int .i64 b] w fun e w' => e = .returned (.bool true) ∧ Below w.heap.size w w' := by
  by_cases c1 : b < 1
  · go_enter Try.func7, Try.ntmps7
    go_wp2_with fail
    refine (lives1 _).mono ?_; rintro e w' ⟨rfl, hb⟩
    go_wp2
    go_ret
    exact ⟨rfl, hb⟩
  by_cases c2 : 63 < b
  · go_enter Try.func7, Try.ntmps7
    go_wp2_with fail
    refine (lives1 _).mono ?_; rintro e w' ⟨rfl, hb⟩
    go_wp2
    go_ret
    exact ⟨rfl, hb⟩
  have hd : W64 (dist last n) < W64 (BitVec.twoPow 64 (b - 1).toNat) → extend last (low n b) b = n ∧ extend last n b = n :=
    fun h => ⟨extend_near last _ n b (by omega) (by omega) h (low_low n b (by omega) (by omega)), extend_near last n n b (by omega) (by omega) h rfl⟩
  rw [dist_comm, show (b - 1).toNat = b.toNat - 1 from by omega] at hd
  unfold dist at hd
  have H := Lib.hid hd
  clear hd
  by_cases c3 : W64 n < W64 last
  all_goals
    go_enter Try.func7, Try.ntmps7
    go_wp2_with fail
    refine (lives1 _).mono ?_; rintro e w' ⟨rfl, hb⟩
    go_wp2_with fail
    refine (ref1_Power _ _ (by omega) (by omega)).mono ?_; rintro e w' ⟨rfl, rfl⟩
    go_wp2_with fail
    · go_ret
      exact ⟨rfl, hb⟩
    have hd := H.out
    first | rw [if_pos c3] at hd | rw [if_neg (by omega)] at hd
    obtain ⟨h1, h2⟩ := hd (by assumption)
    have H1 := Lib.hid h1
    have H2 := Lib.hid h2
    clear hd h1 h2
    refine (serial_Low _ _ _).mono ?_; rintro e w' ⟨rfl, rfl⟩
    go_wp2_with fail
    refine (serial_Extend _ _ _ _).mono ?_; rw [H1.out]; rintro e w2 ⟨rfl, hb2⟩
    go_wp2_with fail
    refine (serial_Extend _ _ _ _).mono ?_; rw [H2.out]; rintro e w3 ⟨rfl, hb3⟩
    go_wp2
    go_ret
    exact ⟨rfl, hb.trans ((hb2.mono hb.size).trans (hb3.mono (Nat.le_trans hb.size hb2.size)))⟩
theorem law_SerialInstants (a : BitVec 16) (x : Int) (wx : (Lit.int .i64 x).wf = true) (y : Int) (wy : (Lit.int .i64 y).wf = true) (w : World) :
    Calls Try.prog 8 #[.int .u16 (W16 a), .int .i64 x, .int .i64 y] w fun e w' => e = .returned (.bool true) ∧ Below w.heap.size w w' := by
  by_cases c : x < 0 ∨ 32767 < x ∨ y < 0 ∨ 32767 < y
  · by_cases c1 : x < 0
    · go_enter Try.func8, Try.ntmps8
      go_wp2_with fail
      refine (lives1 _).mono ?_; rintro e w' ⟨rfl, hb⟩
      go_wp2
      go_ret
      exact ⟨rfl, hb⟩
    by_cases c2 : 32767 < x
    · go_enter Try.func8, Try.ntmps8
      go_wp2_with fail
      refine (lives1 _).mono ?_; rintro e w' ⟨rfl, hb⟩
      go_wp2
      go_ret
      exact ⟨rfl, hb⟩
    by_cases c3 : y < 0
    · go_enter Try.func8, Try.ntmps8
      go_wp2_with fail
      refine (lives1 _).mono ?_; rintro e w' ⟨rfl, hb⟩
      go_wp2
      go_ret
      exact ⟨rfl, hb⟩
    have c4 : 32767 < y := by omega
    clear c
    go_enter Try.func8, Try.ntmps8
    go_wp2_with fail
    refine (lives1 _).mono ?_; rintro e w' ⟨rfl, hb⟩
    go_wp2
    go_ret
    exact ⟨rfl, hb⟩
  have H := Lib.hid (passed_add a x y (by omega) (by omega) (by omega) (by omega))
  have c1 : 0 ≤ x := by omega
  have c2 : x ≤ 32767 := by omega
  have c3 : 0 ≤ y := by omega
  have c4 : y ≤ 32767 := by omega
  clear c
  go_enter Try.func8, Try.ntmps8
  go_wp2_with fail
  refine (lives1 _).mono ?_; rintro e w' ⟨rfl, hb⟩
  go_wp2_with fail
  refine (serial_Add _ _ _).mono ?_; rintro e w' ⟨rfl, rfl⟩
  go_wp2_with fail
  refine (serial_Add _ _ _).mono ?_; rintro e w' ⟨rfl, rfl⟩
  go_wp2_with fail
  refine (serial_Passed _ _ _).mono ?_; rw [H.out]; rintro e w' ⟨rfl, rfl⟩
  go_wp2
  go_ret
  exact ⟨rfl, hb⟩
end Go.Proofs.Ytdnkcedalodjmaa
