/- The walks of the seven laws of layer 5 (block). -/
import Derived.Test.YtdnkcedalodjmaaBlk
namespace Go.Proofs.Ytdnkcedalodjmaa
open Go.ChangeShapes Go.WideShapes Go.ChangeAt Go.RowKit
set_option linter.unusedVariables false

theorem lives5 (w : World) : Calls Try.prog 30 #[] w fun e w' => e = .returned (.bool true) ∧ Below w.heap.size w w' := by
  have c1 : ∀ w, Calls Try.prog 31 #[.int .u64 0, .int .i64 0, .int .u32 1] w fun e w' => e = .returned (.int .u32 465361024) ∧ w = w' := fun w => block_Round 0#64 0 1#32 w
  have c2 : ∀ w, Calls Try.prog 31 #[.int .u64 1, .int .i64 (-64), .int .u32 0] w fun e w' => e = .returned (.int .u32 465426560) ∧ w = w' := fun w => block_Round 1#64 (-64) 0#32 w
  have c3 : ∀ w, Calls Try.prog 33 #[.int .u64 9, .int .u64 5] w fun e w' => e = .returned (.int .u64 (W64 (mix 9#64 5#64))) ∧ Below w.heap.size w w' := fun w => block_Mix 9#64 5#64 w
  have c4 : ∀ w x, Calls Try.prog 35 #[.int .u64 9, .int .u64 (W64 x)] w fun e w' => e = .returned (.int .u64 (W64 (unmix 9#64 x))) ∧ Below w.heap.size w w' := fun w x => block_Unmix 9#64 x w
  have d1 := Lib.hid c1
  have d2 := Lib.hid c2
  have d3 := Lib.hid c3
  have d4 := Lib.hid c4
  have d5 := Lib.hid (unmix_mix 9#64 5#64)
  clear c1 c2 c3 c4
  generalize mix 9#64 5#64 = m at *
  go_enter Try.func30, Try.ntmps30
  go_wp2_with fail
  refine (d1.out _).mono ?_; rintro e w' ⟨rfl, rfl⟩
  go_wp2_with fail
  refine (d2.out _).mono ?_; rintro e w' ⟨rfl, rfl⟩
  go_wp2_with fail
  refine (d3.out _).mono ?_; rintro e w1 ⟨rfl, hb1⟩
  go_wp2_with fail
  refine (d4.out _ _).mono ?_; rw [d5.out]; rintro e w2 ⟨rfl, hb2⟩
  have h5 : W64 5#64 = 5 := rfl
  go_wp2
  go_ret
  exact ⟨rfl, hb1.trans (hb2.mono hb1.size)⟩
theorem law_BlockRounds (k : BitVec 64) (i : Int) (wi : (Lit.int .i64 i).wf = true) (h : BitVec 32) (w : World) :
    Calls Try.prog 9 #[.int .u64 (W64 k), .int .i64 i, .int .u32 (W32 h)] w fun e w' => e = .returned (.bool true) ∧ Below w.heap.size w w' := by
  go_enter Try.func9, Try.ntmps9
  go_wp2_with fail
  refine (lives5 _).mono ?_; rintro e w1 ⟨rfl, hb1⟩
  go_wp2_with fail
  refine (block_Round _ _ _ _).mono ?_; rintro e w' ⟨rfl, rfl⟩
  go_wp2_with fail
  refine (ref5_Round _ _ _ _).mono ?_; rintro e w2 ⟨rfl, hb2⟩
  go_wp2
  go_ret
  exact ⟨rfl, hb1.trans (hb2.mono hb1.size)⟩
theorem law_BlockMixes (k x : BitVec 64) (w : World) :
    Calls Try.prog 10 #[.int .u64 (W64 k), .int .u64 (W64 x)] w fun e w' => e = .returned (.bool true) ∧ Below w.heap.size w w' := by
  go_enter Try.func10, Try.ntmps10
  go_wp2_with fail
  refine (lives5 _).mono ?_; rintro e w1 ⟨rfl, hb1⟩
  go_wp2_with fail
  refine (block_Mix _ _ _).mono ?_; rintro e w2 ⟨rfl, hb2⟩
  go_wp2_with fail
  refine (ref5_Mix _ _ _).mono ?_; rintro e w3 ⟨rfl, hb3⟩
  go_wp2_with fail
  refine (block_Unmix _ _ _).mono ?_; rintro e w4 ⟨rfl, hb4⟩
  go_wp2_with fail
  refine (ref5_Unmix _ _ _).mono ?_; rintro e w5 ⟨rfl, hb5⟩
  go_wp2
  go_ret
  have h2 := hb1.trans (hb2.mono hb1.size)
  have h3 := h2.trans (hb3.mono h2.size)
  have h4 := h3.trans (hb4.mono h3.size)
  exact ⟨rfl, h4.trans (hb5.mono h4.size)⟩
theorem law_BlockEightRounds (k x : BitVec 64) (w : World) :
    Calls Try.prog 11 #[.int .u64 (W64 k), .int .u64 (W64 x)] w fun e w' => e = .returned (.bool true) ∧ Below w.heap.size w w' := by
  have h1 := hi_div x
  have h2 := lo_mod x
  have H := Lib.hid (join_mul (fwd k (hiW x) (loW x) 8).1 (fwd k (hiW x) (loW x) 8).2)
  go_enter Try.func11, Try.ntmps11
  go_wp2
  clear h1 h2
  go_loop [5, 6, 7] (fun l r i => ∃ n : Nat, n ≤ 8 ∧ i = .int .i64 n ∧ l = .int .u32 (W32 (fwd k (hiW x) (loW x) n).1) ∧ r = .int .u32 (W32 (fwd k (hiW x) (loW x) n).2)) (fun _ _ i => 8 - (intOf i).toNat)
  case atStart => exact ⟨0, by omega, rfl, rfl, rfl⟩
  case round =>
    obtain ⟨n, hn, rfl, rfl, rfl⟩ := hrel
    by_cases hlt : n < 8
    · go_wp2_with fail
      refine (block_Round _ _ _ _).mono ?_; rintro e w2 ⟨rfl, rfl⟩
      go_wp2
      go_round
      case rel => exact ⟨n + 1, by omega, by go_num, rfl, rfl⟩
      case measure => simp [intOf]; omega
    · obtain rfl : n = 8 := by omega
      go_wp2_with fail
      refine (lives5 _).mono ?_; rintro e w1 ⟨rfl, hb1⟩
      go_wp2_with fail
      refine (block_Mix _ _ _).mono ?_; rintro e w2 ⟨rfl, hb2⟩
      have H2 := Lib.hid (show mix k x = joinW (fwd k (hiW x) (loW x) 8).1 (fwd k (hiW x) (loW x) 8).2 from rfl)
      go_wp2
      go_ret
      exact ⟨ret_bool (by rw [H.out, H2.out]; simp), hb1.trans (hb2.mono hb1.size)⟩
theorem law_BlockBack (k x : BitVec 64) (w : World) :
    Calls Try.prog 12 #[.int .u64 (W64 k), .int .u64 (W64 x)] w fun e w' => e = .returned (.bool true) ∧ Below w.heap.size w w' := by
  have H1 := Lib.hid (unmix_mix k x)
  have H2 := Lib.hid (mix_unmix k x)
  go_enter Try.func12, Try.ntmps12
  go_wp2_with fail
  refine (lives5 _).mono ?_; rintro e w1 ⟨rfl, hb1⟩
  go_wp2_with fail
  refine (block_Mix _ _ _).mono ?_; rintro e w2 ⟨rfl, hb2⟩
  go_wp2_with fail
  refine (block_Unmix _ _ _).mono ?_; rw [H1.out]; rintro e w3 ⟨rfl, hb3⟩
  go_wp2_with fail
  refine (block_Unmix _ _ _).mono ?_; rintro e w4 ⟨rfl, hb4⟩
  go_wp2_with fail
  refine (block_Mix _ _ _).mono ?_; rw [H2.out]; rintro e w5 ⟨rfl, hb5⟩
  go_wp2
  go_ret
  have h2 := hb1.trans (hb2.mono hb1.size)
  have h3 := h2.trans (hb3.mono h2.size)
  have h4 := h3.trans (hb4.mono h3.size)
  exact ⟨rfl, h4.trans (hb5.mono h4.size)⟩
theorem law_BlockApart (k x y : BitVec 64) (w : World) :
    Calls Try.prog 13 #[.int .u64 (W64 k), .int .u64 (W64 x), .int .u64 (W64 y)] w fun e w' => e = .returned (.bool true) ∧ Below w.heap.size w w' := by
  have H1 : (W64 (mix k x) == W64 (mix k y)) = (W64 x == W64 y) := by rw [W64_beq, W64_beq, mix_inj]
  have H2 : (W64 (unmix k x) == W64 (unmix k y)) = (W64 x == W64 y) := by rw [W64_beq, W64_beq, unmix_inj]
  go_enter Try.func13, Try.ntmps13
  go_wp2_with fail
  refine (lives5 _).mono ?_; rintro e w1 ⟨rfl, hb1⟩
  go_wp2_with fail
  refine (block_Mix _ _ _).mono ?_; rintro e w2 ⟨rfl, hb2⟩
  go_wp2_with fail
  refine (block_Mix _ _ _).mono ?_; rintro e w3 ⟨rfl, hb3⟩
  go_wp2_with fail
  refine (block_Unmix _ _ _).mono ?_; rintro e w4 ⟨rfl, hb4⟩
  go_wp2_with fail
  refine (block_Unmix _ _ _).mono ?_; rintro e w5 ⟨rfl, hb5⟩
  go_wp2
  go_ret
  have h2 := hb1.trans (hb2.mono hb1.size)
  have h3 := h2.trans (hb3.mono h2.size)
  have h4 := h3.trans (hb4.mono h3.size)
  exact ⟨rfl, h4.trans (hb5.mono h4.size)⟩
theorem law_BlockHalves (k : BitVec 64) (i : Int) (wi : (Lit.int .i64 i).wf = true) (a b : BitVec 32) (w : World) :
    Calls Try.prog 14 #[.int .u64 (W64 k), .int .i64 i, .int .u32 (W32 a), .int .u32 (W32 b)] w fun e w' => e = .returned (.bool true) ∧ Below w.heap.size w w' := by
  have H1 : (W32 (rnd k i a) == W32 (rnd k i b)) = (W32 a == W32 b) := by rw [W32_beq, W32_beq, rnd_inj]
  go_enter Try.func14, Try.ntmps14
  go_wp2_with fail
  refine (lives5 _).mono ?_; rintro e w1 ⟨rfl, hb1⟩
  go_wp2_with fail
  refine (block_Round _ _ _ _).mono ?_; rintro e w' ⟨rfl, rfl⟩
  go_wp2_with fail
  refine (block_Round _ _ _ _).mono ?_; rintro e w' ⟨rfl, rfl⟩
  go_wp2
  go_ret
  exact ⟨rfl, hb1⟩
theorem law_BlockPeriod (k : BitVec 64) (i : Int) (wi : (Lit.int .i64 i).wf = true) (h : BitVec 32) (w : World) :
    Calls Try.prog 15 #[.int .u64 (W64 k), .int .i64 i, .int .u32 (W32 h)] w fun e w' => e = .returned (.bool true) ∧ Below w.heap.size w w' := by
  have H1 := rnd_tmod k i h
  have H2 := rnd_tmod64 k i h
  have hb := tmod64 i
  go_enter Try.func15, Try.ntmps15
  go_wp2_with fail
  refine (lives5 _).mono ?_; rintro e w1 ⟨rfl, hb1⟩
  go_wp2_with fail
  refine (block_Round _ _ _ _).mono ?_; rintro e w' ⟨rfl, rfl⟩
  go_wp2_with fail
  refine (block_Round _ _ _ _).mono ?_; rintro e w' ⟨rfl, rfl⟩
  go_wp2_with fail
  refine (block_Round _ _ _ _).mono ?_; rintro e w' ⟨rfl, rfl⟩
  go_wp2_with fail
  refine (block_Round _ _ _ _).mono ?_; rintro e w' ⟨rfl, rfl⟩
  go_wp2
  go_ret
  exact ⟨rfl, hb1⟩
end Go.Proofs.Ytdnkcedalodjmaa
