/- Contracts of the functions of layer 1 (serial) and of its reference. -/
import Derived.Test.YtdnkcedalodjmaaRows
import Derived.Test.YtdnkcedalodjmaaSerFn
import Derived.ProofKit
import Derived.OpenShut
import Derived.Handy
import Derived.Lib.Hide
import Derived.BigQuiet
import Derived.Deep.QuietTactic
namespace Go.Proofs.Ytdnkcedalodjmaa
open Go.ChangeShapes Go.WideShapes Go.ChangeAt Go.RowKit
set_option linter.unusedVariables false

theorem ret_int {k : IntKind} {a b : Int} (h : a = b) : Ending.returned (.int k a) = .returned (.int k b) := by rw [h]
theorem ret_bool {a b : Bool} (h : a = b) : Ending.returned (.bool a) = .returned (.bool b) := by rw [h]

theorem serial_Low (n : BitVec 64) (b : Int) (w : World) :
    Calls Try.prog 17 #[.int .u64 (W64 n), .int .i64 b] w fun e w' => e = .returned (.int .u64 (W64 (low n b))) ∧ w = w' := by
  go_enter Try.func17, Try.ntmps17
  go_wp2
  · go_ret; exact ⟨ret_int (by unfold low; rw [if_pos (by assumption)]; rfl), rfl⟩
  · go_ret; exact ⟨ret_int (by unfold low; rw [if_neg (by omega), if_pos (by assumption)]), rfl⟩
  · go_ret; exact ⟨ret_int (by unfold low; rw [if_neg (by omega), if_neg (by omega)]), rfl⟩
theorem ref1_Power (b : Int) (w : World) (h0 : 0 ≤ b) (h1 : b < 64) :
    Calls Try.prog 29 #[.int .i64 b] w fun e w' => e = .returned (.int .u64 (W64 (BitVec.twoPow 64 b.toNat))) ∧ w = w' := by
  obtain ⟨n, rfl⟩ := Int.eq_ofNat_of_zero_le h0
  go_enter Try.func29, Try.ntmps29
  go_wp2
  go_loop [3, 4] (fun p i => ∃ k : Nat, k ≤ n ∧ i = .int .i64 k ∧ p = .int .u64 (W64 (BitVec.twoPow 64 k))) (fun _ i => n - (intOf i).toNat)
  case atStart => exact ⟨0, by omega, rfl, rfl⟩
  case round =>
    obtain ⟨k, hk, rfl, rfl⟩ := hrel
    by_cases hlt : k < n
    · go_wp2
      go_round
      case rel => exact ⟨k + 1, by omega, by go_num, by rw [twoPow_succ]⟩
      case measure => simp [intOf]; omega
    · go_wp2
      go_ret
      obtain rfl : k = n := by omega
      exact ⟨rfl, rfl⟩
theorem ref1_Low (n : BitVec 64) (b : Int) (w : World) :
    Calls Try.prog 18 #[.int .u64 (W64 n), .int .i64 b] w fun e w' => e = .returned (.int .u64 (W64 (low n b))) ∧ w = w' := by
  by_cases h0 : b < 0
  · go_enter Try.func18, Try.ntmps18
    go_wp2
    go_ret; exact ⟨ret_int (by unfold low; rw [if_pos (by omega)]; rfl), rfl⟩
  by_cases h1 : 63 < b
  · go_enter Try.func18, Try.ntmps18
    go_wp2
    go_ret; exact ⟨ret_int (by unfold low; rw [if_neg (by omega), if_pos (by omega)]), rfl⟩
  have hne := twoPow_ne b (by omega) (by omega)
  go_enter Try.func18, Try.ntmps18
  go_wp2_with fail
  refine (ref1_Power b _ (by omega) (by omega)).mono ?_
  rintro e w' ⟨rfl, rfl⟩
  go_wp2
  go_ret; exact ⟨ret_int (by rw [low_of_mod _ _ (by omega) (by omega)]), rfl⟩
theorem serial_Diff (a b : BitVec 16) (w : World) :
    Calls Try.prog 19 #[.int .u16 (W16 a), .int .u16 (W16 b)] w fun e w' => e = .returned (.int .i64 (diff16 a b)) ∧ w = w' := by
  go_enter Try.func19, Try.ntmps19
  go_wp2
  go_ret
  exact ⟨ret_int (by rw [i16_W16]; exact wrap64_toInt16 _), rfl⟩
theorem ref1_Diff (a b : BitVec 16) (w : World) :
    Calls Try.prog 20 #[.int .u16 (W16 a), .int .u16 (W16 b)] w fun e w' => e = .returned (.int .i64 (diff16 a b)) ∧ w = w' := by
  have ha := W16_bd a
  have hb := W16_bd b
  have H := Lib.hid (diff_toInt a b)
  go_enter Try.func20, Try.ntmps20
  go_wp2
  all_goals (go_ret; exact ⟨ret_int (by rw [H.out]; unfold dist16; (repeat' split) <;> omega), rfl⟩)
theorem serial_Add (a : BitVec 16) (n : Int) (w : World) :
    Calls Try.prog 21 #[.int .u16 (W16 a), .int .i64 n] w fun e w' => e = .returned (.int .u16 (W16 (add16 a n))) ∧ w = w' := by
  go_enter Try.func21, Try.ntmps21
  go_wp2
  go_ret
  exact ⟨rfl, rfl⟩
theorem serial_Passed (a b : BitVec 16) (w : World) :
    Calls Try.prog 23 #[.int .u16 (W16 a), .int .u16 (W16 b)] w fun e w' => e = .returned (.bool (passed a b)) ∧ w = w' := by
  go_enter Try.func23, Try.ntmps23
  go_wp2_with fail
  refine (serial_Diff _ _ _).mono ?_
  rintro e w' ⟨rfl, rfl⟩
  go_wp2
  go_ret
  exact ⟨rfl, rfl⟩
theorem ref1_Passed (a b : BitVec 16) (w : World) :
    Calls Try.prog 24 #[.int .u16 (W16 a), .int .u16 (W16 b)] w fun e w' => e = .returned (.bool (passed a b)) ∧ w = w' := by
  go_enter Try.func24, Try.ntmps24
  go_wp2_with fail
  refine (ref1_Diff _ _ _).mono ?_
  rintro e w' ⟨rfl, rfl⟩
  go_wp2
  go_ret
  exact ⟨rfl, rfl⟩
theorem serial_Between (a b c : BitVec 16) (w : World) :
    Calls Try.prog 25 #[.int .u16 (W16 a), .int .u16 (W16 b), .int .u16 (W16 c)] w fun e w' => e = .returned (.bool (between a b c)) ∧ w = w' := by
  go_enter Try.func25, Try.ntmps25
  go_wp2
  go_ret
  exact ⟨rfl, rfl⟩
theorem serial_apart (a b : BitVec 64) (w : World) :
    Calls Try.prog 37 #[.int .u64 (W64 a), .int .u64 (W64 b)] w fun e w' => e = .returned (.int .u64 (W64 (dist a b))) ∧ w = w' := by
  go_enter Try.func37, Try.ntmps37
  go_wp2
  · go_ret; exact ⟨ret_int (by unfold dist; rw [if_pos (by assumption)]), rfl⟩
  · go_ret; exact ⟨ret_int (by unfold dist; rw [if_neg (by omega)]), rfl⟩
  · go_ret
    obtain rfl : a = b := W64_inj (by omega)
    exact ⟨ret_int (by unfold dist; rw [if_neg (by omega)]; simp), rfl⟩
theorem ref1_apart (a b : BitVec 64) (w : World) :
    Calls Try.prog 38 #[.int .u64 (W64 a), .int .u64 (W64 b)] w fun e w' => e = .returned (.int .u64 (W64 (dist a b))) ∧ w = w' := by
  go_enter Try.func38, Try.ntmps38
  go_wp2
  · go_ret; exact ⟨ret_int (by unfold dist; rw [if_pos (by assumption)]), rfl⟩
  · go_ret; exact ⟨ret_int (by unfold dist; rw [if_neg (by omega)]), rfl⟩
theorem ref1_Add (a : BitVec 16) (n : Int) (w : World) :
    Calls Try.prog 22 #[.int .u16 (W16 a), .int .i64 n] w fun e w' => e = .returned (.int .u16 (W16 (add16 a n))) ∧ w = w' := by
  have ha := W16_bd a
  have hn := tmod_bd n
  have H := Lib.hid (ref_add a n)
  go_enter Try.func22, Try.ntmps22
  go_wp2
  go_ret
  exact ⟨ret_int (by rw [← H.out]), rfl⟩
theorem ref1_Between (a b c : BitVec 16) (w : World) :
    Calls Try.prog 26 #[.int .u16 (W16 a), .int .u16 (W16 b), .int .u16 (W16 c)] w fun e w' => e = .returned (.bool (between a b c)) ∧ w = w' := by
  have ha := W16_bd a
  have hb := W16_bd b
  have hc := W16_bd c
  go_enter Try.func26, Try.ntmps26
  go_wp2
  go_ret
  exact ⟨ret_bool (by unfold between; rw [W16_sub, W16_sub]), rfl⟩
theorem idx3_0 (x0 x1 x2 : Value) (w : World) : (Instr.index 45 (.agg #[x0, x1, x2]) (.int .i64 0)).run Try.prog w = .ok x0 w := by kernel_rfl
theorem idx3_1 (x0 x1 x2 : Value) (w : World) : (Instr.index 45 (.agg #[x0, x1, x2]) (.int .i64 1)).run Try.prog w = .ok x1 w := by kernel_rfl
theorem idx3_2 (x0 x1 x2 : Value) (w : World) : (Instr.index 45 (.agg #[x0, x1, x2]) (.int .i64 2)).run Try.prog w = .ok x2 w := by kernel_rfl
theorem serial_Extend (last lo : BitVec 64) (b : Int) (w : World) :
    Calls Try.prog 27 #[.int .u64 (W64 last), .int .u64 (W64 lo), .int .i64 b] w fun e w' => e = .returned (.int .u64 (W64 (extend last lo b))) ∧ Below w.heap.size w w' := by
  have i0 := idx3_0
  have i1 := idx3_1
  have i2 := idx3_2
  go_enter Try.func27, Try.ntmps27
  go_wp2
  generalize hP : BitVec.twoPow 64 (max 1 (min b 63)).toNat = P
  generalize hS : (last &&& ~~~(P - 1#64) ||| lo &&& P - 1#64) = S
  have H := Lib.hid (show extend last lo b = best2 last S P from by rw [← hS, ← hP]; rfl)
  clear hP hS
  refine wp_loop_rounds 4 ?_
  rw [rounds_succ]
  go_wp2_with (go_at_call 37; refine (serial_apart _ _ _).mono ?_; rintro e w' ⟨rfl, rfl⟩)
  all_goals (rw [rounds_succ]; go_wp2_with (go_at_call 37; refine (serial_apart _ _ _).mono ?_; rintro e w' ⟨rfl, rfl⟩))
  all_goals (rw [rounds_succ]; go_wp2_with (go_at_call 37; refine (serial_apart _ _ _).mono ?_; rintro e w' ⟨rfl, rfl⟩))
  all_goals (rw [rounds_succ]; go_wp2_with (go_at_call 37; refine (serial_apart _ _ _).mono ?_; rintro e w' ⟨rfl, rfl⟩))
  all_goals go_ret
  all_goals refine ⟨ret_int (congrArg W64 ?_), (Below.refl _ _).alloc (Nat.le_refl _) _⟩
  all_goals (rw [H.out]; clear H; simp only [best2, best1]; (repeat' split) <;> first | rfl | omega)
theorem ext_parts (last lo : BitVec 64) (b : Int) : ∃ P S : BitVec 64, BitVec.twoPow 64 (max 1 (min b 63)).toNat = P ∧ ¬ W64 P = 0 ∧ last - last % P + lo % P = S ∧ extend last lo b = best2 last S P ∧ ¬ W64 (S + P) = W64 S :=
  ⟨_, _, rfl, twoPow_ne _ (by omega) (by omega), same_eq last lo _ (by omega) (by omega), rfl, add_ne _ _ (twoPow_ne _ (by omega) (by omega))⟩
theorem ref1_Extend (last lo : BitVec 64) (b : Int) (w : World) :
    Calls Try.prog 28 #[.int .u64 (W64 last), .int .u64 (W64 lo), .int .i64 b] w fun e w' => e = .returned (.int .u64 (W64 (extend last lo b))) ∧ Below w.heap.size w w' := by
  obtain ⟨P, S, hP, hne, hS, hE, hA⟩ := ext_parts last lo b
  have HP := Lib.hid hP
  have HS := Lib.hid hS
  have H := Lib.hid hE
  have HA := Lib.hid hA
  clear hP hS hE hA
  go_enter Try.func28, Try.ntmps28
  go_wp2_with fail
  refine (ref1_Power _ _ (by omega) (by omega)).mono ?_
  rw [HP.out]
  rintro e w' ⟨rfl, rfl⟩
  go_wp2
  go_quiet (fail)
  rw [HS.out]
  clear hne
  go_wp2_with (go_at_call 38; refine (ref1_apart _ _ _).mono ?_; rintro e w' ⟨rfl, rfl⟩)
  all_goals go_ret
  all_goals refine ⟨ret_int (congrArg W64 ?_), below_drewN (Below.refl _ _) _⟩
  all_goals (have hA := HA.out; rw [H.out]; clear H HA; simp only [best2, best1, dist_comm last] at *; (repeat' split) <;> first | rfl | omega)
end Go.Proofs.Ytdnkcedalodjmaa
