/- Contracts of the functions of layer 5 (block) and of its reference. -/
import Derived.Test.YtbkaeoaepmeceaaSer
import Derived.Test.YtbkaeoaepmeceaaBlkFn
import Derived.StillTailTactics
namespace Go.Proofs.Ytbkaeoaepmeceaa
set_option maxRecDepth 100000
open Go.ChangeShapes Go.WideShapes Go.ChangeAt Go.RowKit
set_option linter.unusedVariables false

theorem bits_RotateLeft64 (x : BitVec 64) (k : Int) (w : World) :
    Calls Try.prog 78 #[.int .u64 (W64 x), .int .i64 k] w fun e w' => e = .returned (.int .u64 (W64 (rotl64 x (k % 64).toNat))) ∧ w = w' := by
  have H := Lib.hid (rot64_eq x k)
  go_enter Try.func78, Try.ntmps78
  go_wp2
  go_ret
  exact ⟨ret_int (by rw [← H.out]), rfl⟩
theorem bits_RotateLeft32 (x : BitVec 32) (k : Int) (w : World) :
    Calls Try.prog 79 #[.int .u32 (W32 x), .int .i64 k] w fun e w' => e = .returned (.int .u32 (W32 (rotl32 x (k % 32).toNat))) ∧ w = w' := by
  have H := Lib.hid (rot32_eq x k)
  go_enter Try.func79, Try.ntmps79
  go_wp2
  go_ret
  exact ⟨ret_int (by rw [← H.out]), rfl⟩
theorem block_Round (k : BitVec 64) (i : Int) (h : BitVec 32) (w : World) :
    Calls Try.prog 71 #[.int .u64 (W64 k), .int .i64 i, .int .u32 (W32 h)] w fun e w' => e = .returned (.int .u32 (W32 (rnd k i h))) ∧ w = w' := by
  have hb := tmod64 i
  have ht := Lib.hid (turn_eq i)
  go_enter Try.func71, Try.ntmps71
  go_wp2_with fail
  refine (bits_RotateLeft64 _ _ _).mono ?_; rintro e w' ⟨rfl, rfl⟩
  rw [ht.out]
  go_wp2_with fail
  refine (serial_Low _ _ _).mono ?_; rintro e w' ⟨rfl, rfl⟩
  go_wp2_with fail
  rw [low32]
  refine (bits_RotateLeft32 _ _ _).mono ?_; rintro e w' ⟨rfl, rfl⟩
  go_wp2_with fail
  refine (bits_RotateLeft32 _ _ _).mono ?_; rintro e w' ⟨rfl, rfl⟩
  go_wp2
  go_ret
  exact ⟨rfl, rfl⟩
theorem block_split (x : BitVec 64) (w : World) :
    Calls Try.prog 70 #[.int .u64 (W64 x)] w fun e w' => e = .returned (.agg #[.int .u32 (W32 (hiW x)), .int .u32 (W32 (loW x))]) ∧ Below w.heap.size w w' := by
  go_enter Try.func70, Try.ntmps70
  go_wp2_with fail
  refine (serial_Low _ _ _).mono ?_; rintro e w' ⟨rfl, rfl⟩
  go_wp2
  rw [low32]
  go_returns
  exact ⟨rfl, (Below.refl _ _).alloc (Nat.le_refl _) _⟩
theorem halves_join (l r : BitVec 32) (w : World) :
    Calls Try.prog 72 #[.agg #[.int .u32 (W32 l), .int .u32 (W32 r)]] w fun e w' => e = .returned (.int .u64 (W64 (joinW l r))) ∧ Below w.heap.size w w' := by
  go_enter Try.func72, Try.ntmps72
  go_wp2
  go_ret
  exact ⟨ret_int rfl, (Below.refl _ _).alloc (Nat.le_refl _) _⟩
/-- Block B of the world holds the two halves. -/
def Halves (w : World) (B : Nat) (p : BitVec 32 × BitVec 32) : Prop :=
  w.cell? ⟨B, 0, none⟩ = some (.int .u32 (W32 p.1)) ∧ w.cell? ⟨B, 1, none⟩ = some (.int .u32 (W32 p.2)) ∧ w.frozen? ⟨B, 0, none⟩ = false ∧ w.frozen? ⟨B, 1, none⟩ = false
theorem block_Mix (k x : BitVec 64) (w : World) :
    Calls Try.prog 59 #[.int .u64 (W64 k), .int .u64 (W64 x)] w fun e w' => e = .returned (.int .u64 (W64 (mix k x))) ∧ Below w.heap.size w w' := by
  go_enter Try.func59, Try.ntmps59
  go_wp2_with fail
  refine (block_split _ _).mono ?_; rintro e w1 ⟨rfl, hb1⟩
  go_wp2
  go_loopw [9] (fun i wr => ∃ n : Nat, n ≤ 8 ∧ i = .int .i64 n ∧ Below w1.heap.size w1 wr ∧ Halves wr w1.heap.size (fwd k (hiW x) (loW x) n)) (fun i _ => 8 - (intOf i).toNat)
  case atStart => 
    refine ⟨0, by omega, rfl, (Below.refl _ _).alloc (Nat.le_refl _) _, ?_, ?_, ?_, ?_⟩
    all_goals simp [go_sem, fwd]
  case round =>
    obtain ⟨n, hn, rfl, hb, h0, h1, f0, f1⟩ := hrel
    by_cases hlt : n < 8
    · go_wp2
      refine wp_region_still_tail 11 (by kernel_rfl) (by kernel_rfl) ?_
      simp only [List.take_succ_cons, List.take_zero, List.drop_succ_cons, List.drop_zero]
      repeat still_step
      still_call ((block_Round _ _ _ _).mono fun _ _ ⟨a, b⟩ => ⟨a, b.symm⟩)
      repeat still_step
      refine wpStill_nil ?_
      go_wp2
      go_roundw
      case rel => 
        refine ⟨n + 1, by omega, by go_num, (hb.drew.setCell (Nat.le_refl _) _).setCell (Nat.le_refl _) _, ?_, ?_, ?_, ?_⟩
        all_goals simp [go_sem, fwd, h0, h1, f0, f1]
      case measure => simp [intOf]; omega
    · obtain rfl : n = 8 := by omega
      go_wp2_with fail
      refine (halves_join _ _ _).mono ?_; rintro e w2 ⟨rfl, hb2⟩
      go_wp2
      go_ret
      exact ⟨rfl, hb1.trans ((hb.mono hb1.size).trans (hb2.mono (Nat.le_trans hb1.size hb.size)))⟩
theorem ref5_Turn (x : BitVec 32) (n : Int) (w : World) (h0 : 0 ≤ n) (h1 : n ≤ 31) :
    Calls Try.prog 81 #[.int .u32 (W32 x), .int .i64 n] w fun e w' => e = .returned (.int .u32 (W32 (rotl32 x n.toNat))) ∧ Below w.heap.size w w' := by
  obtain ⟨m, rfl⟩ := Int.eq_ofNat_of_zero_le h0
  go_enter Try.func81, Try.ntmps81
  go_wp2
  go_quiet (fail)
  go_wp2
  go_ret
  exact ⟨rfl, below_drewN (Below.refl _ _) _⟩
theorem ref5_Low (k : BitVec 64) (i : Int) (w : World) :
    Calls Try.prog 80 #[.int .u64 (W64 k), .int .i64 i] w fun e w' => e = .returned (.int .u32 (W32 (kLow k i))) ∧ Below w.heap.size w w' := by
  have hb := tmod64 i
  obtain ⟨t, ht, ht2⟩ : ∃ t : Nat, ((i.tmod 64 + 64) * 11) % 64 = (t : Int) ∧ ((11 * i) % 64).toNat = t := ⟨((11 * i) % 64).toNat, by rw [ref_turn]; omega, rfl⟩
  have hlt : t < 64 := by omega
  have hl := Lib.hid (lo_mod (rotl64 k t))
  have hz := Lib.hid (lo_mod k)
  have H2 := Lib.hid ht2
  clear ht2
  go_enter Try.func80, Try.ntmps80
  by_cases h0 : 0 < t
  · go_wp2
    go_quiet (fail)
    go_wp2
    go_ret
    exact ⟨ret_int (congrArg W32 (by unfold kLow; rw [H2.out]; exact hl.out)), below_drewN (Below.refl _ _) _⟩
  · obtain rfl : t = 0 := by omega
    go_wp2
    go_ret
    exact ⟨ret_int (congrArg W32 (by unfold kLow; rw [H2.out, rotl64_zero]; exact hz.out)), Below.refl _ _⟩
theorem ref5_Round (k : BitVec 64) (i : Int) (h : BitVec 32) (w : World) :
    Calls Try.prog 76 #[.int .u64 (W64 k), .int .i64 i, .int .u32 (W32 h)] w fun e w' => e = .returned (.int .u32 (W32 (rnd k i h))) ∧ Below w.heap.size w w' := by
  go_enter Try.func76, Try.ntmps76
  go_wp2_with fail
  refine (ref5_Low _ _ _).mono ?_; rintro e w1 ⟨rfl, hb1⟩
  go_wp2_with fail
  refine (ref5_Turn _ _ _ (by omega) (by omega)).mono ?_; rintro e w2 ⟨rfl, hb2⟩
  go_wp2_with fail
  refine (ref5_Turn _ _ _ (by omega) (by omega)).mono ?_; rintro e w3 ⟨rfl, hb3⟩
  go_wp2
  go_ret
  exact ⟨rfl, hb1.trans ((hb2.mono hb1.size).trans (hb3.mono (Nat.le_trans hb1.size hb2.size)))⟩
theorem ref5_Mix (k x : BitVec 64) (w : World) :
    Calls Try.prog 69 #[.int .u64 (W64 k), .int .u64 (W64 x)] w fun e w' => e = .returned (.int .u64 (W64 (mix k x))) ∧ Below w.heap.size w w' := by
  have h1 := hi_div x
  have h2 := lo_mod x
  go_enter Try.func69, Try.ntmps69
  go_wp2
  clear h1 h2
  go_loopw [5, 6, 7] (fun l r i wr => ∃ n : Nat, n ≤ 8 ∧ i = .int .i64 n ∧ l = .int .u32 (W32 (fwd k (hiW x) (loW x) n).1) ∧ r = .int .u32 (W32 (fwd k (hiW x) (loW x) n).2) ∧ Below w.heap.size w wr) (fun _ _ i _ => 8 - (intOf i).toNat)
  case atStart => exact ⟨0, by omega, rfl, rfl, rfl, Below.refl _ _⟩
  case round =>
    obtain ⟨n, hn, rfl, rfl, rfl, hb⟩ := hrel
    by_cases hlt : n < 8
    · go_wp2_with fail
      refine (ref5_Round _ _ _ _).mono ?_; rintro e w2 ⟨rfl, hb2⟩
      go_wp2
      go_roundw
      case rel => exact ⟨n + 1, by omega, by go_num, rfl, rfl, hb.trans (hb2.mono hb.size)⟩
      case measure => simp [intOf]; omega
    · obtain rfl : n = 8 := by omega
      go_wp2
      go_ret
      exact ⟨ret_int (congrArg W64 (join_mul _ _)), hb⟩
end Go.Proofs.Ytbkaeoaepmeceaa
