/- The walks of the six laws of layer 1 (serial). -/
import Derived.Test.YtdnkcedalodjmaaSer
namespace Go.Proofs.Ytdnkcedalodjmaa
open Go.ChangeShapes Go.WideShapes Go.ChangeAt Go.RowKit
set_option linter.unusedVariables false

theorem lives1 (w : World) : Calls Try.prog 16 #[] w fun e w' => e = .returned (.bool true) ∧ Below w.heap.size w w' := by
  have c1 : ∀ w, Calls Try.prog 17 #[.int .u64 258, .int .i64 8] w fun e w' => e = .returned (.int .u64 2) ∧ w = w' := fun w => serial_Low 258#64 8 w
  have c2 : ∀ w, Calls Try.prog 19 #[.int .u16 65535, .int .u16 2] w fun e w' => e = .returned (.int .i64 3) ∧ w = w' := fun w => serial_Diff 65535#16 2#16 w
  have c3 : ∀ w, Calls Try.prog 21 #[.int .u16 2, .int .i64 (-3)] w fun e w' => e = .returned (.int .u16 65535) ∧ w = w' := fun w => serial_Add 2#16 (-3) w
  have c4 : ∀ w, Calls Try.prog 23 #[.int .u16 2, .int .u16 65530] w fun e w' => e = .returned (.bool true) ∧ w = w' := fun w => serial_Passed 2#16 65530#16 w
  have c5 : ∀ w, Calls Try.prog 23 #[.int .u16 65530, .int .u16 2] w fun e w' => e = .returned (.bool false) ∧ w = w' := fun w => serial_Passed 65530#16 2#16 w
  have c6 : ∀ w, Calls Try.prog 25 #[.int .u16 65534, .int .u16 1, .int .u16 0] w fun e w' => e = .returned (.bool true) ∧ w = w' := fun w => serial_Between 65534#16 1#16 0#16 w
  have c7 : ∀ w, Calls Try.prog 27 #[.int .u64 260, .int .u64 1, .int .i64 8] w fun e w' => e = .returned (.int .u64 257) ∧ Below w.heap.size w w' := fun w => serial_Extend 260#64 1#64 8 w
  have d1 := Lib.hid c1
  have d2 := Lib.hid c2
  have d3 := Lib.hid c3
  have d4 := Lib.hid c4
  have d5 := Lib.hid c5
  have d6 := Lib.hid c6
  have d7 := Lib.hid c7
  clear c1 c2 c3 c4 c5 c6 c7
  go_enter Try.func16, Try.ntmps16
  go_wp2_with fail
  refine (d1.out _).mono ?_; rintro e w' ⟨rfl, rfl⟩
  go_wp2_with fail
  refine (d2.out _).mono ?_; rintro e w' ⟨rfl, rfl⟩
  go_wp2_with fail
  refine (d3.out _).mono ?_; rintro e w' ⟨rfl, rfl⟩
  go_wp2_with fail
  refine (d4.out _).mono ?_; rintro e w' ⟨rfl, rfl⟩
  go_wp2_with fail
  refine (d5.out _).mono ?_; rintro e w' ⟨rfl, rfl⟩
  go_wp2_with fail
  refine (d6.out _).mono ?_; rintro e w' ⟨rfl, rfl⟩
  go_wp2_with fail
  refine (d7.out _).mono ?_; rintro e w' ⟨rfl, hb⟩
  go_wp2
  go_ret
  exact ⟨rfl, hb⟩
theorem law_SerialLow (n : BitVec 64) (b : Int) (wb : (Lit.int .i64 b).wf = true) (w : World) :
    Calls Try.prog 3 #[.int .u64 (W64 n), .int .i64 b] w fun e w' => e = .returned (.bool true) ∧ Below w.heap.size w w' := by
  go_enter Try.func3, Try.ntmps3
  go_wp2_with fail
  refine (lives1 _).mono ?_; rintro e w' ⟨rfl, hb⟩
  go_wp2_with fail
  refine (serial_Low _ _ _).mono ?_; rintro e w' ⟨rfl, rfl⟩
  go_wp2_with fail
  refine (ref1_Low _ _ _).mono ?_; rintro e w' ⟨rfl, rfl⟩
  go_wp2
  go_ret
  exact ⟨rfl, hb⟩
end Go.Proofs.Ytdnkcedalodjmaa
