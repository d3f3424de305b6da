/- The law's own small functions of layer 29: packet, and the examples. -/
import Derived.Test.YtmehemojopfihaaEncE
namespace Go.Proofs.Ytmehemojopfihaa
set_option maxRecDepth 100000
open Go.ChangeShapes Go.WideShapes Go.ChangeAt Go.RowKit
set_option linter.unusedVariables false
set_option linter.unusedSimpArgs false

def pakP (n : Nat) : Pdu := ⟨0, 0, 0, 2, List.replicate n 0#8⟩
theorem packet_c (n : Nat) (w : World) (hn : n ≤ 1000) : Calls Try.prog 61 #[.int .i64 n] w fun e w' => ∃ A, e = .returned (.agg (pduA (pakP n) A n)) ∧ RdB w' A (List.replicate n 0#8) ∧ Below w.heap.size w w' := by
  obtain ⟨i0, hi0, hz0, hz1, hz2⟩ := info_parts info_u8
  have hmk : ∀ W : World, (Instr.makeSlice 45 (.int .i64 (n : Int)) (.int .i64 (n : Int))).run Try.prog W = .ok (.slice (some ⟨W.heap.size, 0, none⟩) n n) (W.alloc (.cells (bcells (List.replicate n 0#8)).toArray 5)) := fun W => by
    have h := run_make (P := Try.prog) W 45 5 i0 _ Try.underlying45 hi0 hz0 .i64 .i64 (n : Int) (n : Int) (by omega) (by omega) (by rw [hz2]; omega) (by omega)
    rw [h, hz1, Int.toNat_natCast, Nat.mul_one]
    rw [← made_zero]
    rfl
  unfold pakP pduA
  dsimp only
  rw [List.length_replicate]
  generalize List.replicate n 0#8 = l at *
  go_enter Try.func61, Try.ntmps61
  go_wp2
  go_returns
  exact ⟨_, rfl, rd_alloc2e _ _ _ _, by go_grown⟩
end Go.Proofs.Ytmehemojopfihaa
