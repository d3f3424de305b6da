/- Contracts of the functions of layer 47 (meshkey) and of its reference. -/
import Derived.Test.YtmehemojopfihaaDer2
import Derived.Test.YtmehemojopfihaaMac3
import Derived.Test.YtmehemojopfihaaMeshFn
namespace Go.Proofs.Ytmehemojopfihaa
set_option maxRecDepth 100000
open Go.ChangeShapes Go.WideShapes Go.ChangeAt Go.RowKit
set_option linter.unusedVariables false
set_option linter.unusedSimpArgs false

theorem mesh_Derive (k : BitVec 64) (w : World) :
    Calls Try.prog 46 #[.int .u64 (W64 k)] w fun e w' => e = .returned (.agg #[.int .u64 (W64 k), .int .i64 (W64 (nidK k)), .int .u64 (W64 (encK k)), .int .u64 (W64 (hideK k)), .int .u64 (W64 (beaK k))]) ∧ Below w.heap.size w w' := by
  obtain ⟨r1, h1⟩ : ∃ r, derive k (lbytes lblNid) [] = r := ⟨_, rfl⟩
  have hn : nidK k = r1 % 128#64 := by unfold nidK; rw [h1]
  have hlt := nidK_lt k
  rw [hn] at hlt ⊢
  have D1 := Lib.hid (fun W => der_n k lblNid none 0 0 [] r1 h1 rfl W (Rd.nil _ _) (by decide) (by decide))
  have D2 := Lib.hid (fun W => der_n k lblEnc none 0 0 [] (encK k) rfl rfl W (Rd.nil _ _) (by decide) (by decide))
  have D3 := Lib.hid (fun W => der_n k lblHide none 0 0 [] (hideK k) rfl rfl W (Rd.nil _ _) (by decide) (by decide))
  have D4 := Lib.hid (fun W => der_n k lblBea none 0 0 [] (beaK k) rfl rfl W (Rd.nil _ _) (by decide) (by decide))
  have hi : IntKind.i64.wrap (W64 (r1 % 128#64)) = W64 (r1 % 128#64) := by
    have hw : W64 (r1 % 128#64) = ((r1 % 128#64).toNat : Int) := rfl
    rw [hw]; exact IntWalk.i64_in _ (by omega)
  clear h1 hn hlt
  generalize encK k = a2 at *
  generalize hideK k = a3 at *
  generalize beaK k = a4 at *
  have hB0 : Below w.heap.size w (w.alloc (.cells #[.int .u64 0, .int .i64 0, .int .u64 0, .int .u64 0, .int .u64 0] 25)) := (Below.refl _ _).alloc (Nat.le_refl _) _
  have hG0 := Blk.new w 25 #[.int .u64 0, .int .i64 0, .int .u64 0, .int .u64 0, .int .u64 0]
  go_enter Try.func46, Try.ntmps46
  go_wp2_with fail
  refine (D1.out _).mono ?_; rintro e w1 ⟨rfl, hb1⟩
  have hG1 := hG0.to hb1 (by simp)
  have hb01 := hB0.trans (hb1.mono hB0.size)
  clear hG0
  go_wp2_with fail
  refine (D2.out _).mono ?_; rintro e w2 ⟨rfl, hb2⟩
  have hG2 := hG1.to hb2 hG1.lt
  have hb02 := hb01.trans (hb2.mono hb01.size)
  go_wp2_with fail
  refine (D3.out _).mono ?_; rintro e w3 ⟨rfl, hb3⟩
  have hG3 := hG2.to hb3 hG2.lt
  have hb03 := hb02.trans (hb3.mono hb02.size)
  go_wp2_with fail
  refine (D4.out _).mono ?_; rintro e w4 ⟨rfl, hb4⟩
  have hG := hG3.to hb4 hG3.lt
  have hb04 := hb03.trans (hb4.mono hb03.size)
  clear hG1 hG2 hG3 hb1 hb2 hb3 hb4 hb01 hb02 hb03 hB0
  have hc0 : w4.cell? ⟨w.heap.size, 0, none⟩ = some (.int .u64 0) := hG.cell 0
  have hc1 : w4.cell? ⟨w.heap.size, 1, none⟩ = some (.int .i64 0) := hG.cell 1
  have hc2 : w4.cell? ⟨w.heap.size, 2, none⟩ = some (.int .u64 0) := hG.cell 2
  have hc3 : w4.cell? ⟨w.heap.size, 3, none⟩ = some (.int .u64 0) := hG.cell 3
  have hc4 : w4.cell? ⟨w.heap.size, 4, none⟩ = some (.int .u64 0) := hG.cell 4
  have hf0 := hG.free 0
  have hf1 := hG.free 1
  have hf2 := hG.free 2
  have hf3 := hG.free 3
  have hf4 := hG.free 4
  have hG2 := Lib.hid (((((hG.set_ 0 (.int .u64 (W64 k))).set_ 1 (.int .i64 (W64 (r1 % 128#64)))).set_ 2 (.int .u64 (W64 a2))).set_ 3 (.int .u64 (W64 a3))).set_ 4 (.int .u64 (W64 a4)))
  go_wp2
  refine bodyPost_ret (results_cell rfl rfl (load_blk hG2.out Try.underlying25 rfl (by kernel_rfl))) rfl ?_
  exact ⟨rfl, ((((hb04.setCell (Nat.le_refl _) _).setCell (Nat.le_refl _) _).setCell (Nat.le_refl _) _).setCell (Nat.le_refl _) _).setCell (Nat.le_refl _) _⟩
theorem ref47_Derive (k : BitVec 64) (w : World) :
    Calls Try.prog 58 #[.int .u64 (W64 k)] w fun e w' => e = .returned (.agg #[.int .u64 (W64 k), .int .i64 (W64 (nidK k)), .int .u64 (W64 (encK k)), .int .u64 (W64 (hideK k)), .int .u64 (W64 (beaK k))]) ∧ Below w.heap.size w w' := by
  obtain ⟨r1, h1⟩ : ∃ r, derive k (lbytes lblNid) [] = r := ⟨_, rfl⟩
  have hn : nidK k = r1 % 128#64 := by unfold nidK; rw [h1]
  have hlt := nidK_lt k
  rw [hn] at hlt ⊢
  have D1 := Lib.hid (fun W => rder_n k lblNid none 0 0 [] r1 h1 rfl W (Rd.nil _ _) (by decide) (by decide))
  have D2 := Lib.hid (fun W => rder_n k lblEnc none 0 0 [] (encK k) rfl rfl W (Rd.nil _ _) (by decide) (by decide))
  have D3 := Lib.hid (fun W => rder_n k lblHide none 0 0 [] (hideK k) rfl rfl W (Rd.nil _ _) (by decide) (by decide))
  have D4 := Lib.hid (fun W => rder_n k lblBea none 0 0 [] (beaK k) rfl rfl W (Rd.nil _ _) (by decide) (by decide))
  have hi : IntKind.i64.wrap (W64 (r1 % 128#64)) = W64 (r1 % 128#64) := by
    have hw : W64 (r1 % 128#64) = ((r1 % 128#64).toNat : Int) := rfl
    rw [hw]; exact IntWalk.i64_in _ (by omega)
  clear h1 hn hlt
  generalize encK k = a2 at *
  generalize hideK k = a3 at *
  generalize beaK k = a4 at *
  have hB0 : Below w.heap.size w (w.alloc (.cells #[.int .u64 0, .int .i64 0, .int .u64 0, .int .u64 0, .int .u64 0] 25)) := (Below.refl _ _).alloc (Nat.le_refl _) _
  have hG0 := Blk.new w 25 #[.int .u64 0, .int .i64 0, .int .u64 0, .int .u64 0, .int .u64 0]
  go_enter Try.func58, Try.ntmps58
  go_wp2_with fail
  refine (D1.out _).mono ?_; rintro e w1 ⟨rfl, hb1⟩
  have hG1 := hG0.to hb1 (by simp)
  have hb01 := hB0.trans (hb1.mono hB0.size)
  clear hG0
  go_wp2_with fail
  refine (D2.out _).mono ?_; rintro e w2 ⟨rfl, hb2⟩
  have hG2 := hG1.to hb2 hG1.lt
  have hb02 := hb01.trans (hb2.mono hb01.size)
  go_wp2_with fail
  refine (D3.out _).mono ?_; rintro e w3 ⟨rfl, hb3⟩
  have hG3 := hG2.to hb3 hG2.lt
  have hb03 := hb02.trans (hb3.mono hb02.size)
  go_wp2_with fail
  refine (D4.out _).mono ?_; rintro e w4 ⟨rfl, hb4⟩
  have hG := hG3.to hb4 hG3.lt
  have hb04 := hb03.trans (hb4.mono hb03.size)
  clear hG1 hG2 hG3 hb1 hb2 hb3 hb4 hb01 hb02 hb03 hB0
  have hc0 : w4.cell? ⟨w.heap.size, 0, none⟩ = some (.int .u64 0) := hG.cell 0
  have hc1 : w4.cell? ⟨w.heap.size, 1, none⟩ = some (.int .i64 0) := hG.cell 1
  have hc2 : w4.cell? ⟨w.heap.size, 2, none⟩ = some (.int .u64 0) := hG.cell 2
  have hc3 : w4.cell? ⟨w.heap.size, 3, none⟩ = some (.int .u64 0) := hG.cell 3
  have hc4 : w4.cell? ⟨w.heap.size, 4, none⟩ = some (.int .u64 0) := hG.cell 4
  have hf0 := hG.free 0
  have hf1 := hG.free 1
  have hf2 := hG.free 2
  have hf3 := hG.free 3
  have hf4 := hG.free 4
  have hG2 := Lib.hid (((((hG.set_ 0 (.int .u64 (W64 k))).set_ 1 (.int .i64 (W64 (r1 % 128#64)))).set_ 2 (.int .u64 (W64 a2))).set_ 3 (.int .u64 (W64 a3))).set_ 4 (.int .u64 (W64 a4)))
  go_wp2
  refine bodyPost_ret (results_cell rfl rfl (load_blk hG2.out Try.underlying25 rfl (by kernel_rfl))) rfl ?_
  exact ⟨rfl, ((((hb04.setCell (Nat.le_refl _) _).setCell (Nat.le_refl _) _).setCell (Nat.le_refl _) _).setCell (Nat.le_refl _) _).setCell (Nat.le_refl _) _⟩
/-- What access returns: a nonce, and two bytes. -/
def RetH (w : World) (n : BitVec 64) (bs : List (BitVec 8)) (e : Ending) (w' : World) : Prop :=
  ∃ A, e = .returned (.tuple #[.int .u64 (W64 n), .slice (some A) 2 2]) ∧ RdB w' (some A) bs ∧ Below w.heap.size w w'
end Go.Proofs.Ytmehemojopfihaa
