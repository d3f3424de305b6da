/- Contracts of the plain functions of layer 29 (encrypt) and of its reference. -/
import Derived.Test.YtmehemojopfihaaDer2
import Derived.Test.YtmehemojopfihaaEqStr
import Derived.Test.YtmehemojopfihaaBlock
import Derived.Test.YtmehemojopfihaaEncFn
namespace Go.Proofs.Ytmehemojopfihaa
set_option maxRecDepth 100000
open Go.ChangeShapes Go.WideShapes Go.ChangeAt Go.RowKit
set_option linter.unusedVariables false
set_option linter.unusedSimpArgs false

theorem rd_alloc2e (w : World) (o : Obj) (cs : Array Value) (t : TypeId) : Rd ((w.alloc o).alloc (.cells cs t)) (some ⟨w.heap.size + 1, 0, none⟩) cs.toList := by
  have h := Rd.new (w.alloc o) cs t
  have e : (w.alloc o).heap.size = w.heap.size + 1 := by simp
  rwa [e] at h
def seA (s : Ses) : Array Value := #[.int .i64 s.role, .int .u64 (W64 s.key), .int .u64 (W64 s.salt), .bool s.txOn, .bool s.rxOn, .int .u64 (W64 s.tx), .int .u64 (W64 s.rx)]

theorem enc_Turn (s : Ses) (a b : Bool) (w : World) :
    Calls Try.prog 27 #[.agg (seA s), .bool a, .bool b] w fun e w' => e = .returned (.agg (seA (turnS s a b))) ∧ Below w.heap.size w w' := by
  obtain ⟨ro, ke, sa, to, rn, tx, rx⟩ := s
  unfold seA turnS
  dsimp only
  go_enter Try.func27, Try.ntmps27
  go_wp2
  go_returns
  exact ⟨rfl, by go_grown⟩
set_option maxHeartbeats 4000000 in
theorem enc_Next (s : Ses) (a b : Bool) (w : World) :
    Calls Try.prog 29 #[.agg (seA s), .bool a, .bool b] w fun e w' => e = .returned (.agg (seA (nextS s a b))) ∧ Below w.heap.size w w' := by
  obtain ⟨ro, ke, sa, to, rn, tx, rx⟩ := s
  unfold seA nextS
  dsimp only
  cases a <;> cases b <;> cases to <;> cases rn
  all_goals
    go_enter Try.func29, Try.ntmps29
    go_wp2
    go_returns
    exact ⟨rfl, by go_grown⟩
theorem r29_Turn (s : Ses) (a b : Bool) (w : World) :
    Calls Try.prog 28 #[.agg (seA s), .bool a, .bool b] w fun e w' => e = .returned (.agg (seA (turnS s a b))) ∧ Below w.heap.size w w' := by
  obtain ⟨ro, ke, sa, to, rn, tx, rx⟩ := s
  unfold seA turnS
  dsimp only
  go_enter Try.func28, Try.ntmps28
  go_wp2
  go_returns
  exact ⟨rfl, by go_grown⟩
set_option maxHeartbeats 4000000 in
theorem r29_Next (s : Ses) (a b : Bool) (w : World) :
    Calls Try.prog 30 #[.agg (seA s), .bool a, .bool b] w fun e w' => e = .returned (.agg (seA (nextS s a b))) ∧ Below w.heap.size w w' := by
  obtain ⟨ro, ke, sa, to, rn, tx, rx⟩ := s
  unfold seA nextS
  dsimp only
  cases a <;> cases b <;> cases to <;> cases rn
  all_goals
    go_enter Try.func30, Try.ntmps30
    go_wp2
    go_returns
    exact ⟨rfl, by go_grown⟩
theorem enc_New (role : Int) (k c q : BitVec 64) (w : World) :
    Calls Try.prog 25 #[.int .i64 role, .int .u64 (W64 k), .int .u64 (W64 c), .int .u64 (W64 q)] w fun e w' => e = .returned (.agg (seA (newS role k c q))) ∧ Below w.heap.size w w' := by
  obtain ⟨d, hd⟩ : ∃ d, derive k (lbytes lblSession) [c, q] = d := ⟨_, rfl⟩
  have D := Lib.hid (fun W A c2 (h : RdU W A [c, q]) => der_n k lblSession A c2 2 [c, q] d hd rfl W h (by decide) (by decide))
  have hX := box1 w 40 #[.int .i64 0, .int .u64 0, .int .u64 0, .bool false, .bool false, .int .u64 0, .int .u64 0]
  by_cases h : role = 1
  · have e1 : newS role k c q = ⟨1, d, c ^^^ q, false, false, 0#64, 0#64⟩ := by unfold newS; rw [if_pos h, hd]
    rw [e1]
    have e2 : (role != 1) = false := by simpa using h
    have H := Lib.hid h
    clear hd e1 h
    unfold seA
    dsimp only
    go_enter Try.func25, Try.ntmps25
    go_wp2_with fail
    refine (D.out _ _ _ (rd_alloc2e _ _ _ _)).mono ?_; rintro e w1 ⟨rfl, hb1⟩
    have hG0 := hX.2.alloc (.cells #[.int .u64 (W64 c), .int .u64 (W64 q)] 22)
    have hG := hG0.to hb1 hG0.lt
    have hb0 := hX.1.alloc hX.1.size (.cells #[.int .u64 (W64 c), .int .u64 (W64 q)] 22)
    have hb01 := hb0.trans (hb1.mono hb0.size)
    clear hX hb1 hG0 hb0
    go_wp2_with (first | ((with_reducible refine wpList_st 0 #[.int .i64 role, .int .u64 (W64 d), .int .u64 (W64 (c ^^^ q)), .bool false, .bool false, .int .u64 0, .int .u64 0] #[.int .i64 role, .int .u64 (W64 d), .int .u64 (W64 (c ^^^ q)), .bool false, .bool false, .int .u64 0, .int .u64 0] hG ?_ ?_ ?_ ?_ ?_ ?_ ?_); rfl; rfl; kernel_rfl; rfl; exact of_decide_eq_true rfl; rfl; intro w4 hB4 hU4; have hb04 := hU4.below hb01 (by omega); clear hG hb01 hU4))
    refine bodyPost_ret (results_cell rfl rfl (load_blk hB4 Try.underlying40 rfl (by kernel_rfl))) rfl ?_
    refine ⟨?_, hb04⟩
    rw [H.out]
    rfl
  · have e1 : newS role k c q = ⟨0, d, c ^^^ q, false, false, 0#64, 0#64⟩ := by unfold newS; rw [if_neg h, hd]
    rw [e1]
    have e2 : (role != 1) = true := by simpa using h
    clear hd e1 h
    unfold seA
    dsimp only
    go_enter Try.func25, Try.ntmps25
    go_wp2_with fail
    refine (D.out _ _ _ (rd_alloc2e _ _ _ _)).mono ?_; rintro e w1 ⟨rfl, hb1⟩
    have hG0 := hX.2.alloc (.cells #[.int .u64 (W64 c), .int .u64 (W64 q)] 22)
    have hG := hG0.to hb1 hG0.lt
    have hb0 := hX.1.alloc hX.1.size (.cells #[.int .u64 (W64 c), .int .u64 (W64 q)] 22)
    have hb01 := hb0.trans (hb1.mono hb0.size)
    clear hX hb1 hG0 hb0
    go_wp2_with (first | ((with_reducible refine wpList_st 0 #[.int .i64 0, .int .u64 (W64 d), .int .u64 (W64 (c ^^^ q)), .bool false, .bool false, .int .u64 0, .int .u64 0] #[.int .i64 0, .int .u64 (W64 d), .int .u64 (W64 (c ^^^ q)), .bool false, .bool false, .int .u64 0, .int .u64 0] hG ?_ ?_ ?_ ?_ ?_ ?_ ?_); rfl; rfl; kernel_rfl; rfl; exact of_decide_eq_true rfl; rfl; intro w4 hB4 hU4; have hb04 := hU4.below hb01 (by omega); clear hG hb01 hU4))
    refine bodyPost_ret (results_cell rfl rfl (load_blk hB4 Try.underlying40 rfl (by kernel_rfl))) rfl ?_
    exact ⟨rfl, hb04⟩
end Go.Proofs.Ytmehemojopfihaa
