/- Contracts of layer 29 (encrypt): New of the reference, the nonce's closure, and how two PDUs are compared. -/
import Derived.Test.YtmehemojopfihaaEncB
namespace Go.Proofs.Ytmehemojopfihaa
set_option maxRecDepth 100000
open Go.ChangeShapes Go.WideShapes Go.ChangeAt Go.RowKit
set_option linter.unusedVariables false
set_option linter.unusedSimpArgs false

theorem enc_nonce_f (s : Ses) (d n : BitVec 64) (g h : Nat) (w : World) (hg : Blk w g 40 (seA s)) (hh : Blk w h 22 #[.int .u64 (W64 d)]) :
    Calls Try.prog 92 #[.int .u64 (W64 n), .pointer (some ⟨g, 0, none⟩), .pointer (some ⟨h, 0, none⟩)] w fun e w' => e = .returned (.int .u64 (W64 (nonceS s.salt d n))) ∧ w' = w := by
  obtain ⟨ro, ke, sa, to, rn, tx, rx⟩ := s
  have c1 : w.cell? ⟨g, 2, none⟩ = some (.int .u64 (W64 sa)) := hg.cell 2
  have c2 : w.cell? ⟨h, 0, none⟩ = some (.int .u64 (W64 d)) := hh.cell 0
  unfold nonceS
  dsimp only
  clear hg hh
  go_enter Try.func92, Try.ntmps92
  go_wp2
  go_returns
  exact ⟨rfl, rfl⟩
theorem enc_nonce (s : Ses) (d : BitVec 64) (w : World) :
    Calls Try.prog 68 #[.agg (seA s), .int .u64 (W64 d)] w fun e w' => e = .returned (.func (.func 92) #[] #[.pointer (some ⟨w.heap.size, 0, none⟩), .pointer (some ⟨w.heap.size + 1, 0, none⟩)]) ∧
      Below w.heap.size w w' ∧ Blk w' w.heap.size 40 (seA s) ∧ Blk w' (w.heap.size + 1) 22 #[.int .u64 (W64 d)] ∧ w'.heap.size = w.heap.size + 2 := by
  have hmf : ∀ (fn : Fn) (first cap : Array Value) (w : World), (Instr.makeFunc fn first cap).run Try.prog w = .ok (.func fn first cap) w := fun _ _ _ _ => rfl
  have B := box2 w 40 (seA s) 22 #[.int .u64 (W64 d)]
  have hs : ((w.alloc (.cells (seA s) 40)).alloc (.cells #[.int .u64 (W64 d)] 22)).heap.size = w.heap.size + 2 := by simp
  obtain ⟨ro, ke, sa, to, rn, tx, rx⟩ := s
  unfold seA at *
  dsimp only at *
  go_enter Try.func68, Try.ntmps68
  go_wp2
  go_returns
  exact ⟨rfl, B.1, B.2.1, B.2.2, hs⟩
def samePS (p q : Pdu) : Bool := decide (p.sn = q.sn) && (decide (p.nesn = q.nesn) && (decide (p.md = q.md) && (decide (p.ll = q.ll) && decide (p.pay = q.pay))))
theorem samePS_iff (p q : Pdu) : samePS p q = true ↔ p = q := by
  obtain ⟨a, b, c, d, e⟩ := p
  obtain ⟨a', b', c', d', e'⟩ := q
  simp [samePS, Pdu.mk.injEq]
theorem r23_SamePDU (p q : Pdu) (A B : Option Addr) (c d : Nat) (w : World) (ha : RdB w A p.pay) (hb : RdB w B q.pay) :
    Calls Try.prog 34 #[.agg (pduA p A c), .agg (pduA q B d)] w fun e w' => e = .returned (.bool (samePS p q)) ∧ Below w.heap.size w w' := by
  have bx := box2 w 49 (pduA p A c) 49 (pduA q B d)
  have R := Lib.hid (r23_SamePacket p q A B c d _ (Rd.to ha bx.1) (Rd.to hb bx.1))
  have hB := bx.1
  clear ha hb bx
  obtain ⟨sn, ne, md, ll, pay⟩ := p
  obtain ⟨sn', ne', md', ll', pay'⟩ := q
  unfold pduA pakA at R
  unfold pduA at hB
  unfold samePS pduA
  dsimp only at R hB ⊢
  generalize (decide (ll = ll') && decide (pay = pay')) = r at *
  generalize pay.length = n at *
  generalize pay'.length = n' at *
  by_cases hsn : sn = sn'
  case neg =>
    have e0 : decide (sn = sn') = false := by simpa using hsn
    have e1 : (sn == sn') = false := by simpa using hsn
    simp only [e0, Bool.false_and]
    clear R
    go_enter Try.func34, Try.ntmps34
    go_wp2
    go_returns
    exact ⟨rfl, by go_grown⟩
  subst hsn
  have esn : decide (sn = sn) = true := by simp
  have bsn : (sn == sn) = true := by simp
  rw [esn, Bool.true_and]
  by_cases hne : ne = ne'
  case neg =>
    have e0 : decide (ne = ne') = false := by simpa using hne
    have e1 : (ne == ne') = false := by simpa using hne
    simp only [e0, Bool.false_and, Bool.and_false]
    clear R
    go_enter Try.func34, Try.ntmps34
    go_wp2
    go_returns
    exact ⟨rfl, by go_grown⟩
  subst hne
  have ene : decide (ne = ne) = true := by simp
  have bne : (ne == ne) = true := by simp
  rw [ene, Bool.true_and]
  by_cases hmd : md = md'
  case neg =>
    have e0 : decide (md = md') = false := by simpa using hmd
    have e1 : (md == md') = false := by simpa using hmd
    simp only [e0, Bool.false_and, Bool.and_false]
    clear R
    go_enter Try.func34, Try.ntmps34
    go_wp2
    go_returns
    exact ⟨rfl, by go_grown⟩
  subst hmd
  have emd : decide (md = md) = true := by simp
  have bmd : (md == md) = true := by simp
  rw [emd, Bool.true_and]
  clear esn ene emd
  go_enter Try.func34, Try.ntmps34
  go_wp2_with fail
  refine (R.out).mono ?_; rintro e w1 ⟨rfl, h1⟩
  have h2 := hB.trans (h1.mono hB.size)
  go_wp2
  go_returns
  exact ⟨rfl, h2⟩
theorem r29_New (role : Int) (k c q : BitVec 64) (w : World) :
    Calls Try.prog 26 #[.int .i64 role, .int .u64 (W64 k), .int .u64 (W64 c), .int .u64 (W64 q)] w fun e w' => e = .returned (.agg (seA (newS role k c q))) ∧ Below w.heap.size w w' := by
  obtain ⟨d, hd⟩ : ∃ d, derive k (lbytes lblSession) [c, q] = d := ⟨_, rfl⟩
  have D := Lib.hid (fun W A c2 (h : RdU W A [c, q]) => rder_n k lblSession A c2 2 [c, q] d hd rfl W h (by decide) (by decide))
  have hX := box1 w 40 #[.int .i64 0, .int .u64 0, .int .u64 0, .bool false, .bool false, .int .u64 0, .int .u64 0]
  by_cases h : role = 1
  · have e1 : newS role k c q = ⟨1, d, c ^^^ q, false, false, 0#64, 0#64⟩ := by unfold newS; rw [if_pos h, hd]
    rw [e1]
    have e2 : (role == 1) = true := by simpa using h
    clear hd e1 h
    unfold seA
    dsimp only
    go_enter Try.func26, Try.ntmps26
    go_wp2_with fail
    refine (D.out _ _ _ (rd_alloc2e _ _ _ _)).mono ?_; rintro e w1 ⟨rfl, hb1⟩
    have hG0 := hX.2.alloc (.cells #[.int .u64 (W64 c), .int .u64 (W64 q)] 22)
    have hG := hG0.to hb1 hG0.lt
    have hb0 := hX.1.alloc hX.1.size (.cells #[.int .u64 (W64 c), .int .u64 (W64 q)] 22)
    have hb01 := hb0.trans (hb1.mono hb0.size)
    have hb02 := hb01.alloc hb01.size (.cells #[.int .i64 1, .int .u64 (W64 d), .int .u64 (W64 (c ^^^ q)), .bool false, .bool false, .int .u64 0, .int .u64 0] 40)
    have hG2 := hG.alloc (.cells #[.int .i64 1, .int .u64 (W64 d), .int .u64 (W64 (c ^^^ q)), .bool false, .bool false, .int .u64 0, .int .u64 0] 40)
    have hlt := hG.lt
    clear hX hb1 hG0 hb0 hG
    go_wp2_with (first | ((with_reducible refine wpList_st 0 #[.int .i64 1, .int .u64 (W64 d), .int .u64 (W64 (c ^^^ q)), .bool false, .bool false, .int .u64 0, .int .u64 0] #[.int .i64 1, .int .u64 (W64 d), .int .u64 (W64 (c ^^^ q)), .bool false, .bool false, .int .u64 0, .int .u64 0] hG2 ?_ ?_ ?_ ?_ ?_ ?_ ?_); rfl; rfl; kernel_rfl; rfl; exact of_decide_eq_true rfl; rfl; intro w4 hB4 hU4; have hb04 := hU4.below hb02 (by omega); clear hG2 hb02 hU4))
    refine bodyPost_ret (results_cell rfl rfl (load_blk hB4 Try.underlying40 rfl (by kernel_rfl))) rfl ?_
    exact ⟨rfl, hb04⟩
  · have e1 : newS role k c q = ⟨0, d, c ^^^ q, false, false, 0#64, 0#64⟩ := by unfold newS; rw [if_neg h, hd]
    rw [e1]
    have e2 : (role == 1) = false := by simpa using h
    clear hd e1 h
    unfold seA
    dsimp only
    go_enter Try.func26, Try.ntmps26
    go_wp2_with fail
    refine (D.out _ _ _ (rd_alloc2e _ _ _ _)).mono ?_; rintro e w1 ⟨rfl, hb1⟩
    have hG0 := hX.2.alloc (.cells #[.int .u64 (W64 c), .int .u64 (W64 q)] 22)
    have hG := hG0.to hb1 hG0.lt
    have hb0 := hX.1.alloc hX.1.size (.cells #[.int .u64 (W64 c), .int .u64 (W64 q)] 22)
    have hb01 := hb0.trans (hb1.mono hb0.size)
    have hb02 := hb01.alloc hb01.size (.cells #[.int .i64 0, .int .u64 (W64 d), .int .u64 (W64 (c ^^^ q)), .bool false, .bool false, .int .u64 0, .int .u64 0] 40)
    have hG2 := hG.alloc (.cells #[.int .i64 0, .int .u64 (W64 d), .int .u64 (W64 (c ^^^ q)), .bool false, .bool false, .int .u64 0, .int .u64 0] 40)
    have hlt := hG.lt
    clear hX hb1 hG0 hb0 hG
    go_wp2_with (first | ((with_reducible refine wpList_st 0 #[.int .i64 0, .int .u64 (W64 d), .int .u64 (W64 (c ^^^ q)), .bool false, .bool false, .int .u64 0, .int .u64 0] #[.int .i64 0, .int .u64 (W64 d), .int .u64 (W64 (c ^^^ q)), .bool false, .bool false, .int .u64 0, .int .u64 0] hG2 ?_ ?_ ?_ ?_ ?_ ?_ ?_); rfl; rfl; kernel_rfl; rfl; exact of_decide_eq_true rfl; rfl; intro w4 hB4 hU4; have hb04 := hU4.below hb02 (by omega); clear hG2 hb02 hU4))
    refine bodyPost_ret (results_cell rfl rfl (load_blk hB4 Try.underlying40 rfl (by kernel_rfl))) rfl ?_
    exact ⟨rfl, hb04⟩
end Go.Proofs.Ytmehemojopfihaa
