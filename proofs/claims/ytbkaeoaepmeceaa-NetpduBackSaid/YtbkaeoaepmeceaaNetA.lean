/- Contracts of layer 48 (netpdu): Node, Group, Check, control. -/
import Derived.Test.YtbkaeoaepmeceaaNetFn
import Derived.Test.YtbkaeoaepmeceaaApp2
namespace Go.Proofs.Ytbkaeoaepmeceaa
set_option maxRecDepth 100000
open Go.ChangeShapes Go.WideShapes Go.ChangeAt Go.RowKit
set_option linter.unusedVariables false
set_option linter.unusedSimpArgs false

def npA (p : NP) (A : Option Addr) (c : Nat) : Array Value := #[.int .u32 (W32 p.iv), .int .i64 p.nid, .bool p.ctl, .int .i64 p.ttl, .int .u32 (W32 p.seq), .int .u16 (W16 p.src), .int .u16 (W16 p.dst), .slice A p.pay.length c]
def RetN (w : World) (r : NP × Int) (e : Ending) (w' : World) : Prop :=
  ∃ (A : Option Addr) (c : Nat), e = .returned (.tuple #[.agg (npA r.1 A c), .int .i64 r.2]) ∧ RdB w' A r.1.pay ∧ r.1.pay.length ≤ c ∧ Below w.heap.size w w'
theorem w16_a (a : BitVec 16) : (0 < W16 a) = (0#16 < a) := W16_lt 0#16 a
theorem w16_b (a : BitVec 16) : (W16 a ≤ 32767) = (a ≤ 32767#16) := W16_le a 32767#16
theorem w16_c (a : BitVec 16) : (W16 a < 32768) = (a ≤ 32767#16) := by
  have h : (W16 a < 32768) = (a < 32768#16) := W16_lt a 32768#16
  rw [h]; apply propext; rw [BitVec.lt_def, BitVec.le_def]
  show a.toNat < 32768 ↔ a.toNat ≤ 32767
  omega
theorem w16_e (a : BitVec 16) : (W16 a ≤ 0) = ¬ (0#16 < a) := by
  have h : (W16 a ≤ 0) = (a ≤ 0#16) := W16_le a 0#16
  rw [h]; apply propext; exact BitVec.not_lt.symm
theorem w16_d (a : BitVec 16) : (49152 ≤ W16 a) = (49152#16 ≤ a) := W16_le 49152#16 a
theorem net_Node (a : BitVec 16) (w : World) : Calls Try.prog 28 #[.int .u16 (W16 a)] w fun e w' => e = .returned (.bool (nodeK a)) ∧ Below w.heap.size w w' := by
  go_enter Try.func28, Try.ntmps28
  go_wp2
  all_goals
    go_returns
    refine ⟨?_, Below.refl _ _⟩
    simp_all [nodeK, w16_a, w16_b, w16_c, w16_d, w16_e]
theorem net_Group (a : BitVec 16) (w : World) : Calls Try.prog 30 #[.int .u16 (W16 a)] w fun e w' => e = .returned (.bool (groupK a)) ∧ Below w.heap.size w w' := by
  go_enter Try.func30, Try.ntmps30
  go_wp2
  all_goals
    go_returns
    refine ⟨?_, Below.refl _ _⟩
    simp_all [groupK, w16_a, w16_b, w16_c, w16_d, w16_e]
theorem r48_Node (a : BitVec 16) (w : World) : Calls Try.prog 29 #[.int .u16 (W16 a)] w fun e w' => e = .returned (.bool (nodeK a)) ∧ Below w.heap.size w w' := by
  go_enter Try.func29, Try.ntmps29
  go_wp2
  all_goals
    go_returns
    refine ⟨?_, Below.refl _ _⟩
    simp_all [nodeK, w16_a, w16_b, w16_c, w16_d, w16_e]
theorem r48_Group (a : BitVec 16) (w : World) : Calls Try.prog 31 #[.int .u16 (W16 a)] w fun e w' => e = .returned (.bool (groupK a)) ∧ Below w.heap.size w w' := by
  go_enter Try.func31, Try.ntmps31
  go_wp2
  all_goals
    go_returns
    refine ⟨?_, Below.refl _ _⟩
    simp_all [groupK, w16_a, w16_b, w16_c, w16_d, w16_e]
set_option maxHeartbeats 4000000 in
theorem net_Check_f (iv : BitVec 32) (nid : Int) (ctl : Bool) (ttl : Int) (seq : BitVec 32) (src dst : BitVec 16) (A : Option Addr) (c : Nat) (pay : List (BitVec 8)) (w : World) (hl : pay.length ≤ 1048576) :
    Calls Try.prog 26 #[.agg #[.int .u32 (W32 iv), .int .i64 nid, .bool ctl, .int .i64 ttl, .int .u32 (W32 seq), .int .u16 (W16 src), .int .u16 (W16 dst), .slice A pay.length c]] w (fun e w' => e = .returned (.int .i64 (checkN ⟨iv, nid, ctl, ttl, seq, src, dst, pay⟩)) ∧ Below w.heap.size w w') := by
  obtain ⟨r, hr⟩ : ∃ r, checkN ⟨iv, nid, ctl, ttl, seq, src, dst, pay⟩ = r := ⟨_, rfl⟩
  rw [hr]
  have HR := Lib.hid hr
  obtain ⟨ns, hns⟩ : ∃ b, nodeK src = b := ⟨_, rfl⟩
  obtain ⟨nd, hnd⟩ : ∃ b, nodeK dst = b := ⟨_, rfl⟩
  obtain ⟨gd, hgd⟩ : ∃ b, groupK dst = b := ⟨_, rfl⟩
  have CS := Lib.hid (fun W => net_Node src W)
  have CD := Lib.hid (fun W => net_Node dst W)
  have CG := Lib.hid (fun W => net_Group dst W)
  rw [hns] at CS
  rw [hnd] at CD
  rw [hgd] at CG
  have HNS := Lib.hid hns
  have HND := Lib.hid hnd
  have HGD := Lib.hid hgd
  have HL := Lib.hid hl
  clear hr hns hnd hgd hl
  go_enter Try.func26, Try.ntmps26
  go_wp2_with (first | (with_reducible refine stop_store ?_) | (with_reducible refine stop_box ?_) | (with_reducible refine stop_alloc ?_) | (with_reducible refine stop_bslice ?_))
  unfold Kept
  refine go_mem (ty := 44) (cs := #[.int .u32 (W32 iv), .int .i64 nid, .bool ctl, .int .i64 ttl, .int .u32 (W32 seq), .int .u16 (W16 src), .int .u16 (W16 dst), .slice A pay.length c]) (fun g => .pointer (some ⟨g, 0, none⟩)) rfl (by kernel_rfl) ?_
  intro g_1 w_2 z_6 l_5 hb_3 G_4
  have n_7 : w.heap.size ≤ g_1 := l_5
  have hB := hb_3
  clear hb_3 l_5 z_6
  by_cases hc_8 : (nid : Int) < 0
  ·
    have ec_8m : (nid : Int) < 0 := hc_8
    have ec_8 : decide ((nid : Int) < 0) = true := decide_eq_true hc_8
    have ec_8n : decide ((0 : Int) ≤ nid) = false := decide_eq_false (Int.not_le.2 hc_8)
    have kc_8 := Lib.hid hc_8
    clear hc_8
    have ld_9 : w_2.cell? ⟨g_1, 1, none⟩ = some (.int .i64 nid) := G_4.cell 1
    go_wp2_with (first | (with_reducible refine stop_store ?_) | (with_reducible refine stop_box ?_) | (with_reducible refine stop_alloc ?_) | (with_reducible refine stop_bslice ?_))
    go_returns
    refine ⟨?_, hB⟩
    have er : r = 5 := by
      have q0 := kc_8.out; rw [← HR.out]; unfold checkN rangeN shapeN; dsimp only
      exact if_pos (by first | exact .inl (by assumption) | exact .inr (.inl (by assumption)) | exact .inr (.inr (.inl (by assumption))) | exact .inr (.inr (.inr (.inl (by assumption)))) | exact .inr (.inr (.inr (.inr (by assumption)))))
    rw [er]; rfl
  ·
    have ec_8m : (0 : Int) ≤ nid := Int.not_lt.1 hc_8
    have ec_8 : decide ((nid : Int) < 0) = false := decide_eq_false hc_8
    have ec_8n : decide ((0 : Int) ≤ nid) = true := decide_eq_true (Int.not_lt.1 hc_8)
    have kc_8 := Lib.hid hc_8
    clear hc_8
    by_cases hc_10 : (nid : Int) < 128
    ·
      have ec_10m : (nid : Int) < 128 := hc_10
      have ec_10 : decide ((nid : Int) < 128) = true := decide_eq_true hc_10
      have ec_10n : decide ((128 : Int) ≤ nid) = false := decide_eq_false (Int.not_le.2 hc_10)
      have kc_10 := Lib.hid hc_10
      clear hc_10
      by_cases hc_11 : (ttl : Int) < 0
      ·
        have ec_11m : (ttl : Int) < 0 := hc_11
        have ec_11 : decide ((ttl : Int) < 0) = true := decide_eq_true hc_11
        have ec_11n : decide ((0 : Int) ≤ ttl) = false := decide_eq_false (Int.not_le.2 hc_11)
        have kc_11 := Lib.hid hc_11
        clear hc_11
        have ld_12 : w_2.cell? ⟨g_1, 1, none⟩ = some (.int .i64 nid) := G_4.cell 1
        have ld_13 : w_2.cell? ⟨g_1, 3, none⟩ = some (.int .i64 ttl) := G_4.cell 3
        go_wp2_with (first | (with_reducible refine stop_store ?_) | (with_reducible refine stop_box ?_) | (with_reducible refine stop_alloc ?_) | (with_reducible refine stop_bslice ?_))
        go_returns
        refine ⟨?_, hB⟩
        have er : r = 5 := by
          have q0 := kc_8.out; have q1 := kc_10.out; have q2 := kc_11.out; rw [← HR.out]; unfold checkN rangeN shapeN; dsimp only
          have r0 : ¬ 127 < nid := by omega
          exact if_pos (by first | exact .inl (by assumption) | exact .inr (.inl (by assumption)) | exact .inr (.inr (.inl (by assumption))) | exact .inr (.inr (.inr (.inl (by assumption)))) | exact .inr (.inr (.inr (.inr (by assumption)))))
        rw [er]; rfl
      ·
        have ec_11m : (0 : Int) ≤ ttl := Int.not_lt.1 hc_11
        have ec_11 : decide ((ttl : Int) < 0) = false := decide_eq_false hc_11
        have ec_11n : decide ((0 : Int) ≤ ttl) = true := decide_eq_true (Int.not_lt.1 hc_11)
        have kc_11 := Lib.hid hc_11
        clear hc_11
        by_cases hc_14 : (127 : Int) < ttl
        ·
          have ec_14m : (127 : Int) < ttl := hc_14
          have ec_14 : decide ((127 : Int) < ttl) = true := decide_eq_true hc_14
          have ec_14n : decide ((ttl : Int) ≤ 127) = false := decide_eq_false (Int.not_le.2 hc_14)
          have kc_14 := Lib.hid hc_14
          clear hc_14
          have ld_15 : w_2.cell? ⟨g_1, 1, none⟩ = some (.int .i64 nid) := G_4.cell 1
          have ld_16 : w_2.cell? ⟨g_1, 3, none⟩ = some (.int .i64 ttl) := G_4.cell 3
          go_wp2_with (first | (with_reducible refine stop_store ?_) | (with_reducible refine stop_box ?_) | (with_reducible refine stop_alloc ?_) | (with_reducible refine stop_bslice ?_))
          go_returns
          refine ⟨?_, hB⟩
          have er : r = 5 := by
            have q0 := kc_8.out; have q1 := kc_10.out; have q2 := kc_11.out; have q3 := kc_14.out; rw [← HR.out]; unfold checkN rangeN shapeN; dsimp only
            have r0 : ¬ 127 < nid := by omega
            exact if_pos (by first | exact .inl (by assumption) | exact .inr (.inl (by assumption)) | exact .inr (.inr (.inl (by assumption))) | exact .inr (.inr (.inr (.inl (by assumption)))) | exact .inr (.inr (.inr (.inr (by assumption)))))
          rw [er]; rfl
        ·
          have ec_14m : (ttl : Int) ≤ 127 := Int.not_lt.1 hc_14
          have ec_14 : decide ((127 : Int) < ttl) = false := decide_eq_false hc_14
          have ec_14n : decide ((ttl : Int) ≤ 127) = true := decide_eq_true (Int.not_lt.1 hc_14)
          have kc_14 := Lib.hid hc_14
          clear hc_14
          by_cases hc_17 : 16777215#32 < seq
          ·
            have ec_17 : decide ((16777215 : Int) < W32 seq) = true := decide_eq_true (show W32 (16777215#32) < W32 seq by rw [W32_lt]; exact hc_17)
            have ec_17n : decide ((W32 seq : Int) ≤ 16777215) = false := decide_eq_false (fun hh => absurd (show W32 seq ≤ W32 (16777215#32) from hh) (by rw [W32_le]; exact BitVec.not_le.2 hc_17))
            have kc_17 := Lib.hid hc_17
            clear hc_17
            have ld_18 : w_2.cell? ⟨g_1, 1, none⟩ = some (.int .i64 nid) := G_4.cell 1
            have ld_19 : w_2.cell? ⟨g_1, 3, none⟩ = some (.int .i64 ttl) := G_4.cell 3
            have ld_20 : w_2.cell? ⟨g_1, 4, none⟩ = some (.int .u32 (W32 seq)) := G_4.cell 4
            go_wp2_with (first | (with_reducible refine stop_store ?_) | (with_reducible refine stop_box ?_) | (with_reducible refine stop_alloc ?_) | (with_reducible refine stop_bslice ?_))
            go_returns
            refine ⟨?_, hB⟩
            have er : r = 5 := by
              have q0 := kc_8.out; have q1 := kc_10.out; have q2 := kc_11.out; have q3 := kc_14.out; have q4 := kc_17.out; rw [← HR.out]; unfold checkN rangeN shapeN; dsimp only
              have r0 : ¬ 127 < nid := by omega
              exact if_pos (by first | exact .inl (by assumption) | exact .inr (.inl (by assumption)) | exact .inr (.inr (.inl (by assumption))) | exact .inr (.inr (.inr (.inl (by assumption)))) | exact .inr (.inr (.inr (.inr (by assumption)))))
            rw [er]; rfl
          ·
            have ec_17 : decide ((16777215 : Int) < W32 seq) = false := decide_eq_false (fun hh => hc_17 (by have h2 : W32 (16777215#32) < W32 seq := hh; rw [W32_lt] at h2; exact h2))
            have ec_17n : decide ((W32 seq : Int) ≤ 16777215) = true := decide_eq_true (show W32 seq ≤ W32 (16777215#32) by rw [W32_le]; exact BitVec.not_lt.1 hc_17)
            have kc_17 := Lib.hid hc_17
            clear hc_17
            have ld_21 : w_2.cell? ⟨g_1, 1, none⟩ = some (.int .i64 nid) := G_4.cell 1
            have ld_22 : w_2.cell? ⟨g_1, 3, none⟩ = some (.int .i64 ttl) := G_4.cell 3
            have ld_23 : w_2.cell? ⟨g_1, 4, none⟩ = some (.int .u32 (W32 seq)) := G_4.cell 4
            have ld_24 : w_2.cell? ⟨g_1, 5, none⟩ = some (.int .u16 (W16 src)) := G_4.cell 5
            go_wp2_with (first | (with_reducible refine stop_store ?_) | (with_reducible refine stop_box ?_) | (with_reducible refine stop_alloc ?_) | (with_reducible refine stop_bslice ?_))
            refine (CS.out _).mono ?_; rintro e w_25 ⟨rfl, hb_26⟩
            clear ld_21 ld_22 ld_23 ld_24
            replace G_4 := G_4.to hb_26 G_4.lt
            replace hB := hB.trans (hb_26.mono hB.size)
            clear hb_26
            cases ns
            case false =>
              skip
              go_wp2_with (first | (with_reducible refine stop_store ?_) | (with_reducible refine stop_box ?_) | (with_reducible refine stop_alloc ?_) | (with_reducible refine stop_bslice ?_))
              go_returns
              refine ⟨?_, hB⟩
              have er : r = 1 := by
                have q0 := kc_8.out; have q1 := kc_10.out; have q2 := kc_11.out; have q3 := kc_14.out; have q4 := kc_17.out; rw [← HR.out]; unfold checkN rangeN shapeN; dsimp only
                have r0 : ¬ 127 < nid := by omega
                exact (if_neg (by rintro (h | h | h | h | h) <;> first | omega | exact absurd h (by assumption))).trans (if_pos (by first | exact .inl HNS.out | exact .inr (.inl ⟨HND.out, HGD.out⟩) | exact .inr (.inr (by omega))))
              rw [er]; rfl
            case true =>
              skip
              have ld_28 : w_25.cell? ⟨g_1, 6, none⟩ = some (.int .u16 (W16 dst)) := G_4.cell 6
              go_wp2_with (first | (with_reducible refine stop_store ?_) | (with_reducible refine stop_box ?_) | (with_reducible refine stop_alloc ?_) | (with_reducible refine stop_bslice ?_))
              refine (CD.out _).mono ?_; rintro e w_29 ⟨rfl, hb_30⟩
              clear ld_28
              replace G_4 := G_4.to hb_30 G_4.lt
              replace hB := hB.trans (hb_30.mono hB.size)
              clear hb_30
              cases nd
              case false =>
                skip
                have ld_32 : w_29.cell? ⟨g_1, 6, none⟩ = some (.int .u16 (W16 dst)) := G_4.cell 6
                go_wp2_with (first | (with_reducible refine stop_store ?_) | (with_reducible refine stop_box ?_) | (with_reducible refine stop_alloc ?_) | (with_reducible refine stop_bslice ?_))
                refine (CG.out _).mono ?_; rintro e w_33 ⟨rfl, hb_34⟩
                clear ld_32
                replace G_4 := G_4.to hb_34 G_4.lt
                replace hB := hB.trans (hb_34.mono hB.size)
                clear hb_34
                cases gd
                case false =>
                  skip
                  go_wp2_with (first | (with_reducible refine stop_store ?_) | (with_reducible refine stop_box ?_) | (with_reducible refine stop_alloc ?_) | (with_reducible refine stop_bslice ?_))
                  go_returns
                  refine ⟨?_, hB⟩
                  have er : r = 1 := by
                    have q0 := kc_8.out; have q1 := kc_10.out; have q2 := kc_11.out; have q3 := kc_14.out; have q4 := kc_17.out; rw [← HR.out]; unfold checkN rangeN shapeN; dsimp only
                    have r0 : ¬ 127 < nid := by omega
                    exact (if_neg (by rintro (h | h | h | h | h) <;> first | omega | exact absurd h (by assumption))).trans (if_pos (by first | exact .inl HNS.out | exact .inr (.inl ⟨HND.out, HGD.out⟩) | exact .inr (.inr (by omega))))
                  rw [er]; rfl
                case true =>
                  skip
                  by_cases hc_36 : (((pay.length : Nat) : Int) : Int) = 0
                  ·
                    have ec_36 : ((((pay.length : Nat) : Int) : Int) == 0) = true := by simpa using hc_36
                    have ec_36n : ((((pay.length : Nat) : Int) : Int) != 0) = false := by simpa using hc_36
                    have kc_36 := Lib.hid hc_36
                    clear hc_36
                    have ld_37 : w_33.cell? ⟨g_1, 7, none⟩ = some (.slice A pay.length c) := G_4.cell 7
                    go_wp2_with (first | (with_reducible refine stop_store ?_) | (with_reducible refine stop_box ?_) | (with_reducible refine stop_alloc ?_) | (with_reducible refine stop_bslice ?_))
                    go_returns
                    refine ⟨?_, hB⟩
                    have er : r = 1 := by
                      have q0 := kc_8.out; have q1 := kc_10.out; have q2 := kc_11.out; have q3 := kc_14.out; have q4 := kc_17.out; have q5 := kc_36.out; rw [← HR.out]; unfold checkN rangeN shapeN; dsimp only
                      have r0 : ¬ 127 < nid := by omega
                      exact (if_neg (by rintro (h | h | h | h | h) <;> first | omega | exact absurd h (by assumption))).trans (if_pos (by first | exact .inl HNS.out | exact .inr (.inl ⟨HND.out, HGD.out⟩) | exact .inr (.inr (by omega))))
                    rw [er]; rfl
                  ·
                    have ec_36 : ((((pay.length : Nat) : Int) : Int) == 0) = false := by simpa using hc_36
                    have ec_36n : ((((pay.length : Nat) : Int) : Int) != 0) = true := by simpa using hc_36
                    have kc_36 := Lib.hid hc_36
                    clear hc_36
                    by_cases hc_38 : (16 : Int) < ((pay.length : Nat) : Int)
                    ·
                      have ec_38m : (16 : Int) < ((pay.length : Nat) : Int) := hc_38
                      have ec_38 : decide ((16 : Int) < ((pay.length : Nat) : Int)) = true := decide_eq_true hc_38
                      have ec_38n : decide ((((pay.length : Nat) : Int) : Int) ≤ 16) = false := decide_eq_false (Int.not_le.2 hc_38)
                      have kc_38 := Lib.hid hc_38
                      clear hc_38
                      have ld_39 : w_33.cell? ⟨g_1, 7, none⟩ = some (.slice A pay.length c) := G_4.cell 7
                      go_wp2_with (first | (with_reducible refine stop_store ?_) | (with_reducible refine stop_box ?_) | (with_reducible refine stop_alloc ?_) | (with_reducible refine stop_bslice ?_))
                      go_returns
                      refine ⟨?_, hB⟩
                      have er : r = 4 := by
                        have q0 := kc_8.out; have q1 := kc_10.out; have q2 := kc_11.out; have q3 := kc_14.out; have q4 := kc_17.out; have q5 := kc_36.out; have q6 := kc_38.out; rw [← HR.out]; unfold checkN rangeN shapeN; dsimp only
                        have r0 : ¬ 127 < nid := by omega
                        exact (if_neg (by rintro (h | h | h | h | h) <;> first | omega | exact absurd h (by assumption))).trans ((if_neg (by rintro (h | ⟨h, h2⟩ | h) <;> first | omega | exact absurd (HNS.out.symm.trans h) (by decide) | exact absurd (HND.out.symm.trans h) (by decide) | exact absurd (HGD.out.symm.trans h2) (by decide))).trans (if_pos (by omega)))
                      rw [er]; rfl
                    ·
                      have ec_38m : (((pay.length : Nat) : Int) : Int) ≤ 16 := Int.not_lt.1 hc_38
                      have ec_38 : decide ((16 : Int) < ((pay.length : Nat) : Int)) = false := decide_eq_false hc_38
                      have ec_38n : decide ((((pay.length : Nat) : Int) : Int) ≤ 16) = true := decide_eq_true (Int.not_lt.1 hc_38)
                      have kc_38 := Lib.hid hc_38
                      clear hc_38
                      have ld_40 : w_33.cell? ⟨g_1, 7, none⟩ = some (.slice A pay.length c) := G_4.cell 7
                      go_wp2_with (first | (with_reducible refine stop_store ?_) | (with_reducible refine stop_box ?_) | (with_reducible refine stop_alloc ?_) | (with_reducible refine stop_bslice ?_))
                      go_returns
                      refine ⟨?_, hB⟩
                      have er : r = 0 := by
                        have q0 := kc_8.out; have q1 := kc_10.out; have q2 := kc_11.out; have q3 := kc_14.out; have q4 := kc_17.out; have q5 := kc_36.out; have q6 := kc_38.out; rw [← HR.out]; unfold checkN rangeN shapeN; dsimp only
                        have r0 : ¬ 127 < nid := by omega
                        exact (if_neg (by rintro (h | h | h | h | h) <;> first | omega | exact absurd h (by assumption))).trans ((if_neg (by rintro (h | ⟨h, h2⟩ | h) <;> first | omega | exact absurd (HNS.out.symm.trans h) (by decide) | exact absurd (HND.out.symm.trans h) (by decide) | exact absurd (HGD.out.symm.trans h2) (by decide))).trans (if_neg (by omega)))
                      rw [er]; rfl
              case true =>
                skip
                by_cases hc_41 : (((pay.length : Nat) : Int) : Int) = 0
                ·
                  have ec_41 : ((((pay.length : Nat) : Int) : Int) == 0) = true := by simpa using hc_41
                  have ec_41n : ((((pay.length : Nat) : Int) : Int) != 0) = false := by simpa using hc_41
                  have kc_41 := Lib.hid hc_41
                  clear hc_41
                  have ld_42 : w_29.cell? ⟨g_1, 7, none⟩ = some (.slice A pay.length c) := G_4.cell 7
                  go_wp2_with (first | (with_reducible refine stop_store ?_) | (with_reducible refine stop_box ?_) | (with_reducible refine stop_alloc ?_) | (with_reducible refine stop_bslice ?_))
                  go_returns
                  refine ⟨?_, hB⟩
                  have er : r = 1 := by
                    have q0 := kc_8.out; have q1 := kc_10.out; have q2 := kc_11.out; have q3 := kc_14.out; have q4 := kc_17.out; have q5 := kc_41.out; rw [← HR.out]; unfold checkN rangeN shapeN; dsimp only
                    have r0 : ¬ 127 < nid := by omega
                    exact (if_neg (by rintro (h | h | h | h | h) <;> first | omega | exact absurd h (by assumption))).trans (if_pos (by first | exact .inl HNS.out | exact .inr (.inl ⟨HND.out, HGD.out⟩) | exact .inr (.inr (by omega))))
                  rw [er]; rfl
                ·
                  have ec_41 : ((((pay.length : Nat) : Int) : Int) == 0) = false := by simpa using hc_41
                  have ec_41n : ((((pay.length : Nat) : Int) : Int) != 0) = true := by simpa using hc_41
                  have kc_41 := Lib.hid hc_41
                  clear hc_41
                  by_cases hc_43 : (16 : Int) < ((pay.length : Nat) : Int)
                  ·
                    have ec_43m : (16 : Int) < ((pay.length : Nat) : Int) := hc_43
                    have ec_43 : decide ((16 : Int) < ((pay.length : Nat) : Int)) = true := decide_eq_true hc_43
                    have ec_43n : decide ((((pay.length : Nat) : Int) : Int) ≤ 16) = false := decide_eq_false (Int.not_le.2 hc_43)
                    have kc_43 := Lib.hid hc_43
                    clear hc_43
                    have ld_44 : w_29.cell? ⟨g_1, 7, none⟩ = some (.slice A pay.length c) := G_4.cell 7
                    go_wp2_with (first | (with_reducible refine stop_store ?_) | (with_reducible refine stop_box ?_) | (with_reducible refine stop_alloc ?_) | (with_reducible refine stop_bslice ?_))
                    go_returns
                    refine ⟨?_, hB⟩
                    have er : r = 4 := by
                      have q0 := kc_8.out; have q1 := kc_10.out; have q2 := kc_11.out; have q3 := kc_14.out; have q4 := kc_17.out; have q5 := kc_41.out; have q6 := kc_43.out; rw [← HR.out]; unfold checkN rangeN shapeN; dsimp only
                      have r0 : ¬ 127 < nid := by omega
                      exact (if_neg (by rintro (h | h | h | h | h) <;> first | omega | exact absurd h (by assumption))).trans ((if_neg (by rintro (h | ⟨h, h2⟩ | h) <;> first | omega | exact absurd (HNS.out.symm.trans h) (by decide) | exact absurd (HND.out.symm.trans h) (by decide) | exact absurd (HGD.out.symm.trans h2) (by decide))).trans (if_pos (by omega)))
                    rw [er]; rfl
                  ·
                    have ec_43m : (((pay.length : Nat) : Int) : Int) ≤ 16 := Int.not_lt.1 hc_43
                    have ec_43 : decide ((16 : Int) < ((pay.length : Nat) : Int)) = false := decide_eq_false hc_43
                    have ec_43n : decide ((((pay.length : Nat) : Int) : Int) ≤ 16) = true := decide_eq_true (Int.not_lt.1 hc_43)
                    have kc_43 := Lib.hid hc_43
                    clear hc_43
                    have ld_45 : w_29.cell? ⟨g_1, 7, none⟩ = some (.slice A pay.length c) := G_4.cell 7
                    go_wp2_with (first | (with_reducible refine stop_store ?_) | (with_reducible refine stop_box ?_) | (with_reducible refine stop_alloc ?_) | (with_reducible refine stop_bslice ?_))
                    go_returns
                    refine ⟨?_, hB⟩
                    have er : r = 0 := by
                      have q0 := kc_8.out; have q1 := kc_10.out; have q2 := kc_11.out; have q3 := kc_14.out; have q4 := kc_17.out; have q5 := kc_41.out; have q6 := kc_43.out; rw [← HR.out]; unfold checkN rangeN shapeN; dsimp only
                      have r0 : ¬ 127 < nid := by omega
                      exact (if_neg (by rintro (h | h | h | h | h) <;> first | omega | exact absurd h (by assumption))).trans ((if_neg (by rintro (h | ⟨h, h2⟩ | h) <;> first | omega | exact absurd (HNS.out.symm.trans h) (by decide) | exact absurd (HND.out.symm.trans h) (by decide) | exact absurd (HGD.out.symm.trans h2) (by decide))).trans (if_neg (by omega)))
                    rw [er]; rfl
    ·
      have ec_10m : (128 : Int) ≤ nid := Int.not_lt.1 hc_10
      have ec_10 : decide ((nid : Int) < 128) = false := decide_eq_false hc_10
      have ec_10n : decide ((128 : Int) ≤ nid) = true := decide_eq_true (Int.not_lt.1 hc_10)
      have kc_10 := Lib.hid hc_10
      clear hc_10
      have ld_46 : w_2.cell? ⟨g_1, 1, none⟩ = some (.int .i64 nid) := G_4.cell 1
      go_wp2_with (first | (with_reducible refine stop_store ?_) | (with_reducible refine stop_box ?_) | (with_reducible refine stop_alloc ?_) | (with_reducible refine stop_bslice ?_))
      go_returns
      refine ⟨?_, hB⟩
      have er : r = 5 := by
        have q0 := kc_8.out; have q1 := kc_10.out; rw [← HR.out]; unfold checkN rangeN shapeN; dsimp only
        have r0 : 127 < nid := by omega
        exact if_pos (by first | exact .inl (by assumption) | exact .inr (.inl (by assumption)) | exact .inr (.inr (.inl (by assumption))) | exact .inr (.inr (.inr (.inl (by assumption)))) | exact .inr (.inr (.inr (.inr (by assumption)))))
      rw [er]; rfl
theorem net_Check (p : NP) (A : Option Addr) (c : Nat) (w : World) (hl : p.pay.length ≤ 1048576) :
    Calls Try.prog 26 #[.agg (npA p A c)] w fun e w' => e = .returned (.int .i64 (checkN p)) ∧ Below w.heap.size w w' := by
  obtain ⟨iv, nid, ctl, ttl, seq, src, dst, pay⟩ := p
  exact net_Check_f iv nid ctl ttl seq src dst A c pay w hl
set_option maxHeartbeats 4000000 in
theorem r48_Check_f (iv : BitVec 32) (nid : Int) (ctl : Bool) (ttl : Int) (seq : BitVec 32) (src dst : BitVec 16) (A : Option Addr) (c : Nat) (pay : List (BitVec 8)) (w : World) (hl : pay.length ≤ 1048576) :
    Calls Try.prog 27 #[.agg #[.int .u32 (W32 iv), .int .i64 nid, .bool ctl, .int .i64 ttl, .int .u32 (W32 seq), .int .u16 (W16 src), .int .u16 (W16 dst), .slice A pay.length c]] w (fun e w' => e = .returned (.int .i64 (checkN ⟨iv, nid, ctl, ttl, seq, src, dst, pay⟩)) ∧ Below w.heap.size w w') := by
  obtain ⟨r, hr⟩ : ∃ r, checkN ⟨iv, nid, ctl, ttl, seq, src, dst, pay⟩ = r := ⟨_, rfl⟩
  rw [hr]
  have HR := Lib.hid hr
  obtain ⟨ns, hns⟩ : ∃ b, nodeK src = b := ⟨_, rfl⟩
  obtain ⟨nd, hnd⟩ : ∃ b, nodeK dst = b := ⟨_, rfl⟩
  obtain ⟨gd, hgd⟩ : ∃ b, groupK dst = b := ⟨_, rfl⟩
  have CS := Lib.hid (fun W => r48_Node src W)
  have CD := Lib.hid (fun W => r48_Node dst W)
  have CG := Lib.hid (fun W => r48_Group dst W)
  rw [hns] at CS
  rw [hnd] at CD
  rw [hgd] at CG
  have HNS := Lib.hid hns
  have HND := Lib.hid hnd
  have HGD := Lib.hid hgd
  have HL := Lib.hid hl
  clear hr hns hnd hgd hl
  go_enter Try.func27, Try.ntmps27
  go_wp2_with (first | (with_reducible refine stop_store ?_) | (with_reducible refine stop_box ?_) | (with_reducible refine stop_alloc ?_) | (with_reducible refine stop_bslice ?_))
  unfold Kept
  refine go_mem (ty := 44) (cs := #[.int .u32 (W32 iv), .int .i64 nid, .bool ctl, .int .i64 ttl, .int .u32 (W32 seq), .int .u16 (W16 src), .int .u16 (W16 dst), .slice A pay.length c]) (fun g => .pointer (some ⟨g, 0, none⟩)) rfl (by kernel_rfl) ?_
  intro g_1 w_2 z_6 l_5 hb_3 G_4
  have n_7 : w.heap.size ≤ g_1 := l_5
  have hB := hb_3
  clear hb_3 l_5 z_6
  by_cases hc_8 : (nid : Int) < 0
  ·
    have ec_8m : (nid : Int) < 0 := hc_8
    have ec_8 : decide ((nid : Int) < 0) = true := decide_eq_true hc_8
    have ec_8n : decide ((0 : Int) ≤ nid) = false := decide_eq_false (Int.not_le.2 hc_8)
    have kc_8 := Lib.hid hc_8
    clear hc_8
    have ld_9 : w_2.cell? ⟨g_1, 1, none⟩ = some (.int .i64 nid) := G_4.cell 1
    go_wp2_with (first | (with_reducible refine stop_store ?_) | (with_reducible refine stop_box ?_) | (with_reducible refine stop_alloc ?_) | (with_reducible refine stop_bslice ?_))
    go_returns
    refine ⟨?_, hB⟩
    have er : r = 5 := by
      have q0 := kc_8.out; rw [← HR.out]; unfold checkN rangeN shapeN; dsimp only
      exact if_pos (by first | exact .inl (by assumption) | exact .inr (.inl (by assumption)) | exact .inr (.inr (.inl (by assumption))) | exact .inr (.inr (.inr (.inl (by assumption)))) | exact .inr (.inr (.inr (.inr (by assumption)))))
    rw [er]; rfl
  ·
    have ec_8m : (0 : Int) ≤ nid := Int.not_lt.1 hc_8
    have ec_8 : decide ((nid : Int) < 0) = false := decide_eq_false hc_8
    have ec_8n : decide ((0 : Int) ≤ nid) = true := decide_eq_true (Int.not_lt.1 hc_8)
    have kc_8 := Lib.hid hc_8
    clear hc_8
    by_cases hc_10 : (127 : Int) < nid
    ·
      have ec_10m : (127 : Int) < nid := hc_10
      have ec_10 : decide ((127 : Int) < nid) = true := decide_eq_true hc_10
      have ec_10n : decide ((nid : Int) ≤ 127) = false := decide_eq_false (Int.not_le.2 hc_10)
      have kc_10 := Lib.hid hc_10
      clear hc_10
      have ld_11 : w_2.cell? ⟨g_1, 1, none⟩ = some (.int .i64 nid) := G_4.cell 1
      go_wp2_with (first | (with_reducible refine stop_store ?_) | (with_reducible refine stop_box ?_) | (with_reducible refine stop_alloc ?_) | (with_reducible refine stop_bslice ?_))
      go_returns
      refine ⟨?_, hB⟩
      have er : r = 5 := by
        have q0 := kc_8.out; have q1 := kc_10.out; rw [← HR.out]; unfold checkN rangeN shapeN; dsimp only
        exact if_pos (by first | exact .inl (by assumption) | exact .inr (.inl (by assumption)) | exact .inr (.inr (.inl (by assumption))) | exact .inr (.inr (.inr (.inl (by assumption)))) | exact .inr (.inr (.inr (.inr (by assumption)))))
      rw [er]; rfl
    ·
      have ec_10m : (nid : Int) ≤ 127 := Int.not_lt.1 hc_10
      have ec_10 : decide ((127 : Int) < nid) = false := decide_eq_false hc_10
      have ec_10n : decide ((nid : Int) ≤ 127) = true := decide_eq_true (Int.not_lt.1 hc_10)
      have kc_10 := Lib.hid hc_10
      clear hc_10
      by_cases hc_12 : (ttl : Int) < 0
      ·
        have ec_12m : (ttl : Int) < 0 := hc_12
        have ec_12 : decide ((ttl : Int) < 0) = true := decide_eq_true hc_12
        have ec_12n : decide ((0 : Int) ≤ ttl) = false := decide_eq_false (Int.not_le.2 hc_12)
        have kc_12 := Lib.hid hc_12
        clear hc_12
        have ld_13 : w_2.cell? ⟨g_1, 1, none⟩ = some (.int .i64 nid) := G_4.cell 1
        have ld_14 : w_2.cell? ⟨g_1, 3, none⟩ = some (.int .i64 ttl) := G_4.cell 3
        go_wp2_with (first | (with_reducible refine stop_store ?_) | (with_reducible refine stop_box ?_) | (with_reducible refine stop_alloc ?_) | (with_reducible refine stop_bslice ?_))
        go_returns
        refine ⟨?_, hB⟩
        have er : r = 5 := by
          have q0 := kc_8.out; have q1 := kc_10.out; have q2 := kc_12.out; rw [← HR.out]; unfold checkN rangeN shapeN; dsimp only
          exact if_pos (by first | exact .inl (by assumption) | exact .inr (.inl (by assumption)) | exact .inr (.inr (.inl (by assumption))) | exact .inr (.inr (.inr (.inl (by assumption)))) | exact .inr (.inr (.inr (.inr (by assumption)))))
        rw [er]; rfl
      ·
        have ec_12m : (0 : Int) ≤ ttl := Int.not_lt.1 hc_12
        have ec_12 : decide ((ttl : Int) < 0) = false := decide_eq_false hc_12
        have ec_12n : decide ((0 : Int) ≤ ttl) = true := decide_eq_true (Int.not_lt.1 hc_12)
        have kc_12 := Lib.hid hc_12
        clear hc_12
        by_cases hc_15 : (127 : Int) < ttl
        ·
          have ec_15m : (127 : Int) < ttl := hc_15
          have ec_15 : decide ((127 : Int) < ttl) = true := decide_eq_true hc_15
          have ec_15n : decide ((ttl : Int) ≤ 127) = false := decide_eq_false (Int.not_le.2 hc_15)
          have kc_15 := Lib.hid hc_15
          clear hc_15
          have ld_16 : w_2.cell? ⟨g_1, 1, none⟩ = some (.int .i64 nid) := G_4.cell 1
          have ld_17 : w_2.cell? ⟨g_1, 3, none⟩ = some (.int .i64 ttl) := G_4.cell 3
          go_wp2_with (first | (with_reducible refine stop_store ?_) | (with_reducible refine stop_box ?_) | (with_reducible refine stop_alloc ?_) | (with_reducible refine stop_bslice ?_))
          go_returns
          refine ⟨?_, hB⟩
          have er : r = 5 := by
            have q0 := kc_8.out; have q1 := kc_10.out; have q2 := kc_12.out; have q3 := kc_15.out; rw [← HR.out]; unfold checkN rangeN shapeN; dsimp only
            exact if_pos (by first | exact .inl (by assumption) | exact .inr (.inl (by assumption)) | exact .inr (.inr (.inl (by assumption))) | exact .inr (.inr (.inr (.inl (by assumption)))) | exact .inr (.inr (.inr (.inr (by assumption)))))
          rw [er]; rfl
        ·
          have ec_15m : (ttl : Int) ≤ 127 := Int.not_lt.1 hc_15
          have ec_15 : decide ((127 : Int) < ttl) = false := decide_eq_false hc_15
          have ec_15n : decide ((ttl : Int) ≤ 127) = true := decide_eq_true (Int.not_lt.1 hc_15)
          have kc_15 := Lib.hid hc_15
          clear hc_15
          by_cases hc_18 : 16777215#32 < seq
          ·
            have ec_18 : decide ((16777215 : Int) < W32 seq) = true := decide_eq_true (show W32 (16777215#32) < W32 seq by rw [W32_lt]; exact hc_18)
            have ec_18n : decide ((W32 seq : Int) ≤ 16777215) = false := decide_eq_false (fun hh => absurd (show W32 seq ≤ W32 (16777215#32) from hh) (by rw [W32_le]; exact BitVec.not_le.2 hc_18))
            have kc_18 := Lib.hid hc_18
            clear hc_18
            have ld_19 : w_2.cell? ⟨g_1, 1, none⟩ = some (.int .i64 nid) := G_4.cell 1
            have ld_20 : w_2.cell? ⟨g_1, 3, none⟩ = some (.int .i64 ttl) := G_4.cell 3
            have ld_21 : w_2.cell? ⟨g_1, 4, none⟩ = some (.int .u32 (W32 seq)) := G_4.cell 4
            go_wp2_with (first | (with_reducible refine stop_store ?_) | (with_reducible refine stop_box ?_) | (with_reducible refine stop_alloc ?_) | (with_reducible refine stop_bslice ?_))
            go_returns
            refine ⟨?_, hB⟩
            have er : r = 5 := by
              have q0 := kc_8.out; have q1 := kc_10.out; have q2 := kc_12.out; have q3 := kc_15.out; have q4 := kc_18.out; rw [← HR.out]; unfold checkN rangeN shapeN; dsimp only
              exact if_pos (by first | exact .inl (by assumption) | exact .inr (.inl (by assumption)) | exact .inr (.inr (.inl (by assumption))) | exact .inr (.inr (.inr (.inl (by assumption)))) | exact .inr (.inr (.inr (.inr (by assumption)))))
            rw [er]; rfl
          ·
            have ec_18 : decide ((16777215 : Int) < W32 seq) = false := decide_eq_false (fun hh => hc_18 (by have h2 : W32 (16777215#32) < W32 seq := hh; rw [W32_lt] at h2; exact h2))
            have ec_18n : decide ((W32 seq : Int) ≤ 16777215) = true := decide_eq_true (show W32 seq ≤ W32 (16777215#32) by rw [W32_le]; exact BitVec.not_lt.1 hc_18)
            have kc_18 := Lib.hid hc_18
            clear hc_18
            have ld_22 : w_2.cell? ⟨g_1, 1, none⟩ = some (.int .i64 nid) := G_4.cell 1
            have ld_23 : w_2.cell? ⟨g_1, 3, none⟩ = some (.int .i64 ttl) := G_4.cell 3
            have ld_24 : w_2.cell? ⟨g_1, 4, none⟩ = some (.int .u32 (W32 seq)) := G_4.cell 4
            have ld_25 : w_2.cell? ⟨g_1, 5, none⟩ = some (.int .u16 (W16 src)) := G_4.cell 5
            go_wp2_with (first | (with_reducible refine stop_store ?_) | (with_reducible refine stop_box ?_) | (with_reducible refine stop_alloc ?_) | (with_reducible refine stop_bslice ?_))
            refine (CS.out _).mono ?_; rintro e w_26 ⟨rfl, hb_27⟩
            clear ld_22 ld_23 ld_24 ld_25
            replace G_4 := G_4.to hb_27 G_4.lt
            replace hB := hB.trans (hb_27.mono hB.size)
            clear hb_27
            cases ns
            case false =>
              skip
              go_wp2_with (first | (with_reducible refine stop_store ?_) | (with_reducible refine stop_box ?_) | (with_reducible refine stop_alloc ?_) | (with_reducible refine stop_bslice ?_))
              go_returns
              refine ⟨?_, hB⟩
              have er : r = 1 := by
                have q0 := kc_8.out; have q1 := kc_10.out; have q2 := kc_12.out; have q3 := kc_15.out; have q4 := kc_18.out; rw [← HR.out]; unfold checkN rangeN shapeN; dsimp only
                exact (if_neg (by rintro (h | h | h | h | h) <;> first | omega | exact absurd h (by assumption))).trans (if_pos (by first | exact .inl HNS.out | exact .inr (.inl ⟨HND.out, HGD.out⟩) | exact .inr (.inr (by omega))))
              rw [er]; rfl
            case true =>
              skip
              have ld_29 : w_26.cell? ⟨g_1, 6, none⟩ = some (.int .u16 (W16 dst)) := G_4.cell 6
              go_wp2_with (first | (with_reducible refine stop_store ?_) | (with_reducible refine stop_box ?_) | (with_reducible refine stop_alloc ?_) | (with_reducible refine stop_bslice ?_))
              refine (CD.out _).mono ?_; rintro e w_30 ⟨rfl, hb_31⟩
              clear ld_29
              replace G_4 := G_4.to hb_31 G_4.lt
              replace hB := hB.trans (hb_31.mono hB.size)
              clear hb_31
              cases nd
              case false =>
                skip
                have ld_33 : w_30.cell? ⟨g_1, 6, none⟩ = some (.int .u16 (W16 dst)) := G_4.cell 6
                go_wp2_with (first | (with_reducible refine stop_store ?_) | (with_reducible refine stop_box ?_) | (with_reducible refine stop_alloc ?_) | (with_reducible refine stop_bslice ?_))
                refine (CG.out _).mono ?_; rintro e w_34 ⟨rfl, hb_35⟩
                clear ld_33
                replace G_4 := G_4.to hb_35 G_4.lt
                replace hB := hB.trans (hb_35.mono hB.size)
                clear hb_35
                cases gd
                case false =>
                  skip
                  go_wp2_with (first | (with_reducible refine stop_store ?_) | (with_reducible refine stop_box ?_) | (with_reducible refine stop_alloc ?_) | (with_reducible refine stop_bslice ?_))
                  go_returns
                  refine ⟨?_, hB⟩
                  have er : r = 1 := by
                    have q0 := kc_8.out; have q1 := kc_10.out; have q2 := kc_12.out; have q3 := kc_15.out; have q4 := kc_18.out; rw [← HR.out]; unfold checkN rangeN shapeN; dsimp only
                    exact (if_neg (by rintro (h | h | h | h | h) <;> first | omega | exact absurd h (by assumption))).trans (if_pos (by first | exact .inl HNS.out | exact .inr (.inl ⟨HND.out, HGD.out⟩) | exact .inr (.inr (by omega))))
                  rw [er]; rfl
                case true =>
                  skip
                  by_cases hc_37 : (((pay.length : Nat) : Int) : Int) = 0
                  ·
                    have ec_37 : ((((pay.length : Nat) : Int) : Int) == 0) = true := by simpa using hc_37
                    have ec_37n : ((((pay.length : Nat) : Int) : Int) != 0) = false := by simpa using hc_37
                    have kc_37 := Lib.hid hc_37
                    clear hc_37
                    have ld_38 : w_34.cell? ⟨g_1, 7, none⟩ = some (.slice A pay.length c) := G_4.cell 7
                    go_wp2_with (first | (with_reducible refine stop_store ?_) | (with_reducible refine stop_box ?_) | (with_reducible refine stop_alloc ?_) | (with_reducible refine stop_bslice ?_))
                    go_returns
                    refine ⟨?_, hB⟩
                    have er : r = 1 := by
                      have q0 := kc_8.out; have q1 := kc_10.out; have q2 := kc_12.out; have q3 := kc_15.out; have q4 := kc_18.out; have q5 := kc_37.out; rw [← HR.out]; unfold checkN rangeN shapeN; dsimp only
                      exact (if_neg (by rintro (h | h | h | h | h) <;> first | omega | exact absurd h (by assumption))).trans (if_pos (by first | exact .inl HNS.out | exact .inr (.inl ⟨HND.out, HGD.out⟩) | exact .inr (.inr (by omega))))
                    rw [er]; rfl
                  ·
                    have ec_37 : ((((pay.length : Nat) : Int) : Int) == 0) = false := by simpa using hc_37
                    have ec_37n : ((((pay.length : Nat) : Int) : Int) != 0) = true := by simpa using hc_37
                    have kc_37 := Lib.hid hc_37
                    clear hc_37
                    by_cases hc_39 : (16 : Int) < ((pay.length : Nat) : Int)
                    ·
                      have ec_39m : (16 : Int) < ((pay.length : Nat) : Int) := hc_39
                      have ec_39 : decide ((16 : Int) < ((pay.length : Nat) : Int)) = true := decide_eq_true hc_39
                      have ec_39n : decide ((((pay.length : Nat) : Int) : Int) ≤ 16) = false := decide_eq_false (Int.not_le.2 hc_39)
                      have kc_39 := Lib.hid hc_39
                      clear hc_39
                      have ld_40 : w_34.cell? ⟨g_1, 7, none⟩ = some (.slice A pay.length c) := G_4.cell 7
                      go_wp2_with (first | (with_reducible refine stop_store ?_) | (with_reducible refine stop_box ?_) | (with_reducible refine stop_alloc ?_) | (with_reducible refine stop_bslice ?_))
                      go_returns
                      refine ⟨?_, hB⟩
                      have er : r = 4 := by
                        have q0 := kc_8.out; have q1 := kc_10.out; have q2 := kc_12.out; have q3 := kc_15.out; have q4 := kc_18.out; have q5 := kc_37.out; have q6 := kc_39.out; rw [← HR.out]; unfold checkN rangeN shapeN; dsimp only
                        exact (if_neg (by rintro (h | h | h | h | h) <;> first | omega | exact absurd h (by assumption))).trans ((if_neg (by rintro (h | ⟨h, h2⟩ | h) <;> first | omega | exact absurd (HNS.out.symm.trans h) (by decide) | exact absurd (HND.out.symm.trans h) (by decide) | exact absurd (HGD.out.symm.trans h2) (by decide))).trans (if_pos (by omega)))
                      rw [er]; rfl
                    ·
                      have ec_39m : (((pay.length : Nat) : Int) : Int) ≤ 16 := Int.not_lt.1 hc_39
                      have ec_39 : decide ((16 : Int) < ((pay.length : Nat) : Int)) = false := decide_eq_false hc_39
                      have ec_39n : decide ((((pay.length : Nat) : Int) : Int) ≤ 16) = true := decide_eq_true (Int.not_lt.1 hc_39)
                      have kc_39 := Lib.hid hc_39
                      clear hc_39
                      have ld_41 : w_34.cell? ⟨g_1, 7, none⟩ = some (.slice A pay.length c) := G_4.cell 7
                      go_wp2_with (first | (with_reducible refine stop_store ?_) | (with_reducible refine stop_box ?_) | (with_reducible refine stop_alloc ?_) | (with_reducible refine stop_bslice ?_))
                      go_returns
                      refine ⟨?_, hB⟩
                      have er : r = 0 := by
                        have q0 := kc_8.out; have q1 := kc_10.out; have q2 := kc_12.out; have q3 := kc_15.out; have q4 := kc_18.out; have q5 := kc_37.out; have q6 := kc_39.out; rw [← HR.out]; unfold checkN rangeN shapeN; dsimp only
                        exact (if_neg (by rintro (h | h | h | h | h) <;> first | omega | exact absurd h (by assumption))).trans ((if_neg (by rintro (h | ⟨h, h2⟩ | h) <;> first | omega | exact absurd (HNS.out.symm.trans h) (by decide) | exact absurd (HND.out.symm.trans h) (by decide) | exact absurd (HGD.out.symm.trans h2) (by decide))).trans (if_neg (by omega)))
                      rw [er]; rfl
              case true =>
                skip
                by_cases hc_42 : (((pay.length : Nat) : Int) : Int) = 0
                ·
                  have ec_42 : ((((pay.length : Nat) : Int) : Int) == 0) = true := by simpa using hc_42
                  have ec_42n : ((((pay.length : Nat) : Int) : Int) != 0) = false := by simpa using hc_42
                  have kc_42 := Lib.hid hc_42
                  clear hc_42
                  have ld_43 : w_30.cell? ⟨g_1, 7, none⟩ = some (.slice A pay.length c) := G_4.cell 7
                  go_wp2_with (first | (with_reducible refine stop_store ?_) | (with_reducible refine stop_box ?_) | (with_reducible refine stop_alloc ?_) | (with_reducible refine stop_bslice ?_))
                  go_returns
                  refine ⟨?_, hB⟩
                  have er : r = 1 := by
                    have q0 := kc_8.out; have q1 := kc_10.out; have q2 := kc_12.out; have q3 := kc_15.out; have q4 := kc_18.out; have q5 := kc_42.out; rw [← HR.out]; unfold checkN rangeN shapeN; dsimp only
                    exact (if_neg (by rintro (h | h | h | h | h) <;> first | omega | exact absurd h (by assumption))).trans (if_pos (by first | exact .inl HNS.out | exact .inr (.inl ⟨HND.out, HGD.out⟩) | exact .inr (.inr (by omega))))
                  rw [er]; rfl
                ·
                  have ec_42 : ((((pay.length : Nat) : Int) : Int) == 0) = false := by simpa using hc_42
                  have ec_42n : ((((pay.length : Nat) : Int) : Int) != 0) = true := by simpa using hc_42
                  have kc_42 := Lib.hid hc_42
                  clear hc_42
                  by_cases hc_44 : (16 : Int) < ((pay.length : Nat) : Int)
                  ·
                    have ec_44m : (16 : Int) < ((pay.length : Nat) : Int) := hc_44
                    have ec_44 : decide ((16 : Int) < ((pay.length : Nat) : Int)) = true := decide_eq_true hc_44
                    have ec_44n : decide ((((pay.length : Nat) : Int) : Int) ≤ 16) = false := decide_eq_false (Int.not_le.2 hc_44)
                    have kc_44 := Lib.hid hc_44
                    clear hc_44
                    have ld_45 : w_30.cell? ⟨g_1, 7, none⟩ = some (.slice A pay.length c) := G_4.cell 7
                    go_wp2_with (first | (with_reducible refine stop_store ?_) | (with_reducible refine stop_box ?_) | (with_reducible refine stop_alloc ?_) | (with_reducible refine stop_bslice ?_))
                    go_returns
                    refine ⟨?_, hB⟩
                    have er : r = 4 := by
                      have q0 := kc_8.out; have q1 := kc_10.out; have q2 := kc_12.out; have q3 := kc_15.out; have q4 := kc_18.out; have q5 := kc_42.out; have q6 := kc_44.out; rw [← HR.out]; unfold checkN rangeN shapeN; dsimp only
                      exact (if_neg (by rintro (h | h | h | h | h) <;> first | omega | exact absurd h (by assumption))).trans ((if_neg (by rintro (h | ⟨h, h2⟩ | h) <;> first | omega | exact absurd (HNS.out.symm.trans h) (by decide) | exact absurd (HND.out.symm.trans h) (by decide) | exact absurd (HGD.out.symm.trans h2) (by decide))).trans (if_pos (by omega)))
                    rw [er]; rfl
                  ·
                    have ec_44m : (((pay.length : Nat) : Int) : Int) ≤ 16 := Int.not_lt.1 hc_44
                    have ec_44 : decide ((16 : Int) < ((pay.length : Nat) : Int)) = false := decide_eq_false hc_44
                    have ec_44n : decide ((((pay.length : Nat) : Int) : Int) ≤ 16) = true := decide_eq_true (Int.not_lt.1 hc_44)
                    have kc_44 := Lib.hid hc_44
                    clear hc_44
                    have ld_46 : w_30.cell? ⟨g_1, 7, none⟩ = some (.slice A pay.length c) := G_4.cell 7
                    go_wp2_with (first | (with_reducible refine stop_store ?_) | (with_reducible refine stop_box ?_) | (with_reducible refine stop_alloc ?_) | (with_reducible refine stop_bslice ?_))
                    go_returns
                    refine ⟨?_, hB⟩
                    have er : r = 0 := by
                      have q0 := kc_8.out; have q1 := kc_10.out; have q2 := kc_12.out; have q3 := kc_15.out; have q4 := kc_18.out; have q5 := kc_42.out; have q6 := kc_44.out; rw [← HR.out]; unfold checkN rangeN shapeN; dsimp only
                      exact (if_neg (by rintro (h | h | h | h | h) <;> first | omega | exact absurd h (by assumption))).trans ((if_neg (by rintro (h | ⟨h, h2⟩ | h) <;> first | omega | exact absurd (HNS.out.symm.trans h) (by decide) | exact absurd (HND.out.symm.trans h) (by decide) | exact absurd (HGD.out.symm.trans h2) (by decide))).trans (if_neg (by omega)))
                    rw [er]; rfl
theorem r48_Check (p : NP) (A : Option Addr) (c : Nat) (w : World) (hl : p.pay.length ≤ 1048576) :
    Calls Try.prog 27 #[.agg (npA p A c)] w fun e w' => e = .returned (.int .i64 (checkN p)) ∧ Below w.heap.size w w' := by
  obtain ⟨iv, nid, ctl, ttl, seq, src, dst, pay⟩ := p
  exact r48_Check_f iv nid ctl ttl seq src dst A c pay w hl
set_option maxHeartbeats 1000000 in
theorem net_control_true (iv : BitVec 32) (nid : Int) (ttl : Int) (seq : BitVec 32) (src dst : BitVec 16) (A : Option Addr) (c : Nat) (pay : List (BitVec 8)) (w : World) (h0 : 0 ≤ ttl) (h1 : ttl ≤ 127) :
    Calls Try.prog 51 #[.agg #[.int .u32 (W32 iv), .int .i64 nid, .bool true, .int .i64 ttl, .int .u32 (W32 seq), .int .u16 (W16 src), .int .u16 (W16 dst), .slice A pay.length c]] w (fun e w' => e = .returned (.int .u8 (W8 (ctlB true ttl))) ∧ Below w.heap.size w w') := by
  unfold ctlB
  rw [if_pos rfl]
  go_enter Try.func51, Try.ntmps51
  go_wp2_with (first | (with_reducible refine stop_store ?_) | (with_reducible refine stop_box ?_) | (with_reducible refine stop_alloc ?_) | (with_reducible refine stop_bslice ?_))
  unfold Kept
  refine go_mem (ty := 44) (cs := #[.int .u32 (W32 iv), .int .i64 nid, .bool true, .int .i64 ttl, .int .u32 (W32 seq), .int .u16 (W16 src), .int .u16 (W16 dst), .slice A pay.length c]) (fun g => .pointer (some ⟨g, 0, none⟩)) rfl (by kernel_rfl) ?_
  intro g_1 w_2 z_6 l_5 hb_3 G_4
  have n_7 : w.heap.size ≤ g_1 := l_5
  have hB := hb_3
  clear hb_3 l_5 z_6
  have ld_8 : w_2.cell? ⟨g_1, 2, none⟩ = some (.bool true) := G_4.cell 2
  have ld_9 : w_2.cell? ⟨g_1, 3, none⟩ = some (.int .i64 ttl) := G_4.cell 3
  go_wp2_with (first | (with_reducible refine stop_store ?_) | (with_reducible refine stop_box ?_) | (with_reducible refine stop_alloc ?_) | (with_reducible refine stop_bslice ?_))
  go_returns
  exact ⟨rfl, hB⟩
set_option maxHeartbeats 1000000 in
theorem net_control_false (iv : BitVec 32) (nid : Int) (ttl : Int) (seq : BitVec 32) (src dst : BitVec 16) (A : Option Addr) (c : Nat) (pay : List (BitVec 8)) (w : World) (h0 : 0 ≤ ttl) (h1 : ttl ≤ 127) :
    Calls Try.prog 51 #[.agg #[.int .u32 (W32 iv), .int .i64 nid, .bool false, .int .i64 ttl, .int .u32 (W32 seq), .int .u16 (W16 src), .int .u16 (W16 dst), .slice A pay.length c]] w (fun e w' => e = .returned (.int .u8 (W8 (ctlB false ttl))) ∧ Below w.heap.size w w') := by
  unfold ctlB
  rw [if_neg (by decide)]
  go_enter Try.func51, Try.ntmps51
  go_wp2_with (first | (with_reducible refine stop_store ?_) | (with_reducible refine stop_box ?_) | (with_reducible refine stop_alloc ?_) | (with_reducible refine stop_bslice ?_))
  unfold Kept
  refine go_mem (ty := 44) (cs := #[.int .u32 (W32 iv), .int .i64 nid, .bool false, .int .i64 ttl, .int .u32 (W32 seq), .int .u16 (W16 src), .int .u16 (W16 dst), .slice A pay.length c]) (fun g => .pointer (some ⟨g, 0, none⟩)) rfl (by kernel_rfl) ?_
  intro g_1 w_2 z_6 l_5 hb_3 G_4
  have n_7 : w.heap.size ≤ g_1 := l_5
  have hB := hb_3
  clear hb_3 l_5 z_6
  have ld_8 : w_2.cell? ⟨g_1, 2, none⟩ = some (.bool false) := G_4.cell 2
  have ld_9 : w_2.cell? ⟨g_1, 3, none⟩ = some (.int .i64 ttl) := G_4.cell 3
  go_wp2_with (first | (with_reducible refine stop_store ?_) | (with_reducible refine stop_box ?_) | (with_reducible refine stop_alloc ?_) | (with_reducible refine stop_bslice ?_))
  go_returns
  exact ⟨rfl, hB⟩
theorem net_control (p : NP) (A : Option Addr) (c : Nat) (w : World) (h0 : 0 ≤ p.ttl) (h1 : p.ttl ≤ 127) :
    Calls Try.prog 51 #[.agg (npA p A c)] w fun e w' => e = .returned (.int .u8 (W8 (ctlB p.ctl p.ttl))) ∧ Below w.heap.size w w' := by
  obtain ⟨iv, nid, ctl, ttl, seq, src, dst, pay⟩ := p
  cases ctl
  · exact net_control_false iv nid ttl seq src dst A c pay w h0 h1
  · exact net_control_true iv nid ttl seq src dst A c pay w h0 h1
set_option maxHeartbeats 1000000 in
theorem r48_control_true (iv : BitVec 32) (nid : Int) (ttl : Int) (seq : BitVec 32) (src dst : BitVec 16) (A : Option Addr) (c : Nat) (pay : List (BitVec 8)) (w : World) (h0 : 0 ≤ ttl) (h1 : ttl ≤ 127) :
    Calls Try.prog 55 #[.agg #[.int .u32 (W32 iv), .int .i64 nid, .bool true, .int .i64 ttl, .int .u32 (W32 seq), .int .u16 (W16 src), .int .u16 (W16 dst), .slice A pay.length c]] w (fun e w' => e = .returned (.int .u8 (W8 (ctlB true ttl))) ∧ Below w.heap.size w w') := by
  have e0 : BitVec.ofInt 8 ttl + 128#8 = BitVec.ofInt 8 ttl ||| 128#8 := by rw [← ctl_ref ttl h0 h1, BitVec.ofInt_add]; rfl
  have e1 : IntKind.i64.wrap (ttl + 128) = ttl + 128 := IntWalk.i64_in _ (by omega)
  unfold ctlB
  rw [if_pos rfl, ← e0]
  clear e0
  go_enter Try.func55, Try.ntmps55
  go_wp2_with (first | (with_reducible refine stop_store ?_) | (with_reducible refine stop_box ?_) | (with_reducible refine stop_alloc ?_) | (with_reducible refine stop_bslice ?_))
  unfold Kept
  refine go_mem (ty := 44) (cs := #[.int .u32 (W32 iv), .int .i64 nid, .bool true, .int .i64 ttl, .int .u32 (W32 seq), .int .u16 (W16 src), .int .u16 (W16 dst), .slice A pay.length c]) (fun g => .pointer (some ⟨g, 0, none⟩)) rfl (by kernel_rfl) ?_
  intro g_1 w_2 z_6 l_5 hb_3 G_4
  have n_7 : w.heap.size ≤ g_1 := l_5
  have hB := hb_3
  clear hb_3 l_5 z_6
  have ld_8 : w_2.cell? ⟨g_1, 2, none⟩ = some (.bool true) := G_4.cell 2
  have ld_9 : w_2.cell? ⟨g_1, 3, none⟩ = some (.int .i64 ttl) := G_4.cell 3
  go_wp2_with (first | (with_reducible refine stop_store ?_) | (with_reducible refine stop_box ?_) | (with_reducible refine stop_alloc ?_) | (with_reducible refine stop_bslice ?_))
  go_returns
  exact ⟨rfl, hB⟩
set_option maxHeartbeats 1000000 in
theorem r48_control_false (iv : BitVec 32) (nid : Int) (ttl : Int) (seq : BitVec 32) (src dst : BitVec 16) (A : Option Addr) (c : Nat) (pay : List (BitVec 8)) (w : World) (h0 : 0 ≤ ttl) (h1 : ttl ≤ 127) :
    Calls Try.prog 55 #[.agg #[.int .u32 (W32 iv), .int .i64 nid, .bool false, .int .i64 ttl, .int .u32 (W32 seq), .int .u16 (W16 src), .int .u16 (W16 dst), .slice A pay.length c]] w (fun e w' => e = .returned (.int .u8 (W8 (ctlB false ttl))) ∧ Below w.heap.size w w') := by
  unfold ctlB
  rw [if_neg (by decide)]
  go_enter Try.func55, Try.ntmps55
  go_wp2_with (first | (with_reducible refine stop_store ?_) | (with_reducible refine stop_box ?_) | (with_reducible refine stop_alloc ?_) | (with_reducible refine stop_bslice ?_))
  unfold Kept
  refine go_mem (ty := 44) (cs := #[.int .u32 (W32 iv), .int .i64 nid, .bool false, .int .i64 ttl, .int .u32 (W32 seq), .int .u16 (W16 src), .int .u16 (W16 dst), .slice A pay.length c]) (fun g => .pointer (some ⟨g, 0, none⟩)) rfl (by kernel_rfl) ?_
  intro g_1 w_2 z_6 l_5 hb_3 G_4
  have n_7 : w.heap.size ≤ g_1 := l_5
  have hB := hb_3
  clear hb_3 l_5 z_6
  have ld_8 : w_2.cell? ⟨g_1, 2, none⟩ = some (.bool false) := G_4.cell 2
  have ld_9 : w_2.cell? ⟨g_1, 3, none⟩ = some (.int .i64 ttl) := G_4.cell 3
  go_wp2_with (first | (with_reducible refine stop_store ?_) | (with_reducible refine stop_box ?_) | (with_reducible refine stop_alloc ?_) | (with_reducible refine stop_bslice ?_))
  go_returns
  exact ⟨rfl, hB⟩
theorem r48_control (p : NP) (A : Option Addr) (c : Nat) (w : World) (h0 : 0 ≤ p.ttl) (h1 : p.ttl ≤ 127) :
    Calls Try.prog 55 #[.agg (npA p A c)] w fun e w' => e = .returned (.int .u8 (W8 (ctlB p.ctl p.ttl))) ∧ Below w.heap.size w w' := by
  obtain ⟨iv, nid, ctl, ttl, seq, src, dst, pay⟩ := p
  cases ctl
  · exact r48_control_false iv nid ttl seq src dst A c pay w h0 h1
  · exact r48_control_true iv nid ttl seq src dst A c pay w h0 h1
end Go.Proofs.Ytbkaeoaepmeceaa
