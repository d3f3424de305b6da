/- Whole contracts of layer 48 (netpdu). -/
import Derived.Test.YtbkaeoaepmeceaaNetE
import Derived.Test.YtbkaeoaepmeceaaNetF
import Derived.Test.YtbkaeoaepmeceaaNetLaw
namespace Go.Proofs.Ytbkaeoaepmeceaa
set_option maxRecDepth 100000
open Go.ChangeShapes Go.WideShapes Go.ChangeAt Go.RowKit
set_option linter.unusedVariables false
set_option linter.unusedSimpArgs false

set_option maxHeartbeats 4000000 in
theorem net_Check_g (iv : BitVec 32) (nid : Int) (ctl : Bool) (ttl : Int) (seq : BitVec 32) (src dst : BitVec 16) (A : Option Addr) (c : Nat) (pay : List (BitVec 8)) (w : World)  :
    Calls Try.prog 26 #[.agg #[.int .u32 (W32 iv), .int .i64 nid, .bool ctl, .int .i64 ttl, .int .u32 (W32 seq), .int .u16 (W16 src), .int .u16 (W16 dst), .slice A pay.length c]] w (fun e w' => e = .returned (.int .i64 (checkN ⟨iv, nid, ctl, ttl, seq, src, dst, pay⟩)) ∧ Below w.heap.size w w') := by
  obtain ⟨r, hr⟩ : ∃ r, checkN ⟨iv, nid, ctl, ttl, seq, src, dst, pay⟩ = r := ⟨_, rfl⟩
  rw [hr]
  have HR := Lib.hid hr
  obtain ⟨ns, hns⟩ : ∃ b, nodeK src = b := ⟨_, rfl⟩
  obtain ⟨nd, hnd⟩ : ∃ b, nodeK dst = b := ⟨_, rfl⟩
  obtain ⟨gd, hgd⟩ : ∃ b, groupK dst = b := ⟨_, rfl⟩
  have CS := Lib.hid (fun W => net_Node src W)
  have CD := Lib.hid (fun W => net_Node dst W)
  have CG := Lib.hid (fun W => net_Group dst W)
  rw [hns] at CS
  rw [hnd] at CD
  rw [hgd] at CG
  have HNS := Lib.hid hns
  have HND := Lib.hid hnd
  have HGD := Lib.hid hgd
  clear hr hns hnd hgd
  go_enter Try.func26, Try.ntmps26
  go_wp2_with (first | (with_reducible refine stop_store ?_) | (with_reducible refine stop_box ?_) | (with_reducible refine stop_alloc ?_) | (with_reducible refine stop_bslice ?_))
  unfold Kept
  refine go_mem (ty := 44) (cs := #[.int .u32 (W32 iv), .int .i64 nid, .bool ctl, .int .i64 ttl, .int .u32 (W32 seq), .int .u16 (W16 src), .int .u16 (W16 dst), .slice A pay.length c]) (fun g => .pointer (some ⟨g, 0, none⟩)) rfl (by kernel_rfl) ?_
  intro g_1 w_2 z_6 l_5 hb_3 G_4
  have n_7 : w.heap.size ≤ g_1 := l_5
  have hB := hb_3
  clear hb_3 l_5 z_6
  by_cases hc_8 : (nid : Int) < 0
  ·
    have ec_8m : (nid : Int) < 0 := hc_8
    have ec_8 : decide ((nid : Int) < 0) = true := decide_eq_true hc_8
    have ec_8n : decide ((0 : Int) ≤ nid) = false := decide_eq_false (Int.not_le.2 hc_8)
    have kc_8 := Lib.hid hc_8
    clear hc_8
    have ld_9 : w_2.cell? ⟨g_1, 1, none⟩ = some (.int .i64 nid) := G_4.cell 1
    go_wp2_with (first | (with_reducible refine stop_store ?_) | (with_reducible refine stop_box ?_) | (with_reducible refine stop_alloc ?_) | (with_reducible refine stop_bslice ?_))
    go_returns
    refine ⟨?_, hB⟩
    have er : r = 5 := by
      have q0 := kc_8.out; rw [← HR.out]; unfold checkN rangeN shapeN; dsimp only
      exact if_pos (by first | exact .inl (by assumption) | exact .inr (.inl (by assumption)) | exact .inr (.inr (.inl (by assumption))) | exact .inr (.inr (.inr (.inl (by assumption)))) | exact .inr (.inr (.inr (.inr (by assumption)))))
    rw [er]; rfl
  ·
    have ec_8m : (0 : Int) ≤ nid := Int.not_lt.1 hc_8
    have ec_8 : decide ((nid : Int) < 0) = false := decide_eq_false hc_8
    have ec_8n : decide ((0 : Int) ≤ nid) = true := decide_eq_true (Int.not_lt.1 hc_8)
    have kc_8 := Lib.hid hc_8
    clear hc_8
    by_cases hc_10 : (nid : Int) < 128
    ·
      have ec_10m : (nid : Int) < 128 := hc_10
      have ec_10 : decide ((nid : Int) < 128) = true := decide_eq_true hc_10
      have ec_10n : decide ((128 : Int) ≤ nid) = false := decide_eq_false (Int.not_le.2 hc_10)
      have kc_10 := Lib.hid hc_10
      clear hc_10
      by_cases hc_11 : (ttl : Int) < 0
      ·
        have ec_11m : (ttl : Int) < 0 := hc_11
        have ec_11 : decide ((ttl : Int) < 0) = true := decide_eq_true hc_11
        have ec_11n : decide ((0 : Int) ≤ ttl) = false := decide_eq_false (Int.not_le.2 hc_11)
        have kc_11 := Lib.hid hc_11
        clear hc_11
        have ld_12 : w_2.cell? ⟨g_1, 1, none⟩ = some (.int .i64 nid) := G_4.cell 1
        have ld_13 : w_2.cell? ⟨g_1, 3, none⟩ = some (.int .i64 ttl) := G_4.cell 3
        go_wp2_with (first | (with_reducible refine stop_store ?_) | (with_reducible refine stop_box ?_) | (with_reducible refine stop_alloc ?_) | (with_reducible refine stop_bslice ?_))
        go_returns
        refine ⟨?_, hB⟩
        have er : r = 5 := by
          have q0 := kc_8.out; have q1 := kc_10.out; have q2 := kc_11.out; rw [← HR.out]; unfold checkN rangeN shapeN; dsimp only
          have r0 : ¬ 127 < nid := by omega
          exact if_pos (by first | exact .inl (by assumption) | exact .inr (.inl (by assumption)) | exact .inr (.inr (.inl (by assumption))) | exact .inr (.inr (.inr (.inl (by assumption)))) | exact .inr (.inr (.inr (.inr (by assumption)))))
        rw [er]; rfl
      ·
        have ec_11m : (0 : Int) ≤ ttl := Int.not_lt.1 hc_11
        have ec_11 : decide ((ttl : Int) < 0) = false := decide_eq_false hc_11
        have ec_11n : decide ((0 : Int) ≤ ttl) = true := decide_eq_true (Int.not_lt.1 hc_11)
        have kc_11 := Lib.hid hc_11
        clear hc_11
        by_cases hc_14 : (127 : Int) < ttl
        ·
          have ec_14m : (127 : Int) < ttl := hc_14
          have ec_14 : decide ((127 : Int) < ttl) = true := decide_eq_true hc_14
          have ec_14n : decide ((ttl : Int) ≤ 127) = false := decide_eq_false (Int.not_le.2 hc_14)
          have kc_14 := Lib.hid hc_14
          clear hc_14
          have ld_15 : w_2.cell? ⟨g_1, 1, none⟩ = some (.int .i64 nid) := G_4.cell 1
          have ld_16 : w_2.cell? ⟨g_1, 3, none⟩ = some (.int .i64 ttl) := G_4.cell 3
          go_wp2_with (first | (with_reducible refine stop_store ?_) | (with_reducible refine stop_box ?_) | (with_reducible refine stop_alloc ?_) | (with_reducible refine stop_bslice ?_))
          go_returns
          refine ⟨?_, hB⟩
          have er : r = 5 := by
            have q0 := kc_8.out; have q1 := kc_10.out; have q2 := kc_11.out; have q3 := kc_14.out; rw [← HR.out]; unfold checkN rangeN shapeN; dsimp only
            have r0 : ¬ 127 < nid := by omega
            exact if_pos (by first | exact .inl (by assumption) | exact .inr (.inl (by assumption)) | exact .inr (.inr (.inl (by assumption))) | exact .inr (.inr (.inr (.inl (by assumption)))) | exact .inr (.inr (.inr (.inr (by assumption)))))
          rw [er]; rfl
        ·
          have ec_14m : (ttl : Int) ≤ 127 := Int.not_lt.1 hc_14
          have ec_14 : decide ((127 : Int) < ttl) = false := decide_eq_false hc_14
          have ec_14n : decide ((ttl : Int) ≤ 127) = true := decide_eq_true (Int.not_lt.1 hc_14)
          have kc_14 := Lib.hid hc_14
          clear hc_14
          by_cases hc_17 : 16777215#32 < seq
          ·
            have ec_17 : decide ((16777215 : Int) < W32 seq) = true := decide_eq_true (show W32 (16777215#32) < W32 seq by rw [W32_lt]; exact hc_17)
            have ec_17n : decide ((W32 seq : Int) ≤ 16777215) = false := decide_eq_false (fun hh => absurd (show W32 seq ≤ W32 (16777215#32) from hh) (by rw [W32_le]; exact BitVec.not_le.2 hc_17))
            have kc_17 := Lib.hid hc_17
            clear hc_17
            have ld_18 : w_2.cell? ⟨g_1, 1, none⟩ = some (.int .i64 nid) := G_4.cell 1
            have ld_19 : w_2.cell? ⟨g_1, 3, none⟩ = some (.int .i64 ttl) := G_4.cell 3
            have ld_20 : w_2.cell? ⟨g_1, 4, none⟩ = some (.int .u32 (W32 seq)) := G_4.cell 4
            go_wp2_with (first | (with_reducible refine stop_store ?_) | (with_reducible refine stop_box ?_) | (with_reducible refine stop_alloc ?_) | (with_reducible refine stop_bslice ?_))
            go_returns
            refine ⟨?_, hB⟩
            have er : r = 5 := by
              have q0 := kc_8.out; have q1 := kc_10.out; have q2 := kc_11.out; have q3 := kc_14.out; have q4 := kc_17.out; rw [← HR.out]; unfold checkN rangeN shapeN; dsimp only
              have r0 : ¬ 127 < nid := by omega
              exact if_pos (by first | exact .inl (by assumption) | exact .inr (.inl (by assumption)) | exact .inr (.inr (.inl (by assumption))) | exact .inr (.inr (.inr (.inl (by assumption)))) | exact .inr (.inr (.inr (.inr (by assumption)))))
            rw [er]; rfl
          ·
            have ec_17 : decide ((16777215 : Int) < W32 seq) = false := decide_eq_false (fun hh => hc_17 (by have h2 : W32 (16777215#32) < W32 seq := hh; rw [W32_lt] at h2; exact h2))
            have ec_17n : decide ((W32 seq : Int) ≤ 16777215) = true := decide_eq_true (show W32 seq ≤ W32 (16777215#32) by rw [W32_le]; exact BitVec.not_lt.1 hc_17)
            have kc_17 := Lib.hid hc_17
            clear hc_17
            have ld_21 : w_2.cell? ⟨g_1, 1, none⟩ = some (.int .i64 nid) := G_4.cell 1
            have ld_22 : w_2.cell? ⟨g_1, 3, none⟩ = some (.int .i64 ttl) := G_4.cell 3
            have ld_23 : w_2.cell? ⟨g_1, 4, none⟩ = some (.int .u32 (W32 seq)) := G_4.cell 4
            have ld_24 : w_2.cell? ⟨g_1, 5, none⟩ = some (.int .u16 (W16 src)) := G_4.cell 5
            go_wp2_with (first | (with_reducible refine stop_store ?_) | (with_reducible refine stop_box ?_) | (with_reducible refine stop_alloc ?_) | (with_reducible refine stop_bslice ?_))
            refine (CS.out _).mono ?_; rintro e w_25 ⟨rfl, hb_26⟩
            clear ld_21 ld_22 ld_23 ld_24
            replace G_4 := G_4.to hb_26 G_4.lt
            replace hB := hB.trans (hb_26.mono hB.size)
            clear hb_26
            cases ns
            case false =>
              skip
              go_wp2_with (first | (with_reducible refine stop_store ?_) | (with_reducible refine stop_box ?_) | (with_reducible refine stop_alloc ?_) | (with_reducible refine stop_bslice ?_))
              go_returns
              refine ⟨?_, hB⟩
              have er : r = 1 := by
                have q0 := kc_8.out; have q1 := kc_10.out; have q2 := kc_11.out; have q3 := kc_14.out; have q4 := kc_17.out; rw [← HR.out]; unfold checkN rangeN shapeN; dsimp only
                have r0 : ¬ 127 < nid := by omega
                exact (if_neg (by rintro (h | h | h | h | h) <;> first | omega | exact absurd h (by assumption))).trans (if_pos (by first | exact .inl HNS.out | exact .inr (.inl ⟨HND.out, HGD.out⟩) | exact .inr (.inr (by omega))))
              rw [er]; rfl
            case true =>
              skip
              have ld_28 : w_25.cell? ⟨g_1, 6, none⟩ = some (.int .u16 (W16 dst)) := G_4.cell 6
              go_wp2_with (first | (with_reducible refine stop_store ?_) | (with_reducible refine stop_box ?_) | (with_reducible refine stop_alloc ?_) | (with_reducible refine stop_bslice ?_))
              refine (CD.out _).mono ?_; rintro e w_29 ⟨rfl, hb_30⟩
              clear ld_28
              replace G_4 := G_4.to hb_30 G_4.lt
              replace hB := hB.trans (hb_30.mono hB.size)
              clear hb_30
              cases nd
              case false =>
                skip
                have ld_32 : w_29.cell? ⟨g_1, 6, none⟩ = some (.int .u16 (W16 dst)) := G_4.cell 6
                go_wp2_with (first | (with_reducible refine stop_store ?_) | (with_reducible refine stop_box ?_) | (with_reducible refine stop_alloc ?_) | (with_reducible refine stop_bslice ?_))
                refine (CG.out _).mono ?_; rintro e w_33 ⟨rfl, hb_34⟩
                clear ld_32
                replace G_4 := G_4.to hb_34 G_4.lt
                replace hB := hB.trans (hb_34.mono hB.size)
                clear hb_34
                cases gd
                case false =>
                  skip
                  go_wp2_with (first | (with_reducible refine stop_store ?_) | (with_reducible refine stop_box ?_) | (with_reducible refine stop_alloc ?_) | (with_reducible refine stop_bslice ?_))
                  go_returns
                  refine ⟨?_, hB⟩
                  have er : r = 1 := by
                    have q0 := kc_8.out; have q1 := kc_10.out; have q2 := kc_11.out; have q3 := kc_14.out; have q4 := kc_17.out; rw [← HR.out]; unfold checkN rangeN shapeN; dsimp only
                    have r0 : ¬ 127 < nid := by omega
                    exact (if_neg (by rintro (h | h | h | h | h) <;> first | omega | exact absurd h (by assumption))).trans (if_pos (by first | exact .inl HNS.out | exact .inr (.inl ⟨HND.out, HGD.out⟩) | exact .inr (.inr (by omega))))
                  rw [er]; rfl
                case true =>
                  skip
                  by_cases hc_36 : (((pay.length : Nat) : Int) : Int) = 0
                  ·
                    have ec_36 : ((((pay.length : Nat) : Int) : Int) == 0) = true := by simpa using hc_36
                    have ec_36n : ((((pay.length : Nat) : Int) : Int) != 0) = false := by simpa using hc_36
                    have kc_36 := Lib.hid hc_36
                    clear hc_36
                    have ld_37 : w_33.cell? ⟨g_1, 7, none⟩ = some (.slice A pay.length c) := G_4.cell 7
                    go_wp2_with (first | (with_reducible refine stop_store ?_) | (with_reducible refine stop_box ?_) | (with_reducible refine stop_alloc ?_) | (with_reducible refine stop_bslice ?_))
                    go_returns
                    refine ⟨?_, hB⟩
                    have er : r = 1 := by
                      have q0 := kc_8.out; have q1 := kc_10.out; have q2 := kc_11.out; have q3 := kc_14.out; have q4 := kc_17.out; have q5 := kc_36.out; rw [← HR.out]; unfold checkN rangeN shapeN; dsimp only
                      have r0 : ¬ 127 < nid := by omega
                      exact (if_neg (by rintro (h | h | h | h | h) <;> first | omega | exact absurd h (by assumption))).trans (if_pos (by first | exact .inl HNS.out | exact .inr (.inl ⟨HND.out, HGD.out⟩) | exact .inr (.inr (by omega))))
                    rw [er]; rfl
                  ·
                    have ec_36 : ((((pay.length : Nat) : Int) : Int) == 0) = false := by simpa using hc_36
                    have ec_36n : ((((pay.length : Nat) : Int) : Int) != 0) = true := by simpa using hc_36
                    have kc_36 := Lib.hid hc_36
                    clear hc_36
                    by_cases hc_38 : (16 : Int) < ((pay.length : Nat) : Int)
                    ·
                      have ec_38m : (16 : Int) < ((pay.length : Nat) : Int) := hc_38
                      have ec_38 : decide ((16 : Int) < ((pay.length : Nat) : Int)) = true := decide_eq_true hc_38
                      have ec_38n : decide ((((pay.length : Nat) : Int) : Int) ≤ 16) = false := decide_eq_false (Int.not_le.2 hc_38)
                      have kc_38 := Lib.hid hc_38
                      clear hc_38
                      have ld_39 : w_33.cell? ⟨g_1, 7, none⟩ = some (.slice A pay.length c) := G_4.cell 7
                      go_wp2_with (first | (with_reducible refine stop_store ?_) | (with_reducible refine stop_box ?_) | (with_reducible refine stop_alloc ?_) | (with_reducible refine stop_bslice ?_))
                      go_returns
                      refine ⟨?_, hB⟩
                      have er : r = 4 := by
                        have q0 := kc_8.out; have q1 := kc_10.out; have q2 := kc_11.out; have q3 := kc_14.out; have q4 := kc_17.out; have q5 := kc_36.out; have q6 := kc_38.out; rw [← HR.out]; unfold checkN rangeN shapeN; dsimp only
                        have r0 : ¬ 127 < nid := by omega
                        exact (if_neg (by rintro (h | h | h | h | h) <;> first | omega | exact absurd h (by assumption))).trans ((if_neg (by rintro (h | ⟨h, h2⟩ | h) <;> first | omega | exact absurd (HNS.out.symm.trans h) (by decide) | exact absurd (HND.out.symm.trans h) (by decide) | exact absurd (HGD.out.symm.trans h2) (by decide))).trans (if_pos (by omega)))
                      rw [er]; rfl
                    ·
                      have ec_38m : (((pay.length : Nat) : Int) : Int) ≤ 16 := Int.not_lt.1 hc_38
                      have ec_38 : decide ((16 : Int) < ((pay.length : Nat) : Int)) = false := decide_eq_false hc_38
                      have ec_38n : decide ((((pay.length : Nat) : Int) : Int) ≤ 16) = true := decide_eq_true (Int.not_lt.1 hc_38)
                      have kc_38 := Lib.hid hc_38
                      clear hc_38
                      have ld_40 : w_33.cell? ⟨g_1, 7, none⟩ = some (.slice A pay.length c) := G_4.cell 7
                      go_wp2_with (first | (with_reducible refine stop_store ?_) | (with_reducible refine stop_box ?_) | (with_reducible refine stop_alloc ?_) | (with_reducible refine stop_bslice ?_))
                      go_returns
                      refine ⟨?_, hB⟩
                      have er : r = 0 := by
                        have q0 := kc_8.out; have q1 := kc_10.out; have q2 := kc_11.out; have q3 := kc_14.out; have q4 := kc_17.out; have q5 := kc_36.out; have q6 := kc_38.out; rw [← HR.out]; unfold checkN rangeN shapeN; dsimp only
                        have r0 : ¬ 127 < nid := by omega
                        exact (if_neg (by rintro (h | h | h | h | h) <;> first | omega | exact absurd h (by assumption))).trans ((if_neg (by rintro (h | ⟨h, h2⟩ | h) <;> first | omega | exact absurd (HNS.out.symm.trans h) (by decide) | exact absurd (HND.out.symm.trans h) (by decide) | exact absurd (HGD.out.symm.trans h2) (by decide))).trans (if_neg (by omega)))
                      rw [er]; rfl
              case true =>
                skip
                by_cases hc_41 : (((pay.length : Nat) : Int) : Int) = 0
                ·
                  have ec_41 : ((((pay.length : Nat) : Int) : Int) == 0) = true := by simpa using hc_41
                  have ec_41n : ((((pay.length : Nat) : Int) : Int) != 0) = false := by simpa using hc_41
                  have kc_41 := Lib.hid hc_41
                  clear hc_41
                  have ld_42 : w_29.cell? ⟨g_1, 7, none⟩ = some (.slice A pay.length c) := G_4.cell 7
                  go_wp2_with (first | (with_reducible refine stop_store ?_) | (with_reducible refine stop_box ?_) | (with_reducible refine stop_alloc ?_) | (with_reducible refine stop_bslice ?_))
                  go_returns
                  refine ⟨?_, hB⟩
                  have er : r = 1 := by
                    have q0 := kc_8.out; have q1 := kc_10.out; have q2 := kc_11.out; have q3 := kc_14.out; have q4 := kc_17.out; have q5 := kc_41.out; rw [← HR.out]; unfold checkN rangeN shapeN; dsimp only
                    have r0 : ¬ 127 < nid := by omega
                    exact (if_neg (by rintro (h | h | h | h | h) <;> first | omega | exact absurd h (by assumption))).trans (if_pos (by first | exact .inl HNS.out | exact .inr (.inl ⟨HND.out, HGD.out⟩) | exact .inr (.inr (by omega))))
                  rw [er]; rfl
                ·
                  have ec_41 : ((((pay.length : Nat) : Int) : Int) == 0) = false := by simpa using hc_41
                  have ec_41n : ((((pay.length : Nat) : Int) : Int) != 0) = true := by simpa using hc_41
                  have kc_41 := Lib.hid hc_41
                  clear hc_41
                  by_cases hc_43 : (16 : Int) < ((pay.length : Nat) : Int)
                  ·
                    have ec_43m : (16 : Int) < ((pay.length : Nat) : Int) := hc_43
                    have ec_43 : decide ((16 : Int) < ((pay.length : Nat) : Int)) = true := decide_eq_true hc_43
                    have ec_43n : decide ((((pay.length : Nat) : Int) : Int) ≤ 16) = false := decide_eq_false (Int.not_le.2 hc_43)
                    have kc_43 := Lib.hid hc_43
                    clear hc_43
                    have ld_44 : w_29.cell? ⟨g_1, 7, none⟩ = some (.slice A pay.length c) := G_4.cell 7
                    go_wp2_with (first | (with_reducible refine stop_store ?_) | (with_reducible refine stop_box ?_) | (with_reducible refine stop_alloc ?_) | (with_reducible refine stop_bslice ?_))
                    go_returns
                    refine ⟨?_, hB⟩
                    have er : r = 4 := by
                      have q0 := kc_8.out; have q1 := kc_10.out; have q2 := kc_11.out; have q3 := kc_14.out; have q4 := kc_17.out; have q5 := kc_41.out; have q6 := kc_43.out; rw [← HR.out]; unfold checkN rangeN shapeN; dsimp only
                      have r0 : ¬ 127 < nid := by omega
                      exact (if_neg (by rintro (h | h | h | h | h) <;> first | omega | exact absurd h (by assumption))).trans ((if_neg (by rintro (h | ⟨h, h2⟩ | h) <;> first | omega | exact absurd (HNS.out.symm.trans h) (by decide) | exact absurd (HND.out.symm.trans h) (by decide) | exact absurd (HGD.out.symm.trans h2) (by decide))).trans (if_pos (by omega)))
                    rw [er]; rfl
                  ·
                    have ec_43m : (((pay.length : Nat) : Int) : Int) ≤ 16 := Int.not_lt.1 hc_43
                    have ec_43 : decide ((16 : Int) < ((pay.length : Nat) : Int)) = false := decide_eq_false hc_43
                    have ec_43n : decide ((((pay.length : Nat) : Int) : Int) ≤ 16) = true := decide_eq_true (Int.not_lt.1 hc_43)
                    have kc_43 := Lib.hid hc_43
                    clear hc_43
                    have ld_45 : w_29.cell? ⟨g_1, 7, none⟩ = some (.slice A pay.length c) := G_4.cell 7
                    go_wp2_with (first | (with_reducible refine stop_store ?_) | (with_reducible refine stop_box ?_) | (with_reducible refine stop_alloc ?_) | (with_reducible refine stop_bslice ?_))
                    go_returns
                    refine ⟨?_, hB⟩
                    have er : r = 0 := by
                      have q0 := kc_8.out; have q1 := kc_10.out; have q2 := kc_11.out; have q3 := kc_14.out; have q4 := kc_17.out; have q5 := kc_41.out; have q6 := kc_43.out; rw [← HR.out]; unfold checkN rangeN shapeN; dsimp only
                      have r0 : ¬ 127 < nid := by omega
                      exact (if_neg (by rintro (h | h | h | h | h) <;> first | omega | exact absurd h (by assumption))).trans ((if_neg (by rintro (h | ⟨h, h2⟩ | h) <;> first | omega | exact absurd (HNS.out.symm.trans h) (by decide) | exact absurd (HND.out.symm.trans h) (by decide) | exact absurd (HGD.out.symm.trans h2) (by decide))).trans (if_neg (by omega)))
                    rw [er]; rfl
    ·
      have ec_10m : (128 : Int) ≤ nid := Int.not_lt.1 hc_10
      have ec_10 : decide ((nid : Int) < 128) = false := decide_eq_false hc_10
      have ec_10n : decide ((128 : Int) ≤ nid) = true := decide_eq_true (Int.not_lt.1 hc_10)
      have kc_10 := Lib.hid hc_10
      clear hc_10
      have ld_46 : w_2.cell? ⟨g_1, 1, none⟩ = some (.int .i64 nid) := G_4.cell 1
      go_wp2_with (first | (with_reducible refine stop_store ?_) | (with_reducible refine stop_box ?_) | (with_reducible refine stop_alloc ?_) | (with_reducible refine stop_bslice ?_))
      go_returns
      refine ⟨?_, hB⟩
      have er : r = 5 := by
        have q0 := kc_8.out; have q1 := kc_10.out; rw [← HR.out]; unfold checkN rangeN shapeN; dsimp only
        have r0 : 127 < nid := by omega
        exact if_pos (by first | exact .inl (by assumption) | exact .inr (.inl (by assumption)) | exact .inr (.inr (.inl (by assumption))) | exact .inr (.inr (.inr (.inl (by assumption)))) | exact .inr (.inr (.inr (.inr (by assumption)))))
      rw [er]; rfl
set_option maxHeartbeats 1000000 in
theorem net_Encode_b2 (k1 : BitVec 64) (k2 : Int) (k3 k4 k5 : BitVec 64) (iv : BitVec 32) (nid : Int) (ctl : Bool) (ttl : Int) (seq : BitVec 32) (src dst : BitVec 16) (A : Option Addr) (c : Nat) (pay : List (BitVec 8)) (ck : Int) (w : World) (hck : checkN ⟨iv, nid, ctl, ttl, seq, src, dst, pay⟩ = ck) (h0 : ck ≠ 0) :
    Calls Try.prog 32 #[.agg #[.int .u64 (W64 k1), .int .i64 k2, .int .u64 (W64 k3), .int .u64 (W64 k4), .int .u64 (W64 k5)], .agg #[.int .u32 (W32 iv), .int .i64 nid, .bool ctl, .int .i64 ttl, .int .u32 (W32 seq), .int .u16 (W16 src), .int .u16 (W16 dst), .slice A pay.length c]] w (RetO w (encN ⟨k1, k2, k3, k4, k5⟩ ⟨iv, nid, ctl, ttl, seq, src, dst, pay⟩)) := by
  have hE : encN ⟨k1, k2, k3, k4, k5⟩ ⟨iv, nid, ctl, ttl, seq, src, dst, pay⟩ = ([], ck) := by unfold encN; rw [hck, if_pos h0]
  rw [hE]
  have CK := Lib.hid (fun W => show Calls Try.prog 26 #[.agg #[.int .u32 (W32 iv), .int .i64 nid, .bool ctl, .int .i64 ttl, .int .u32 (W32 seq), .int .u16 (W16 src), .int .u16 (W16 dst), .slice A pay.length c]] W fun e w' => e = .returned (.int .i64 ck) ∧ Below W.heap.size W w' from by have := net_Check_g iv nid ctl ttl seq src dst A c pay W; rw [hck] at this; exact this)
  have e0 : ((ck : Int) != 0) = true := by simpa using h0
  have e1 : ((ck : Int) == 0) = false := by simpa using h0
  clear hE hck h0
  go_enter Try.func32, Try.ntmps32
  go_wp2_with (first | (with_reducible refine stop_store ?_) | (with_reducible refine stop_box ?_) | (with_reducible refine stop_alloc ?_) | (with_reducible refine stop_bslice ?_))
  unfold Kept
  refine go_mem (ty := 25) (cs := #[.int .u64 (W64 k1), .int .i64 k2, .int .u64 (W64 k3), .int .u64 (W64 k4), .int .u64 (W64 k5)]) (fun g => .pointer (some ⟨g, 0, none⟩)) rfl (by kernel_rfl) ?_
  intro g_1 w_2 z_6 l_5 hb_3 G_4
  have n_7 : w.heap.size ≤ g_1 := l_5
  have hB := hb_3
  clear hb_3 l_5 z_6
  go_wp2_with (first | (with_reducible refine stop_store ?_) | (with_reducible refine stop_box ?_) | (with_reducible refine stop_alloc ?_) | (with_reducible refine stop_bslice ?_))
  unfold Kept
  refine go_mem (ty := 44) (cs := #[.int .u32 (W32 iv), .int .i64 nid, .bool ctl, .int .i64 ttl, .int .u32 (W32 seq), .int .u16 (W16 src), .int .u16 (W16 dst), .slice A pay.length c]) (fun g => .pointer (some ⟨g, 0, none⟩)) rfl (by kernel_rfl) ?_
  intro g_8 w_9 z_13 l_12 hb_10 G_11
  have n_14 : g_1 < g_8 := Nat.lt_of_lt_of_le G_4.lt l_12
  have n_15 : w.heap.size ≤ g_8 := Nat.le_trans hB.size l_12
  replace G_4 := G_4.to hb_10 G_4.lt
  replace hB := hB.trans (hb_10.mono hB.size)
  clear hb_10 l_12 z_13
  go_wp2_with (first | (with_reducible refine stop_store ?_) | (with_reducible refine stop_box ?_) | (with_reducible refine stop_alloc ?_) | (with_reducible refine stop_bslice ?_) | ((with_reducible refine wpList_ld 0 [.int .u32 (W32 iv), .int .i64 nid, .bool ctl, .int .i64 ttl, .int .u32 (W32 seq), .int .u16 (W16 src), .int .u16 (W16 dst), .slice A pay.length c] G_11 ?_ ?_ Try.underlying44 ?_ ?_ ?_); rfl; rfl; rfl; kernel_rfl))
  refine (CK.out _).mono ?_; rintro e w_17 ⟨rfl, hb_18⟩
  replace G_4 := G_4.to hb_18 G_4.lt
  replace G_11 := G_11.to hb_18 G_11.lt
  replace hB := hB.trans (hb_18.mono hB.size)
  clear hb_18
  go_wp2_with (first | (with_reducible refine stop_store ?_) | (with_reducible refine stop_box ?_) | (with_reducible refine stop_alloc ?_) | (with_reducible refine stop_bslice ?_))
  go_returns
  exact ⟨none, 0, rfl, fun j u hu => by simp [bcells] at hu, Nat.le_refl _, hB⟩
theorem net_EncodeA (k : NK) (p : NP) (A : Option Addr) (c : Nat) (w : World) (hp : RdB w A p.pay) :
    Calls Try.prog 32 #[.agg #[.int .u64 (W64 k.key), .int .i64 k.nid, .int .u64 (W64 k.enc), .int .u64 (W64 k.hide), .int .u64 (W64 k.bea)], .agg (npA p A c)] w (RetO w (encN k p)) := by
  by_cases hl : p.pay.length ≤ 1048576
  · exact net_Encode k p A c w hl hp
  · obtain ⟨ck, hck⟩ : ∃ x, checkN p = x := ⟨_, rfl⟩
    have h0 : ck ≠ 0 := by
      rintro rfl
      have := (check_ok' hck).2.2.2.2.2.2
      omega
    obtain ⟨k1, k2, k3, k4, k5⟩ := k
    obtain ⟨iv, nid, ctl, ttl, seq, src, dst, pay⟩ := p
    exact net_Encode_b2 k1 k2 k3 k4 k5 iv nid ctl ttl seq src dst A c pay ck w hck h0
def hintN (bs : List (BitVec 8)) : Int × Int × Int := if bs.length = 0 then (0, 0, 3) else (W8 (bs.headD 0#8 >>> 7), W8 (bs.headD 0#8 &&& 127#8), 0)
theorem list7 {l : List (BitVec 8)} (h : 14 ≤ l.length) : ∃ b0 x0 x1 x2 x3 x4 x5 sd, l = b0 :: x0 :: x1 :: x2 :: x3 :: x4 :: x5 :: sd := by
  match l, h with
  | b0 :: x0 :: x1 :: x2 :: x3 :: x4 :: x5 :: sd, _ => exact ⟨b0, x0, x1, x2, x3, x4, x5, sd, rfl⟩
theorem open_len (k n : BitVec 64) (h s pl : List (BitVec 8)) (ho : openB k n h s = (pl, 0)) : s.length = pl.length + 4 := by
  have := seal_open k n h s (by rw [ho])
  rw [ho] at this
  rw [← this, sealB_length]
theorem net_Hint (B : Option Addr) (d : Nat) (bs : List (BitVec 8)) (w : World) (hb : RdB w B bs) :
    Calls Try.prog 36 #[.slice B bs.length d] w fun e w' => e = .returned (.tuple #[.int .i64 (hintN bs).1, .int .i64 (hintN bs).2.1, .int .i64 (hintN bs).2.2]) ∧ Below w.heap.size w w' := by
  rcases bs with _ | ⟨b0, bs⟩
  · exact net_Hint_0 B d w
  · obtain ⟨pb, po, rfl, hlt, _⟩ := Rd.open_ hb (by rw [bcells_length]; exact Nat.succ_pos _)
    have RB0 : Rg pb po [.int .u8 (W8 b0)] w := by have := rg_at hb 0 1 [.int .u8 (W8 b0)] rfl (Nat.succ_pos _); rwa [Nat.add_zero] at this
    exact net_Hint_f pb po (b0 :: bs).length d b0 w RB0 (Nat.succ_pos _)
set_option maxHeartbeats 1000000 in
theorem net_Decode (k : NK) (iv : BitVec 32) (B : Option Addr) (d : Nat) (bs : List (BitVec 8)) (w : World) (hb : RdB w B bs) (hd0 : bs.length ≤ d) :
    Calls Try.prog 34 #[.agg #[.int .u64 (W64 k.key), .int .i64 k.nid, .int .u64 (W64 k.enc), .int .u64 (W64 k.hide), .int .u64 (W64 k.bea)], .int .u32 (W32 iv), .slice B bs.length d] w (RetN w (decN k iv bs)) := by
  obtain ⟨k1, k2, k3, k4, k5⟩ := k
  dsimp only
  by_cases h1 : bs.length < 14
  · have e : decN ⟨k1, k2, k3, k4, k5⟩ iv bs = (np0, 3) := by unfold decN; rw [if_pos h1]
    rw [e]
    exact net_Decode_s k1 k2 k3 k4 k5 iv B bs.length d w h1
  by_cases h2 : 29 < bs.length
  · have e : decN ⟨k1, k2, k3, k4, k5⟩ iv bs = (np0, 4) := by unfold decN; rw [if_neg h1, if_pos h2]
    rw [e]
    exact net_Decode_l k1 k2 k3 k4 k5 iv B bs.length d w h2
  obtain ⟨b0, x0, x1, x2, x3, x4, x5, sd, rfl⟩ := list7 (show 14 ≤ bs.length by omega)
  obtain ⟨pb, po, rfl, hlt, _⟩ := Rd.open_ hb (by rw [bcells_length]; exact Nat.succ_pos _)
  have RB0 : Rg pb po [.int .u8 (W8 b0)] w := by have := rg_at hb 0 1 [.int .u8 (W8 b0)] rfl (Nat.succ_pos _); rwa [Nat.add_zero] at this
  have RX0 : Rg pb (po + 1) [.int .u8 (W8 x0), .int .u8 (W8 x1), .int .u8 (W8 x2), .int .u8 (W8 x3), .int .u8 (W8 x4), .int .u8 (W8 x5)] w := rg_at hb 1 6 _ rfl (Nat.succ_pos _)
  have hs0 : RdB w (some ⟨pb, po + 7, none⟩) sd := rd_cut hb hlt 7
  have hr0 : RdB w (some ⟨pb, po + 1, none⟩) [x0, x1, x2, x3, x4, x5] := (rd_cut hb hlt 1).take 6
  obtain ⟨n, hnn⟩ : ∃ n, (b0 :: x0 :: x1 :: x2 :: x3 :: x4 :: x5 :: sd).length = n := ⟨_, rfl⟩
  have hn : sd.length + 7 = n := by rw [← hnn]; rfl
  have hd : n ≤ d := by rw [← hnn]; exact hd0
  have h14 : 14 ≤ n := by omega
  have h29 : n ≤ 29 := by omega
  rw [hnn]
  by_cases h3 : W8 (b0 &&& 127#8) = k2
  · by_cases h4 : W8 (b0 >>> 7) = W32 (iv &&& 1#32)
    · have hnd := h3
      obtain ⟨o0, o1, o2, o3, o4, o5, hop⟩ := list6 (l := xorB [x0, x1, x2, x3, x4, x5] (maskL ⟨k1, k2, k3, k4, k5⟩ iv sd)) (by rw [xorB_length, maskL_length]; rfl)
      obtain ⟨fc, hfc⟩ : ∃ x, (o0 &&& 128#8 != 0#8) = x := ⟨_, rfl⟩
      
      
      obtain ⟨non, hnon⟩ : ∃ x, nonceK 0 ((BitVec.setWidth 16 o4) ||| ((BitVec.setWidth 16 o5) <<< 8)) (((BitVec.setWidth 32 o1) ||| ((BitVec.setWidth 32 o2) <<< 8)) ||| ((BitVec.setWidth 32 o3) <<< 16)) iv = x := ⟨_, rfl⟩
      have hpre : preN k2 iv [o0, o1, o2, o3, o4, o5] = ⟨iv, k2, fc, W8 (o0 &&& 127#8), ((BitVec.setWidth 32 o1) ||| ((BitVec.setWidth 32 o2) <<< 8)) ||| ((BitVec.setWidth 32 o3) <<< 16), (BitVec.setWidth 16 o4) ||| ((BitVec.setWidth 16 o5) <<< 8), 0#16, []⟩ := by
        unfold preN
        dsimp only
        rw [hfc]
      obtain ⟨⟨pl, en⟩, hres⟩ : ∃ r, openB k3 non [o0] sd = r := ⟨_, rfl⟩
      have hnb : ¬ badHint ⟨k1, k2, k3, k4, k5⟩ iv ((b0 :: x0 :: x1 :: x2 :: x3 :: x4 :: x5 :: sd).headD 0#8) := fun h => Or.elim (show W8 (b0 &&& 127#8) ≠ k2 ∨ W8 (b0 >>> 7) ≠ W32 (iv &&& 1#32) from h) (fun h => h h3) (fun h => h h4)
      have hdec : decN ⟨k1, k2, k3, k4, k5⟩ iv (b0 :: x0 :: x1 :: x2 :: x3 :: x4 :: x5 :: sd) = endN ⟨iv, k2, fc, W8 (o0 &&& 127#8), ((BitVec.setWidth 32 o1) ||| ((BitVec.setWidth 32 o2) <<< 8)) ||| ((BitVec.setWidth 32 o3) <<< 16), (BitVec.setWidth 16 o4) ||| ((BitVec.setWidth 16 o5) <<< 8), 0#16, []⟩ (pl, en) := by
        unfold decN
        have hdo : decOpen ⟨k1, k2, k3, k4, k5⟩ iv (b0 :: x0 :: x1 :: x2 :: x3 :: x4 :: x5 :: sd) = [o0, o1, o2, o3, o4, o5] := hop
        rw [if_neg h1, if_neg h2, if_neg hnb, hdo]
        dsimp only
        rw [hpre]
        dsimp only
        rw [hnon]
        exact congrArg _ hres
      rw [hdec]
      by_cases he : en = 0
      · subst he
        have hlen := open_len _ _ _ _ _ hres
        match pl, hres, hlen with
        | [], _, hlen => exact absurd hlen (by simp; omega)
        | [_], _, hlen => exact absurd hlen (by simp; omega)
        | p0 :: p1 :: ps, hres, hlen =>
          obtain ⟨np, hnp⟩ : ∃ x, (p0 :: p1 :: ps).length = x := ⟨_, rfl⟩
          have hp3 : 3 ≤ np := by omega
          
          have hds : dstN (p0 :: p1 :: ps) = (BitVec.setWidth 16 p0) ||| ((BitVec.setWidth 16 p1) <<< 8) := rfl
          obtain ⟨ck, hck⟩ : ∃ x, checkN ⟨iv, k2, fc, W8 (o0 &&& 127#8), ((BitVec.setWidth 32 o1) ||| ((BitVec.setWidth 32 o2) <<< 8)) ||| ((BitVec.setWidth 32 o3) <<< 16), (BitVec.setWidth 16 o4) ||| ((BitVec.setWidth 16 o5) <<< 8), (BitVec.setWidth 16 p0) ||| ((BitVec.setWidth 16 p1) <<< 8), ps⟩ = x := ⟨_, rfl⟩
          have hend : endN ⟨iv, k2, fc, W8 (o0 &&& 127#8), ((BitVec.setWidth 32 o1) ||| ((BitVec.setWidth 32 o2) <<< 8)) ||| ((BitVec.setWidth 32 o3) <<< 16), (BitVec.setWidth 16 o4) ||| ((BitVec.setWidth 16 o5) <<< 8), 0#16, []⟩ (p0 :: p1 :: ps, 0) = if ck ≠ 0 then (np0, ck) else (⟨iv, k2, fc, W8 (o0 &&& 127#8), ((BitVec.setWidth 32 o1) ||| ((BitVec.setWidth 32 o2) <<< 8)) ||| ((BitVec.setWidth 32 o3) <<< 16), (BitVec.setWidth 16 o4) ||| ((BitVec.setWidth 16 o5) <<< 8), (BitVec.setWidth 16 p0) ||| ((BitVec.setWidth 16 p1) <<< 8), ps⟩, 0) := by
            unfold endN
            dsimp only
            rw [if_neg (by decide), hds]
            show (if checkN ⟨iv, k2, fc, W8 (o0 &&& 127#8), ((BitVec.setWidth 32 o1) ||| ((BitVec.setWidth 32 o2) <<< 8)) ||| ((BitVec.setWidth 32 o3) <<< 16), (BitVec.setWidth 16 o4) ||| ((BitVec.setWidth 16 o5) <<< 8), (BitVec.setWidth 16 p0) ||| ((BitVec.setWidth 16 p1) <<< 8), ps⟩ ≠ 0 then (np0, checkN ⟨iv, k2, fc, W8 (o0 &&& 127#8), ((BitVec.setWidth 32 o1) ||| ((BitVec.setWidth 32 o2) <<< 8)) ||| ((BitVec.setWidth 32 o3) <<< 16), (BitVec.setWidth 16 o4) ||| ((BitVec.setWidth 16 o5) <<< 8), (BitVec.setWidth 16 p0) ||| ((BitVec.setWidth 16 p1) <<< 8), ps⟩) else (⟨iv, k2, fc, W8 (o0 &&& 127#8), ((BitVec.setWidth 32 o1) ||| ((BitVec.setWidth 32 o2) <<< 8)) ||| ((BitVec.setWidth 32 o3) <<< 16), (BitVec.setWidth 16 o4) ||| ((BitVec.setWidth 16 o5) <<< 8), (BitVec.setWidth 16 p0) ||| ((BitVec.setWidth 16 p1) <<< 8), ps⟩, 0)) = _
            rw [hck]
          rw [hend]
          by_cases h0 : ck = 0
          · rw [if_neg (fun h => h h0)]
            exact net_Decode_o k1 k3 k4 k5 k2 iv pb po n d b0 x0 x1 x2 x3 x4 x5 sd o0 o1 o2 o3 o4 o5 fc non p0 p1 ps np w RB0 RX0 hs0 hr0 hn hd h14 h29 hnd h4 hop hfc hnon hres hnp hp3 (by rw [hck, h0])
          · rw [if_pos h0]
            exact net_Decode_c k1 k3 k4 k5 k2 iv pb po n d b0 x0 x1 x2 x3 x4 x5 sd o0 o1 o2 o3 o4 o5 fc non p0 p1 ps np ck w RB0 RX0 hs0 hr0 hn hd h14 h29 hnd h4 hop hfc hnon hres hnp hp3 hck h0
      · have e : endN ⟨iv, k2, fc, W8 (o0 &&& 127#8), ((BitVec.setWidth 32 o1) ||| ((BitVec.setWidth 32 o2) <<< 8)) ||| ((BitVec.setWidth 32 o3) <<< 16), (BitVec.setWidth 16 o4) ||| ((BitVec.setWidth 16 o5) <<< 8), 0#16, []⟩ (pl, en) = (np0, en) := by unfold endN; rw [if_pos he]
        rw [e]
        exact net_Decode_e k1 k3 k4 k5 k2 iv pb po n d b0 x0 x1 x2 x3 x4 x5 sd o0 o1 o2 o3 o4 o5 fc non pl en w RB0 RX0 hs0 hr0 hn hd h14 h29 hnd h4 hop hfc hnon hres he
    · have e : decN ⟨k1, k2, k3, k4, k5⟩ iv (b0 :: x0 :: x1 :: x2 :: x3 :: x4 :: x5 :: sd) = (np0, 17) := by unfold decN; rw [if_neg h1, if_neg h2]; exact if_pos (.inr h4)
      rw [e]
      exact net_Decode_h2 k1 k3 k4 k5 k2 iv pb po n d b0 x0 x1 x2 x3 x4 x5 sd w RB0 RX0 hs0 hr0 hn hd h14 h29 h3 h4
  · have e : decN ⟨k1, k2, k3, k4, k5⟩ iv (b0 :: x0 :: x1 :: x2 :: x3 :: x4 :: x5 :: sd) = (np0, 17) := by unfold decN; rw [if_neg h1, if_neg h2]; exact if_pos (.inl h3)
    rw [e]
    exact net_Decode_h1 k1 k2 k3 k4 k5 _ iv pb po n d b0 x0 x1 x2 x3 x4 x5 sd w RB0 RX0 hs0 hr0 hn hd h14 h29 rfl h3
theorem r48_Hint (B : Option Addr) (d : Nat) (bs : List (BitVec 8)) (w : World) (hb : RdB w B bs) :
    Calls Try.prog 37 #[.slice B bs.length d] w fun e w' => e = .returned (.tuple #[.int .i64 (hintN bs).1, .int .i64 (hintN bs).2.1, .int .i64 (hintN bs).2.2]) ∧ Below w.heap.size w w' := by
  rcases bs with _ | ⟨b0, bs⟩
  · exact r48_Hint_0 B d w
  · obtain ⟨pb, po, rfl, hlt, _⟩ := Rd.open_ hb (by rw [bcells_length]; exact Nat.succ_pos _)
    have RB0 : Rg pb po [.int .u8 (W8 b0)] w := by have := rg_at hb 0 1 [.int .u8 (W8 b0)] rfl (Nat.succ_pos _); rwa [Nat.add_zero] at this
    exact r48_Hint_f pb po (b0 :: bs).length d b0 w RB0 (Nat.succ_pos _)
set_option maxHeartbeats 1000000 in
theorem r48_Decode (k : NK) (iv : BitVec 32) (B : Option Addr) (d : Nat) (bs : List (BitVec 8)) (w : World) (hb : RdB w B bs) (hd0 : bs.length ≤ d) :
    Calls Try.prog 35 #[.agg #[.int .u64 (W64 k.key), .int .i64 k.nid, .int .u64 (W64 k.enc), .int .u64 (W64 k.hide), .int .u64 (W64 k.bea)], .int .u32 (W32 iv), .slice B bs.length d] w (RetN w (decN k iv bs)) := by
  obtain ⟨k1, k2, k3, k4, k5⟩ := k
  dsimp only
  by_cases h1 : bs.length < 14
  · have e : decN ⟨k1, k2, k3, k4, k5⟩ iv bs = (np0, 3) := by unfold decN; rw [if_pos h1]
    rw [e]
    exact r48_Decode_s k1 k2 k3 k4 k5 iv B bs.length d w h1
  by_cases h2 : 29 < bs.length
  · have e : decN ⟨k1, k2, k3, k4, k5⟩ iv bs = (np0, 4) := by unfold decN; rw [if_neg h1, if_pos h2]
    rw [e]
    exact r48_Decode_l k1 k2 k3 k4 k5 iv B bs.length d w h2
  obtain ⟨b0, x0, x1, x2, x3, x4, x5, sd, rfl⟩ := list7 (show 14 ≤ bs.length by omega)
  obtain ⟨pb, po, rfl, hlt, _⟩ := Rd.open_ hb (by rw [bcells_length]; exact Nat.succ_pos _)
  have RB0 : Rg pb po [.int .u8 (W8 b0)] w := by have := rg_at hb 0 1 [.int .u8 (W8 b0)] rfl (Nat.succ_pos _); rwa [Nat.add_zero] at this
  have RX0 : Rg pb (po + 1) [.int .u8 (W8 x0), .int .u8 (W8 x1), .int .u8 (W8 x2), .int .u8 (W8 x3), .int .u8 (W8 x4), .int .u8 (W8 x5)] w := rg_at hb 1 6 _ rfl (Nat.succ_pos _)
  have hs0 : RdB w (some ⟨pb, po + 7, none⟩) sd := rd_cut hb hlt 7
  have hr0 : RdB w (some ⟨pb, po + 1, none⟩) [x0, x1, x2, x3, x4, x5] := (rd_cut hb hlt 1).take 6
  obtain ⟨n, hnn⟩ : ∃ n, (b0 :: x0 :: x1 :: x2 :: x3 :: x4 :: x5 :: sd).length = n := ⟨_, rfl⟩
  have hn : sd.length + 7 = n := by rw [← hnn]; rfl
  have hd : n ≤ d := by rw [← hnn]; exact hd0
  have h14 : 14 ≤ n := by omega
  have h29 : n ≤ 29 := by omega
  rw [hnn]
  by_cases h3 : W8 (b0 &&& 127#8) = k2
  · by_cases h4 : W8 (b0 >>> 7) = W32 (iv &&& 1#32)
    · have hnd := h3
      obtain ⟨o0, o1, o2, o3, o4, o5, hop⟩ := list6 (l := xorB [x0, x1, x2, x3, x4, x5] (maskL ⟨k1, k2, k3, k4, k5⟩ iv sd)) (by rw [xorB_length, maskL_length]; rfl)
      obtain ⟨fc, hfc⟩ : ∃ x, (o0 &&& 128#8 != 0#8) = x := ⟨_, rfl⟩
      obtain ⟨v1, hv1⟩ : ∃ x, leVal [o1, o2, o3] = x := ⟨_, rfl⟩
      obtain ⟨v2, hv2⟩ : ∃ x, leVal [o4, o5] = x := ⟨_, rfl⟩
      obtain ⟨non, hnon⟩ : ∃ x, nonceK 0 (BitVec.setWidth 16 v2) (BitVec.setWidth 32 v1) iv = x := ⟨_, rfl⟩
      have hpre : preN k2 iv [o0, o1, o2, o3, o4, o5] = ⟨iv, k2, fc, W8 (o0 &&& 127#8), BitVec.setWidth 32 v1, BitVec.setWidth 16 v2, 0#16, []⟩ := by
        unfold preN
        dsimp only
        rw [hfc, ← low_seq, ← low_two, hv1, hv2]
      obtain ⟨⟨pl, en⟩, hres⟩ : ∃ r, openB k3 non [o0] sd = r := ⟨_, rfl⟩
      have hnb : ¬ badHint ⟨k1, k2, k3, k4, k5⟩ iv ((b0 :: x0 :: x1 :: x2 :: x3 :: x4 :: x5 :: sd).headD 0#8) := fun h => Or.elim (show W8 (b0 &&& 127#8) ≠ k2 ∨ W8 (b0 >>> 7) ≠ W32 (iv &&& 1#32) from h) (fun h => h h3) (fun h => h h4)
      have hdec : decN ⟨k1, k2, k3, k4, k5⟩ iv (b0 :: x0 :: x1 :: x2 :: x3 :: x4 :: x5 :: sd) = endN ⟨iv, k2, fc, W8 (o0 &&& 127#8), BitVec.setWidth 32 v1, BitVec.setWidth 16 v2, 0#16, []⟩ (pl, en) := by
        unfold decN
        have hdo : decOpen ⟨k1, k2, k3, k4, k5⟩ iv (b0 :: x0 :: x1 :: x2 :: x3 :: x4 :: x5 :: sd) = [o0, o1, o2, o3, o4, o5] := hop
        rw [if_neg h1, if_neg h2, if_neg hnb, hdo]
        dsimp only
        rw [hpre]
        dsimp only
        rw [hnon]
        exact congrArg _ hres
      rw [hdec]
      by_cases he : en = 0
      · subst he
        have hlen := open_len _ _ _ _ _ hres
        match pl, hres, hlen with
        | [], _, hlen => exact absurd hlen (by simp; omega)
        | [_], _, hlen => exact absurd hlen (by simp; omega)
        | p0 :: p1 :: ps, hres, hlen =>
          obtain ⟨np, hnp⟩ : ∃ x, (p0 :: p1 :: ps).length = x := ⟨_, rfl⟩
          have hp3 : 3 ≤ np := by omega
          obtain ⟨v3, hv3⟩ : ∃ x, leVal [p0, p1] = x := ⟨_, rfl⟩
          have hds : dstN (p0 :: p1 :: ps) = BitVec.setWidth 16 v3 := by rw [← hv3, low_two]; rfl
          obtain ⟨ck, hck⟩ : ∃ x, checkN ⟨iv, k2, fc, W8 (o0 &&& 127#8), BitVec.setWidth 32 v1, BitVec.setWidth 16 v2, BitVec.setWidth 16 v3, ps⟩ = x := ⟨_, rfl⟩
          have hend : endN ⟨iv, k2, fc, W8 (o0 &&& 127#8), BitVec.setWidth 32 v1, BitVec.setWidth 16 v2, 0#16, []⟩ (p0 :: p1 :: ps, 0) = if ck ≠ 0 then (np0, ck) else (⟨iv, k2, fc, W8 (o0 &&& 127#8), BitVec.setWidth 32 v1, BitVec.setWidth 16 v2, BitVec.setWidth 16 v3, ps⟩, 0) := by
            unfold endN
            dsimp only
            rw [if_neg (by decide), hds]
            show (if checkN ⟨iv, k2, fc, W8 (o0 &&& 127#8), BitVec.setWidth 32 v1, BitVec.setWidth 16 v2, BitVec.setWidth 16 v3, ps⟩ ≠ 0 then (np0, checkN ⟨iv, k2, fc, W8 (o0 &&& 127#8), BitVec.setWidth 32 v1, BitVec.setWidth 16 v2, BitVec.setWidth 16 v3, ps⟩) else (⟨iv, k2, fc, W8 (o0 &&& 127#8), BitVec.setWidth 32 v1, BitVec.setWidth 16 v2, BitVec.setWidth 16 v3, ps⟩, 0)) = _
            rw [hck]
          rw [hend]
          by_cases h0 : ck = 0
          · rw [if_neg (fun h => h h0)]
            exact r48_Decode_o k1 k3 k4 k5 k2 iv pb po n d b0 x0 x1 x2 x3 x4 x5 sd o0 o1 o2 o3 o4 o5 fc non v1 v2 p0 p1 ps np v3 w RB0 RX0 hs0 hr0 hn hd h14 h29 hnd h4 hop hfc hnon hv1 hv2 hres hnp hp3 hv3 (by rw [hck, h0])
          · rw [if_pos h0]
            exact r48_Decode_c k1 k3 k4 k5 k2 iv pb po n d b0 x0 x1 x2 x3 x4 x5 sd o0 o1 o2 o3 o4 o5 fc non v1 v2 p0 p1 ps np v3 ck w RB0 RX0 hs0 hr0 hn hd h14 h29 hnd h4 hop hfc hnon hv1 hv2 hres hnp hp3 hv3 hck h0
      · have e : endN ⟨iv, k2, fc, W8 (o0 &&& 127#8), BitVec.setWidth 32 v1, BitVec.setWidth 16 v2, 0#16, []⟩ (pl, en) = (np0, en) := by unfold endN; rw [if_pos he]
        rw [e]
        exact r48_Decode_e k1 k3 k4 k5 k2 iv pb po n d b0 x0 x1 x2 x3 x4 x5 sd o0 o1 o2 o3 o4 o5 fc non v1 v2 pl en w RB0 RX0 hs0 hr0 hn hd h14 h29 hnd h4 hop hfc hnon hv1 hv2 hres he
    · have e : decN ⟨k1, k2, k3, k4, k5⟩ iv (b0 :: x0 :: x1 :: x2 :: x3 :: x4 :: x5 :: sd) = (np0, 17) := by unfold decN; rw [if_neg h1, if_neg h2]; exact if_pos (.inr h4)
      rw [e]
      exact r48_Decode_h2 k1 k3 k4 k5 k2 iv pb po n d b0 x0 x1 x2 x3 x4 x5 sd w RB0 RX0 hs0 hr0 hn hd h14 h29 h3 h4
  · have e : decN ⟨k1, k2, k3, k4, k5⟩ iv (b0 :: x0 :: x1 :: x2 :: x3 :: x4 :: x5 :: sd) = (np0, 17) := by unfold decN; rw [if_neg h1, if_neg h2]; exact if_pos (.inl h3)
    rw [e]
    exact r48_Decode_h1 k1 k2 k3 k4 k5 _ iv pb po n d b0 x0 x1 x2 x3 x4 x5 sd w RB0 RX0 hs0 hr0 hn hd h14 h29 rfl h3
set_option maxHeartbeats 4000000 in
theorem r48_Same_f (iv : BitVec 32) (nid : Int) (ctl : Bool) (ttl : Int) (seq : BitVec 32) (src dst : BitVec 16) (A : Option Addr) (c : Nat) (pay : List (BitVec 8)) (iv2 : BitVec 32) (nid2 : Int) (ctl2 : Bool) (ttl2 : Int) (seq2 : BitVec 32) (src2 dst2 : BitVec 16) (A2 : Option Addr) (c2 : Nat) (pay2 : List (BitVec 8)) (w : World) (hp1 : RdB w A pay) (hp2 : RdB w A2 pay2) :
    Calls Try.prog 38 #[.agg #[.int .u32 (W32 iv), .int .i64 nid, .bool ctl, .int .i64 ttl, .int .u32 (W32 seq), .int .u16 (W16 src), .int .u16 (W16 dst), .slice A pay.length c], .agg #[.int .u32 (W32 iv2), .int .i64 nid2, .bool ctl2, .int .i64 ttl2, .int .u32 (W32 seq2), .int .u16 (W16 src2), .int .u16 (W16 dst2), .slice A2 pay2.length c2]] w (fun e w' => e = .returned (.bool (decide ((⟨iv, nid, ctl, ttl, seq, src, dst, pay⟩ : NP) = ⟨iv2, nid2, ctl2, ttl2, seq2, src2, dst2, pay2⟩))) ∧ Below w.heap.size w w') := by
  obtain ⟨r, hr⟩ : ∃ r, decide ((⟨iv, nid, ctl, ttl, seq, src, dst, pay⟩ : NP) = ⟨iv2, nid2, ctl2, ttl2, seq2, src2, dst2, pay2⟩) = r := ⟨_, rfl⟩
  rw [hr]
  have HR := Lib.hid hr
  clear hr
  go_enter Try.func38, Try.ntmps38
  have hB := Below.refl w.heap.size w
  go_wp2_with (first | (with_reducible refine stop_store ?_) | (with_reducible refine stop_box ?_) | (with_reducible refine stop_alloc ?_) | (with_reducible refine stop_bslice ?_))
  unfold Kept
  refine go_mem (ty := 44) (cs := #[.int .u32 (W32 iv), .int .i64 nid, .bool ctl, .int .i64 ttl, .int .u32 (W32 seq), .int .u16 (W16 src), .int .u16 (W16 dst), .slice A pay.length c]) (fun g => .pointer (some ⟨g, 0, none⟩)) rfl (by kernel_rfl) ?_
  intro g_1 w_2 z_6 l_5 hb_3 G_4
  have n_7 : w.heap.size ≤ g_1 := Nat.le_trans hB.size l_5
  replace hB := hB.trans (hb_3.mono hB.size)
  clear hb_3 l_5 z_6
  go_wp2_with (first | (with_reducible refine stop_store ?_) | (with_reducible refine stop_box ?_) | (with_reducible refine stop_alloc ?_) | (with_reducible refine stop_bslice ?_))
  unfold Kept
  refine go_mem (ty := 44) (cs := #[.int .u32 (W32 iv2), .int .i64 nid2, .bool ctl2, .int .i64 ttl2, .int .u32 (W32 seq2), .int .u16 (W16 src2), .int .u16 (W16 dst2), .slice A2 pay2.length c2]) (fun g => .pointer (some ⟨g, 0, none⟩)) rfl (by kernel_rfl) ?_
  intro g_8 w_9 z_13 l_12 hb_10 G_11
  have n_14 : g_1 < g_8 := Nat.lt_of_lt_of_le G_4.lt l_12
  have n_15 : w.heap.size ≤ g_8 := Nat.le_trans hB.size l_12
  replace G_4 := G_4.to hb_10 G_4.lt
  replace hB := hB.trans (hb_10.mono hB.size)
  clear hb_10 l_12 z_13
  by_cases hc_16 : iv = iv2
  ·
    subst hc_16
    by_cases hc_17 : (nid : Int) = nid2
    ·
      subst hc_17
      cases ctl
      case false =>
        skip
        cases ctl2
        case false =>
          skip
          by_cases hc_20 : (ttl : Int) = ttl2
          ·
            subst hc_20
            by_cases hc_21 : seq = seq2
            ·
              subst hc_21
              by_cases hc_22 : src = src2
              ·
                subst hc_22
                by_cases hc_23 : dst = dst2
                ·
                  subst hc_23
                  by_cases hc_24 : pay = pay2
                  ·
                    have kc_24 := Lib.hid hc_24
                    clear hc_24
                    have ld_25 : w_9.cell? ⟨g_1, 0, none⟩ = some (.int .u32 (W32 iv)) := G_4.cell 0
                    have ld_26 : w_9.cell? ⟨g_8, 0, none⟩ = some (.int .u32 (W32 iv)) := G_11.cell 0
                    have ld_27 : w_9.cell? ⟨g_1, 1, none⟩ = some (.int .i64 nid) := G_4.cell 1
                    have ld_28 : w_9.cell? ⟨g_8, 1, none⟩ = some (.int .i64 nid) := G_11.cell 1
                    have ld_29 : w_9.cell? ⟨g_1, 2, none⟩ = some (.bool false) := G_4.cell 2
                    have ld_30 : w_9.cell? ⟨g_8, 2, none⟩ = some (.bool false) := G_11.cell 2
                    have ld_31 : w_9.cell? ⟨g_1, 3, none⟩ = some (.int .i64 ttl) := G_4.cell 3
                    have ld_32 : w_9.cell? ⟨g_8, 3, none⟩ = some (.int .i64 ttl) := G_11.cell 3
                    have ld_33 : w_9.cell? ⟨g_1, 4, none⟩ = some (.int .u32 (W32 seq)) := G_4.cell 4
                    have ld_34 : w_9.cell? ⟨g_8, 4, none⟩ = some (.int .u32 (W32 seq)) := G_11.cell 4
                    have ld_35 : w_9.cell? ⟨g_1, 5, none⟩ = some (.int .u16 (W16 src)) := G_4.cell 5
                    have ld_36 : w_9.cell? ⟨g_8, 5, none⟩ = some (.int .u16 (W16 src)) := G_11.cell 5
                    have ld_37 : w_9.cell? ⟨g_1, 6, none⟩ = some (.int .u16 (W16 dst)) := G_4.cell 6
                    have ld_38 : w_9.cell? ⟨g_8, 6, none⟩ = some (.int .u16 (W16 dst)) := G_11.cell 6
                    have ld_39 : w_9.cell? ⟨g_1, 7, none⟩ = some (.slice A pay.length c) := G_4.cell 7
                    have ld_40 : w_9.cell? ⟨g_8, 7, none⟩ = some (.slice A2 pay2.length c2) := G_11.cell 7
                    go_wp2_with (first | (with_reducible refine stop_store ?_) | (with_reducible refine stop_box ?_) | (with_reducible refine stop_alloc ?_) | (with_reducible refine stop_bslice ?_))
                    refine (same_t kc_24.out (Rd.to hp1 hB) (Rd.to hp2 hB) rfl rfl).mono ?_; rintro e w_41 ⟨rfl, rfl⟩
                    clear ld_25 ld_26 ld_27 ld_28 ld_29 ld_30 ld_31 ld_32 ld_33 ld_34 ld_35 ld_36 ld_37 ld_38 ld_39 ld_40
                    go_wp2_with (first | (with_reducible refine stop_store ?_) | (with_reducible refine stop_box ?_) | (with_reducible refine stop_alloc ?_) | (with_reducible refine stop_bslice ?_))
                    go_returns
                    refine ⟨?_, hB⟩
                    have er : r = true := by have q0 := kc_24.out; rw [← HR.out]; simp_all
                    rw [er]; rfl
                  ·
                    have kc_24 := Lib.hid hc_24
                    clear hc_24
                    have ld_43 : w_9.cell? ⟨g_1, 0, none⟩ = some (.int .u32 (W32 iv)) := G_4.cell 0
                    have ld_44 : w_9.cell? ⟨g_8, 0, none⟩ = some (.int .u32 (W32 iv)) := G_11.cell 0
                    have ld_45 : w_9.cell? ⟨g_1, 1, none⟩ = some (.int .i64 nid) := G_4.cell 1
                    have ld_46 : w_9.cell? ⟨g_8, 1, none⟩ = some (.int .i64 nid) := G_11.cell 1
                    have ld_47 : w_9.cell? ⟨g_1, 2, none⟩ = some (.bool false) := G_4.cell 2
                    have ld_48 : w_9.cell? ⟨g_8, 2, none⟩ = some (.bool false) := G_11.cell 2
                    have ld_49 : w_9.cell? ⟨g_1, 3, none⟩ = some (.int .i64 ttl) := G_4.cell 3
                    have ld_50 : w_9.cell? ⟨g_8, 3, none⟩ = some (.int .i64 ttl) := G_11.cell 3
                    have ld_51 : w_9.cell? ⟨g_1, 4, none⟩ = some (.int .u32 (W32 seq)) := G_4.cell 4
                    have ld_52 : w_9.cell? ⟨g_8, 4, none⟩ = some (.int .u32 (W32 seq)) := G_11.cell 4
                    have ld_53 : w_9.cell? ⟨g_1, 5, none⟩ = some (.int .u16 (W16 src)) := G_4.cell 5
                    have ld_54 : w_9.cell? ⟨g_8, 5, none⟩ = some (.int .u16 (W16 src)) := G_11.cell 5
                    have ld_55 : w_9.cell? ⟨g_1, 6, none⟩ = some (.int .u16 (W16 dst)) := G_4.cell 6
                    have ld_56 : w_9.cell? ⟨g_8, 6, none⟩ = some (.int .u16 (W16 dst)) := G_11.cell 6
                    have ld_57 : w_9.cell? ⟨g_1, 7, none⟩ = some (.slice A pay.length c) := G_4.cell 7
                    have ld_58 : w_9.cell? ⟨g_8, 7, none⟩ = some (.slice A2 pay2.length c2) := G_11.cell 7
                    go_wp2_with (first | (with_reducible refine stop_store ?_) | (with_reducible refine stop_box ?_) | (with_reducible refine stop_alloc ?_) | (with_reducible refine stop_bslice ?_))
                    refine (same_f kc_24.out (Rd.to hp1 hB) (Rd.to hp2 hB) rfl rfl).mono ?_; rintro e w_59 ⟨rfl, rfl⟩
                    clear ld_43 ld_44 ld_45 ld_46 ld_47 ld_48 ld_49 ld_50 ld_51 ld_52 ld_53 ld_54 ld_55 ld_56 ld_57 ld_58
                    go_wp2_with (first | (with_reducible refine stop_store ?_) | (with_reducible refine stop_box ?_) | (with_reducible refine stop_alloc ?_) | (with_reducible refine stop_bslice ?_))
                    go_returns
                    refine ⟨?_, hB⟩
                    have er : r = false := by have q0 := kc_24.out; rw [← HR.out, decide_eq_false]; intro h; simp only [NP.mk.injEq] at h; obtain ⟨h1, h2, h3, h4, h5, h6, h7, h8⟩ := h; simp_all
                    rw [er]; rfl
                ·
                  have ec_23 : ((W16 dst : Int) == W16 dst2) = false := by have this : (W16 dst == W16 dst2) = false := (by rw [W16_beq]; simpa using hc_23); exact this
                  have ec_23n : ((W16 dst : Int) != W16 dst2) = true := by have this : (W16 dst != W16 dst2) = true := (by rw [W16_bne]; simpa using hc_23); exact this
                  have kc_23 := Lib.hid hc_23
                  clear hc_23
                  have ld_61 : w_9.cell? ⟨g_1, 0, none⟩ = some (.int .u32 (W32 iv)) := G_4.cell 0
                  have ld_62 : w_9.cell? ⟨g_8, 0, none⟩ = some (.int .u32 (W32 iv)) := G_11.cell 0
                  have ld_63 : w_9.cell? ⟨g_1, 1, none⟩ = some (.int .i64 nid) := G_4.cell 1
                  have ld_64 : w_9.cell? ⟨g_8, 1, none⟩ = some (.int .i64 nid) := G_11.cell 1
                  have ld_65 : w_9.cell? ⟨g_1, 2, none⟩ = some (.bool false) := G_4.cell 2
                  have ld_66 : w_9.cell? ⟨g_8, 2, none⟩ = some (.bool false) := G_11.cell 2
                  have ld_67 : w_9.cell? ⟨g_1, 3, none⟩ = some (.int .i64 ttl) := G_4.cell 3
                  have ld_68 : w_9.cell? ⟨g_8, 3, none⟩ = some (.int .i64 ttl) := G_11.cell 3
                  have ld_69 : w_9.cell? ⟨g_1, 4, none⟩ = some (.int .u32 (W32 seq)) := G_4.cell 4
                  have ld_70 : w_9.cell? ⟨g_8, 4, none⟩ = some (.int .u32 (W32 seq)) := G_11.cell 4
                  have ld_71 : w_9.cell? ⟨g_1, 5, none⟩ = some (.int .u16 (W16 src)) := G_4.cell 5
                  have ld_72 : w_9.cell? ⟨g_8, 5, none⟩ = some (.int .u16 (W16 src)) := G_11.cell 5
                  have ld_73 : w_9.cell? ⟨g_1, 6, none⟩ = some (.int .u16 (W16 dst)) := G_4.cell 6
                  have ld_74 : w_9.cell? ⟨g_8, 6, none⟩ = some (.int .u16 (W16 dst2)) := G_11.cell 6
                  go_wp2_with (first | (with_reducible refine stop_store ?_) | (with_reducible refine stop_box ?_) | (with_reducible refine stop_alloc ?_) | (with_reducible refine stop_bslice ?_))
                  go_returns
                  refine ⟨?_, hB⟩
                  have er : r = false := by have q0 := kc_23.out; rw [← HR.out, decide_eq_false]; intro h; simp only [NP.mk.injEq] at h; obtain ⟨h1, h2, h3, h4, h5, h6, h7, h8⟩ := h; simp_all
                  rw [er]; rfl
              ·
                have ec_22 : ((W16 src : Int) == W16 src2) = false := by have this : (W16 src == W16 src2) = false := (by rw [W16_beq]; simpa using hc_22); exact this
                have ec_22n : ((W16 src : Int) != W16 src2) = true := by have this : (W16 src != W16 src2) = true := (by rw [W16_bne]; simpa using hc_22); exact this
                have kc_22 := Lib.hid hc_22
                clear hc_22
                have ld_75 : w_9.cell? ⟨g_1, 0, none⟩ = some (.int .u32 (W32 iv)) := G_4.cell 0
                have ld_76 : w_9.cell? ⟨g_8, 0, none⟩ = some (.int .u32 (W32 iv)) := G_11.cell 0
                have ld_77 : w_9.cell? ⟨g_1, 1, none⟩ = some (.int .i64 nid) := G_4.cell 1
                have ld_78 : w_9.cell? ⟨g_8, 1, none⟩ = some (.int .i64 nid) := G_11.cell 1
                have ld_79 : w_9.cell? ⟨g_1, 2, none⟩ = some (.bool false) := G_4.cell 2
                have ld_80 : w_9.cell? ⟨g_8, 2, none⟩ = some (.bool false) := G_11.cell 2
                have ld_81 : w_9.cell? ⟨g_1, 3, none⟩ = some (.int .i64 ttl) := G_4.cell 3
                have ld_82 : w_9.cell? ⟨g_8, 3, none⟩ = some (.int .i64 ttl) := G_11.cell 3
                have ld_83 : w_9.cell? ⟨g_1, 4, none⟩ = some (.int .u32 (W32 seq)) := G_4.cell 4
                have ld_84 : w_9.cell? ⟨g_8, 4, none⟩ = some (.int .u32 (W32 seq)) := G_11.cell 4
                have ld_85 : w_9.cell? ⟨g_1, 5, none⟩ = some (.int .u16 (W16 src)) := G_4.cell 5
                have ld_86 : w_9.cell? ⟨g_8, 5, none⟩ = some (.int .u16 (W16 src2)) := G_11.cell 5
                go_wp2_with (first | (with_reducible refine stop_store ?_) | (with_reducible refine stop_box ?_) | (with_reducible refine stop_alloc ?_) | (with_reducible refine stop_bslice ?_))
                go_returns
                refine ⟨?_, hB⟩
                have er : r = false := by have q0 := kc_22.out; rw [← HR.out, decide_eq_false]; intro h; simp only [NP.mk.injEq] at h; obtain ⟨h1, h2, h3, h4, h5, h6, h7, h8⟩ := h; simp_all
                rw [er]; rfl
            ·
              have ec_21 : ((W32 seq : Int) == W32 seq2) = false := by have this : (W32 seq == W32 seq2) = false := (by rw [W32_beq]; simpa using hc_21); exact this
              have ec_21n : ((W32 seq : Int) != W32 seq2) = true := by have this : (W32 seq != W32 seq2) = true := (by rw [W32_bne]; simpa using hc_21); exact this
              have kc_21 := Lib.hid hc_21
              clear hc_21
              have ld_87 : w_9.cell? ⟨g_1, 0, none⟩ = some (.int .u32 (W32 iv)) := G_4.cell 0
              have ld_88 : w_9.cell? ⟨g_8, 0, none⟩ = some (.int .u32 (W32 iv)) := G_11.cell 0
              have ld_89 : w_9.cell? ⟨g_1, 1, none⟩ = some (.int .i64 nid) := G_4.cell 1
              have ld_90 : w_9.cell? ⟨g_8, 1, none⟩ = some (.int .i64 nid) := G_11.cell 1
              have ld_91 : w_9.cell? ⟨g_1, 2, none⟩ = some (.bool false) := G_4.cell 2
              have ld_92 : w_9.cell? ⟨g_8, 2, none⟩ = some (.bool false) := G_11.cell 2
              have ld_93 : w_9.cell? ⟨g_1, 3, none⟩ = some (.int .i64 ttl) := G_4.cell 3
              have ld_94 : w_9.cell? ⟨g_8, 3, none⟩ = some (.int .i64 ttl) := G_11.cell 3
              have ld_95 : w_9.cell? ⟨g_1, 4, none⟩ = some (.int .u32 (W32 seq)) := G_4.cell 4
              have ld_96 : w_9.cell? ⟨g_8, 4, none⟩ = some (.int .u32 (W32 seq2)) := G_11.cell 4
              go_wp2_with (first | (with_reducible refine stop_store ?_) | (with_reducible refine stop_box ?_) | (with_reducible refine stop_alloc ?_) | (with_reducible refine stop_bslice ?_))
              go_returns
              refine ⟨?_, hB⟩
              have er : r = false := by have q0 := kc_21.out; rw [← HR.out, decide_eq_false]; intro h; simp only [NP.mk.injEq] at h; obtain ⟨h1, h2, h3, h4, h5, h6, h7, h8⟩ := h; simp_all
              rw [er]; rfl
          ·
            have ec_20 : ((ttl : Int) == ttl2) = false := by simpa using hc_20
            have ec_20n : ((ttl : Int) != ttl2) = true := by simpa using hc_20
            have kc_20 := Lib.hid hc_20
            clear hc_20
            have ld_97 : w_9.cell? ⟨g_1, 0, none⟩ = some (.int .u32 (W32 iv)) := G_4.cell 0
            have ld_98 : w_9.cell? ⟨g_8, 0, none⟩ = some (.int .u32 (W32 iv)) := G_11.cell 0
            have ld_99 : w_9.cell? ⟨g_1, 1, none⟩ = some (.int .i64 nid) := G_4.cell 1
            have ld_100 : w_9.cell? ⟨g_8, 1, none⟩ = some (.int .i64 nid) := G_11.cell 1
            have ld_101 : w_9.cell? ⟨g_1, 2, none⟩ = some (.bool false) := G_4.cell 2
            have ld_102 : w_9.cell? ⟨g_8, 2, none⟩ = some (.bool false) := G_11.cell 2
            have ld_103 : w_9.cell? ⟨g_1, 3, none⟩ = some (.int .i64 ttl) := G_4.cell 3
            have ld_104 : w_9.cell? ⟨g_8, 3, none⟩ = some (.int .i64 ttl2) := G_11.cell 3
            go_wp2_with (first | (with_reducible refine stop_store ?_) | (with_reducible refine stop_box ?_) | (with_reducible refine stop_alloc ?_) | (with_reducible refine stop_bslice ?_))
            go_returns
            refine ⟨?_, hB⟩
            have er : r = false := by have q0 := kc_20.out; rw [← HR.out, decide_eq_false]; intro h; simp only [NP.mk.injEq] at h; obtain ⟨h1, h2, h3, h4, h5, h6, h7, h8⟩ := h; simp_all
            rw [er]; rfl
        case true =>
          skip
          have ld_105 : w_9.cell? ⟨g_1, 0, none⟩ = some (.int .u32 (W32 iv)) := G_4.cell 0
          have ld_106 : w_9.cell? ⟨g_8, 0, none⟩ = some (.int .u32 (W32 iv)) := G_11.cell 0
          have ld_107 : w_9.cell? ⟨g_1, 1, none⟩ = some (.int .i64 nid) := G_4.cell 1
          have ld_108 : w_9.cell? ⟨g_8, 1, none⟩ = some (.int .i64 nid) := G_11.cell 1
          have ld_109 : w_9.cell? ⟨g_1, 2, none⟩ = some (.bool false) := G_4.cell 2
          have ld_110 : w_9.cell? ⟨g_8, 2, none⟩ = some (.bool true) := G_11.cell 2
          go_wp2_with (first | (with_reducible refine stop_store ?_) | (with_reducible refine stop_box ?_) | (with_reducible refine stop_alloc ?_) | (with_reducible refine stop_bslice ?_))
          go_returns
          refine ⟨?_, hB⟩
          have er : r = false := by  rw [← HR.out, decide_eq_false]; intro h; simp only [NP.mk.injEq] at h; obtain ⟨h1, h2, h3, h4, h5, h6, h7, h8⟩ := h; simp_all
          rw [er]; rfl
      case true =>
        skip
        cases ctl2
        case false =>
          skip
          have ld_112 : w_9.cell? ⟨g_1, 0, none⟩ = some (.int .u32 (W32 iv)) := G_4.cell 0
          have ld_113 : w_9.cell? ⟨g_8, 0, none⟩ = some (.int .u32 (W32 iv)) := G_11.cell 0
          have ld_114 : w_9.cell? ⟨g_1, 1, none⟩ = some (.int .i64 nid) := G_4.cell 1
          have ld_115 : w_9.cell? ⟨g_8, 1, none⟩ = some (.int .i64 nid) := G_11.cell 1
          have ld_116 : w_9.cell? ⟨g_1, 2, none⟩ = some (.bool true) := G_4.cell 2
          have ld_117 : w_9.cell? ⟨g_8, 2, none⟩ = some (.bool false) := G_11.cell 2
          go_wp2_with (first | (with_reducible refine stop_store ?_) | (with_reducible refine stop_box ?_) | (with_reducible refine stop_alloc ?_) | (with_reducible refine stop_bslice ?_))
          go_returns
          refine ⟨?_, hB⟩
          have er : r = false := by  rw [← HR.out, decide_eq_false]; intro h; simp only [NP.mk.injEq] at h; obtain ⟨h1, h2, h3, h4, h5, h6, h7, h8⟩ := h; simp_all
          rw [er]; rfl
        case true =>
          skip
          by_cases hc_118 : (ttl : Int) = ttl2
          ·
            subst hc_118
            by_cases hc_119 : seq = seq2
            ·
              subst hc_119
              by_cases hc_120 : src = src2
              ·
                subst hc_120
                by_cases hc_121 : dst = dst2
                ·
                  subst hc_121
                  by_cases hc_122 : pay = pay2
                  ·
                    have kc_122 := Lib.hid hc_122
                    clear hc_122
                    have ld_123 : w_9.cell? ⟨g_1, 0, none⟩ = some (.int .u32 (W32 iv)) := G_4.cell 0
                    have ld_124 : w_9.cell? ⟨g_8, 0, none⟩ = some (.int .u32 (W32 iv)) := G_11.cell 0
                    have ld_125 : w_9.cell? ⟨g_1, 1, none⟩ = some (.int .i64 nid) := G_4.cell 1
                    have ld_126 : w_9.cell? ⟨g_8, 1, none⟩ = some (.int .i64 nid) := G_11.cell 1
                    have ld_127 : w_9.cell? ⟨g_1, 2, none⟩ = some (.bool true) := G_4.cell 2
                    have ld_128 : w_9.cell? ⟨g_8, 2, none⟩ = some (.bool true) := G_11.cell 2
                    have ld_129 : w_9.cell? ⟨g_1, 3, none⟩ = some (.int .i64 ttl) := G_4.cell 3
                    have ld_130 : w_9.cell? ⟨g_8, 3, none⟩ = some (.int .i64 ttl) := G_11.cell 3
                    have ld_131 : w_9.cell? ⟨g_1, 4, none⟩ = some (.int .u32 (W32 seq)) := G_4.cell 4
                    have ld_132 : w_9.cell? ⟨g_8, 4, none⟩ = some (.int .u32 (W32 seq)) := G_11.cell 4
                    have ld_133 : w_9.cell? ⟨g_1, 5, none⟩ = some (.int .u16 (W16 src)) := G_4.cell 5
                    have ld_134 : w_9.cell? ⟨g_8, 5, none⟩ = some (.int .u16 (W16 src)) := G_11.cell 5
                    have ld_135 : w_9.cell? ⟨g_1, 6, none⟩ = some (.int .u16 (W16 dst)) := G_4.cell 6
                    have ld_136 : w_9.cell? ⟨g_8, 6, none⟩ = some (.int .u16 (W16 dst)) := G_11.cell 6
                    have ld_137 : w_9.cell? ⟨g_1, 7, none⟩ = some (.slice A pay.length c) := G_4.cell 7
                    have ld_138 : w_9.cell? ⟨g_8, 7, none⟩ = some (.slice A2 pay2.length c2) := G_11.cell 7
                    go_wp2_with (first | (with_reducible refine stop_store ?_) | (with_reducible refine stop_box ?_) | (with_reducible refine stop_alloc ?_) | (with_reducible refine stop_bslice ?_))
                    refine (same_t kc_122.out (Rd.to hp1 hB) (Rd.to hp2 hB) rfl rfl).mono ?_; rintro e w_139 ⟨rfl, rfl⟩
                    clear ld_123 ld_124 ld_125 ld_126 ld_127 ld_128 ld_129 ld_130 ld_131 ld_132 ld_133 ld_134 ld_135 ld_136 ld_137 ld_138
                    go_wp2_with (first | (with_reducible refine stop_store ?_) | (with_reducible refine stop_box ?_) | (with_reducible refine stop_alloc ?_) | (with_reducible refine stop_bslice ?_))
                    go_returns
                    refine ⟨?_, hB⟩
                    have er : r = true := by have q0 := kc_122.out; rw [← HR.out]; simp_all
                    rw [er]; rfl
                  ·
                    have kc_122 := Lib.hid hc_122
                    clear hc_122
                    have ld_141 : w_9.cell? ⟨g_1, 0, none⟩ = some (.int .u32 (W32 iv)) := G_4.cell 0
                    have ld_142 : w_9.cell? ⟨g_8, 0, none⟩ = some (.int .u32 (W32 iv)) := G_11.cell 0
                    have ld_143 : w_9.cell? ⟨g_1, 1, none⟩ = some (.int .i64 nid) := G_4.cell 1
                    have ld_144 : w_9.cell? ⟨g_8, 1, none⟩ = some (.int .i64 nid) := G_11.cell 1
                    have ld_145 : w_9.cell? ⟨g_1, 2, none⟩ = some (.bool true) := G_4.cell 2
                    have ld_146 : w_9.cell? ⟨g_8, 2, none⟩ = some (.bool true) := G_11.cell 2
                    have ld_147 : w_9.cell? ⟨g_1, 3, none⟩ = some (.int .i64 ttl) := G_4.cell 3
                    have ld_148 : w_9.cell? ⟨g_8, 3, none⟩ = some (.int .i64 ttl) := G_11.cell 3
                    have ld_149 : w_9.cell? ⟨g_1, 4, none⟩ = some (.int .u32 (W32 seq)) := G_4.cell 4
                    have ld_150 : w_9.cell? ⟨g_8, 4, none⟩ = some (.int .u32 (W32 seq)) := G_11.cell 4
                    have ld_151 : w_9.cell? ⟨g_1, 5, none⟩ = some (.int .u16 (W16 src)) := G_4.cell 5
                    have ld_152 : w_9.cell? ⟨g_8, 5, none⟩ = some (.int .u16 (W16 src)) := G_11.cell 5
                    have ld_153 : w_9.cell? ⟨g_1, 6, none⟩ = some (.int .u16 (W16 dst)) := G_4.cell 6
                    have ld_154 : w_9.cell? ⟨g_8, 6, none⟩ = some (.int .u16 (W16 dst)) := G_11.cell 6
                    have ld_155 : w_9.cell? ⟨g_1, 7, none⟩ = some (.slice A pay.length c) := G_4.cell 7
                    have ld_156 : w_9.cell? ⟨g_8, 7, none⟩ = some (.slice A2 pay2.length c2) := G_11.cell 7
                    go_wp2_with (first | (with_reducible refine stop_store ?_) | (with_reducible refine stop_box ?_) | (with_reducible refine stop_alloc ?_) | (with_reducible refine stop_bslice ?_))
                    refine (same_f kc_122.out (Rd.to hp1 hB) (Rd.to hp2 hB) rfl rfl).mono ?_; rintro e w_157 ⟨rfl, rfl⟩
                    clear ld_141 ld_142 ld_143 ld_144 ld_145 ld_146 ld_147 ld_148 ld_149 ld_150 ld_151 ld_152 ld_153 ld_154 ld_155 ld_156
                    go_wp2_with (first | (with_reducible refine stop_store ?_) | (with_reducible refine stop_box ?_) | (with_reducible refine stop_alloc ?_) | (with_reducible refine stop_bslice ?_))
                    go_returns
                    refine ⟨?_, hB⟩
                    have er : r = false := by have q0 := kc_122.out; rw [← HR.out, decide_eq_false]; intro h; simp only [NP.mk.injEq] at h; obtain ⟨h1, h2, h3, h4, h5, h6, h7, h8⟩ := h; simp_all
                    rw [er]; rfl
                ·
                  have ec_121 : ((W16 dst : Int) == W16 dst2) = false := by have this : (W16 dst == W16 dst2) = false := (by rw [W16_beq]; simpa using hc_121); exact this
                  have ec_121n : ((W16 dst : Int) != W16 dst2) = true := by have this : (W16 dst != W16 dst2) = true := (by rw [W16_bne]; simpa using hc_121); exact this
                  have kc_121 := Lib.hid hc_121
                  clear hc_121
                  have ld_159 : w_9.cell? ⟨g_1, 0, none⟩ = some (.int .u32 (W32 iv)) := G_4.cell 0
                  have ld_160 : w_9.cell? ⟨g_8, 0, none⟩ = some (.int .u32 (W32 iv)) := G_11.cell 0
                  have ld_161 : w_9.cell? ⟨g_1, 1, none⟩ = some (.int .i64 nid) := G_4.cell 1
                  have ld_162 : w_9.cell? ⟨g_8, 1, none⟩ = some (.int .i64 nid) := G_11.cell 1
                  have ld_163 : w_9.cell? ⟨g_1, 2, none⟩ = some (.bool true) := G_4.cell 2
                  have ld_164 : w_9.cell? ⟨g_8, 2, none⟩ = some (.bool true) := G_11.cell 2
                  have ld_165 : w_9.cell? ⟨g_1, 3, none⟩ = some (.int .i64 ttl) := G_4.cell 3
                  have ld_166 : w_9.cell? ⟨g_8, 3, none⟩ = some (.int .i64 ttl) := G_11.cell 3
                  have ld_167 : w_9.cell? ⟨g_1, 4, none⟩ = some (.int .u32 (W32 seq)) := G_4.cell 4
                  have ld_168 : w_9.cell? ⟨g_8, 4, none⟩ = some (.int .u32 (W32 seq)) := G_11.cell 4
                  have ld_169 : w_9.cell? ⟨g_1, 5, none⟩ = some (.int .u16 (W16 src)) := G_4.cell 5
                  have ld_170 : w_9.cell? ⟨g_8, 5, none⟩ = some (.int .u16 (W16 src)) := G_11.cell 5
                  have ld_171 : w_9.cell? ⟨g_1, 6, none⟩ = some (.int .u16 (W16 dst)) := G_4.cell 6
                  have ld_172 : w_9.cell? ⟨g_8, 6, none⟩ = some (.int .u16 (W16 dst2)) := G_11.cell 6
                  go_wp2_with (first | (with_reducible refine stop_store ?_) | (with_reducible refine stop_box ?_) | (with_reducible refine stop_alloc ?_) | (with_reducible refine stop_bslice ?_))
                  go_returns
                  refine ⟨?_, hB⟩
                  have er : r = false := by have q0 := kc_121.out; rw [← HR.out, decide_eq_false]; intro h; simp only [NP.mk.injEq] at h; obtain ⟨h1, h2, h3, h4, h5, h6, h7, h8⟩ := h; simp_all
                  rw [er]; rfl
              ·
                have ec_120 : ((W16 src : Int) == W16 src2) = false := by have this : (W16 src == W16 src2) = false := (by rw [W16_beq]; simpa using hc_120); exact this
                have ec_120n : ((W16 src : Int) != W16 src2) = true := by have this : (W16 src != W16 src2) = true := (by rw [W16_bne]; simpa using hc_120); exact this
                have kc_120 := Lib.hid hc_120
                clear hc_120
                have ld_173 : w_9.cell? ⟨g_1, 0, none⟩ = some (.int .u32 (W32 iv)) := G_4.cell 0
                have ld_174 : w_9.cell? ⟨g_8, 0, none⟩ = some (.int .u32 (W32 iv)) := G_11.cell 0
                have ld_175 : w_9.cell? ⟨g_1, 1, none⟩ = some (.int .i64 nid) := G_4.cell 1
                have ld_176 : w_9.cell? ⟨g_8, 1, none⟩ = some (.int .i64 nid) := G_11.cell 1
                have ld_177 : w_9.cell? ⟨g_1, 2, none⟩ = some (.bool true) := G_4.cell 2
                have ld_178 : w_9.cell? ⟨g_8, 2, none⟩ = some (.bool true) := G_11.cell 2
                have ld_179 : w_9.cell? ⟨g_1, 3, none⟩ = some (.int .i64 ttl) := G_4.cell 3
                have ld_180 : w_9.cell? ⟨g_8, 3, none⟩ = some (.int .i64 ttl) := G_11.cell 3
                have ld_181 : w_9.cell? ⟨g_1, 4, none⟩ = some (.int .u32 (W32 seq)) := G_4.cell 4
                have ld_182 : w_9.cell? ⟨g_8, 4, none⟩ = some (.int .u32 (W32 seq)) := G_11.cell 4
                have ld_183 : w_9.cell? ⟨g_1, 5, none⟩ = some (.int .u16 (W16 src)) := G_4.cell 5
                have ld_184 : w_9.cell? ⟨g_8, 5, none⟩ = some (.int .u16 (W16 src2)) := G_11.cell 5
                go_wp2_with (first | (with_reducible refine stop_store ?_) | (with_reducible refine stop_box ?_) | (with_reducible refine stop_alloc ?_) | (with_reducible refine stop_bslice ?_))
                go_returns
                refine ⟨?_, hB⟩
                have er : r = false := by have q0 := kc_120.out; rw [← HR.out, decide_eq_false]; intro h; simp only [NP.mk.injEq] at h; obtain ⟨h1, h2, h3, h4, h5, h6, h7, h8⟩ := h; simp_all
                rw [er]; rfl
            ·
              have ec_119 : ((W32 seq : Int) == W32 seq2) = false := by have this : (W32 seq == W32 seq2) = false := (by rw [W32_beq]; simpa using hc_119); exact this
              have ec_119n : ((W32 seq : Int) != W32 seq2) = true := by have this : (W32 seq != W32 seq2) = true := (by rw [W32_bne]; simpa using hc_119); exact this
              have kc_119 := Lib.hid hc_119
              clear hc_119
              have ld_185 : w_9.cell? ⟨g_1, 0, none⟩ = some (.int .u32 (W32 iv)) := G_4.cell 0
              have ld_186 : w_9.cell? ⟨g_8, 0, none⟩ = some (.int .u32 (W32 iv)) := G_11.cell 0
              have ld_187 : w_9.cell? ⟨g_1, 1, none⟩ = some (.int .i64 nid) := G_4.cell 1
              have ld_188 : w_9.cell? ⟨g_8, 1, none⟩ = some (.int .i64 nid) := G_11.cell 1
              have ld_189 : w_9.cell? ⟨g_1, 2, none⟩ = some (.bool true) := G_4.cell 2
              have ld_190 : w_9.cell? ⟨g_8, 2, none⟩ = some (.bool true) := G_11.cell 2
              have ld_191 : w_9.cell? ⟨g_1, 3, none⟩ = some (.int .i64 ttl) := G_4.cell 3
              have ld_192 : w_9.cell? ⟨g_8, 3, none⟩ = some (.int .i64 ttl) := G_11.cell 3
              have ld_193 : w_9.cell? ⟨g_1, 4, none⟩ = some (.int .u32 (W32 seq)) := G_4.cell 4
              have ld_194 : w_9.cell? ⟨g_8, 4, none⟩ = some (.int .u32 (W32 seq2)) := G_11.cell 4
              go_wp2_with (first | (with_reducible refine stop_store ?_) | (with_reducible refine stop_box ?_) | (with_reducible refine stop_alloc ?_) | (with_reducible refine stop_bslice ?_))
              go_returns
              refine ⟨?_, hB⟩
              have er : r = false := by have q0 := kc_119.out; rw [← HR.out, decide_eq_false]; intro h; simp only [NP.mk.injEq] at h; obtain ⟨h1, h2, h3, h4, h5, h6, h7, h8⟩ := h; simp_all
              rw [er]; rfl
          ·
            have ec_118 : ((ttl : Int) == ttl2) = false := by simpa using hc_118
            have ec_118n : ((ttl : Int) != ttl2) = true := by simpa using hc_118
            have kc_118 := Lib.hid hc_118
            clear hc_118
            have ld_195 : w_9.cell? ⟨g_1, 0, none⟩ = some (.int .u32 (W32 iv)) := G_4.cell 0
            have ld_196 : w_9.cell? ⟨g_8, 0, none⟩ = some (.int .u32 (W32 iv)) := G_11.cell 0
            have ld_197 : w_9.cell? ⟨g_1, 1, none⟩ = some (.int .i64 nid) := G_4.cell 1
            have ld_198 : w_9.cell? ⟨g_8, 1, none⟩ = some (.int .i64 nid) := G_11.cell 1
            have ld_199 : w_9.cell? ⟨g_1, 2, none⟩ = some (.bool true) := G_4.cell 2
            have ld_200 : w_9.cell? ⟨g_8, 2, none⟩ = some (.bool true) := G_11.cell 2
            have ld_201 : w_9.cell? ⟨g_1, 3, none⟩ = some (.int .i64 ttl) := G_4.cell 3
            have ld_202 : w_9.cell? ⟨g_8, 3, none⟩ = some (.int .i64 ttl2) := G_11.cell 3
            go_wp2_with (first | (with_reducible refine stop_store ?_) | (with_reducible refine stop_box ?_) | (with_reducible refine stop_alloc ?_) | (with_reducible refine stop_bslice ?_))
            go_returns
            refine ⟨?_, hB⟩
            have er : r = false := by have q0 := kc_118.out; rw [← HR.out, decide_eq_false]; intro h; simp only [NP.mk.injEq] at h; obtain ⟨h1, h2, h3, h4, h5, h6, h7, h8⟩ := h; simp_all
            rw [er]; rfl
    ·
      have ec_17 : ((nid : Int) == nid2) = false := by simpa using hc_17
      have ec_17n : ((nid : Int) != nid2) = true := by simpa using hc_17
      have kc_17 := Lib.hid hc_17
      clear hc_17
      have ld_203 : w_9.cell? ⟨g_1, 0, none⟩ = some (.int .u32 (W32 iv)) := G_4.cell 0
      have ld_204 : w_9.cell? ⟨g_8, 0, none⟩ = some (.int .u32 (W32 iv)) := G_11.cell 0
      have ld_205 : w_9.cell? ⟨g_1, 1, none⟩ = some (.int .i64 nid) := G_4.cell 1
      have ld_206 : w_9.cell? ⟨g_8, 1, none⟩ = some (.int .i64 nid2) := G_11.cell 1
      go_wp2_with (first | (with_reducible refine stop_store ?_) | (with_reducible refine stop_box ?_) | (with_reducible refine stop_alloc ?_) | (with_reducible refine stop_bslice ?_))
      go_returns
      refine ⟨?_, hB⟩
      have er : r = false := by have q0 := kc_17.out; rw [← HR.out, decide_eq_false]; intro h; simp only [NP.mk.injEq] at h; obtain ⟨h1, h2, h3, h4, h5, h6, h7, h8⟩ := h; simp_all
      rw [er]; rfl
  ·
    have ec_16 : ((W32 iv : Int) == W32 iv2) = false := by have this : (W32 iv == W32 iv2) = false := (by rw [W32_beq]; simpa using hc_16); exact this
    have ec_16n : ((W32 iv : Int) != W32 iv2) = true := by have this : (W32 iv != W32 iv2) = true := (by rw [W32_bne]; simpa using hc_16); exact this
    have kc_16 := Lib.hid hc_16
    clear hc_16
    have ld_207 : w_9.cell? ⟨g_1, 0, none⟩ = some (.int .u32 (W32 iv)) := G_4.cell 0
    have ld_208 : w_9.cell? ⟨g_8, 0, none⟩ = some (.int .u32 (W32 iv2)) := G_11.cell 0
    go_wp2_with (first | (with_reducible refine stop_store ?_) | (with_reducible refine stop_box ?_) | (with_reducible refine stop_alloc ?_) | (with_reducible refine stop_bslice ?_))
    go_returns
    refine ⟨?_, hB⟩
    have er : r = false := by have q0 := kc_16.out; rw [← HR.out, decide_eq_false]; intro h; simp only [NP.mk.injEq] at h; obtain ⟨h1, h2, h3, h4, h5, h6, h7, h8⟩ := h; simp_all
    rw [er]; rfl
theorem r48_Same (p q : NP) (A : Option Addr) (c : Nat) (A2 : Option Addr) (c2 : Nat) (w : World) (hp1 : RdB w A p.pay) (hp2 : RdB w A2 q.pay) :
    Calls Try.prog 38 #[.agg (npA p A c), .agg (npA q A2 c2)] w fun e w' => e = .returned (.bool (decide (p = q))) ∧ Below w.heap.size w w' := by
  obtain ⟨iv, nid, ctl, ttl, seq, src, dst, pay⟩ := p
  obtain ⟨iv2, nid2, ctl2, ttl2, seq2, src2, dst2, pay2⟩ := q
  exact r48_Same_f iv nid ctl ttl seq src dst A c pay iv2 nid2 ctl2 ttl2 seq2 src2 dst2 A2 c2 pay2 w hp1 hp2
end Go.Proofs.Ytbkaeoaepmeceaa
