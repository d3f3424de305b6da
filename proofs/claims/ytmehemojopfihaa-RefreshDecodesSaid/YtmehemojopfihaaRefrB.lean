/- Contracts of the functions of layer 52 (refresh) and of its reference. -/
import Derived.Test.YtmehemojopfihaaMesh
import Derived.Test.YtmehemojopfihaaEqStr
import Derived.Test.YtmehemojopfihaaBlock
import Derived.Test.YtmehemojopfihaaRefrA
namespace Go.Proofs.Ytmehemojopfihaa
set_option maxRecDepth 100000
open Go.ChangeShapes Go.WideShapes Go.ChangeAt Go.RowKit
set_option linter.unusedVariables false
set_option linter.unusedSimpArgs false

theorem rf_lasted (v : IV) (now : Int) (w : World) (h0 : 0 ≤ v.since ∧ v.since ≤ 1099511627776) (h1 : 0 ≤ now ∧ now ≤ 1099511627776) :
    Calls Try.prog 75 #[.agg (ivA v), .int .i64 now] w fun e w' => e = .returned (.bool (lastB v.since now)) ∧ w' = w.alloc (.cells (ivA v) 59) := by
  obtain ⟨ix, up, sn⟩ := v
  obtain ⟨h2, h3⟩ := h0
  obtain ⟨h4, h5⟩ := h1
  dsimp only at h2 h3
  unfold ivA
  dsimp only
  go_enter Try.func75, Try.ntmps75
  go_wp2
  go_ret
  exact ⟨rfl, rfl⟩
set_option maxHeartbeats 1000000 in
theorem rf_Begin (v : IV) (now : Int) (w : World) (h0 : 0 ≤ v.since ∧ v.since ≤ 1099511627776) (h1 : 0 ≤ now ∧ now ≤ 1099511627776) :
    Calls Try.prog 38 #[.agg (ivA v), .int .i64 now] w fun e w' => e = .returned (.tuple #[.agg (ivA (beginK v now).1), .int .i64 (beginK v now).2]) ∧ Below w.heap.size w w' := by
  have L := Lib.hid (fun W => rf_lasted v now W h0 h1)
  obtain ⟨ix, up, sn⟩ := v
  obtain ⟨r, hr⟩ : ∃ r, beginK ⟨ix, up, sn⟩ now = r := ⟨_, rfl⟩
  rw [hr]
  have HR := Lib.hid hr
  clear hr
  clear h0 h1
  unfold ivA at L ⊢
  dsimp only at L ⊢
  have q1 := inc0 ix
  have q2 := w32bm ix
  have q3 := w32b0 (ix + 1#32)
  rw [q1] at q3
  clear q1
  obtain ⟨m, hm⟩ : ∃ m, (ix == 4294967295#32) = m := ⟨_, rfl⟩
  rw [hm] at q2 q3
  have HM := Lib.hid hm
  clear hm
  obtain ⟨l, hl⟩ : ∃ l, lastB sn now = l := ⟨_, rfl⟩
  rw [hl] at L
  have HL := Lib.hid hl
  clear hl
  cases up <;> cases l <;> cases m
  all_goals
    go_enter Try.func38, Try.ntmps38
    go_wp2_with (go_at_call 75; refine (L.out _).mono ?_; rintro e w1 ⟨rfl, rfl⟩)
    go_returns
    refine ⟨?_, by go_grown⟩
    have hl := HL.out
    have hm := HM.out
    rw [← HR.out]
    simp_all [beginK]
    done
set_option maxHeartbeats 1000000 in
theorem rf_End (v : IV) (now : Int) (w : World) (h0 : 0 ≤ v.since ∧ v.since ≤ 1099511627776) (h1 : 0 ≤ now ∧ now ≤ 1099511627776) :
    Calls Try.prog 40 #[.agg (ivA v), .int .i64 now] w fun e w' => e = .returned (.tuple #[.agg (ivA (endK v now).1), .int .i64 (endK v now).2]) ∧ Below w.heap.size w w' := by
  have L := Lib.hid (fun W => rf_lasted v now W h0 h1)
  obtain ⟨ix, up, sn⟩ := v
  obtain ⟨r, hr⟩ : ∃ r, endK ⟨ix, up, sn⟩ now = r := ⟨_, rfl⟩
  rw [hr]
  have HR := Lib.hid hr
  clear hr
  clear h0 h1
  unfold ivA at L ⊢
  dsimp only at L ⊢
  have q1 := inc0 ix
  have q2 := w32bm ix
  have q3 := w32b0 (ix + 1#32)
  rw [q1] at q3
  clear q1
  obtain ⟨m, hm⟩ : ∃ m, (ix == 4294967295#32) = m := ⟨_, rfl⟩
  rw [hm] at q2 q3
  have HM := Lib.hid hm
  clear hm
  obtain ⟨l, hl⟩ : ∃ l, lastB sn now = l := ⟨_, rfl⟩
  rw [hl] at L
  have HL := Lib.hid hl
  clear hl
  cases up <;> cases l <;> cases m
  all_goals
    go_enter Try.func40, Try.ntmps40
    go_wp2_with (go_at_call 75; refine (L.out _).mono ?_; rintro e w1 ⟨rfl, rfl⟩)
    go_returns
    refine ⟨?_, by go_grown⟩
    have hl := HL.out
    have hm := HM.out
    rw [← HR.out]
    simp_all [endK]
    done
theorem rf_Tx (v : IV) (w : World) :
    Calls Try.prog 44 #[.agg (ivA v)] w fun e w' => e = .returned (.int .u32 (W32 (txK v))) ∧ Below w.heap.size w w' := by
  obtain ⟨ix, up, sn⟩ := v
  obtain ⟨r, hr⟩ : ∃ r, txK ⟨ix, up, sn⟩ = r := ⟨_, rfl⟩
  rw [hr]
  have HR := Lib.hid hr
  clear hr
  unfold ivA
  dsimp only
  go_enter Try.func44, Try.ntmps44
  go_wp2
  all_goals
    go_ret
    refine ⟨?_, (Below.refl _ _).alloc (Nat.le_refl _) _⟩
    rw [← HR.out]
    simp_all [txK, W64_beq, W64_bne, w32b0, w32n0, w32bm, w32p, w32np, inc0, W32_beq, W32_bne, w64_0, w32_0]
    done
theorem rf_Rx (v : IV) (bit : Int) (w : World) :
    Calls Try.prog 42 #[.agg (ivA v), .int .i64 bit] w fun e w' => e = .returned (.tuple #[.int .u32 (W32 (rxK v bit).1), .bool (rxK v bit).2]) ∧ Below w.heap.size w w' := by
  obtain ⟨ix, up, sn⟩ := v
  obtain ⟨r, hr⟩ : ∃ r, rxK ⟨ix, up, sn⟩ bit = r := ⟨_, rfl⟩
  rw [hr]
  have HR := Lib.hid hr
  clear hr
  by_cases h0 : bit = 0
  · have e0 : (bit != 0) = false := by simpa using h0
    have H0 := Lib.hid h0
    clear h0
    unfold ivA
    dsimp only
    go_enter Try.func42, Try.ntmps42
    go_wp2
    all_goals
      go_ret2
      refine ⟨?_, (Below.refl _ _).alloc (Nat.le_refl _) _⟩
      rw [← HR.out]
      unfold rxK
      rw [if_neg (by intro h; exact h.1 H0.out)]
      try simp only [and1, W32_beq, w32b0, beq_iff_eq, beq_eq_false_iff_ne] at *
      try dsimp only
      first | (rw [if_pos (by assumption)] <;> rfl) | (rw [if_neg (by assumption), if_pos (by assumption)] <;> rfl) | (rw [if_neg (by assumption), if_neg (by assumption)] <;> rfl)
  · have e0 : (bit != 0) = true := by simpa using h0
    clear h0
    by_cases h1 : bit = 1
    · have e1 : (bit != 1) = false := by simpa using h1
      have H1 := Lib.hid h1
      clear h1
      unfold ivA
      dsimp only
      go_enter Try.func42, Try.ntmps42
      go_wp2
      all_goals
        go_ret2
        refine ⟨?_, (Below.refl _ _).alloc (Nat.le_refl _) _⟩
        rw [← HR.out]
        unfold rxK
        rw [if_neg (by intro h; exact h.2 H1.out)]
        try simp only [and1, W32_beq, w32b0, beq_iff_eq, beq_eq_false_iff_ne] at *
        try dsimp only
        first | (rw [if_pos (by assumption)] <;> rfl) | (rw [if_neg (by assumption), if_pos (by assumption)] <;> rfl) | (rw [if_neg (by assumption), if_neg (by assumption)] <;> rfl)
    · have e1 : (bit != 1) = true := by simpa using h1
      unfold ivA
      dsimp only
      go_enter Try.func42, Try.ntmps42
      go_wp2
      go_ret2
      refine ⟨?_, (Below.refl _ _).alloc (Nat.le_refl _) _⟩
      rw [← HR.out]
      simp_all [rxK, W64_beq, W64_bne, w32b0, w32n0, w32bm, w32p, w32np, inc0, W32_beq, W32_bne, w64_0, w32_0]
      done
theorem r52_lasted (v : IV) (now : Int) (w : World) (h0 : 0 ≤ v.since ∧ v.since ≤ 1099511627776) (h1 : 0 ≤ now ∧ now ≤ 1099511627776) :
    Calls Try.prog 76 #[.agg (ivA v), .int .i64 now] w fun e w' => e = .returned (.bool (lastB v.since now)) ∧ w' = w.alloc (.cells (ivA v) 59) := by
  obtain ⟨ix, up, sn⟩ := v
  obtain ⟨h2, h3⟩ := h0
  obtain ⟨h4, h5⟩ := h1
  dsimp only at h2 h3
  unfold ivA
  dsimp only
  go_enter Try.func76, Try.ntmps76
  go_wp2
  go_ret
  exact ⟨by unfold lastB; exact congrArg (fun b => Ending.returned (.bool b)) (decide_eq_decide.2 (by omega)), rfl⟩
set_option maxHeartbeats 1000000 in
theorem r52_Begin (v : IV) (now : Int) (w : World) (h0 : 0 ≤ v.since ∧ v.since ≤ 1099511627776) (h1 : 0 ≤ now ∧ now ≤ 1099511627776) :
    Calls Try.prog 39 #[.agg (ivA v), .int .i64 now] w fun e w' => e = .returned (.tuple #[.agg (ivA (beginK v now).1), .int .i64 (beginK v now).2]) ∧ Below w.heap.size w w' := by
  have L := Lib.hid (fun W => r52_lasted v now W h0 h1)
  obtain ⟨ix, up, sn⟩ := v
  obtain ⟨r, hr⟩ : ∃ r, beginK ⟨ix, up, sn⟩ now = r := ⟨_, rfl⟩
  rw [hr]
  have HR := Lib.hid hr
  clear hr
  clear h0 h1
  unfold ivA at L ⊢
  dsimp only at L ⊢
  have q1 := inc0 ix
  have q2 := w32bm ix
  have q3 := w32b0 (ix + 1#32)
  rw [q1] at q3
  clear q1
  obtain ⟨m, hm⟩ : ∃ m, (ix == 4294967295#32) = m := ⟨_, rfl⟩
  rw [hm] at q2 q3
  have HM := Lib.hid hm
  clear hm
  obtain ⟨l, hl⟩ : ∃ l, lastB sn now = l := ⟨_, rfl⟩
  rw [hl] at L
  have HL := Lib.hid hl
  clear hl
  cases up <;> cases l <;> cases m
  all_goals
    go_enter Try.func39, Try.ntmps39
    go_wp2_with (go_at_call 76; refine (L.out _).mono ?_; rintro e w1 ⟨rfl, rfl⟩)
    go_returns
    refine ⟨?_, by go_grown⟩
    have hl := HL.out
    have hm := HM.out
    rw [← HR.out]
    simp_all [beginK]
    done
set_option maxHeartbeats 1000000 in
theorem r52_End (v : IV) (now : Int) (w : World) (h0 : 0 ≤ v.since ∧ v.since ≤ 1099511627776) (h1 : 0 ≤ now ∧ now ≤ 1099511627776) :
    Calls Try.prog 41 #[.agg (ivA v), .int .i64 now] w fun e w' => e = .returned (.tuple #[.agg (ivA (endK v now).1), .int .i64 (endK v now).2]) ∧ Below w.heap.size w w' := by
  have L := Lib.hid (fun W => r52_lasted v now W h0 h1)
  obtain ⟨ix, up, sn⟩ := v
  obtain ⟨r, hr⟩ : ∃ r, endK ⟨ix, up, sn⟩ now = r := ⟨_, rfl⟩
  rw [hr]
  have HR := Lib.hid hr
  clear hr
  clear h0 h1
  unfold ivA at L ⊢
  dsimp only at L ⊢
  have q1 := inc0 ix
  have q2 := w32bm ix
  have q3 := w32b0 (ix + 1#32)
  rw [q1] at q3
  clear q1
  obtain ⟨m, hm⟩ : ∃ m, (ix == 4294967295#32) = m := ⟨_, rfl⟩
  rw [hm] at q2 q3
  have HM := Lib.hid hm
  clear hm
  obtain ⟨l, hl⟩ : ∃ l, lastB sn now = l := ⟨_, rfl⟩
  rw [hl] at L
  have HL := Lib.hid hl
  clear hl
  cases up <;> cases l <;> cases m
  all_goals
    go_enter Try.func41, Try.ntmps41
    go_wp2_with (go_at_call 76; refine (L.out _).mono ?_; rintro e w1 ⟨rfl, rfl⟩)
    go_returns
    refine ⟨?_, by go_grown⟩
    have hl := HL.out
    have hm := HM.out
    rw [← HR.out]
    simp_all [endK]
    done
theorem r52_Tx (v : IV) (w : World) :
    Calls Try.prog 45 #[.agg (ivA v)] w fun e w' => e = .returned (.int .u32 (W32 (txK v))) ∧ Below w.heap.size w w' := by
  obtain ⟨ix, up, sn⟩ := v
  obtain ⟨r, hr⟩ : ∃ r, txK ⟨ix, up, sn⟩ = r := ⟨_, rfl⟩
  rw [hr]
  have HR := Lib.hid hr
  clear hr
  unfold ivA
  dsimp only
  go_enter Try.func45, Try.ntmps45
  go_wp2
  all_goals
    go_ret
    refine ⟨?_, (Below.refl _ _).alloc (Nat.le_refl _) _⟩
    rw [← HR.out]
    simp_all [txK, W64_beq, W64_bne, w32b0, w32n0, w32bm, w32p, w32np, inc0, W32_beq, W32_bne, w64_0, w32_0]
    done
theorem r52_Rx (v : IV) (bit : Int) (w : World) :
    Calls Try.prog 43 #[.agg (ivA v), .int .i64 bit] w fun e w' => e = .returned (.tuple #[.int .u32 (W32 (rxK v bit).1), .bool (rxK v bit).2]) ∧ Below w.heap.size w w' := by
  obtain ⟨ix, up, sn⟩ := v
  obtain ⟨r, hr⟩ : ∃ r, rxK ⟨ix, up, sn⟩ bit = r := ⟨_, rfl⟩
  rw [hr]
  have HR := Lib.hid hr
  clear hr
  by_cases h0 : bit = 0
  · have e0 : (bit != 0) = false := by simpa using h0
    have H0 := Lib.hid h0
    clear h0
    unfold ivA
    dsimp only
    go_enter Try.func43, Try.ntmps43
    go_wp2
    all_goals
      go_ret2
      refine ⟨?_, (Below.refl _ _).alloc (Nat.le_refl _) _⟩
      rw [← HR.out]
      unfold rxK
      rw [if_neg (by intro h; exact h.1 H0.out)]
      try simp only [and1, W32_beq, w32b0, beq_iff_eq, beq_eq_false_iff_ne] at *
      try dsimp only
      first | (rw [if_pos (by assumption)] <;> rfl) | (rw [if_neg (by assumption), if_pos (by assumption)] <;> rfl) | (rw [if_neg (by assumption), if_neg (by assumption)] <;> rfl)
  · have e0 : (bit != 0) = true := by simpa using h0
    clear h0
    by_cases h1 : bit = 1
    · have e1 : (bit != 1) = false := by simpa using h1
      have H1 := Lib.hid h1
      clear h1
      unfold ivA
      dsimp only
      go_enter Try.func43, Try.ntmps43
      go_wp2
      all_goals
        go_ret2
        refine ⟨?_, (Below.refl _ _).alloc (Nat.le_refl _) _⟩
        rw [← HR.out]
        unfold rxK
        rw [if_neg (by intro h; exact h.2 H1.out)]
        try simp only [and1, W32_beq, w32b0, beq_iff_eq, beq_eq_false_iff_ne] at *
        try dsimp only
        first | (rw [if_pos (by assumption)] <;> rfl) | (rw [if_neg (by assumption), if_pos (by assumption)] <;> rfl) | (rw [if_neg (by assumption), if_neg (by assumption)] <;> rfl)
    · have e1 : (bit != 1) = true := by simpa using h1
      unfold ivA
      dsimp only
      go_enter Try.func43, Try.ntmps43
      go_wp2
      go_ret2
      refine ⟨?_, (Below.refl _ _).alloc (Nat.le_refl _) _⟩
      rw [← HR.out]
      simp_all [rxK, W64_beq, W64_bne, w32b0, w32n0, w32bm, w32p, w32np, inc0, W32_beq, W32_bne, w64_0, w32_0]
      done
end Go.Proofs.Ytmehemojopfihaa
