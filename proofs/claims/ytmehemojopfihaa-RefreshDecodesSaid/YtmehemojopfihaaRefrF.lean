/- The walk of RefreshIndexes. -/
import Derived.Test.YtmehemojopfihaaRefrE
namespace Go.Proofs.Ytmehemojopfihaa
set_option maxRecDepth 100000
open Go.ChangeShapes Go.WideShapes Go.ChangeAt Go.RowKit
set_option linter.unusedVariables false
set_option linter.unusedSimpArgs false

def timelyB (v : IV) (now : Int) : Bool := decide (0 ≤ v.since ∧ v.since ≤ now ∧ now ≤ 1099511627776)
theorem law_timely (v : IV) (now : Int) (w : World) :
    Calls Try.prog 37 #[.agg (ivA v), .int .i64 now] w fun e w' => e = .returned (.bool (timelyB v now)) ∧ Below w.heap.size w w' := by
  obtain ⟨ix, up, sn⟩ := v
  obtain ⟨r, hr⟩ : ∃ r, timelyB ⟨ix, up, sn⟩ now = r := ⟨_, rfl⟩
  rw [hr]
  have HR := Lib.hid hr
  clear hr
  unfold ivA
  dsimp only
  by_cases h1 : 0 ≤ sn
  · by_cases h2 : sn ≤ now
    · by_cases h3 : now ≤ 1099511627776
      · go_enter Try.func37, Try.ntmps37
        go_wp2
        go_ret
        refine ⟨?_, (Below.refl _ _).alloc (Nat.le_refl _) _⟩
        rw [← HR.out]
        unfold timelyB
        rw [decide_eq_true ⟨h1, h2, h3⟩]
        rfl
      · have h3' : 1099511627776 < now := by omega
        go_enter Try.func37, Try.ntmps37
        go_wp2
        go_ret
        refine ⟨?_, (Below.refl _ _).alloc (Nat.le_refl _) _⟩
        rw [← HR.out]
        unfold timelyB
        rw [decide_eq_false (by dsimp only; omega)]
        rfl
    · have h2' : now < sn := by omega
      go_enter Try.func37, Try.ntmps37
      go_wp2
      go_ret
      refine ⟨?_, (Below.refl _ _).alloc (Nat.le_refl _) _⟩
      rw [← HR.out]
      unfold timelyB
      rw [decide_eq_false (by dsimp only; omega)]
      rfl
  · have h1' : sn < 0 := by omega
    go_enter Try.func37, Try.ntmps37
    go_wp2
    go_ret
    refine ⟨?_, (Below.refl _ _).alloc (Nat.le_refl _) _⟩
    rw [← HR.out]
    unfold timelyB
    rw [decide_eq_false (by dsimp only; omega)]
    rfl
set_option maxHeartbeats 2000000 in
theorem law_RefreshIndexes (ix : BitVec 32) (up : Bool) (sn : Int) (wsn : (Lit.int .i64 sn).wf = true) (now : Int) (wnow : (Lit.int .i64 now).wf = true) (bit : Int) (wbit : (Lit.int .i64 bit).wf = true) (w : World) :
    Calls Try.prog 7 #[.agg #[.int .u32 (W32 ix), .bool up, .int .i64 sn], .int .i64 now, .int .i64 bit] w fun e w' => e = .returned (.bool true) ∧ Below w.heap.size w w' := by
  have h0 := fun W => law_timely ⟨ix, up, sn⟩ now W
  unfold ivA at h0
  dsimp only at h0
  obtain ⟨K_0, bt0⟩ : Blk (w.alloc (.cells #[.int .u32 (W32 ix), .bool up, .int .i64 sn] 59)) w.heap.size 59 #[.int .u32 (W32 ix), .bool up, .int .i64 sn] ∧ Below w.heap.size w (w.alloc (.cells #[.int .u32 (W32 ix), .bool up, .int .i64 sn] 59)) := ⟨(box1 w 59 #[.int .u32 (W32 ix), .bool up, .int .i64 sn]).2, (box1 w 59 #[.int .u32 (W32 ix), .bool up, .int .i64 sn]).1⟩
  by_cases ht : 0 ≤ sn ∧ sn ≤ now ∧ now ≤ 1099511627776
  · have e0 : timelyB ⟨ix, up, sn⟩ now = true := decide_eq_true ht
    rw [e0] at h0
    obtain ⟨t1, t2, t3⟩ := ht
    have H0 := Lib.hid h0
    have h1 := fun W => rf_Begin ⟨ix, up, sn⟩ now W ⟨t1, by dsimp only; omega⟩ ⟨by omega, t3⟩
    have h2 := fun W => r52_Begin ⟨ix, up, sn⟩ now W ⟨t1, by dsimp only; omega⟩ ⟨by omega, t3⟩
    have h3 := fun W => rf_End ⟨ix, up, sn⟩ now W ⟨t1, by dsimp only; omega⟩ ⟨by omega, t3⟩
    have h4 := fun W => r52_End ⟨ix, up, sn⟩ now W ⟨t1, by dsimp only; omega⟩ ⟨by omega, t3⟩
    have h5 := fun W => rf_Rx ⟨ix, up, sn⟩ bit W
    have h6 := fun W => r52_Rx ⟨ix, up, sn⟩ bit W
    have h7 := fun W => rf_Tx ⟨ix, up, sn⟩ W
    have h8 := fun W => r52_Tx ⟨ix, up, sn⟩ W
    generalize beginK ⟨ix, up, sn⟩ now = r1 at *
    generalize endK ⟨ix, up, sn⟩ now = r2 at *
    generalize rxK ⟨ix, up, sn⟩ bit = r3 at *
    generalize txK ⟨ix, up, sn⟩ = tx at *
    obtain ⟨⟨i1, u1, s1⟩, e1⟩ := r1
    obtain ⟨⟨i2, u2, s2⟩, e2⟩ := r2
    obtain ⟨x3, b3⟩ := r3
    unfold ivA at h1 h2 h3 h4 h5 h6 h7 h8
    dsimp only at h1 h2 h3 h4 h5 h6 h7 h8
    have H1 := Lib.hid h1
    have H2 := Lib.hid h2
    have H3 := Lib.hid h3
    have H4 := Lib.hid h4
    have H5 := Lib.hid h5
    have H6 := Lib.hid h6
    have H7 := Lib.hid h7
    have H8 := Lib.hid h8
    clear h0 h1 h2 h3 h4 h5 h6 h7 h8 e0 t1 t2 t3
    go_enter Try.func7, Try.ntmps7
    go_wp2_with fail
    refine (H0.out _).mono ?_; rintro e wt1 ⟨rfl, hbt1⟩
    have K_1q := K_0.to hbt1 K_0.lt
    have K_1z := K_1q.lt; have K_1g := K_1q.cell
    have bt1q := bt0.trans (hbt1.mono bt0.size)
    clear K_0 bt0 hbt1
    go_wp2_with fail
    refine (H1.out _).mono ?_; rintro e wt2 ⟨rfl, hbt2⟩
    clear K_1z K_1g
    have K_2q := K_1q.to hbt2 K_1q.lt
    have K_2z := K_2q.lt; have K_2g := K_2q.cell
    have bt2q := bt1q.trans (hbt2.mono bt1q.size)
    clear K_1q bt1q hbt2
    have K_2 := K_2q.alloc (.cells #[.int .u32 (W32 i1), .bool u1, .int .i64 s1] 59)
    have A_2 := Blk.new wt2 59 #[.int .u32 (W32 i1), .bool u1, .int .i64 s1]
    have bt2 := bt2q.alloc bt2q.size (.cells #[.int .u32 (W32 i1), .bool u1, .int .i64 s1] 59)
    go_wp2_with fail
    refine (H2.out _).mono ?_; rintro e wt3 ⟨rfl, hbt3⟩
    clear K_2z K_2g K_2q bt2q
    have K_3q := K_2.to hbt3 K_2.lt
    have K_3z := K_3q.lt; have K_3g := K_3q.cell
    have A_3q := A_2.to hbt3 A_2.lt
    have A_3z := A_3q.lt; have A_3g := A_3q.cell
    have bt3q := bt2.trans (hbt3.mono bt2.size)
    clear K_2 A_2 bt2 hbt3
    have K_3 := K_3q.alloc (.cells #[.int .u32 (W32 i1), .bool u1, .int .i64 s1] 59)
    have A_3 := A_3q.alloc (.cells #[.int .u32 (W32 i1), .bool u1, .int .i64 s1] 59)
    have B_3 := Blk.new wt3 59 #[.int .u32 (W32 i1), .bool u1, .int .i64 s1]
    have bt3 := bt3q.alloc bt3q.size (.cells #[.int .u32 (W32 i1), .bool u1, .int .i64 s1] 59)
    go_wp2_with fail
    refine (H3.out _).mono ?_; rintro e wt4 ⟨rfl, hbt4⟩
    clear K_3z K_3g A_3z A_3g K_3q A_3q bt3q
    have K_4q := K_3.to hbt4 K_3.lt
    have K_4z := K_4q.lt; have K_4g := K_4q.cell
    have A_4q := A_3.to hbt4 A_3.lt
    have A_4z := A_4q.lt; have A_4g := A_4q.cell
    have B_4q := B_3.to hbt4 B_3.lt
    have B_4z := B_4q.lt; have B_4g := B_4q.cell
    have bt4q := bt3.trans (hbt4.mono bt3.size)
    clear K_3 A_3 B_3 bt3 hbt4
    have K_4 := K_4q.alloc (.cells #[.int .u32 (W32 i2), .bool u2, .int .i64 s2] 59)
    have A_4 := A_4q.alloc (.cells #[.int .u32 (W32 i2), .bool u2, .int .i64 s2] 59)
    have B_4 := B_4q.alloc (.cells #[.int .u32 (W32 i2), .bool u2, .int .i64 s2] 59)
    have C_4 := Blk.new wt4 59 #[.int .u32 (W32 i2), .bool u2, .int .i64 s2]
    have bt4 := bt4q.alloc bt4q.size (.cells #[.int .u32 (W32 i2), .bool u2, .int .i64 s2] 59)
    go_wp2_with fail
    refine (H4.out _).mono ?_; rintro e wt5 ⟨rfl, hbt5⟩
    clear K_4z K_4g A_4z A_4g B_4z B_4g K_4q A_4q B_4q bt4q
    have K_5q := K_4.to hbt5 K_4.lt
    have K_5z := K_5q.lt; have K_5g := K_5q.cell
    have A_5q := A_4.to hbt5 A_4.lt
    have A_5z := A_5q.lt; have A_5g := A_5q.cell
    have B_5q := B_4.to hbt5 B_4.lt
    have B_5z := B_5q.lt; have B_5g := B_5q.cell
    have C_5q := C_4.to hbt5 C_4.lt
    have C_5z := C_5q.lt; have C_5g := C_5q.cell
    have bt5q := bt4.trans (hbt5.mono bt4.size)
    clear K_4 A_4 B_4 C_4 bt4 hbt5
    have K_5 := K_5q.alloc (.cells #[.int .u32 (W32 i2), .bool u2, .int .i64 s2] 59)
    have A_5 := A_5q.alloc (.cells #[.int .u32 (W32 i2), .bool u2, .int .i64 s2] 59)
    have B_5 := B_5q.alloc (.cells #[.int .u32 (W32 i2), .bool u2, .int .i64 s2] 59)
    have C_5 := C_5q.alloc (.cells #[.int .u32 (W32 i2), .bool u2, .int .i64 s2] 59)
    have D_5 := Blk.new wt5 59 #[.int .u32 (W32 i2), .bool u2, .int .i64 s2]
    have bt5 := bt5q.alloc bt5q.size (.cells #[.int .u32 (W32 i2), .bool u2, .int .i64 s2] 59)
    go_wp2_with fail
    refine (H5.out _).mono ?_; rintro e wt6 ⟨rfl, hbt6⟩
    clear K_5z K_5g A_5z A_5g B_5z B_5g C_5z C_5g K_5q A_5q B_5q C_5q bt5q
    have K_6q := K_5.to hbt6 K_5.lt
    have K_6z := K_6q.lt; have K_6g := K_6q.cell
    have A_6q := A_5.to hbt6 A_5.lt
    have A_6z := A_6q.lt; have A_6g := A_6q.cell
    have B_6q := B_5.to hbt6 B_5.lt
    have B_6z := B_6q.lt; have B_6g := B_6q.cell
    have C_6q := C_5.to hbt6 C_5.lt
    have C_6z := C_6q.lt; have C_6g := C_6q.cell
    have D_6q := D_5.to hbt6 D_5.lt
    have D_6z := D_6q.lt; have D_6g := D_6q.cell
    have bt6q := bt5.trans (hbt6.mono bt5.size)
    clear K_5 A_5 B_5 C_5 D_5 bt5 hbt6
    go_wp2_with fail
    refine (H6.out _).mono ?_; rintro e wt7 ⟨rfl, hbt7⟩
    clear K_6z K_6g A_6z A_6g B_6z B_6g C_6z C_6g D_6z D_6g
    have K_7q := K_6q.to hbt7 K_6q.lt
    have K_7z := K_7q.lt; have K_7g := K_7q.cell
    have A_7q := A_6q.to hbt7 A_6q.lt
    have A_7z := A_7q.lt; have A_7g := A_7q.cell
    have B_7q := B_6q.to hbt7 B_6q.lt
    have B_7z := B_7q.lt; have B_7g := B_7q.cell
    have C_7q := C_6q.to hbt7 C_6q.lt
    have C_7z := C_7q.lt; have C_7g := C_7q.cell
    have D_7q := D_6q.to hbt7 D_6q.lt
    have D_7z := D_7q.lt; have D_7g := D_7q.cell
    have bt7q := bt6q.trans (hbt7.mono bt6q.size)
    clear K_6q A_6q B_6q C_6q D_6q bt6q hbt7
    go_wp2
    clear K_7z K_7g A_7z A_7g B_7z B_7g C_7z C_7g D_7z D_7g
    have hst := (stable_and (stable_below w.heap.size w (Nat.le_refl _)) (stable_and (stable_blk (w.heap.size) 59 #[.int .u32 (W32 ix), .bool up, .int .i64 sn]) (stable_and (stable_blk (wt2.heap.size) 59 #[.int .u32 (W32 i1), .bool u1, .int .i64 s1]) (stable_and (stable_blk (wt3.heap.size) 59 #[.int .u32 (W32 i1), .bool u1, .int .i64 s1]) (stable_and (stable_blk (wt4.heap.size) 59 #[.int .u32 (W32 i2), .bool u2, .int .i64 s2]) (stable_blk (wt5.heap.size) 59 #[.int .u32 (W32 i2), .bool u2, .int .i64 s2]))))))
    refine wp_region_v _ 39 hst ⟨bt7q.drew, K_7q, A_7q, B_7q, C_7q, D_7q⟩ ?_
    clear bt7q K_7q A_7q B_7q C_7q D_7q
    refine wpU_take (v := ?_) 0 hst (fun _ h => h) rfl ?_ ?_; rotate_left; (intro W hS K hK; clear hS; go_simp; refine (lives52 _).mono ?_; rintro e w9 ⟨rfl, hb⟩; refine CallPost.mk ?_; exact hK.out _ (hb)); simp only [Act.put, List.setIfInBounds_toArray, List.set_cons_zero, List.set_cons_succ]
    refine wpU_take (v := ?_) 1 hst (fun _ h => h) rfl ?_ ?_; rotate_left; (intro W hS K hK; obtain ⟨hS0, hSK, hSA, hSB, hSC, hSD⟩ := hS; have cK := hSK.cell; have cA := hSA.cell; have cB := hSB.cell; have cC := hSC.cell; have cD := hSD.cell; clear hS0 hSK hSA hSB hSC hSD; go_simp; exact hK.out _ (Below.refl _ _)); simp only [Act.put, List.setIfInBounds_toArray, List.set_cons_zero, List.set_cons_succ]
    refine wpU_take (v := ?_) 2 hst (fun _ h => h) rfl ?_ ?_; rotate_left; (intro W hS K hK; obtain ⟨hS0, hSK, hSA, hSB, hSC, hSD⟩ := hS; have cK := hSK.cell; have cA := hSA.cell; have cB := hSB.cell; have cC := hSC.cell; have cD := hSD.cell; clear hS0 hSK hSA hSB hSC hSD; go_simp; exact hK.out _ (Below.refl _ _)); simp only [Act.put, List.setIfInBounds_toArray, List.set_cons_zero, List.set_cons_succ]
    refine wpU_take (v := ?_) 3 hst (fun _ h => h) rfl ?_ ?_; rotate_left; (intro W hS K hK; obtain ⟨hS0, hSK, hSA, hSB, hSC, hSD⟩ := hS; have cK := hSK.cell; have cA := hSA.cell; have cB := hSB.cell; have cC := hSC.cell; have cD := hSD.cell; clear hS0 hSK hSA hSB hSC hSD; go_simp; exact hK.out _ (Below.refl _ _)); simp only [Act.put, List.setIfInBounds_toArray, List.set_cons_zero, List.set_cons_succ]
    refine wpU_take (v := ?_) 4 hst (fun _ h => h) rfl ?_ ?_; rotate_left; (intro W hS K hK; obtain ⟨hS0, hSK, hSA, hSB, hSC, hSD⟩ := hS; have cK := hSK.cell; have cA := hSA.cell; have cB := hSB.cell; have cC := hSC.cell; have cD := hSD.cell; clear hS0 hSK hSA hSB hSC hSD; go_simp; exact hK.out _ (Below.refl _ _)); simp only [Act.put, List.setIfInBounds_toArray, List.set_cons_zero, List.set_cons_succ]
    refine wpU_take (v := ?_) 5 hst (fun _ h => h) rfl ?_ ?_; rotate_left; (intro W hS K hK; obtain ⟨hS0, hSK, hSA, hSB, hSC, hSD⟩ := hS; have cK := hSK.cell; have cA := hSA.cell; have cB := hSB.cell; have cC := hSC.cell; have cD := hSD.cell; clear hS0 hSK hSA hSB hSC hSD; go_simp; exact hK.out _ (Below.refl _ _)); simp only [Act.put, List.setIfInBounds_toArray, List.set_cons_zero, List.set_cons_succ]
    refine wpU_take (v := ?_) 6 hst (fun _ h => h) rfl ?_ ?_; rotate_left; (intro W hS K hK; obtain ⟨hS0, hSK, hSA, hSB, hSC, hSD⟩ := hS; have cK := hSK.cell; have cA := hSA.cell; have cB := hSB.cell; have cC := hSC.cell; have cD := hSD.cell; clear hS0 hSK hSA hSB hSC hSD; go_simp; exact hK.out _ (Below.refl _ _)); simp only [Act.put, List.setIfInBounds_toArray, List.set_cons_zero, List.set_cons_succ]
    refine wpU_take (v := ?_) 7 hst (fun _ h => h) rfl ?_ ?_; rotate_left; (intro W hS K hK; obtain ⟨hS0, hSK, hSA, hSB, hSC, hSD⟩ := hS; have cK := hSK.cell; have cA := hSA.cell; have cB := hSB.cell; have cC := hSC.cell; have cD := hSD.cell; clear hS0 hSK hSA hSB hSC hSD; go_simp; exact hK.out _ (Below.refl _ _)); simp only [Act.put, List.setIfInBounds_toArray, List.set_cons_zero, List.set_cons_succ]
    refine wpU_take (v := ?_) 8 hst (fun _ h => h) rfl ?_ ?_; rotate_left; (intro W hS K hK; obtain ⟨hS0, hSK, hSA, hSB, hSC, hSD⟩ := hS; have cK := hSK.cell; have cA := hSA.cell; have cB := hSB.cell; have cC := hSC.cell; have cD := hSD.cell; clear hS0 hSK hSA hSB hSC hSD; go_simp; exact hK.out _ (Below.refl _ _)); simp only [Act.put, List.setIfInBounds_toArray, List.set_cons_zero, List.set_cons_succ]
    refine wpU_take (v := ?_) 9 hst (fun _ h => h) rfl ?_ ?_; rotate_left; (intro W hS K hK; obtain ⟨hS0, hSK, hSA, hSB, hSC, hSD⟩ := hS; have cK := hSK.cell; have cA := hSA.cell; have cB := hSB.cell; have cC := hSC.cell; have cD := hSD.cell; clear hS0 hSK hSA hSB hSC hSD; go_simp; exact hK.out _ (Below.refl _ _)); simp only [Act.put, List.setIfInBounds_toArray, List.set_cons_zero, List.set_cons_succ]
    refine wpU_take (v := ?_) 10 hst (fun _ h => h) rfl ?_ ?_; rotate_left; (intro W hS K hK; obtain ⟨hS0, hSK, hSA, hSB, hSC, hSD⟩ := hS; have cK := hSK.cell; have cA := hSA.cell; have cB := hSB.cell; have cC := hSC.cell; have cD := hSD.cell; clear hS0 hSK hSA hSB hSC hSD; go_simp; exact hK.out _ (Below.refl _ _)); simp only [Act.put, List.setIfInBounds_toArray, List.set_cons_zero, List.set_cons_succ]
    refine wpU_take (v := ?_) 11 hst (fun _ h => h) rfl ?_ ?_; rotate_left; (intro W hS K hK; obtain ⟨hS0, hSK, hSA, hSB, hSC, hSD⟩ := hS; have cK := hSK.cell; have cA := hSA.cell; have cB := hSB.cell; have cC := hSC.cell; have cD := hSD.cell; clear hS0 hSK hSA hSB hSC hSD; go_simp; exact hK.out _ (Below.refl _ _)); simp only [Act.put, List.setIfInBounds_toArray, List.set_cons_zero, List.set_cons_succ]
    refine wpU_take (v := ?_) 12 hst (fun _ h => h) rfl ?_ ?_; rotate_left; (intro W hS K hK; obtain ⟨hS0, hSK, hSA, hSB, hSC, hSD⟩ := hS; have cK := hSK.cell; have cA := hSA.cell; have cB := hSB.cell; have cC := hSC.cell; have cD := hSD.cell; clear hS0 hSK hSA hSB hSC hSD; go_simp; exact hK.out _ (Below.refl _ _)); simp only [Act.put, List.setIfInBounds_toArray, List.set_cons_zero, List.set_cons_succ]
    refine wpU_take (v := ?_) 13 hst (fun _ h => h) rfl ?_ ?_; rotate_left; (intro W hS K hK; obtain ⟨hS0, hSK, hSA, hSB, hSC, hSD⟩ := hS; have cK := hSK.cell; have cA := hSA.cell; have cB := hSB.cell; have cC := hSC.cell; have cD := hSD.cell; clear hS0 hSK hSA hSB hSC hSD; go_simp; exact hK.out _ (Below.refl _ _)); simp only [Act.put, List.setIfInBounds_toArray, List.set_cons_zero, List.set_cons_succ]
    refine wpU_take (v := ?_) 14 hst (fun _ h => h) rfl ?_ ?_; rotate_left; (intro W hS K hK; obtain ⟨hS0, hSK, hSA, hSB, hSC, hSD⟩ := hS; have cK := hSK.cell; have cA := hSA.cell; have cB := hSB.cell; have cC := hSC.cell; have cD := hSD.cell; clear hS0 hSK hSA hSB hSC hSD; go_simp; exact hK.out _ (Below.refl _ _)); simp only [Act.put, List.setIfInBounds_toArray, List.set_cons_zero, List.set_cons_succ]
    refine wpU_take (v := ?_) 15 hst (fun _ h => h) rfl ?_ ?_; rotate_left; (intro W hS K hK; obtain ⟨hS0, hSK, hSA, hSB, hSC, hSD⟩ := hS; have cK := hSK.cell; have cA := hSA.cell; have cB := hSB.cell; have cC := hSC.cell; have cD := hSD.cell; clear hS0 hSK hSA hSB hSC hSD; go_simp; exact hK.out _ (Below.refl _ _)); simp only [Act.put, List.setIfInBounds_toArray, List.set_cons_zero, List.set_cons_succ]
    refine wpU_take (v := ?_) 16 hst (fun _ h => h) rfl ?_ ?_; rotate_left; (intro W hS K hK; obtain ⟨hS0, hSK, hSA, hSB, hSC, hSD⟩ := hS; have cK := hSK.cell; have cA := hSA.cell; have cB := hSB.cell; have cC := hSC.cell; have cD := hSD.cell; clear hS0 hSK hSA hSB hSC hSD; go_simp; exact hK.out _ (Below.refl _ _)); simp only [Act.put, List.setIfInBounds_toArray, List.set_cons_zero, List.set_cons_succ]
    refine wpU_take (v := ?_) 17 hst (fun _ h => h) rfl ?_ ?_; rotate_left; (intro W hS K hK; obtain ⟨hS0, hSK, hSA, hSB, hSC, hSD⟩ := hS; have cK := hSK.cell; have cA := hSA.cell; have cB := hSB.cell; have cC := hSC.cell; have cD := hSD.cell; clear hS0 hSK hSA hSB hSC hSD; go_simp; exact hK.out _ (Below.refl _ _)); simp only [Act.put, List.setIfInBounds_toArray, List.set_cons_zero, List.set_cons_succ]
    refine wpU_take (v := ?_) 18 hst (fun _ h => h) rfl ?_ ?_; rotate_left; (intro W hS K hK; obtain ⟨hS0, hSK, hSA, hSB, hSC, hSD⟩ := hS; have cK := hSK.cell; have cA := hSA.cell; have cB := hSB.cell; have cC := hSC.cell; have cD := hSD.cell; clear hS0 hSK hSA hSB hSC hSD; go_simp; exact hK.out _ (Below.refl _ _)); simp only [Act.put, List.setIfInBounds_toArray, List.set_cons_zero, List.set_cons_succ]
    refine wpU_take (v := ?_) 19 hst (fun _ h => h) rfl ?_ ?_; rotate_left; (intro W hS K hK; obtain ⟨hS0, hSK, hSA, hSB, hSC, hSD⟩ := hS; have cK := hSK.cell; have cA := hSA.cell; have cB := hSB.cell; have cC := hSC.cell; have cD := hSD.cell; clear hS0 hSK hSA hSB hSC hSD; go_simp; exact hK.out _ (Below.refl _ _)); simp only [Act.put, List.setIfInBounds_toArray, List.set_cons_zero, List.set_cons_succ]
    refine wpU_take (v := ?_) 20 hst (fun _ h => h) rfl ?_ ?_; rotate_left; (intro W hS K hK; obtain ⟨hS0, hSK, hSA, hSB, hSC, hSD⟩ := hS; have cK := hSK.cell; have cA := hSA.cell; have cB := hSB.cell; have cC := hSC.cell; have cD := hSD.cell; clear hS0 hSK hSA hSB hSC hSD; go_simp; exact hK.out _ (Below.refl _ _)); simp only [Act.put, List.setIfInBounds_toArray, List.set_cons_zero, List.set_cons_succ]
    refine wpU_take (v := ?_) 21 hst (fun _ h => h) rfl ?_ ?_; rotate_left; (intro W hS K hK; obtain ⟨hS0, hSK, hSA, hSB, hSC, hSD⟩ := hS; have cK := hSK.cell; have cA := hSA.cell; have cB := hSB.cell; have cC := hSC.cell; have cD := hSD.cell; clear hS0 hSK hSA hSB hSC hSD; go_simp; exact hK.out _ (Below.refl _ _)); simp only [Act.put, List.setIfInBounds_toArray, List.set_cons_zero, List.set_cons_succ]
    refine wpU_take (v := ?_) 22 hst (fun _ h => h) rfl ?_ ?_; rotate_left; (intro W hS K hK; obtain ⟨hS0, hSK, hSA, hSB, hSC, hSD⟩ := hS; have cK := hSK.cell; have cA := hSA.cell; have cB := hSB.cell; have cC := hSC.cell; have cD := hSD.cell; clear hS0 hSK hSA hSB hSC hSD; go_simp; exact hK.out _ (Below.refl _ _)); simp only [Act.put, List.setIfInBounds_toArray, List.set_cons_zero, List.set_cons_succ]
    refine wpU_take (v := ?_) 23 hst (fun _ h => h) rfl ?_ ?_; rotate_left; (intro W hS K hK; clear hS; go_simp; refine (H7.out _).mono ?_; rintro e w9 ⟨rfl, hb⟩; refine CallPost.mk ?_; exact hK.out _ (hb)); simp only [Act.put, List.setIfInBounds_toArray, List.set_cons_zero, List.set_cons_succ]
    refine wpU_take (v := ?_) 24 hst (fun _ h => h) rfl ?_ ?_; rotate_left; (intro W hS K hK; obtain ⟨hS0, hSK, hSA, hSB, hSC, hSD⟩ := hS; have cK := hSK.cell; have cA := hSA.cell; have cB := hSB.cell; have cC := hSC.cell; have cD := hSD.cell; clear hS0 hSK hSA hSB hSC hSD; go_simp; exact hK.out _ (Below.refl _ _)); simp only [Act.put, List.setIfInBounds_toArray, List.set_cons_zero, List.set_cons_succ]
    refine wpU_take (v := ?_) 25 hst (fun _ h => h) rfl ?_ ?_; rotate_left; (intro W hS K hK; clear hS; go_simp; refine (H8.out _).mono ?_; rintro e w9 ⟨rfl, hb⟩; refine CallPost.mk ?_; exact hK.out _ (hb)); simp only [Act.put, List.setIfInBounds_toArray, List.set_cons_zero, List.set_cons_succ]
    refine wpU_take (v := ?_) 26 hst (fun _ h => h) rfl ?_ ?_; rotate_left; (intro W hS K hK; obtain ⟨hS0, hSK, hSA, hSB, hSC, hSD⟩ := hS; have cK := hSK.cell; have cA := hSA.cell; have cB := hSB.cell; have cC := hSC.cell; have cD := hSD.cell; clear hS0 hSK hSA hSB hSC hSD; go_simp; exact hK.out _ (Below.refl _ _)); simp only [Act.put, List.setIfInBounds_toArray, List.set_cons_zero, List.set_cons_succ]
    refine wpU_take (v := ?_) 27 hst (fun _ h => h) rfl ?_ ?_; rotate_left; (intro W hS K hK; obtain ⟨hS0, hSK, hSA, hSB, hSC, hSD⟩ := hS; have cK := hSK.cell; have cA := hSA.cell; have cB := hSB.cell; have cC := hSC.cell; have cD := hSD.cell; clear hS0 hSK hSA hSB hSC hSD; go_simp; exact hK.out _ (Below.refl _ _)); simp only [Act.put, List.setIfInBounds_toArray, List.set_cons_zero, List.set_cons_succ]
    refine wpU_take (v := ?_) 28 hst (fun _ h => h) rfl ?_ ?_; rotate_left; (intro W hS K hK; obtain ⟨hS0, hSK, hSA, hSB, hSC, hSD⟩ := hS; have cK := hSK.cell; have cA := hSA.cell; have cB := hSB.cell; have cC := hSC.cell; have cD := hSD.cell; clear hS0 hSK hSA hSB hSC hSD; go_simp; exact hK.out _ (Below.refl _ _)); simp only [Act.put, List.setIfInBounds_toArray, List.set_cons_zero, List.set_cons_succ]
    refine wpU_take (v := ?_) 29 hst (fun _ h => h) rfl ?_ ?_; rotate_left; (intro W hS K hK; obtain ⟨hS0, hSK, hSA, hSB, hSC, hSD⟩ := hS; have cK := hSK.cell; have cA := hSA.cell; have cB := hSB.cell; have cC := hSC.cell; have cD := hSD.cell; clear hS0 hSK hSA hSB hSC hSD; go_simp; exact hK.out _ (Below.refl _ _)); simp only [Act.put, List.setIfInBounds_toArray, List.set_cons_zero, List.set_cons_succ]
    refine wpU_take (v := ?_) 30 hst (fun _ h => h) rfl ?_ ?_; rotate_left; (intro W hS K hK; obtain ⟨hS0, hSK, hSA, hSB, hSC, hSD⟩ := hS; have cK := hSK.cell; have cA := hSA.cell; have cB := hSB.cell; have cC := hSC.cell; have cD := hSD.cell; clear hS0 hSK hSA hSB hSC hSD; go_simp; exact hK.out _ (Below.refl _ _)); simp only [Act.put, List.setIfInBounds_toArray, List.set_cons_zero, List.set_cons_succ]
    refine wpU_take (v := ?_) 31 hst (fun _ h => h) rfl ?_ ?_; rotate_left; (intro W hS K hK; obtain ⟨hS0, hSK, hSA, hSB, hSC, hSD⟩ := hS; have cK := hSK.cell; have cA := hSA.cell; have cB := hSB.cell; have cC := hSC.cell; have cD := hSD.cell; clear hS0 hSK hSA hSB hSC hSD; go_simp; exact hK.out _ (Below.refl _ _)); simp only [Act.put, List.setIfInBounds_toArray, List.set_cons_zero, List.set_cons_succ]
    refine wpU_take (v := ?_) 32 hst (fun _ h => h) rfl ?_ ?_; rotate_left; (intro W hS K hK; obtain ⟨hS0, hSK, hSA, hSB, hSC, hSD⟩ := hS; have cK := hSK.cell; have cA := hSA.cell; have cB := hSB.cell; have cC := hSC.cell; have cD := hSD.cell; clear hS0 hSK hSA hSB hSC hSD; go_simp; exact hK.out _ (Below.refl _ _)); simp only [Act.put, List.setIfInBounds_toArray, List.set_cons_zero, List.set_cons_succ]
    refine wpU_take (v := ?_) 33 hst (fun _ h => h) rfl ?_ ?_; rotate_left; (intro W hS K hK; obtain ⟨hS0, hSK, hSA, hSB, hSC, hSD⟩ := hS; have cK := hSK.cell; have cA := hSA.cell; have cB := hSB.cell; have cC := hSC.cell; have cD := hSD.cell; clear hS0 hSK hSA hSB hSC hSD; go_simp; exact hK.out _ (Below.refl _ _)); simp only [Act.put, List.setIfInBounds_toArray, List.set_cons_zero, List.set_cons_succ]
    refine wpU_take (v := ?_) 34 hst (fun _ h => h) rfl ?_ ?_; rotate_left; (intro W hS K hK; obtain ⟨hS0, hSK, hSA, hSB, hSC, hSD⟩ := hS; have cK := hSK.cell; have cA := hSA.cell; have cB := hSB.cell; have cC := hSC.cell; have cD := hSD.cell; clear hS0 hSK hSA hSB hSC hSD; go_simp; exact hK.out _ (Below.refl _ _)); simp only [Act.put, List.setIfInBounds_toArray, List.set_cons_zero, List.set_cons_succ]
    refine wpU_take (v := ?_) 35 hst (fun _ h => h) rfl ?_ ?_; rotate_left; (intro W hS K hK; obtain ⟨hS0, hSK, hSA, hSB, hSC, hSD⟩ := hS; have cK := hSK.cell; have cA := hSA.cell; have cB := hSB.cell; have cC := hSC.cell; have cD := hSD.cell; clear hS0 hSK hSA hSB hSC hSD; go_simp; exact hK.out _ (Below.refl _ _)); simp only [Act.put, List.setIfInBounds_toArray, List.set_cons_zero, List.set_cons_succ]
    refine wpU_take (v := ?_) 36 hst (fun _ h => h) rfl ?_ ?_; rotate_left; (intro W hS K hK; obtain ⟨hS0, hSK, hSA, hSB, hSC, hSD⟩ := hS; have cK := hSK.cell; have cA := hSA.cell; have cB := hSB.cell; have cC := hSC.cell; have cD := hSD.cell; clear hS0 hSK hSA hSB hSC hSD; go_simp; exact hK.out _ (Below.refl _ _)); simp only [Act.put, List.setIfInBounds_toArray, List.set_cons_zero, List.set_cons_succ]
    refine wpU_take (v := ?_) 37 hst (fun _ h => h) rfl ?_ ?_; rotate_left; (intro W hS K hK; obtain ⟨hS0, hSK, hSA, hSB, hSC, hSD⟩ := hS; have cK := hSK.cell; have cA := hSA.cell; have cB := hSB.cell; have cC := hSC.cell; have cD := hSD.cell; clear hS0 hSK hSA hSB hSC hSD; go_simp; exact hK.out _ (Below.refl _ _)); simp only [Act.put, List.setIfInBounds_toArray, List.set_cons_zero, List.set_cons_succ]
    refine wpU_take (v := ?_) 38 hst (fun _ h => h) rfl ?_ ?_; rotate_left; (intro W hS K hK; obtain ⟨hS0, hSK, hSA, hSB, hSC, hSD⟩ := hS; have cK := hSK.cell; have cA := hSA.cell; have cB := hSB.cell; have cC := hSC.cell; have cD := hSD.cell; clear hS0 hSK hSA hSB hSC hSD; go_simp; exact hK.out _ (Below.refl _ _)); simp only [Act.put, List.setIfInBounds_toArray, List.set_cons_zero, List.set_cons_succ]
    refine wpU_done (fun W hS => ?_)
    go_wp2
    go_ret
    exact ⟨rfl, hS.1⟩
  · have e0 : timelyB ⟨ix, up, sn⟩ now = false := decide_eq_false ht
    rw [e0] at h0
    have H0 := Lib.hid h0
    clear h0 e0 ht
    go_enter Try.func7, Try.ntmps7
    go_wp2_with fail
    refine (H0.out _).mono ?_; rintro e w1 ⟨rfl, hb1⟩
    have hb01 := bt0.trans (hb1.mono bt0.size)
    go_wp2_with fail
    refine (lives52 _).mono ?_; rintro e w2 ⟨rfl, hb2⟩
    go_wp2
    go_ret
    exact ⟨rfl, hb01.trans (hb2.mono hb01.size)⟩
end Go.Proofs.Ytmehemojopfihaa
