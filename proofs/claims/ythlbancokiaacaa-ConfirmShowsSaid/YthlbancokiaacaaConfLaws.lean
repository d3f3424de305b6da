/- The walks of the laws of layer 10 (confirm). -/
import Derived.Test.YthlbancokiaacaaConf
import Derived.Deep.QuietTactic
namespace Go.Proofs.Ythlbancokiaacaa
open Go.ChangeShapes Go.WideShapes Go.ChangeAt Go.RowKit
set_option linter.unusedVariables false
set_option linter.unusedSimpArgs false

theorem lives10 (w : World) : Calls Try.prog 11 #[] w fun e w' => e = .returned (.bool true) ∧ Below w.heap.size w w' := by
  have hz : mix 0#64 (BitVec.ofInt 64 0) = 0#64 := by decide +kernel
  have hne : (W64 (mix 1#64 (BitVec.ofInt 64 2)) != W64 (mix 1#64 (BitVec.ofInt 64 3))) = true := by rw [W64_bne]; decide +kernel
  have O := Lib.hid (show ∀ W, Calls Try.prog 16 #[.int .u32 9, .int .u64 4] W fun e w' => e = .returned (.agg #[.int .u64 (W64 (commitK 9#32 9#32 4#64 0#8)), .int .u64 4]) ∧ Below W.heap.size W w' from fun W => conf_OOB 9#32 4#64 W)
  have C := Lib.hid (show ∀ W, Calls Try.prog 14 #[.int .u32 9, .int .u32 9, .int .u64 4, .int .u8 0] W fun e w' => e = .returned (.int .u64 (W64 (commitK 9#32 9#32 4#64 0#8))) ∧ Below W.heap.size W w' from fun W => conf_Commit 9#32 9#32 4#64 0#8 W)
  have D0 := Lib.hid (show ∀ W, Calls Try.prog 12 #[.int .u64 0, .int .i64 0] W fun e w' => e = .returned (.int .u64 0) ∧ Below W.heap.size W w' from fun W => by
    have := conf_Draw 0#64 0 W
    rw [hz] at this
    exact this)
  have D2 := Lib.hid (show ∀ W, Calls Try.prog 12 #[.int .u64 1, .int .i64 2] W fun e w' => e = .returned (.int .u64 (W64 (mix 1#64 (BitVec.ofInt 64 2)))) ∧ Below W.heap.size W w' from fun W => conf_Draw 1#64 2 W)
  have D3 := Lib.hid (show ∀ W, Calls Try.prog 12 #[.int .u64 1, .int .i64 3] W fun e w' => e = .returned (.int .u64 (W64 (mix 1#64 (BitVec.ofInt 64 3)))) ∧ Below W.heap.size W w' from fun W => conf_Draw 1#64 3 W)
  clear hz
  generalize mix 1#64 (BitVec.ofInt 64 2) = m2 at *
  generalize mix 1#64 (BitVec.ofInt 64 3) = m3 at *
  generalize commitK 9#32 9#32 4#64 0#8 = cm at *
  go_enter Try.func11, Try.ntmps11
  go_wp2_with fail
  refine (O.out _).mono ?_; rintro e w1 ⟨rfl, hb1⟩
  go_wp2
  have hG0 := Blk.new w1 29 #[.int .u64 (W64 cm), .int .u64 4]
  have hB0 : Below w.heap.size w (w1.alloc (.cells #[.int .u64 (W64 cm), .int .u64 4] 29)) := hb1.alloc hb1.size _
  have hst := stable_and (stable_below w.heap.size w (Nat.le_refl _)) (stable_blk w1.heap.size 29 #[.int .u64 (W64 cm), .int .u64 4])
  refine wp_region_v _ 19 hst ⟨hB0.drew, hG0⟩ ?_
  refine wpU_take (v := ?_) 0 hst (fun _ h => h) rfl ?_ ?_; rotate_left; (intro W hS K hK; have hc := hS.2.cell; clear hS; go_simp; exact hK.out _ (Below.refl _ _)); simp only [Act.put, List.setIfInBounds_toArray, List.set_cons_zero, List.set_cons_succ]
  refine wpU_take (v := ?_) 1 hst (fun _ h => h) rfl ?_ ?_; rotate_left; (intro W hS K hK; have hc := hS.2.cell; clear hS; go_simp; exact hK.out _ (Below.refl _ _)); simp only [Act.put, List.setIfInBounds_toArray, List.set_cons_zero, List.set_cons_succ]
  refine wpU_take (v := ?_) 2 hst (fun _ h => h) rfl ?_ ?_; rotate_left; (intro W hS K hK; have hc := hS.2.cell; clear hS; go_simp; exact hK.out _ (Below.refl _ _)); simp only [Act.put, List.setIfInBounds_toArray, List.set_cons_zero, List.set_cons_succ]
  refine wpU_take (v := ?_) 3 hst (fun _ h => h) rfl ?_ ?_; rotate_left; (intro W hS K hK; have hc := hS.2.cell; clear hS; go_simp; exact hK.out _ (Below.refl _ _)); simp only [Act.put, List.setIfInBounds_toArray, List.set_cons_zero, List.set_cons_succ]
  refine wpU_take (v := ?_) 4 hst (fun _ h => h) rfl ?_ ?_; rotate_left; (intro W hS K hK; have hc := hS.2.cell; clear hS; go_simp; exact hK.out _ (Below.refl _ _)); simp only [Act.put, List.setIfInBounds_toArray, List.set_cons_zero, List.set_cons_succ]
  refine wpU_take (v := ?_) 5 hst (fun _ h => h) rfl ?_ ?_; rotate_left; (intro W hS K hK; have hc := hS.2.cell; clear hS; go_simp; exact hK.out _ (Below.refl _ _)); simp only [Act.put, List.setIfInBounds_toArray, List.set_cons_zero, List.set_cons_succ]
  refine wpU_take (v := ?_) 6 hst (fun _ h => h) rfl ?_ ?_; rotate_left; (intro W hS K hK; clear hS; go_simp; refine (C.out _).mono ?_; rintro e w9 ⟨rfl, hb⟩; refine CallPost.mk ?_; exact hK.out _ (hb)); simp only [Act.put, List.setIfInBounds_toArray, List.set_cons_zero, List.set_cons_succ]
  refine wpU_take (v := ?_) 7 hst (fun _ h => h) rfl ?_ ?_; rotate_left; (intro W hS K hK; clear hS; go_simp; exact hK.out _ (Below.refl _ _)); simp only [Act.put, List.setIfInBounds_toArray, List.set_cons_zero, List.set_cons_succ]
  refine wpU_take (v := ?_) 8 hst (fun _ h => h) rfl ?_ ?_; rotate_left; (intro W hS K hK; clear hS; go_simp; exact hK.out _ (Below.refl _ _)); simp only [Act.put, List.setIfInBounds_toArray, List.set_cons_zero, List.set_cons_succ]
  refine wpU_take (v := ?_) 9 hst (fun _ h => h) rfl ?_ ?_; rotate_left; (intro W hS K hK; clear hS; go_simp; exact hK.out _ (Below.refl _ _)); simp only [Act.put, List.setIfInBounds_toArray, List.set_cons_zero, List.set_cons_succ]
  refine wpU_take (v := ?_) 10 hst (fun _ h => h) rfl ?_ ?_; rotate_left; (intro W hS K hK; clear hS; go_simp; refine (D0.out _).mono ?_; rintro e w9 ⟨rfl, hb⟩; refine CallPost.mk ?_; exact hK.out _ (hb)); simp only [Act.put, List.setIfInBounds_toArray, List.set_cons_zero, List.set_cons_succ]
  refine wpU_take (v := ?_) 11 hst (fun _ h => h) rfl ?_ ?_; rotate_left; (intro W hS K hK; clear hS; go_simp; exact hK.out _ (Below.refl _ _)); simp only [Act.put, List.setIfInBounds_toArray, List.set_cons_zero, List.set_cons_succ]
  refine wpU_take (v := ?_) 12 hst (fun _ h => h) rfl ?_ ?_; rotate_left; (intro W hS K hK; clear hS; go_simp; exact hK.out _ (Below.refl _ _)); simp only [Act.put, List.setIfInBounds_toArray, List.set_cons_zero, List.set_cons_succ]
  refine wpU_take (v := ?_) 13 hst (fun _ h => h) rfl ?_ ?_; rotate_left; (intro W hS K hK; clear hS; go_simp; exact hK.out _ (Below.refl _ _)); simp only [Act.put, List.setIfInBounds_toArray, List.set_cons_zero, List.set_cons_succ]
  refine wpU_take (v := ?_) 14 hst (fun _ h => h) rfl ?_ ?_; rotate_left; (intro W hS K hK; clear hS; go_simp; refine (D2.out _).mono ?_; rintro e w9 ⟨rfl, hb⟩; refine CallPost.mk ?_; exact hK.out _ (hb)); simp only [Act.put, List.setIfInBounds_toArray, List.set_cons_zero, List.set_cons_succ]
  refine wpU_take (v := ?_) 15 hst (fun _ h => h) rfl ?_ ?_; rotate_left; (intro W hS K hK; clear hS; go_simp; refine (D3.out _).mono ?_; rintro e w9 ⟨rfl, hb⟩; refine CallPost.mk ?_; exact hK.out _ (hb)); simp only [Act.put, List.setIfInBounds_toArray, List.set_cons_zero, List.set_cons_succ]
  refine wpU_take (v := ?_) 16 hst (fun _ h => h) rfl ?_ ?_; rotate_left; (intro W hS K hK; clear hS; go_simp; exact hK.out _ (Below.refl _ _)); simp only [Act.put, List.setIfInBounds_toArray, List.set_cons_zero, List.set_cons_succ]
  refine wpU_take (v := ?_) 17 hst (fun _ h => h) rfl ?_ ?_; rotate_left; (intro W hS K hK; clear hS; go_simp; exact hK.out _ (Below.refl _ _)); simp only [Act.put, List.setIfInBounds_toArray, List.set_cons_zero, List.set_cons_succ]
  refine wpU_take (v := ?_) 18 hst (fun _ h => h) rfl ?_ ?_; rotate_left; (intro W hS K hK; clear hS; go_simp; exact hK.out _ (Below.refl _ _)); simp only [Act.put, List.setIfInBounds_toArray, List.set_cons_zero, List.set_cons_succ]
  refine wpU_done (fun W hS => ?_)
  go_wp2
  go_ret
  exact ⟨rfl, hS.1⟩
theorem draw_inj (s : BitVec 64) (i j : Int) (wi : (Lit.int .i64 i).wf = true) (wj : (Lit.int .i64 j).wf = true) : (mix s (BitVec.ofInt 64 i) == mix s (BitVec.ofInt 64 j)) = (i == j) := by
  rw [mix_inj, Bool.eq_iff_iff, beq_iff_eq, beq_iff_eq]
  constructor
  · intro h
    have := congrArg BitVec.toInt h
    rw [BitVec.toInt_ofInt, BitVec.toInt_ofInt] at this
    simp [Lit.wf, IntKind.min, IntKind.max, IntKind.signed, IntKind.bits] at wi wj
    rw [Int.bmod_def, Int.bmod_def] at this
    omega
  · intro h
    rw [h]
theorem law_ConfirmDraws (seed : BitVec 64) (i : Int) (wi : (Lit.int .i64 i).wf = true) (j : Int) (wj : (Lit.int .i64 j).wf = true) (w : World) :
    Calls Try.prog 3 #[.int .u64 (W64 seed), .int .i64 i, .int .i64 j] w fun e w' => e = .returned (.bool true) ∧ Below w.heap.size w w' := by
  have hij := draw_inj seed i j wi wj
  rw [← W64_beq] at hij
  have H1 := Lib.hid (fun W => conf_Draw seed i W)
  have H2 := Lib.hid (fun W => ref10_Draw seed i W)
  have H3 := Lib.hid (fun W => conf_Draw seed j W)
  generalize mix seed (BitVec.ofInt 64 i) = m1 at *
  generalize mix seed (BitVec.ofInt 64 j) = m2 at *
  go_enter Try.func3, Try.ntmps3
  go_wp2_with fail
  refine (lives10 _).mono ?_; rintro e w1 ⟨rfl, hb1⟩
  go_wp2_with fail
  refine (H1.out _).mono ?_; rintro e w2 ⟨rfl, hb2⟩
  have hb02 := hb1.trans (hb2.mono hb1.size)
  go_wp2_with fail
  refine (H2.out _).mono ?_; rintro e w3 ⟨rfl, hb3⟩
  have hb03 := hb02.trans (hb3.mono hb02.size)
  go_wp2_with fail
  refine (H1.out _).mono ?_; rintro e w4 ⟨rfl, hb4⟩
  have hb04 := hb03.trans (hb4.mono hb03.size)
  go_wp2_with fail
  refine (H3.out _).mono ?_; rintro e w5 ⟨rfl, hb5⟩
  have hb05 := hb04.trans (hb5.mono hb04.size)
  go_wp2
  go_ret
  exact ⟨rfl, hb05⟩
theorem law_ConfirmCommits (u v : BitVec 32) (nonce : BitVec 64) (z : BitVec 8) (w : World) :
    Calls Try.prog 4 #[.int .u32 (W32 u), .int .u32 (W32 v), .int .u64 (W64 nonce), .int .u8 (W8 z)] w fun e w' => e = .returned (.bool true) ∧ Below w.heap.size w w' := by
  have H1 := Lib.hid (fun W => conf_Commit u v nonce z W)
  have H2 := Lib.hid (fun W => ref10_Commit u v nonce z W)
  have H3 := Lib.hid (fun W => conf_OOB u nonce W)
  have H4 := Lib.hid (fun W => ref10_OOB u nonce W)
  generalize commitK u v nonce z = m1 at *
  generalize commitK u u nonce 0#8 = m2 at *
  go_enter Try.func4, Try.ntmps4
  go_wp2_with fail
  refine (lives10 _).mono ?_; rintro e w1 ⟨rfl, hb1⟩
  go_wp2_with fail
  refine (H1.out _).mono ?_; rintro e w2 ⟨rfl, hb2⟩
  have hb02 := hb1.trans (hb2.mono hb1.size)
  go_wp2_with fail
  refine (H2.out _).mono ?_; rintro e w3 ⟨rfl, hb3⟩
  have hb03 := hb02.trans (hb3.mono hb02.size)
  go_wp2_with fail
  refine (H3.out _).mono ?_; rintro e w4 ⟨rfl, hb4⟩
  have hb04 := hb03.trans (hb4.mono hb03.size)
  go_wp2_with fail
  refine (H4.out _).mono ?_; rintro e w5 ⟨rfl, hb5⟩
  have hb05 := hb04.trans (hb5.mono hb04.size)
  go_wp2
  go_ret
  exact ⟨rfl, hb05⟩
theorem law_ConfirmBinds (u v : BitVec 32) (a b : BitVec 64) (z : BitVec 8) (w : World) :
    Calls Try.prog 5 #[.int .u32 (W32 u), .int .u32 (W32 v), .int .u64 (W64 a), .int .u64 (W64 b), .int .u8 (W8 z)] w fun e w' => e = .returned (.bool true) ∧ Below w.heap.size w w' := by
  have hij := commit_inj u v a b z
  rw [← W64_beq, ← W64_beq a b] at hij
  have H1 := Lib.hid (fun W => conf_Commit u v a z W)
  have H2 := Lib.hid (fun W => conf_Commit u v b z W)
  generalize commitK u v a z = m1 at *
  generalize commitK u v b z = m2 at *
  go_enter Try.func5, Try.ntmps5
  go_wp2_with fail
  refine (lives10 _).mono ?_; rintro e w1 ⟨rfl, hb1⟩
  go_wp2_with fail
  refine (H1.out _).mono ?_; rintro e w2 ⟨rfl, hb2⟩
  have hb02 := hb1.trans (hb2.mono hb1.size)
  go_wp2_with fail
  refine (H2.out _).mono ?_; rintro e w3 ⟨rfl, hb3⟩
  have hb03 := hb02.trans (hb3.mono hb02.size)
  go_wp2
  go_ret
  exact ⟨rfl, hb03⟩
theorem law_ConfirmDigits (u v : BitVec 32) (na nb : BitVec 64) (w : World) :
    Calls Try.prog 6 #[.int .u32 (W32 u), .int .u32 (W32 v), .int .u64 (W64 na), .int .u64 (W64 nb)] w fun e w' => e = .returned (.bool true) ∧ Below w.heap.size w w' := by
  have hlt := digitsK_lt u v na nb
  have H1 := Lib.hid (fun W => conf_Digits u v na nb W)
  have H2 := Lib.hid (fun W => ref10_Digits u v na nb W)
  generalize (digitsK u v na nb).toNat = d at *
  have hlt2 : (d : Int) < 1000000 := by omega
  have e1 : decide ((d : Int) < 1000000) = true := by simpa using hlt2
  have e2 : decide (0 ≤ (d : Int)) = true := by simp
  go_enter Try.func6, Try.ntmps6
  go_wp2_with fail
  refine (H1.out _).mono ?_; rintro e w1 ⟨rfl, hb1⟩
  go_wp2_with fail
  refine (lives10 _).mono ?_; rintro e w2 ⟨rfl, hb2⟩
  have hb02 := hb1.trans (hb2.mono hb1.size)
  go_wp2_with fail
  refine (H2.out _).mono ?_; rintro e w3 ⟨rfl, hb3⟩
  have hb03 := hb02.trans (hb3.mono hb02.size)
  go_wp2
  go_ret
  exact ⟨rfl, hb03⟩
theorem law_ConfirmKeys (sh : BitVec 32) (na nb : BitVec 64) (ka : Int) (wka : (Lit.int .i64 ka).wf = true) (xa : BitVec 64) (kb : Int) (wkb : (Lit.int .i64 kb).wf = true) (xb : BitVec 64) (w : World) :
    Calls Try.prog 8 #[.int .u32 (W32 sh), .int .u64 (W64 na), .int .u64 (W64 nb), .agg #[.int .i64 ka, .int .u64 (W64 xa)], .agg #[.int .i64 kb, .int .u64 (W64 xb)]] w fun e w' => e = .returned (.bool true) ∧ Below w.heap.size w w' := by
  have H1 := Lib.hid (fun W => conf_LongTerm sh na nb ka xa kb xb W)
  have H2 := Lib.hid (fun W => ref10_LongTerm sh na nb ka xa kb xb W)
  generalize ltkK sh na nb (numA ka xa) (numA kb xb) = k at *
  go_enter Try.func8, Try.ntmps8
  go_wp2
  have hX := box2 w 39 #[.int .i64 ka, .int .u64 (W64 xa)] 39 #[.int .i64 kb, .int .u64 (W64 xb)]
  have hst := st2 w 39 #[.int .i64 ka, .int .u64 (W64 xa)] 39 #[.int .i64 kb, .int .u64 (W64 xb)]
  refine wp_region_v _ 17 hst ⟨hX.1.drew, hX.2⟩ ?_
  refine wpU_take (v := ?_) 0 hst (fun _ h => h) rfl ?_ ?_; rotate_left; (intro W hS K hK; clear hS; go_simp; refine (lives10 _).mono ?_; rintro e w9 ⟨rfl, hb⟩; refine CallPost.mk ?_; exact hK.out _ (hb)); simp only [Act.put, List.setIfInBounds_toArray, List.set_cons_zero, List.set_cons_succ]
  refine wpU_take (v := ?_) 1 hst (fun _ h => h) rfl ?_ ?_; rotate_left; (intro W hS K hK; have h1 := hS.2.1.cell; have h2 := hS.2.2.cell; clear hS; go_simp; exact hK.out _ (Below.refl _ _)); simp only [Act.put, List.setIfInBounds_toArray, List.set_cons_zero, List.set_cons_succ]
  refine wpU_take (v := ?_) 2 hst (fun _ h => h) rfl ?_ ?_; rotate_left; (intro W hS K hK; have h1 := hS.2.1.cell; have h2 := hS.2.2.cell; clear hS; go_simp; exact hK.out _ (Below.refl _ _)); simp only [Act.put, List.setIfInBounds_toArray, List.set_cons_zero, List.set_cons_succ]
  refine wpU_take (v := ?_) 3 hst (fun _ h => h) rfl ?_ ?_; rotate_left; (intro W hS K hK; have h1 := hS.2.1.cell; have h2 := hS.2.2.cell; clear hS; go_simp; exact hK.out _ (Below.refl _ _)); simp only [Act.put, List.setIfInBounds_toArray, List.set_cons_zero, List.set_cons_succ]
  refine wpU_take (v := ?_) 4 hst (fun _ h => h) rfl ?_ ?_; rotate_left; (intro W hS K hK; have h1 := hS.2.1.cell; have h2 := hS.2.2.cell; clear hS; go_simp; exact hK.out _ (Below.refl _ _)); simp only [Act.put, List.setIfInBounds_toArray, List.set_cons_zero, List.set_cons_succ]
  refine wpU_take (v := ?_) 5 hst (fun _ h => h) rfl ?_ ?_; rotate_left; (intro W hS K hK; have h1 := hS.2.1.cell; have h2 := hS.2.2.cell; clear hS; go_simp; exact hK.out _ (Below.refl _ _)); simp only [Act.put, List.setIfInBounds_toArray, List.set_cons_zero, List.set_cons_succ]
  refine wpU_take (v := ?_) 6 hst (fun _ h => h) rfl ?_ ?_; rotate_left; (intro W hS K hK; have h1 := hS.2.1.cell; have h2 := hS.2.2.cell; clear hS; go_simp; exact hK.out _ (Below.refl _ _)); simp only [Act.put, List.setIfInBounds_toArray, List.set_cons_zero, List.set_cons_succ]
  refine wpU_take (v := ?_) 7 hst (fun _ h => h) rfl ?_ ?_; rotate_left; (intro W hS K hK; clear hS; go_simp; refine (H1.out _).mono ?_; rintro e w9 ⟨rfl, hb⟩; refine CallPost.mk ?_; exact hK.out _ (hb)); simp only [Act.put, List.setIfInBounds_toArray, List.set_cons_zero, List.set_cons_succ]
  refine wpU_take (v := ?_) 8 hst (fun _ h => h) rfl ?_ ?_; rotate_left; (intro W hS K hK; have h1 := hS.2.1.cell; have h2 := hS.2.2.cell; clear hS; go_simp; exact hK.out _ (Below.refl _ _)); simp only [Act.put, List.setIfInBounds_toArray, List.set_cons_zero, List.set_cons_succ]
  refine wpU_take (v := ?_) 9 hst (fun _ h => h) rfl ?_ ?_; rotate_left; (intro W hS K hK; have h1 := hS.2.1.cell; have h2 := hS.2.2.cell; clear hS; go_simp; exact hK.out _ (Below.refl _ _)); simp only [Act.put, List.setIfInBounds_toArray, List.set_cons_zero, List.set_cons_succ]
  refine wpU_take (v := ?_) 10 hst (fun _ h => h) rfl ?_ ?_; rotate_left; (intro W hS K hK; have h1 := hS.2.1.cell; have h2 := hS.2.2.cell; clear hS; go_simp; exact hK.out _ (Below.refl _ _)); simp only [Act.put, List.setIfInBounds_toArray, List.set_cons_zero, List.set_cons_succ]
  refine wpU_take (v := ?_) 11 hst (fun _ h => h) rfl ?_ ?_; rotate_left; (intro W hS K hK; have h1 := hS.2.1.cell; have h2 := hS.2.2.cell; clear hS; go_simp; exact hK.out _ (Below.refl _ _)); simp only [Act.put, List.setIfInBounds_toArray, List.set_cons_zero, List.set_cons_succ]
  refine wpU_take (v := ?_) 12 hst (fun _ h => h) rfl ?_ ?_; rotate_left; (intro W hS K hK; have h1 := hS.2.1.cell; have h2 := hS.2.2.cell; clear hS; go_simp; exact hK.out _ (Below.refl _ _)); simp only [Act.put, List.setIfInBounds_toArray, List.set_cons_zero, List.set_cons_succ]
  refine wpU_take (v := ?_) 13 hst (fun _ h => h) rfl ?_ ?_; rotate_left; (intro W hS K hK; clear hS; go_simp; refine (H2.out _).mono ?_; rintro e w9 ⟨rfl, hb⟩; refine CallPost.mk ?_; exact hK.out _ (hb)); simp only [Act.put, List.setIfInBounds_toArray, List.set_cons_zero, List.set_cons_succ]
  refine wpU_take (v := ?_) 14 hst (fun _ h => h) rfl ?_ ?_; rotate_left; (intro W hS K hK; clear hS; go_simp; exact hK.out _ (Below.refl _ _)); simp only [Act.put, List.setIfInBounds_toArray, List.set_cons_zero, List.set_cons_succ]
  refine wpU_take (v := ?_) 15 hst (fun _ h => h) rfl ?_ ?_; rotate_left; (intro W hS K hK; clear hS; go_simp; exact hK.out _ (Below.refl _ _)); simp only [Act.put, List.setIfInBounds_toArray, List.set_cons_zero, List.set_cons_succ]
  refine wpU_take (v := ?_) 16 hst (fun _ h => h) rfl ?_ ?_; rotate_left; (intro W hS K hK; clear hS; go_simp; exact hK.out _ (Below.refl _ _)); simp only [Act.put, List.setIfInBounds_toArray, List.set_cons_zero, List.set_cons_succ]
  refine wpU_done (fun W hS => ?_)
  go_wp2
  go_ret
  exact ⟨rfl, hS.1⟩
theorem law_ConfirmChecks (sh : BitVec 32) (n r : BitVec 64) (io : Int) (wio : (Lit.int .i64 io).wf = true) (b1 b2 b3 b4 b5 : Bool) (ka : Int) (wka : (Lit.int .i64 ka).wf = true) (xa : BitVec 64) (kb : Int) (wkb : (Lit.int .i64 kb).wf = true) (xb : BitVec 64) (w : World) :
    Calls Try.prog 9 #[.int .u32 (W32 sh), .int .u64 (W64 n), .int .u64 (W64 r), .agg #[.int .i64 io, .bool b1, .bool b2, .bool b3, .bool b4, .bool b5], .agg #[.int .i64 ka, .int .u64 (W64 xa)], .agg #[.int .i64 kb, .int .u64 (W64 xb)]] w fun e w' => e = .returned (.bool true) ∧ Below w.heap.size w w' := by
  have H1 := Lib.hid (fun W => conf_Check sh n r io b1 b2 b3 b4 b5 ka xa kb xb W)
  have H2 := Lib.hid (fun W => ref10_Check sh n r io b1 b2 b3 b4 b5 ka xa kb xb W)
  generalize checkK sh n r (featK io [b1, b2, b3, b4, b5]) (numA ka xa) (numA kb xb) = k at *
  go_enter Try.func9, Try.ntmps9
  go_wp2
  have hX := box3 w 43 #[.int .i64 io, .bool b1, .bool b2, .bool b3, .bool b4, .bool b5] 39 #[.int .i64 ka, .int .u64 (W64 xa)] 39 #[.int .i64 kb, .int .u64 (W64 xb)]
  have hst := st3 w 43 #[.int .i64 io, .bool b1, .bool b2, .bool b3, .bool b4, .bool b5] 39 #[.int .i64 ka, .int .u64 (W64 xa)] 39 #[.int .i64 kb, .int .u64 (W64 xb)]
  refine wp_region_v _ 19 hst ⟨hX.1.drew, hX.2⟩ ?_
  refine wpU_take (v := ?_) 0 hst (fun _ h => h) rfl ?_ ?_; rotate_left; (intro W hS K hK; clear hS; go_simp; refine (lives10 _).mono ?_; rintro e w9 ⟨rfl, hb⟩; refine CallPost.mk ?_; exact hK.out _ (hb)); simp only [Act.put, List.setIfInBounds_toArray, List.set_cons_zero, List.set_cons_succ]
  refine wpU_take (v := ?_) 1 hst (fun _ h => h) rfl ?_ ?_; rotate_left; (intro W hS K hK; have h1 := hS.2.1.cell; have h2 := hS.2.2.1.cell; have h3 := hS.2.2.2.cell; clear hS; go_simp; exact hK.out _ (Below.refl _ _)); simp only [Act.put, List.setIfInBounds_toArray, List.set_cons_zero, List.set_cons_succ]
  refine wpU_take (v := ?_) 2 hst (fun _ h => h) rfl ?_ ?_; rotate_left; (intro W hS K hK; have h1 := hS.2.1.cell; have h2 := hS.2.2.1.cell; have h3 := hS.2.2.2.cell; clear hS; go_simp; exact hK.out _ (Below.refl _ _)); simp only [Act.put, List.setIfInBounds_toArray, List.set_cons_zero, List.set_cons_succ]
  refine wpU_take (v := ?_) 3 hst (fun _ h => h) rfl ?_ ?_; rotate_left; (intro W hS K hK; have h1 := hS.2.1.cell; have h2 := hS.2.2.1.cell; have h3 := hS.2.2.2.cell; clear hS; go_simp; exact hK.out _ (Below.refl _ _)); simp only [Act.put, List.setIfInBounds_toArray, List.set_cons_zero, List.set_cons_succ]
  refine wpU_take (v := ?_) 4 hst (fun _ h => h) rfl ?_ ?_; rotate_left; (intro W hS K hK; have h1 := hS.2.1.cell; have h2 := hS.2.2.1.cell; have h3 := hS.2.2.2.cell; clear hS; go_simp; exact hK.out _ (Below.refl _ _)); simp only [Act.put, List.setIfInBounds_toArray, List.set_cons_zero, List.set_cons_succ]
  refine wpU_take (v := ?_) 5 hst (fun _ h => h) rfl ?_ ?_; rotate_left; (intro W hS K hK; have h1 := hS.2.1.cell; have h2 := hS.2.2.1.cell; have h3 := hS.2.2.2.cell; clear hS; go_simp; exact hK.out _ (Below.refl _ _)); simp only [Act.put, List.setIfInBounds_toArray, List.set_cons_zero, List.set_cons_succ]
  refine wpU_take (v := ?_) 6 hst (fun _ h => h) rfl ?_ ?_; rotate_left; (intro W hS K hK; have h1 := hS.2.1.cell; have h2 := hS.2.2.1.cell; have h3 := hS.2.2.2.cell; clear hS; go_simp; exact hK.out _ (Below.refl _ _)); simp only [Act.put, List.setIfInBounds_toArray, List.set_cons_zero, List.set_cons_succ]
  refine wpU_take (v := ?_) 7 hst (fun _ h => h) rfl ?_ ?_; rotate_left; (intro W hS K hK; have h1 := hS.2.1.cell; have h2 := hS.2.2.1.cell; have h3 := hS.2.2.2.cell; clear hS; go_simp; exact hK.out _ (Below.refl _ _)); simp only [Act.put, List.setIfInBounds_toArray, List.set_cons_zero, List.set_cons_succ]
  refine wpU_take (v := ?_) 8 hst (fun _ h => h) rfl ?_ ?_; rotate_left; (intro W hS K hK; clear hS; go_simp; refine (H1.out _).mono ?_; rintro e w9 ⟨rfl, hb⟩; refine CallPost.mk ?_; exact hK.out _ (hb)); simp only [Act.put, List.setIfInBounds_toArray, List.set_cons_zero, List.set_cons_succ]
  refine wpU_take (v := ?_) 9 hst (fun _ h => h) rfl ?_ ?_; rotate_left; (intro W hS K hK; have h1 := hS.2.1.cell; have h2 := hS.2.2.1.cell; have h3 := hS.2.2.2.cell; clear hS; go_simp; exact hK.out _ (Below.refl _ _)); simp only [Act.put, List.setIfInBounds_toArray, List.set_cons_zero, List.set_cons_succ]
  refine wpU_take (v := ?_) 10 hst (fun _ h => h) rfl ?_ ?_; rotate_left; (intro W hS K hK; have h1 := hS.2.1.cell; have h2 := hS.2.2.1.cell; have h3 := hS.2.2.2.cell; clear hS; go_simp; exact hK.out _ (Below.refl _ _)); simp only [Act.put, List.setIfInBounds_toArray, List.set_cons_zero, List.set_cons_succ]
  refine wpU_take (v := ?_) 11 hst (fun _ h => h) rfl ?_ ?_; rotate_left; (intro W hS K hK; have h1 := hS.2.1.cell; have h2 := hS.2.2.1.cell; have h3 := hS.2.2.2.cell; clear hS; go_simp; exact hK.out _ (Below.refl _ _)); simp only [Act.put, List.setIfInBounds_toArray, List.set_cons_zero, List.set_cons_succ]
  refine wpU_take (v := ?_) 12 hst (fun _ h => h) rfl ?_ ?_; rotate_left; (intro W hS K hK; have h1 := hS.2.1.cell; have h2 := hS.2.2.1.cell; have h3 := hS.2.2.2.cell; clear hS; go_simp; exact hK.out _ (Below.refl _ _)); simp only [Act.put, List.setIfInBounds_toArray, List.set_cons_zero, List.set_cons_succ]
  refine wpU_take (v := ?_) 13 hst (fun _ h => h) rfl ?_ ?_; rotate_left; (intro W hS K hK; have h1 := hS.2.1.cell; have h2 := hS.2.2.1.cell; have h3 := hS.2.2.2.cell; clear hS; go_simp; exact hK.out _ (Below.refl _ _)); simp only [Act.put, List.setIfInBounds_toArray, List.set_cons_zero, List.set_cons_succ]
  refine wpU_take (v := ?_) 14 hst (fun _ h => h) rfl ?_ ?_; rotate_left; (intro W hS K hK; have h1 := hS.2.1.cell; have h2 := hS.2.2.1.cell; have h3 := hS.2.2.2.cell; clear hS; go_simp; exact hK.out _ (Below.refl _ _)); simp only [Act.put, List.setIfInBounds_toArray, List.set_cons_zero, List.set_cons_succ]
  refine wpU_take (v := ?_) 15 hst (fun _ h => h) rfl ?_ ?_; rotate_left; (intro W hS K hK; clear hS; go_simp; refine (H2.out _).mono ?_; rintro e w9 ⟨rfl, hb⟩; refine CallPost.mk ?_; exact hK.out _ (hb)); simp only [Act.put, List.setIfInBounds_toArray, List.set_cons_zero, List.set_cons_succ]
  refine wpU_take (v := ?_) 16 hst (fun _ h => h) rfl ?_ ?_; rotate_left; (intro W hS K hK; clear hS; go_simp; exact hK.out _ (Below.refl _ _)); simp only [Act.put, List.setIfInBounds_toArray, List.set_cons_zero, List.set_cons_succ]
  refine wpU_take (v := ?_) 17 hst (fun _ h => h) rfl ?_ ?_; rotate_left; (intro W hS K hK; clear hS; go_simp; exact hK.out _ (Below.refl _ _)); simp only [Act.put, List.setIfInBounds_toArray, List.set_cons_zero, List.set_cons_succ]
  refine wpU_take (v := ?_) 18 hst (fun _ h => h) rfl ?_ ?_; rotate_left; (intro W hS K hK; clear hS; go_simp; exact hK.out _ (Below.refl _ _)); simp only [Act.put, List.setIfInBounds_toArray, List.set_cons_zero, List.set_cons_succ]
  refine wpU_done (fun W hS => ?_)
  go_wp2
  go_ret
  exact ⟨rfl, hS.1⟩
theorem law_ConfirmShows (s t : BitVec 32) (n r : BitVec 64) (io : Int) (wio : (Lit.int .i64 io).wf = true) (b1 b2 b3 b4 b5 : Bool) (ka : Int) (wka : (Lit.int .i64 ka).wf = true) (xa : BitVec 64) (kb : Int) (wkb : (Lit.int .i64 kb).wf = true) (xb : BitVec 64) (w : World) :
    Calls Try.prog 10 #[.int .u32 (W32 s), .int .u32 (W32 t), .int .u64 (W64 n), .int .u64 (W64 r), .agg #[.int .i64 io, .bool b1, .bool b2, .bool b3, .bool b4, .bool b5], .agg #[.int .i64 ka, .int .u64 (W64 xa)], .agg #[.int .i64 kb, .int .u64 (W64 xb)]] w fun e w' => e = .returned (.bool true) ∧ Below w.heap.size w w' := by
  have hij := check_inj s t n r (featK io [b1, b2, b3, b4, b5]) (numA ka xa) (numA kb xb)
  rw [← W64_beq, ← W32_beq] at hij
  have H1 := Lib.hid (fun W => conf_Check s n r io b1 b2 b3 b4 b5 ka xa kb xb W)
  have H2 := Lib.hid (fun W => conf_Check t n r io b1 b2 b3 b4 b5 ka xa kb xb W)
  generalize checkK s n r (featK io [b1, b2, b3, b4, b5]) (numA ka xa) (numA kb xb) = k at *
  generalize checkK t n r (featK io [b1, b2, b3, b4, b5]) (numA ka xa) (numA kb xb) = l at *
  go_enter Try.func10, Try.ntmps10
  go_wp2
  have hX := box3 w 43 #[.int .i64 io, .bool b1, .bool b2, .bool b3, .bool b4, .bool b5] 39 #[.int .i64 ka, .int .u64 (W64 xa)] 39 #[.int .i64 kb, .int .u64 (W64 xb)]
  have hst := st3 w 43 #[.int .i64 io, .bool b1, .bool b2, .bool b3, .bool b4, .bool b5] 39 #[.int .i64 ka, .int .u64 (W64 xa)] 39 #[.int .i64 kb, .int .u64 (W64 xb)]
  refine wp_region_v _ 23 hst ⟨hX.1.drew, hX.2⟩ ?_
  refine wpU_take (v := ?_) 0 hst (fun _ h => h) rfl ?_ ?_; rotate_left; (intro W hS K hK; clear hS; go_simp; refine (lives10 _).mono ?_; rintro e w9 ⟨rfl, hb⟩; refine CallPost.mk ?_; exact hK.out _ (hb)); simp only [Act.put, List.setIfInBounds_toArray, List.set_cons_zero, List.set_cons_succ]
  refine wpU_take (v := ?_) 1 hst (fun _ h => h) rfl ?_ ?_; rotate_left; (intro W hS K hK; have h1 := hS.2.1.cell; have h2 := hS.2.2.1.cell; have h3 := hS.2.2.2.cell; clear hS; go_simp; exact hK.out _ (Below.refl _ _)); simp only [Act.put, List.setIfInBounds_toArray, List.set_cons_zero, List.set_cons_succ]
  refine wpU_take (v := ?_) 2 hst (fun _ h => h) rfl ?_ ?_; rotate_left; (intro W hS K hK; have h1 := hS.2.1.cell; have h2 := hS.2.2.1.cell; have h3 := hS.2.2.2.cell; clear hS; go_simp; exact hK.out _ (Below.refl _ _)); simp only [Act.put, List.setIfInBounds_toArray, List.set_cons_zero, List.set_cons_succ]
  refine wpU_take (v := ?_) 3 hst (fun _ h => h) rfl ?_ ?_; rotate_left; (intro W hS K hK; have h1 := hS.2.1.cell; have h2 := hS.2.2.1.cell; have h3 := hS.2.2.2.cell; clear hS; go_simp; exact hK.out _ (Below.refl _ _)); simp only [Act.put, List.setIfInBounds_toArray, List.set_cons_zero, List.set_cons_succ]
  refine wpU_take (v := ?_) 4 hst (fun _ h => h) rfl ?_ ?_; rotate_left; (intro W hS K hK; have h1 := hS.2.1.cell; have h2 := hS.2.2.1.cell; have h3 := hS.2.2.2.cell; clear hS; go_simp; exact hK.out _ (Below.refl _ _)); simp only [Act.put, List.setIfInBounds_toArray, List.set_cons_zero, List.set_cons_succ]
  refine wpU_take (v := ?_) 5 hst (fun _ h => h) rfl ?_ ?_; rotate_left; (intro W hS K hK; have h1 := hS.2.1.cell; have h2 := hS.2.2.1.cell; have h3 := hS.2.2.2.cell; clear hS; go_simp; exact hK.out _ (Below.refl _ _)); simp only [Act.put, List.setIfInBounds_toArray, List.set_cons_zero, List.set_cons_succ]
  refine wpU_take (v := ?_) 6 hst (fun _ h => h) rfl ?_ ?_; rotate_left; (intro W hS K hK; have h1 := hS.2.1.cell; have h2 := hS.2.2.1.cell; have h3 := hS.2.2.2.cell; clear hS; go_simp; exact hK.out _ (Below.refl _ _)); simp only [Act.put, List.setIfInBounds_toArray, List.set_cons_zero, List.set_cons_succ]
  refine wpU_take (v := ?_) 7 hst (fun _ h => h) rfl ?_ ?_; rotate_left; (intro W hS K hK; have h1 := hS.2.1.cell; have h2 := hS.2.2.1.cell; have h3 := hS.2.2.2.cell; clear hS; go_simp; exact hK.out _ (Below.refl _ _)); simp only [Act.put, List.setIfInBounds_toArray, List.set_cons_zero, List.set_cons_succ]
  refine wpU_take (v := ?_) 8 hst (fun _ h => h) rfl ?_ ?_; rotate_left; (intro W hS K hK; clear hS; go_simp; refine (H1.out _).mono ?_; rintro e w9 ⟨rfl, hb⟩; refine CallPost.mk ?_; exact hK.out _ (hb)); simp only [Act.put, List.setIfInBounds_toArray, List.set_cons_zero, List.set_cons_succ]
  refine wpU_take (v := ?_) 9 hst (fun _ h => h) rfl ?_ ?_; rotate_left; (intro W hS K hK; have h1 := hS.2.1.cell; have h2 := hS.2.2.1.cell; have h3 := hS.2.2.2.cell; clear hS; go_simp; exact hK.out _ (Below.refl _ _)); simp only [Act.put, List.setIfInBounds_toArray, List.set_cons_zero, List.set_cons_succ]
  refine wpU_take (v := ?_) 10 hst (fun _ h => h) rfl ?_ ?_; rotate_left; (intro W hS K hK; have h1 := hS.2.1.cell; have h2 := hS.2.2.1.cell; have h3 := hS.2.2.2.cell; clear hS; go_simp; exact hK.out _ (Below.refl _ _)); simp only [Act.put, List.setIfInBounds_toArray, List.set_cons_zero, List.set_cons_succ]
  refine wpU_take (v := ?_) 11 hst (fun _ h => h) rfl ?_ ?_; rotate_left; (intro W hS K hK; have h1 := hS.2.1.cell; have h2 := hS.2.2.1.cell; have h3 := hS.2.2.2.cell; clear hS; go_simp; exact hK.out _ (Below.refl _ _)); simp only [Act.put, List.setIfInBounds_toArray, List.set_cons_zero, List.set_cons_succ]
  refine wpU_take (v := ?_) 12 hst (fun _ h => h) rfl ?_ ?_; rotate_left; (intro W hS K hK; have h1 := hS.2.1.cell; have h2 := hS.2.2.1.cell; have h3 := hS.2.2.2.cell; clear hS; go_simp; exact hK.out _ (Below.refl _ _)); simp only [Act.put, List.setIfInBounds_toArray, List.set_cons_zero, List.set_cons_succ]
  refine wpU_take (v := ?_) 13 hst (fun _ h => h) rfl ?_ ?_; rotate_left; (intro W hS K hK; have h1 := hS.2.1.cell; have h2 := hS.2.2.1.cell; have h3 := hS.2.2.2.cell; clear hS; go_simp; exact hK.out _ (Below.refl _ _)); simp only [Act.put, List.setIfInBounds_toArray, List.set_cons_zero, List.set_cons_succ]
  refine wpU_take (v := ?_) 14 hst (fun _ h => h) rfl ?_ ?_; rotate_left; (intro W hS K hK; have h1 := hS.2.1.cell; have h2 := hS.2.2.1.cell; have h3 := hS.2.2.2.cell; clear hS; go_simp; exact hK.out _ (Below.refl _ _)); simp only [Act.put, List.setIfInBounds_toArray, List.set_cons_zero, List.set_cons_succ]
  refine wpU_take (v := ?_) 15 hst (fun _ h => h) rfl ?_ ?_; rotate_left; (intro W hS K hK; clear hS; go_simp; refine (H2.out _).mono ?_; rintro e w9 ⟨rfl, hb⟩; refine CallPost.mk ?_; exact hK.out _ (hb)); simp only [Act.put, List.setIfInBounds_toArray, List.set_cons_zero, List.set_cons_succ]
  refine wpU_take (v := ?_) 16 hst (fun _ h => h) rfl ?_ ?_; rotate_left; (intro W hS K hK; clear hS; go_simp; exact hK.out _ (Below.refl _ _)); simp only [Act.put, List.setIfInBounds_toArray, List.set_cons_zero, List.set_cons_succ]
  refine wpU_take (v := ?_) 17 hst (fun _ h => h) rfl ?_ ?_; rotate_left; (intro W hS K hK; clear hS; go_simp; exact hK.out _ (Below.refl _ _)); simp only [Act.put, List.setIfInBounds_toArray, List.set_cons_zero, List.set_cons_succ]
  refine wpU_take (v := ?_) 18 hst (fun _ h => h) rfl ?_ ?_; rotate_left; (intro W hS K hK; clear hS; go_simp; exact hK.out _ (Below.refl _ _)); simp only [Act.put, List.setIfInBounds_toArray, List.set_cons_zero, List.set_cons_succ]
  refine wpU_take (v := ?_) 19 hst (fun _ h => h) rfl ?_ ?_; rotate_left; (intro W hS K hK; clear hS; go_simp; exact hK.out _ (Below.refl _ _)); simp only [Act.put, List.setIfInBounds_toArray, List.set_cons_zero, List.set_cons_succ]
  refine wpU_take (v := ?_) 20 hst (fun _ h => h) rfl ?_ ?_; rotate_left; (intro W hS K hK; clear hS; go_simp; exact hK.out _ (Below.refl _ _)); simp only [Act.put, List.setIfInBounds_toArray, List.set_cons_zero, List.set_cons_succ]
  refine wpU_take (v := ?_) 21 hst (fun _ h => h) rfl ?_ ?_; rotate_left; (intro W hS K hK; clear hS; go_simp; exact hK.out _ (Below.refl _ _)); simp only [Act.put, List.setIfInBounds_toArray, List.set_cons_zero, List.set_cons_succ]
  refine wpU_take (v := ?_) 22 hst (fun _ h => h) rfl ?_ ?_; rotate_left; (intro W hS K hK; clear hS; go_simp; exact hK.out _ (Below.refl _ _)); simp only [Act.put, List.setIfInBounds_toArray, List.set_cons_zero, List.set_cons_succ]
  refine wpU_done (fun W hS => ?_)
  go_wp2
  go_ret
  exact ⟨rfl, hS.1⟩
theorem law_ConfirmBuilt (u v : BitVec 32) (na nb : BitVec 64) (z : BitVec 8) (w : World) :
    Calls Try.prog 7 #[.int .u32 (W32 u), .int .u32 (W32 v), .int .u64 (W64 na), .int .u64 (W64 nb), .int .u8 (W8 z)] w fun e w' => e = .returned (.bool true) ∧ Below w.heap.size w w' := by
  have hlt := digitsK_lt u v na nb
  have H1 := Lib.hid (fun W => conf_Commit u v na z W)
  have H2 := Lib.hid (fun W => conf_Digits u v na nb W)
  obtain ⟨r, hr⟩ : ∃ r, derive (joinW u v) (lbytes lblCommit) [z.setWidth 64] = r := ⟨_, rfl⟩
  have hc : commitK u v na z = mix r na := by unfold commitK; rw [hr]
  have HR := Lib.hid (fun W t => der_row (joinW u v) lblCommit [z.setWidth 64] 1 rfl (by simp) (by decide) W t)
  obtain ⟨d, hd⟩ : ∃ d, derive (joinW u v) (lbytes lblDigits) [na, nb] = d := ⟨_, rfl⟩
  have hg : digitsK u v na nb = d % 1000000#64 := by unfold digitsK; rw [hd]
  have HD := Lib.hid (fun W t => der_row (joinW u v) lblDigits [na, nb] 2 rfl (by simp) (by decide) W t)
  rw [hr] at HR
  rw [hd] at HD
  rw [hc] at H1
  rw [hg] at H2 hlt
  clear hr hd hc hg
  have hw : W64 (d % 1000000#64) = ((d % 1000000#64).toNat : Int) := rfl
  have hi : IntKind.i64.wrap (W64 (d % 1000000#64)) = W64 (d % 1000000#64) := by rw [hw]; exact IntWalk.i64_in _ (by omega)
  rw [← hw] at H2
  clear hw hlt
  have HJ : joinW u v = u.setWidth 64 * 4294967296#64 + v.setWidth 64 := (join_mul u v).symm
  rw [HJ] at HR HD
  clear HJ
  go_enter Try.func7, Try.ntmps7
  go_wp2_with fail
  refine (lives10 _).mono ?_; rintro e w1 ⟨rfl, hb1⟩
  go_wp2_with fail
  refine (H1.out _).mono ?_; rintro e w2 ⟨rfl, hb2⟩
  have hb02 := hb1.trans (hb2.mono hb1.size)
  go_wp2_with fail
  refine (HR.out _ _).mono ?_; rintro e w3 ⟨rfl, hb3⟩
  have hb03 := hb02.trans (hb3.mono hb02.size)
  go_wp2_with fail
  refine (block_Mix _ _ _).mono ?_; rintro e w4 ⟨rfl, hb4⟩
  have hb04 := hb03.trans (hb4.mono hb03.size)
  go_wp2_with fail
  refine (H2.out _).mono ?_; rintro e w5 ⟨rfl, hb5⟩
  have hb05 := hb04.trans (hb5.mono hb04.size)
  go_wp2_with fail
  refine (HD.out _ _).mono ?_; rintro e w6 ⟨rfl, hb6⟩
  have hb06 := hb05.trans (hb6.mono hb05.size)
  go_wp2
  go_ret
  exact ⟨rfl, hb06⟩
end Go.Proofs.Ythlbancokiaacaa
