/- Part of the proofs of the laws of pairing. -/
import Derived.Test.YtihmbcnccdiecaaGreatDoorA2
import Derived.Test.YtihmbcnccdiecaaGreatDoorBLowB
namespace Go.Proofs.YtihmbcnccdiecaaGreatDoor
set_option maxRecDepth 100000
open Go.ChangeShapes Go.WideShapes Go.ChangeAt Go.RowKit
set_option linter.unusedVariables false
set_option linter.unusedSimpArgs false
theorem rme_Check (f : Feat) (w : World) :
  Calls Tryz.prog 17 #[.agg (featL f).toArray] w (fun e w' => e = .returned (.int .i64 (featK_ f)) ∧ Below w.heap.size w w') := by
 obtain ⟨r, hr⟩ : ∃ r, featK_ f = r := ⟨_, rfl⟩
 rw [hr]
 have HR := Lib.hid hr
 clear hr
 go_enter Tryz.func17, Tryz.ntmps17
 have hB := Below.refl w.heap.size w
 go_wp2_with (with_reducible refine so ?_)
 refine go_mem (ty := 23) (cs := (featL f).toArray) (fun g => .pointer (some ⟨g, 0, none⟩)) rfl (by kernel_rfl) ?_
 intro g_1 w_2 z_6 l_5 hb_3 G_4
 have n_7 : w.heap.size ≤ g_1 := Nat.le_trans hB.size l_5
 replace hB := hB.trans (hb_3.mono hB.size)
 clear hb_3 l_5 z_6
 by_cases hc_8 : (f.io : Int) < 0
 ·
  obtain ⟨ec_8m, ec_8, ec_8n, kc_8⟩ := lT hc_8; clear hc_8
  have ld_9 := G_4.c 0 (.int .i64 f.io)
  go_wp2_with (with_reducible refine so ?_)
  go_returns
  have q0 := kc_8.out
  have er : r = 5 := by rw [← HR.out]; unfold featK_; first | (rw [if_pos (by omega)]; done) | (rw [if_neg (by omega)]; done)
  rw [er]
  exact ⟨rfl, hB⟩
 obtain ⟨ec_8m, ec_8, ec_8n, kc_8⟩ := lF hc_8; clear hc_8
 by_cases hc_10 : (4 : Int) < f.io
 ·
  obtain ⟨ec_10m, ec_10, ec_10n, kc_10⟩ := lT hc_10; clear hc_10
  have ld_11 := G_4.c 0 (.int .i64 f.io)
  go_wp2_with (with_reducible refine so ?_)
  go_returns
  have q0 := kc_8.out
  have q1 := kc_10.out
  have er : r = 5 := by rw [← HR.out]; unfold featK_; first | (rw [if_pos (by omega)]; done) | (rw [if_neg (by omega)]; done)
  rw [er]
  exact ⟨rfl, hB⟩
 obtain ⟨ec_10m, ec_10, ec_10n, kc_10⟩ := lF hc_10; clear hc_10
 have ld_12 := G_4.c 0 (.int .i64 f.io)
 go_wp2_with (with_reducible refine so ?_)
 go_returns
 have q0 := kc_8.out
 have q1 := kc_10.out
 have er : r = 0 := by rw [← HR.out]; unfold featK_; first | (rw [if_pos (by omega)]; done) | (rw [if_neg (by omega)]; done)
 rw [er]
 exact ⟨rfl, hB⟩
theorem rad_prefix2 (w : World) : Calls Tryz.prog 39 #[.int .i64 2] w fun e w' => e = .returned (.int .u64 3) ∧ Below w.heap.size w w' := by
 go_enter Tryz.func39, Tryz.ntmps39
 go_wp2
 go_ret
 exact ⟨rfl, Below.refl _ _⟩
theorem rad_prefix3 (w : World) : Calls Tryz.prog 39 #[.int .i64 3] w fun e w' => e = .returned (.int .u64 1) ∧ Below w.heap.size w w' := by
 go_enter Tryz.func39, Tryz.ntmps39
 go_wp2
 go_ret
 exact ⟨rfl, Below.refl _ _⟩
theorem rad_prefix4 (w : World) : Calls Tryz.prog 39 #[.int .i64 4] w fun e w' => e = .returned (.int .u64 0) ∧ Below w.heap.size w w' := by
 go_enter Tryz.func39, Tryz.ntmps39
 go_wp2
 go_ret
 exact ⟨rfl, Below.refl _ _⟩
def adrC (k : Int) (x : BitVec 64) : Int :=
  if k < 1 ∨ 4 < k then 12
  else if ¬ x < 281474976710656#64 then 5
  else if k = 1 then 0
  else
    let m := if k = 3 then x % 70368744177664#64 / 16777216#64 else x % 70368744177664#64
    let most := if k = 3 then 4194303#64 else 70368744177663#64
    if x / 70368744177664#64 ≠ BitVec.ofInt 64 (prefixK k) ∨ m = 0#64 ∨ m = most then 1 else 0
theorem adrC_eq (a : Adr) : adrC a.kind a.bits = adrK a := by
  obtain ⟨k, x⟩ := a
  unfold adrC adrK
  dsimp only
  have hx := x.isLt
  by_cases h1 : k < 1 ∨ 4 < k
  · rw [if_pos h1, if_pos h1]
  rw [if_neg h1, if_neg h1]
  have el : (¬ x < 281474976710656#64) ↔ 281474976710656 ≤ x.toNat := by rw [BitVec.not_lt, BitVec.le_def]; rfl
  by_cases h2 : 281474976710656 ≤ x.toNat
  · rw [if_pos (el.mpr h2), if_pos h2]
  rw [if_neg (fun h => h2 (el.mp h)), if_neg h2]
  by_cases h3 : k = 1
  · rw [if_pos h3, if_pos h3]
  rw [if_neg h3, if_neg h3]
  have e46 : (x / 70368744177664#64).toNat = x.toNat / 70368744177664 := by rw [BitVec.toNat_udiv]; rfl
  have e0 : (x % 70368744177664#64).toNat = x.toNat % 70368744177664 := by rw [BitVec.toNat_umod]; rfl
  have e3 : (x % 70368744177664#64 / 16777216#64).toNat = x.toNat % 70368744177664 / 16777216 := by rw [BitVec.toNat_udiv, e0]; rfl
  rcases (by omega : k = 2 ∨ k = 3 ∨ k = 4) with rfl | rfl | rfl
  · simp only [eq_nat, Ne, e46, e0, reduceIte, Int.reduceEq, show prefixK 2 = 3 from rfl]
    norm_cast
  · simp only [eq_nat, Ne, e46, e3, reduceIte, Int.reduceEq, show prefixK 3 = 1 from rfl]
    norm_cast
  · simp only [eq_nat, Ne, e46, e0, reduceIte, Int.reduceEq, show prefixK 4 = 0 from rfl]
    norm_cast
theorem rad_Check_low (k : Int) (x : BitVec 64) (w : World) (hk : k < 1 ∨ 4 < k) : Calls Tryz.prog 18 #[.agg #[.int .i64 k, .int .u64 (W64 x)]] w fun e w' => e = .returned (.int .i64 12) ∧ Below w.heap.size w w' := by
 rcases hk with h | h
 ·
  go_enter Tryz.func18, Tryz.ntmps18
  go_wp2
  go_ret
  exact ⟨rfl, (Below.refl _ _).alloc (Nat.le_refl _) _⟩
 have h0 : ¬ k < 1 := by omega
 go_enter Tryz.func18, Tryz.ntmps18
 go_wp2
 go_ret
 exact ⟨rfl, (Below.refl _ _).alloc (Nat.le_refl _) _⟩
theorem rad_Check_1 (x : BitVec 64) (w : World) :
  Calls Tryz.prog 18 #[.agg #[.int .i64 1, .int .u64 (W64 x)]] w (fun e w' => e = .returned (.int .i64 (adrC 1 x)) ∧ Below w.heap.size w w') := by
 obtain ⟨r, hr⟩ : ∃ r, adrC 1 x = r := ⟨_, rfl⟩
 rw [hr]
 have HR := Lib.hid hr
 clear hr
 obtain ⟨mk, hmk⟩ : ∃ m : BitVec 64, 70368744177663#64 = m := ⟨_, rfl⟩
 have hM : (Value.int .u64 70368744177663) = .int .u64 (W64 mk) := by rw [← hmk]; rfl
 have HK := Lib.hid hmk
 clear hmk
 go_enter Tryz.func18, Tryz.ntmps18
 have hB := Below.refl w.heap.size w
 go_wp2_with (with_reducible refine so ?_)
 refine go_mem (ty := 26) (cs := #[.int .i64 1, .int .u64 (W64 x)]) (fun g => .pointer (some ⟨g, 0, none⟩)) rfl (by kernel_rfl) ?_
 intro g_1 w_2 z_6 l_5 hb_3 G_4
 have n_7 : w.heap.size ≤ g_1 := Nat.le_trans hB.size l_5
 replace hB := hB.trans (hb_3.mono hB.size)
 clear hb_3 l_5 z_6
 by_cases hc_8 : x < 281474976710656#64
 ·
  have ec_8 : decide ((W64 x : Int) < 281474976710656) = true := decide_eq_true (show W64 x < W64 (281474976710656#64) by rw [W64_lt]; exact hc_8)
  have ec_8n : decide ((281474976710656 : Int) ≤ W64 x) = false := decide_eq_false (fun hh => absurd (show W64 (281474976710656#64) ≤ W64 x from hh) (by rw [W64_le]; exact BitVec.not_le.2 hc_8))
  have kc_8 := Lib.hid hc_8
  clear hc_8
  have ld_9 := G_4.c 0 (.int .i64 1)
  have ld_10 := G_4.c 1 (.int .u64 (W64 x))
  go_wp2_with (with_reducible refine so ?_)
  go_returns
  have q0 := kc_8.out
  have er : r = 0 := by rw [← HR.out]; have mk0 := HK.out; unfold adrC; rw [if_neg (by decide)]; simp [show prefixK 1 = 0 from rfl, mk0, q0] <;> simp_all
  rw [er]
  exact ⟨rfl, hB⟩
 have ec_8 : decide ((W64 x : Int) < 281474976710656) = false := decide_eq_false (fun hh => hc_8 (by have h2 : W64 x < W64 (281474976710656#64) := hh; rw [W64_lt] at h2; exact h2))
 have ec_8n : decide ((281474976710656 : Int) ≤ W64 x) = true := decide_eq_true (show W64 (281474976710656#64) ≤ W64 x by rw [W64_le]; exact BitVec.not_lt.1 hc_8)
 have kc_8 := Lib.hid hc_8
 clear hc_8
 have ld_11 := G_4.c 0 (.int .i64 1)
 have ld_12 := G_4.c 1 (.int .u64 (W64 x))
 go_wp2_with (with_reducible refine so ?_)
 go_returns
 have q0 := kc_8.out
 have er : r = 5 := by rw [← HR.out]; have mk0 := HK.out; unfold adrC; rw [if_neg (by decide)]; simp [show prefixK 1 = 0 from rfl, mk0, q0] <;> simp_all
 rw [er]
 exact ⟨rfl, hB⟩
theorem rad_Check_2 (x : BitVec 64) (w : World) :
  Calls Tryz.prog 18 #[.agg #[.int .i64 2, .int .u64 (W64 x)]] w (fun e w' => e = .returned (.int .i64 (adrC 2 x)) ∧ Below w.heap.size w w') := by
 obtain ⟨r, hr⟩ : ∃ r, adrC 2 x = r := ⟨_, rfl⟩
 rw [hr]
 have HR := Lib.hid hr
 clear hr
 obtain ⟨mk, hmk⟩ : ∃ m : BitVec 64, 70368744177663#64 = m := ⟨_, rfl⟩
 have hM : (Value.int .u64 70368744177663) = .int .u64 (W64 mk) := by rw [← hmk]; rfl
 have HK := Lib.hid hmk
 clear hmk
 go_enter Tryz.func18, Tryz.ntmps18
 have hB := Below.refl w.heap.size w
 go_wp2_with (with_reducible refine so ?_)
 refine go_mem (ty := 26) (cs := #[.int .i64 2, .int .u64 (W64 x)]) (fun g => .pointer (some ⟨g, 0, none⟩)) rfl (by kernel_rfl) ?_
 intro g_1 w_2 z_6 l_5 hb_3 G_4
 have n_7 : w.heap.size ≤ g_1 := Nat.le_trans hB.size l_5
 replace hB := hB.trans (hb_3.mono hB.size)
 clear hb_3 l_5 z_6
 by_cases hc_8 : x < 281474976710656#64
 ·
  have ec_8 : decide ((W64 x : Int) < 281474976710656) = true := decide_eq_true (show W64 x < W64 (281474976710656#64) by rw [W64_lt]; exact hc_8)
  have ec_8n : decide ((281474976710656 : Int) ≤ W64 x) = false := decide_eq_false (fun hh => absurd (show W64 (281474976710656#64) ≤ W64 x from hh) (by rw [W64_le]; exact BitVec.not_le.2 hc_8))
  have kc_8 := Lib.hid hc_8
  clear hc_8
  by_cases hc_9 : x / (70368744177664#64) = 3#64
  ·
   have ec_9 : ((W64 (x / (70368744177664#64)) : Int) == 3) = true := by have this : (W64 (x / (70368744177664#64)) == W64 (3#64)) = true := (by rw [W64_beq]; simpa using hc_9); exact this
   have ec_9n : ((W64 (x / (70368744177664#64)) : Int) != 3) = false := by have this : (W64 (x / (70368744177664#64)) != W64 (3#64)) = false := (by rw [W64_bne]; simpa using hc_9); exact this
   have kc_9 := Lib.hid hc_9
   clear hc_9
   by_cases hc_10 : x % (70368744177664#64) = 0#64
   ·
    have ec_10 : ((W64 (x % (70368744177664#64)) : Int) == 0) = true := by have this : (W64 (x % (70368744177664#64)) == W64 (0#64)) = true := (by rw [W64_beq]; simpa using hc_10); exact this
    have ec_10n : ((W64 (x % (70368744177664#64)) : Int) != 0) = false := by have this : (W64 (x % (70368744177664#64)) != W64 (0#64)) = false := (by rw [W64_bne]; simpa using hc_10); exact this
    have kc_10 := Lib.hid hc_10
    clear hc_10
    have ld_11 := G_4.c 0 (.int .i64 2)
    have ld_12 := G_4.c 1 (.int .u64 (W64 x))
    go_wp2_with (with_reducible refine so ?_)
    simp only [hM]
    clear ld_11 ld_12
    have hst : Stable fun W => Below w.heap.size w W ∧ Blk W g_1 26 #[.int .i64 2, .int .u64 (W64 x)] := stable_and (stable_below _ _ (Nat.le_refl _)) (stable_blk _ _ _)
    refine wp_region_v _ 16 hst ⟨hB.drew, G_4⟩ ?_
    clear hB G_4
    refine wpU_p 0 hst ?_
    refine wpU_c 1 (.int .u64 (W64 x)) hst (fun W hS => hS.2.cell 1) ?_
    refine wpU_p 2 hst ?_
    refine wpU_p 3 hst ?_
    refine wpU_c 4 (.int .i64 2) hst (fun W hS => hS.2.cell 0) ?_
    refine wpU_take (v := ?_) 5 hst (fun _ h => h) rfl ?_ ?_; rotate_left; (intro W hS K hK; clear hS; go_simp; refine (rad_prefix2 _).mono ?_; rintro e w9 ⟨rfl, hb⟩; refine CallPost.mk ?_; exact hK.out _ (hb)); simp only [nrm]
    refine wpU_p 6 hst ?_
    refine wpU_p 7 hst ?_
    refine wpU_p 8 hst ?_
    refine wpU_p 9 hst ?_
    refine wpU_p 10 hst ?_
    refine wpU_p 11 hst ?_
    refine wpU_s 12 hst ?_
    refine wpU_s 13 hst ?_
    refine wpU_s 14 hst ?_
    refine wpU_p 15 hst ?_
    refine wpU_done (fun w_13 hS => ?_)
    obtain ⟨hB, G_4⟩ := hS
    clear hst
    go_wp2_with (with_reducible refine so ?_)
    go_returns
    have q0 := kc_8.out
    have q1 := kc_9.out
    have q2 := kc_10.out
    have er : r = 1 := by rw [← HR.out]; have mk0 := HK.out; unfold adrC; rw [if_neg (by decide)]; simp [show prefixK 2 = 3 from rfl, mk0, q0, q1, q2] <;> simp_all
    rw [er]
    exact ⟨rfl, hB⟩
   have ec_10 : ((W64 (x % (70368744177664#64)) : Int) == 0) = false := by have this : (W64 (x % (70368744177664#64)) == W64 (0#64)) = false := (by rw [W64_beq]; simpa using hc_10); exact this
   have ec_10n : ((W64 (x % (70368744177664#64)) : Int) != 0) = true := by have this : (W64 (x % (70368744177664#64)) != W64 (0#64)) = true := (by rw [W64_bne]; simpa using hc_10); exact this
   have kc_10 := Lib.hid hc_10
   clear hc_10
   have ld_14 := G_4.c 0 (.int .i64 2)
   have ld_15 := G_4.c 1 (.int .u64 (W64 x))
   go_wp2_with (with_reducible refine so ?_)
   simp only [hM]
   clear ld_14 ld_15
   have hst : Stable fun W => Below w.heap.size w W ∧ Blk W g_1 26 #[.int .i64 2, .int .u64 (W64 x)] := stable_and (stable_below _ _ (Nat.le_refl _)) (stable_blk _ _ _)
   refine wp_region_v _ 16 hst ⟨hB.drew, G_4⟩ ?_
   clear hB G_4
   refine wpU_p 0 hst ?_
   refine wpU_c 1 (.int .u64 (W64 x)) hst (fun W hS => hS.2.cell 1) ?_
   refine wpU_p 2 hst ?_
   refine wpU_p 3 hst ?_
   refine wpU_c 4 (.int .i64 2) hst (fun W hS => hS.2.cell 0) ?_
   refine wpU_take (v := ?_) 5 hst (fun _ h => h) rfl ?_ ?_; rotate_left; (intro W hS K hK; clear hS; go_simp; refine (rad_prefix2 _).mono ?_; rintro e w9 ⟨rfl, hb⟩; refine CallPost.mk ?_; exact hK.out _ (hb)); simp only [nrm]
   refine wpU_p 6 hst ?_
   refine wpU_p 7 hst ?_
   refine wpU_p 8 hst ?_
   refine wpU_p 9 hst ?_
   refine wpU_p 10 hst ?_
   refine wpU_p 11 hst ?_
   refine wpU_p 12 hst ?_
   refine wpU_p 13 hst ?_
   refine wpU_p 14 hst ?_
   refine wpU_p 15 hst ?_
   refine wpU_done (fun w_16 hS => ?_)
   obtain ⟨hB, G_4⟩ := hS
   clear hst
   by_cases hc_17 : x % (70368744177664#64) = mk
   ·
    obtain ⟨ec_17, ec_17n, kc_17⟩ := gT hc_17; clear hc_17
    simp only [ec_17]; clear ec_17 ec_17n
    go_wp2_with (with_reducible refine so ?_)
    go_returns
    have q0 := kc_8.out
    have q1 := kc_9.out
    have q2 := kc_10.out
    have q3 := kc_17.out
    have er : r = 1 := by rw [← HR.out]; have mk0 := HK.out; unfold adrC; rw [if_neg (by decide)]; simp [show prefixK 2 = 3 from rfl, mk0, q0, q1, q2, q3] <;> simp_all
    rw [er]
    exact ⟨rfl, hB⟩
   obtain ⟨ec_17, ec_17n, kc_17⟩ := gF hc_17; clear hc_17
   simp only [ec_17]; clear ec_17 ec_17n
   go_wp2_with (with_reducible refine so ?_)
   go_returns
   have q0 := kc_8.out
   have q1 := kc_9.out
   have q2 := kc_10.out
   have q3 := kc_17.out
   have er : r = 0 := by rw [← HR.out]; have mk0 := HK.out; unfold adrC; rw [if_neg (by decide)]; simp [show prefixK 2 = 3 from rfl, mk0, q0, q1, q2, q3] <;> simp_all
   rw [er]
   exact ⟨rfl, hB⟩
  have ec_9 : ((W64 (x / (70368744177664#64)) : Int) == 3) = false := by have this : (W64 (x / (70368744177664#64)) == W64 (3#64)) = false := (by rw [W64_beq]; simpa using hc_9); exact this
  have ec_9n : ((W64 (x / (70368744177664#64)) : Int) != 3) = true := by have this : (W64 (x / (70368744177664#64)) != W64 (3#64)) = true := (by rw [W64_bne]; simpa using hc_9); exact this
  have kc_9 := Lib.hid hc_9
  clear hc_9
  have ld_18 := G_4.c 0 (.int .i64 2)
  have ld_19 := G_4.c 1 (.int .u64 (W64 x))
  go_wp2_with (with_reducible refine so ?_)
  simp only [hM]
  clear ld_18 ld_19
  have hst : Stable fun W => Below w.heap.size w W ∧ Blk W g_1 26 #[.int .i64 2, .int .u64 (W64 x)] := stable_and (stable_below _ _ (Nat.le_refl _)) (stable_blk _ _ _)
  refine wp_region_v _ 16 hst ⟨hB.drew, G_4⟩ ?_
  clear hB G_4
  refine wpU_p 0 hst ?_
  refine wpU_c 1 (.int .u64 (W64 x)) hst (fun W hS => hS.2.cell 1) ?_
  refine wpU_p 2 hst ?_
  refine wpU_p 3 hst ?_
  refine wpU_c 4 (.int .i64 2) hst (fun W hS => hS.2.cell 0) ?_
  refine wpU_take (v := ?_) 5 hst (fun _ h => h) rfl ?_ ?_; rotate_left; (intro W hS K hK; clear hS; go_simp; refine (rad_prefix2 _).mono ?_; rintro e w9 ⟨rfl, hb⟩; refine CallPost.mk ?_; exact hK.out _ (hb)); simp only [nrm]
  refine wpU_p 6 hst ?_
  refine wpU_p 7 hst ?_
  refine wpU_s 8 hst ?_
  refine wpU_s 9 hst ?_
  refine wpU_p 10 hst ?_
  refine wpU_p 11 hst ?_
  refine wpU_s 12 hst ?_
  refine wpU_s 13 hst ?_
  refine wpU_s 14 hst ?_
  refine wpU_p 15 hst ?_
  refine wpU_done (fun w_20 hS => ?_)
  obtain ⟨hB, G_4⟩ := hS
  clear hst
  go_wp2_with (with_reducible refine so ?_)
  go_returns
  have q0 := kc_8.out
  have q1 := kc_9.out
  have er : r = 1 := by rw [← HR.out]; have mk0 := HK.out; unfold adrC; rw [if_neg (by decide)]; simp [show prefixK 2 = 3 from rfl, mk0, q0, q1] <;> simp_all
  rw [er]
  exact ⟨rfl, hB⟩
 have ec_8 : decide ((W64 x : Int) < 281474976710656) = false := decide_eq_false (fun hh => hc_8 (by have h2 : W64 x < W64 (281474976710656#64) := hh; rw [W64_lt] at h2; exact h2))
 have ec_8n : decide ((281474976710656 : Int) ≤ W64 x) = true := decide_eq_true (show W64 (281474976710656#64) ≤ W64 x by rw [W64_le]; exact BitVec.not_lt.1 hc_8)
 have kc_8 := Lib.hid hc_8
 clear hc_8
 have ld_21 := G_4.c 0 (.int .i64 2)
 have ld_22 := G_4.c 1 (.int .u64 (W64 x))
 go_wp2_with (with_reducible refine so ?_)
 go_returns
 have q0 := kc_8.out
 have er : r = 5 := by rw [← HR.out]; have mk0 := HK.out; unfold adrC; rw [if_neg (by decide)]; simp [show prefixK 2 = 3 from rfl, mk0, q0] <;> simp_all
 rw [er]
 exact ⟨rfl, hB⟩
theorem rad_Check_3 (x : BitVec 64) (w : World) :
  Calls Tryz.prog 18 #[.agg #[.int .i64 3, .int .u64 (W64 x)]] w (fun e w' => e = .returned (.int .i64 (adrC 3 x)) ∧ Below w.heap.size w w') := by
 obtain ⟨r, hr⟩ : ∃ r, adrC 3 x = r := ⟨_, rfl⟩
 rw [hr]
 have HR := Lib.hid hr
 clear hr
 obtain ⟨mk, hmk⟩ : ∃ m : BitVec 64, 4194303#64 = m := ⟨_, rfl⟩
 have hM : (Value.int .u64 4194303) = .int .u64 (W64 mk) := by rw [← hmk]; rfl
 have HK := Lib.hid hmk
 clear hmk
 go_enter Tryz.func18, Tryz.ntmps18
 have hB := Below.refl w.heap.size w
 go_wp2_with (with_reducible refine so ?_)
 refine go_mem (ty := 26) (cs := #[.int .i64 3, .int .u64 (W64 x)]) (fun g => .pointer (some ⟨g, 0, none⟩)) rfl (by kernel_rfl) ?_
 intro g_1 w_2 z_6 l_5 hb_3 G_4
 have n_7 : w.heap.size ≤ g_1 := Nat.le_trans hB.size l_5
 replace hB := hB.trans (hb_3.mono hB.size)
 clear hb_3 l_5 z_6
 by_cases hc_8 : x < 281474976710656#64
 ·
  have ec_8 : decide ((W64 x : Int) < 281474976710656) = true := decide_eq_true (show W64 x < W64 (281474976710656#64) by rw [W64_lt]; exact hc_8)
  have ec_8n : decide ((281474976710656 : Int) ≤ W64 x) = false := decide_eq_false (fun hh => absurd (show W64 (281474976710656#64) ≤ W64 x from hh) (by rw [W64_le]; exact BitVec.not_le.2 hc_8))
  have kc_8 := Lib.hid hc_8
  clear hc_8
  by_cases hc_9 : x / (70368744177664#64) = 1#64
  ·
   have ec_9 : ((W64 (x / (70368744177664#64)) : Int) == 1) = true := by have this : (W64 (x / (70368744177664#64)) == W64 (1#64)) = true := (by rw [W64_beq]; simpa using hc_9); exact this
   have ec_9n : ((W64 (x / (70368744177664#64)) : Int) != 1) = false := by have this : (W64 (x / (70368744177664#64)) != W64 (1#64)) = false := (by rw [W64_bne]; simpa using hc_9); exact this
   have kc_9 := Lib.hid hc_9
   clear hc_9
   by_cases hc_10 : (x % (70368744177664#64)) / (16777216#64) = 0#64
   ·
    have ec_10 : ((W64 ((x % (70368744177664#64)) / (16777216#64)) : Int) == 0) = true := by have this : (W64 ((x % (70368744177664#64)) / (16777216#64)) == W64 (0#64)) = true := (by rw [W64_beq]; simpa using hc_10); exact this
    have ec_10n : ((W64 ((x % (70368744177664#64)) / (16777216#64)) : Int) != 0) = false := by have this : (W64 ((x % (70368744177664#64)) / (16777216#64)) != W64 (0#64)) = false := (by rw [W64_bne]; simpa using hc_10); exact this
    have kc_10 := Lib.hid hc_10
    clear hc_10
    have ld_11 := G_4.c 0 (.int .i64 3)
    have ld_12 := G_4.c 1 (.int .u64 (W64 x))
    go_wp2_with (with_reducible refine so ?_)
    simp only [hM]
    clear ld_11 ld_12
    have hst : Stable fun W => Below w.heap.size w W ∧ Blk W g_1 26 #[.int .i64 3, .int .u64 (W64 x)] := stable_and (stable_below _ _ (Nat.le_refl _)) (stable_blk _ _ _)
    refine wp_region_v _ 16 hst ⟨hB.drew, G_4⟩ ?_
    clear hB G_4
    refine wpU_p 0 hst ?_
    refine wpU_c 1 (.int .u64 (W64 x)) hst (fun W hS => hS.2.cell 1) ?_
    refine wpU_p 2 hst ?_
    refine wpU_p 3 hst ?_
    refine wpU_c 4 (.int .i64 3) hst (fun W hS => hS.2.cell 0) ?_
    refine wpU_take (v := ?_) 5 hst (fun _ h => h) rfl ?_ ?_; rotate_left; (intro W hS K hK; clear hS; go_simp; refine (rad_prefix3 _).mono ?_; rintro e w9 ⟨rfl, hb⟩; refine CallPost.mk ?_; exact hK.out _ (hb)); simp only [nrm]
    refine wpU_p 6 hst ?_
    refine wpU_p 7 hst ?_
    refine wpU_p 8 hst ?_
    refine wpU_p 9 hst ?_
    refine wpU_p 10 hst ?_
    refine wpU_p 11 hst ?_
    refine wpU_s 12 hst ?_
    refine wpU_s 13 hst ?_
    refine wpU_s 14 hst ?_
    refine wpU_p 15 hst ?_
    refine wpU_done (fun w_13 hS => ?_)
    obtain ⟨hB, G_4⟩ := hS
    clear hst
    go_wp2_with (with_reducible refine so ?_)
    go_returns
    have q0 := kc_8.out
    have q1 := kc_9.out
    have q2 := kc_10.out
    have er : r = 1 := by rw [← HR.out]; have mk0 := HK.out; unfold adrC; rw [if_neg (by decide)]; simp [show prefixK 3 = 1 from rfl, mk0, q0, q1, q2] <;> simp_all
    rw [er]
    exact ⟨rfl, hB⟩
   have ec_10 : ((W64 ((x % (70368744177664#64)) / (16777216#64)) : Int) == 0) = false := by have this : (W64 ((x % (70368744177664#64)) / (16777216#64)) == W64 (0#64)) = false := (by rw [W64_beq]; simpa using hc_10); exact this
   have ec_10n : ((W64 ((x % (70368744177664#64)) / (16777216#64)) : Int) != 0) = true := by have this : (W64 ((x % (70368744177664#64)) / (16777216#64)) != W64 (0#64)) = true := (by rw [W64_bne]; simpa using hc_10); exact this
   have kc_10 := Lib.hid hc_10
   clear hc_10
   have ld_14 := G_4.c 0 (.int .i64 3)
   have ld_15 := G_4.c 1 (.int .u64 (W64 x))
   go_wp2_with (with_reducible refine so ?_)
   simp only [hM]
   clear ld_14 ld_15
   have hst : Stable fun W => Below w.heap.size w W ∧ Blk W g_1 26 #[.int .i64 3, .int .u64 (W64 x)] := stable_and (stable_below _ _ (Nat.le_refl _)) (stable_blk _ _ _)
   refine wp_region_v _ 16 hst ⟨hB.drew, G_4⟩ ?_
   clear hB G_4
   refine wpU_p 0 hst ?_
   refine wpU_c 1 (.int .u64 (W64 x)) hst (fun W hS => hS.2.cell 1) ?_
   refine wpU_p 2 hst ?_
   refine wpU_p 3 hst ?_
   refine wpU_c 4 (.int .i64 3) hst (fun W hS => hS.2.cell 0) ?_
   refine wpU_take (v := ?_) 5 hst (fun _ h => h) rfl ?_ ?_; rotate_left; (intro W hS K hK; clear hS; go_simp; refine (rad_prefix3 _).mono ?_; rintro e w9 ⟨rfl, hb⟩; refine CallPost.mk ?_; exact hK.out _ (hb)); simp only [nrm]
   refine wpU_p 6 hst ?_
   refine wpU_p 7 hst ?_
   refine wpU_p 8 hst ?_
   refine wpU_p 9 hst ?_
   refine wpU_p 10 hst ?_
   refine wpU_p 11 hst ?_
   refine wpU_p 12 hst ?_
   refine wpU_p 13 hst ?_
   refine wpU_p 14 hst ?_
   refine wpU_p 15 hst ?_
   refine wpU_done (fun w_16 hS => ?_)
   obtain ⟨hB, G_4⟩ := hS
   clear hst
   by_cases hc_17 : (x % (70368744177664#64)) / (16777216#64) = mk
   ·
    obtain ⟨ec_17, ec_17n, kc_17⟩ := gT hc_17; clear hc_17
    simp only [ec_17]; clear ec_17 ec_17n
    go_wp2_with (with_reducible refine so ?_)
    go_returns
    have q0 := kc_8.out
    have q1 := kc_9.out
    have q2 := kc_10.out
    have q3 := kc_17.out
    have er : r = 1 := by rw [← HR.out]; have mk0 := HK.out; unfold adrC; rw [if_neg (by decide)]; simp [show prefixK 3 = 1 from rfl, mk0, q0, q1, q2, q3] <;> simp_all
    rw [er]
    exact ⟨rfl, hB⟩
   obtain ⟨ec_17, ec_17n, kc_17⟩ := gF hc_17; clear hc_17
   simp only [ec_17]; clear ec_17 ec_17n
   go_wp2_with (with_reducible refine so ?_)
   go_returns
   have q0 := kc_8.out
   have q1 := kc_9.out
   have q2 := kc_10.out
   have q3 := kc_17.out
   have er : r = 0 := by rw [← HR.out]; have mk0 := HK.out; unfold adrC; rw [if_neg (by decide)]; simp [show prefixK 3 = 1 from rfl, mk0, q0, q1, q2, q3] <;> simp_all
   rw [er]
   exact ⟨rfl, hB⟩
  have ec_9 : ((W64 (x / (70368744177664#64)) : Int) == 1) = false := by have this : (W64 (x / (70368744177664#64)) == W64 (1#64)) = false := (by rw [W64_beq]; simpa using hc_9); exact this
  have ec_9n : ((W64 (x / (70368744177664#64)) : Int) != 1) = true := by have this : (W64 (x / (70368744177664#64)) != W64 (1#64)) = true := (by rw [W64_bne]; simpa using hc_9); exact this
  have kc_9 := Lib.hid hc_9
  clear hc_9
  have ld_18 := G_4.c 0 (.int .i64 3)
  have ld_19 := G_4.c 1 (.int .u64 (W64 x))
  go_wp2_with (with_reducible refine so ?_)
  simp only [hM]
  clear ld_18 ld_19
  have hst : Stable fun W => Below w.heap.size w W ∧ Blk W g_1 26 #[.int .i64 3, .int .u64 (W64 x)] := stable_and (stable_below _ _ (Nat.le_refl _)) (stable_blk _ _ _)
  refine wp_region_v _ 16 hst ⟨hB.drew, G_4⟩ ?_
  clear hB G_4
  refine wpU_p 0 hst ?_
  refine wpU_c 1 (.int .u64 (W64 x)) hst (fun W hS => hS.2.cell 1) ?_
  refine wpU_p 2 hst ?_
  refine wpU_p 3 hst ?_
  refine wpU_c 4 (.int .i64 3) hst (fun W hS => hS.2.cell 0) ?_
  refine wpU_take (v := ?_) 5 hst (fun _ h => h) rfl ?_ ?_; rotate_left; (intro W hS K hK; clear hS; go_simp; refine (rad_prefix3 _).mono ?_; rintro e w9 ⟨rfl, hb⟩; refine CallPost.mk ?_; exact hK.out _ (hb)); simp only [nrm]
  refine wpU_p 6 hst ?_
  refine wpU_p 7 hst ?_
  refine wpU_s 8 hst ?_
  refine wpU_s 9 hst ?_
  refine wpU_p 10 hst ?_
  refine wpU_p 11 hst ?_
  refine wpU_s 12 hst ?_
  refine wpU_s 13 hst ?_
  refine wpU_s 14 hst ?_
  refine wpU_p 15 hst ?_
  refine wpU_done (fun w_20 hS => ?_)
  obtain ⟨hB, G_4⟩ := hS
  clear hst
  go_wp2_with (with_reducible refine so ?_)
  go_returns
  have q0 := kc_8.out
  have q1 := kc_9.out
  have er : r = 1 := by rw [← HR.out]; have mk0 := HK.out; unfold adrC; rw [if_neg (by decide)]; simp [show prefixK 3 = 1 from rfl, mk0, q0, q1] <;> simp_all
  rw [er]
  exact ⟨rfl, hB⟩
 have ec_8 : decide ((W64 x : Int) < 281474976710656) = false := decide_eq_false (fun hh => hc_8 (by have h2 : W64 x < W64 (281474976710656#64) := hh; rw [W64_lt] at h2; exact h2))
 have ec_8n : decide ((281474976710656 : Int) ≤ W64 x) = true := decide_eq_true (show W64 (281474976710656#64) ≤ W64 x by rw [W64_le]; exact BitVec.not_lt.1 hc_8)
 have kc_8 := Lib.hid hc_8
 clear hc_8
 have ld_21 := G_4.c 0 (.int .i64 3)
 have ld_22 := G_4.c 1 (.int .u64 (W64 x))
 go_wp2_with (with_reducible refine so ?_)
 go_returns
 have q0 := kc_8.out
 have er : r = 5 := by rw [← HR.out]; have mk0 := HK.out; unfold adrC; rw [if_neg (by decide)]; simp [show prefixK 3 = 1 from rfl, mk0, q0] <;> simp_all
 rw [er]
 exact ⟨rfl, hB⟩
theorem rad_Check_4 (x : BitVec 64) (w : World) :
  Calls Tryz.prog 18 #[.agg #[.int .i64 4, .int .u64 (W64 x)]] w (fun e w' => e = .returned (.int .i64 (adrC 4 x)) ∧ Below w.heap.size w w') := by
 obtain ⟨r, hr⟩ : ∃ r, adrC 4 x = r := ⟨_, rfl⟩
 rw [hr]
 have HR := Lib.hid hr
 clear hr
 obtain ⟨mk, hmk⟩ : ∃ m : BitVec 64, 70368744177663#64 = m := ⟨_, rfl⟩
 have hM : (Value.int .u64 70368744177663) = .int .u64 (W64 mk) := by rw [← hmk]; rfl
 have HK := Lib.hid hmk
 clear hmk
 go_enter Tryz.func18, Tryz.ntmps18
 have hB := Below.refl w.heap.size w
 go_wp2_with (with_reducible refine so ?_)
 refine go_mem (ty := 26) (cs := #[.int .i64 4, .int .u64 (W64 x)]) (fun g => .pointer (some ⟨g, 0, none⟩)) rfl (by kernel_rfl) ?_
 intro g_1 w_2 z_6 l_5 hb_3 G_4
 have n_7 : w.heap.size ≤ g_1 := Nat.le_trans hB.size l_5
 replace hB := hB.trans (hb_3.mono hB.size)
 clear hb_3 l_5 z_6
 by_cases hc_8 : x < 281474976710656#64
 ·
  have ec_8 : decide ((W64 x : Int) < 281474976710656) = true := decide_eq_true (show W64 x < W64 (281474976710656#64) by rw [W64_lt]; exact hc_8)
  have ec_8n : decide ((281474976710656 : Int) ≤ W64 x) = false := decide_eq_false (fun hh => absurd (show W64 (281474976710656#64) ≤ W64 x from hh) (by rw [W64_le]; exact BitVec.not_le.2 hc_8))
  have kc_8 := Lib.hid hc_8
  clear hc_8
  by_cases hc_9 : x / (70368744177664#64) = 0#64
  ·
   have ec_9 : ((W64 (x / (70368744177664#64)) : Int) == 0) = true := by have this : (W64 (x / (70368744177664#64)) == W64 (0#64)) = true := (by rw [W64_beq]; simpa using hc_9); exact this
   have ec_9n : ((W64 (x / (70368744177664#64)) : Int) != 0) = false := by have this : (W64 (x / (70368744177664#64)) != W64 (0#64)) = false := (by rw [W64_bne]; simpa using hc_9); exact this
   have kc_9 := Lib.hid hc_9
   clear hc_9
   by_cases hc_10 : x % (70368744177664#64) = 0#64
   ·
    have ec_10 : ((W64 (x % (70368744177664#64)) : Int) == 0) = true := by have this : (W64 (x % (70368744177664#64)) == W64 (0#64)) = true := (by rw [W64_beq]; simpa using hc_10); exact this
    have ec_10n : ((W64 (x % (70368744177664#64)) : Int) != 0) = false := by have this : (W64 (x % (70368744177664#64)) != W64 (0#64)) = false := (by rw [W64_bne]; simpa using hc_10); exact this
    have kc_10 := Lib.hid hc_10
    clear hc_10
    have ld_11 := G_4.c 0 (.int .i64 4)
    have ld_12 := G_4.c 1 (.int .u64 (W64 x))
    go_wp2_with (with_reducible refine so ?_)
    simp only [hM]
    clear ld_11 ld_12
    have hst : Stable fun W => Below w.heap.size w W ∧ Blk W g_1 26 #[.int .i64 4, .int .u64 (W64 x)] := stable_and (stable_below _ _ (Nat.le_refl _)) (stable_blk _ _ _)
    refine wp_region_v _ 16 hst ⟨hB.drew, G_4⟩ ?_
    clear hB G_4
    refine wpU_p 0 hst ?_
    refine wpU_c 1 (.int .u64 (W64 x)) hst (fun W hS => hS.2.cell 1) ?_
    refine wpU_p 2 hst ?_
    refine wpU_p 3 hst ?_
    refine wpU_c 4 (.int .i64 4) hst (fun W hS => hS.2.cell 0) ?_
    refine wpU_take (v := ?_) 5 hst (fun _ h => h) rfl ?_ ?_; rotate_left; (intro W hS K hK; clear hS; go_simp; refine (rad_prefix4 _).mono ?_; rintro e w9 ⟨rfl, hb⟩; refine CallPost.mk ?_; exact hK.out _ (hb)); simp only [nrm]
    refine wpU_p 6 hst ?_
    refine wpU_p 7 hst ?_
    refine wpU_p 8 hst ?_
    refine wpU_p 9 hst ?_
    refine wpU_p 10 hst ?_
    refine wpU_p 11 hst ?_
    refine wpU_s 12 hst ?_
    refine wpU_s 13 hst ?_
    refine wpU_s 14 hst ?_
    refine wpU_p 15 hst ?_
    refine wpU_done (fun w_13 hS => ?_)
    obtain ⟨hB, G_4⟩ := hS
    clear hst
    go_wp2_with (with_reducible refine so ?_)
    go_returns
    have q0 := kc_8.out
    have q1 := kc_9.out
    have q2 := kc_10.out
    have er : r = 1 := by rw [← HR.out]; have mk0 := HK.out; unfold adrC; rw [if_neg (by decide)]; simp [show prefixK 4 = 0 from rfl, mk0, q0, q1, q2] <;> simp_all
    rw [er]
    exact ⟨rfl, hB⟩
   have ec_10 : ((W64 (x % (70368744177664#64)) : Int) == 0) = false := by have this : (W64 (x % (70368744177664#64)) == W64 (0#64)) = false := (by rw [W64_beq]; simpa using hc_10); exact this
   have ec_10n : ((W64 (x % (70368744177664#64)) : Int) != 0) = true := by have this : (W64 (x % (70368744177664#64)) != W64 (0#64)) = true := (by rw [W64_bne]; simpa using hc_10); exact this
   have kc_10 := Lib.hid hc_10
   clear hc_10
   have ld_14 := G_4.c 0 (.int .i64 4)
   have ld_15 := G_4.c 1 (.int .u64 (W64 x))
   go_wp2_with (with_reducible refine so ?_)
   simp only [hM]
   clear ld_14 ld_15
   have hst : Stable fun W => Below w.heap.size w W ∧ Blk W g_1 26 #[.int .i64 4, .int .u64 (W64 x)] := stable_and (stable_below _ _ (Nat.le_refl _)) (stable_blk _ _ _)
   refine wp_region_v _ 16 hst ⟨hB.drew, G_4⟩ ?_
   clear hB G_4
   refine wpU_p 0 hst ?_
   refine wpU_c 1 (.int .u64 (W64 x)) hst (fun W hS => hS.2.cell 1) ?_
   refine wpU_p 2 hst ?_
   refine wpU_p 3 hst ?_
   refine wpU_c 4 (.int .i64 4) hst (fun W hS => hS.2.cell 0) ?_
   refine wpU_take (v := ?_) 5 hst (fun _ h => h) rfl ?_ ?_; rotate_left; (intro W hS K hK; clear hS; go_simp; refine (rad_prefix4 _).mono ?_; rintro e w9 ⟨rfl, hb⟩; refine CallPost.mk ?_; exact hK.out _ (hb)); simp only [nrm]
   refine wpU_p 6 hst ?_
   refine wpU_p 7 hst ?_
   refine wpU_p 8 hst ?_
   refine wpU_p 9 hst ?_
   refine wpU_p 10 hst ?_
   refine wpU_p 11 hst ?_
   refine wpU_p 12 hst ?_
   refine wpU_p 13 hst ?_
   refine wpU_p 14 hst ?_
   refine wpU_p 15 hst ?_
   refine wpU_done (fun w_16 hS => ?_)
   obtain ⟨hB, G_4⟩ := hS
   clear hst
   by_cases hc_17 : x % (70368744177664#64) = mk
   ·
    obtain ⟨ec_17, ec_17n, kc_17⟩ := gT hc_17; clear hc_17
    simp only [ec_17]; clear ec_17 ec_17n
    go_wp2_with (with_reducible refine so ?_)
    go_returns
    have q0 := kc_8.out
    have q1 := kc_9.out
    have q2 := kc_10.out
    have q3 := kc_17.out
    have er : r = 1 := by rw [← HR.out]; have mk0 := HK.out; unfold adrC; rw [if_neg (by decide)]; simp [show prefixK 4 = 0 from rfl, mk0, q0, q1, q2, q3] <;> simp_all
    rw [er]
    exact ⟨rfl, hB⟩
   obtain ⟨ec_17, ec_17n, kc_17⟩ := gF hc_17; clear hc_17
   simp only [ec_17]; clear ec_17 ec_17n
   go_wp2_with (with_reducible refine so ?_)
   go_returns
   have q0 := kc_8.out
   have q1 := kc_9.out
   have q2 := kc_10.out
   have q3 := kc_17.out
   have er : r = 0 := by rw [← HR.out]; have mk0 := HK.out; unfold adrC; rw [if_neg (by decide)]; simp [show prefixK 4 = 0 from rfl, mk0, q0, q1, q2, q3] <;> simp_all
   rw [er]
   exact ⟨rfl, hB⟩
  have ec_9 : ((W64 (x / (70368744177664#64)) : Int) == 0) = false := by have this : (W64 (x / (70368744177664#64)) == W64 (0#64)) = false := (by rw [W64_beq]; simpa using hc_9); exact this
  have ec_9n : ((W64 (x / (70368744177664#64)) : Int) != 0) = true := by have this : (W64 (x / (70368744177664#64)) != W64 (0#64)) = true := (by rw [W64_bne]; simpa using hc_9); exact this
  have kc_9 := Lib.hid hc_9
  clear hc_9
  have ld_18 := G_4.c 0 (.int .i64 4)
  have ld_19 := G_4.c 1 (.int .u64 (W64 x))
  go_wp2_with (with_reducible refine so ?_)
  simp only [hM]
  clear ld_18 ld_19
  have hst : Stable fun W => Below w.heap.size w W ∧ Blk W g_1 26 #[.int .i64 4, .int .u64 (W64 x)] := stable_and (stable_below _ _ (Nat.le_refl _)) (stable_blk _ _ _)
  refine wp_region_v _ 16 hst ⟨hB.drew, G_4⟩ ?_
  clear hB G_4
  refine wpU_p 0 hst ?_
  refine wpU_c 1 (.int .u64 (W64 x)) hst (fun W hS => hS.2.cell 1) ?_
  refine wpU_p 2 hst ?_
  refine wpU_p 3 hst ?_
  refine wpU_c 4 (.int .i64 4) hst (fun W hS => hS.2.cell 0) ?_
  refine wpU_take (v := ?_) 5 hst (fun _ h => h) rfl ?_ ?_; rotate_left; (intro W hS K hK; clear hS; go_simp; refine (rad_prefix4 _).mono ?_; rintro e w9 ⟨rfl, hb⟩; refine CallPost.mk ?_; exact hK.out _ (hb)); simp only [nrm]
  refine wpU_p 6 hst ?_
  refine wpU_p 7 hst ?_
  refine wpU_s 8 hst ?_
  refine wpU_s 9 hst ?_
  refine wpU_p 10 hst ?_
  refine wpU_p 11 hst ?_
  refine wpU_s 12 hst ?_
  refine wpU_s 13 hst ?_
  refine wpU_s 14 hst ?_
  refine wpU_p 15 hst ?_
  refine wpU_done (fun w_20 hS => ?_)
  obtain ⟨hB, G_4⟩ := hS
  clear hst
  go_wp2_with (with_reducible refine so ?_)
  go_returns
  have q0 := kc_8.out
  have q1 := kc_9.out
  have er : r = 1 := by rw [← HR.out]; have mk0 := HK.out; unfold adrC; rw [if_neg (by decide)]; simp [show prefixK 4 = 0 from rfl, mk0, q0, q1] <;> simp_all
  rw [er]
  exact ⟨rfl, hB⟩
 have ec_8 : decide ((W64 x : Int) < 281474976710656) = false := decide_eq_false (fun hh => hc_8 (by have h2 : W64 x < W64 (281474976710656#64) := hh; rw [W64_lt] at h2; exact h2))
 have ec_8n : decide ((281474976710656 : Int) ≤ W64 x) = true := decide_eq_true (show W64 (281474976710656#64) ≤ W64 x by rw [W64_le]; exact BitVec.not_lt.1 hc_8)
 have kc_8 := Lib.hid hc_8
 clear hc_8
 have ld_21 := G_4.c 0 (.int .i64 4)
 have ld_22 := G_4.c 1 (.int .u64 (W64 x))
 go_wp2_with (with_reducible refine so ?_)
 go_returns
 have q0 := kc_8.out
 have er : r = 5 := by rw [← HR.out]; have mk0 := HK.out; unfold adrC; rw [if_neg (by decide)]; simp [show prefixK 4 = 0 from rfl, mk0, q0] <;> simp_all
 rw [er]
 exact ⟨rfl, hB⟩
theorem rad_Check (a : Adr) (w : World) : Calls Tryz.prog 18 #[.agg (adrL a).toArray] w fun e w' => e = .returned (.int .i64 (adrK a)) ∧ Below w.heap.size w w' := by
  rw [← adrC_eq]
  obtain ⟨k, x⟩ := a
  by_cases hk : k < 1 ∨ 4 < k
  · have := rad_Check_low k x w hk
    show Calls _ _ _ w fun e w' => e = .returned (.int .i64 (adrC k x)) ∧ _
    rw [show adrC k x = 12 from if_pos hk]
    exact this
  · rcases (by omega : k = 1 ∨ k = 2 ∨ k = 3 ∨ k = 4) with rfl | rfl | rfl | rfl
    · exact rad_Check_1 x w
    · exact rad_Check_2 x w
    · exact rad_Check_3 x w
    · exact rad_Check_4 x w
theorem rsm_Id (i : Idn) (w : World) :
  Calls Tryz.prog 21 #[.agg (idnL i).toArray] w (fun e w' => e = .returned (.int .i64 (idnK i)) ∧ Below w.heap.size w w') := by
 obtain ⟨r, hr⟩ : ∃ r, idnK i = r := ⟨_, rfl⟩
 rw [hr]
 have HR := Lib.hid hr
 clear hr
 go_enter Tryz.func21, Tryz.ntmps21
 have hB := Below.refl w.heap.size w
 go_wp2_with (with_reducible refine so ?_)
 refine go_mem (ty := 29) (cs := #[.int .i64 i.adr.kind, .int .u64 (W64 i.adr.bits), .int .u64 (W64 i.irk)]) (fun g => .pointer (some ⟨g, 0, none⟩)) rfl (by kernel_rfl) ?_
 intro g_1 w_2 z_6 l_5 hb_3 G_4
 have n_7 : w.heap.size ≤ g_1 := Nat.le_trans hB.size l_5
 replace hB := hB.trans (hb_3.mono hB.size)
 clear hb_3 l_5 z_6
 go_wp2_with (first | (with_reducible refine so ?_) | ((with_reducible refine wpList_ld 0 [.int .i64 i.adr.kind, .int .u64 (W64 i.adr.bits)] G_4 ?_ ?_ Tryz.underlying26 ?_ ?_ ?_); rfl; rfl; rfl; kernel_rfl))
 refine (rad_Check i.adr _).mono ?_; rintro e w_9 ⟨rfl, hb_10⟩
 replace G_4 := G_4.to hb_10 G_4.lt
 replace hB := hB.trans (hb_10.mono hB.size)
 clear hb_10
 by_cases hc_11 : (adrK i.adr : Int) = 0
 ·
  obtain ⟨ec_11, ec_11n, kc_11⟩ := fT hc_11; clear hc_11
  by_cases hc_12 : (i.adr.kind : Int) = 1
  ·
   obtain ⟨ec_12, ec_12n, kc_12⟩ := fT hc_12; clear hc_12
   have ld_13 := G_4.c 0 (.int .i64 i.adr.kind)
   go_wp2_with (with_reducible refine so ?_)
   go_returns
   have q0 := kc_11.out
   have q1 := kc_12.out
   have er : r = 0 := by rw [← HR.out]; simp [idnK, q0, q1] <;> simp_all
   rw [er]
   exact ⟨rfl, hB⟩
  obtain ⟨ec_12, ec_12n, kc_12⟩ := fF hc_12; clear hc_12
  by_cases hc_14 : (i.adr.kind : Int) = 2
  ·
   obtain ⟨ec_14, ec_14n, kc_14⟩ := fT hc_14; clear hc_14
   have ld_15 := G_4.c 0 (.int .i64 i.adr.kind)
   go_wp2_with (with_reducible refine so ?_)
   go_returns
   have q0 := kc_11.out
   have q1 := kc_12.out
   have q2 := kc_14.out
   have er : r = 0 := by rw [← HR.out]; simp [idnK, q0, q1, q2] <;> simp_all
   rw [er]
   exact ⟨rfl, hB⟩
  obtain ⟨ec_14, ec_14n, kc_14⟩ := fF hc_14; clear hc_14
  have ld_16 := G_4.c 0 (.int .i64 i.adr.kind)
  go_wp2_with (with_reducible refine so ?_)
  go_returns
  have q0 := kc_11.out
  have q1 := kc_12.out
  have q2 := kc_14.out
  have er : r = 1 := by rw [← HR.out]; simp [idnK, q0, q1, q2] <;> simp_all
  rw [er]
  exact ⟨rfl, hB⟩
 obtain ⟨ec_11, ec_11n, kc_11⟩ := fF hc_11; clear hc_11
 go_wp2_with (with_reducible refine so ?_)
 go_returns
 have q0 := kc_11.out
 have er : r = adrK i.adr := by rw [← HR.out]; simp [idnK, q0] <;> simp_all
 rw [er]
 exact ⟨rfl, hB⟩
theorem rgr_Valid (k : BitVec 32) (w : World) : Calls Tryz.prog 19 #[.int .u32 (W32 k)] w fun e w' => e = .returned (.bool (validK k)) ∧ Below w.heap.size w w' := by
 obtain ⟨r, hr⟩ : ∃ r, validK k = r := ⟨_, rfl⟩
 rw [hr]
 have HR := Lib.hid hr
 clear hr
 have e2 : W32 k = (k.toNat : Int) := rfl
 have HE := Lib.hid e2
 clear e2
 by_cases h1 : (2 : Int) ≤ W32 k
 ·
  by_cases h2 : W32 k ≤ (2147483645 : Int)
  ·
   go_enter Tryz.func19, Tryz.ntmps19
   go_wp2
   go_ret
   refine ⟨?_, Below.refl _ _⟩
   rw [← HR.out]
   rw [HE.out] at h1 h2
   unfold validK
   rw [decide_eq_true (show 2 ≤ k.toNat by omega), decide_eq_true (show k.toNat ≤ 2147483645 by omega)]
   rfl
  go_enter Tryz.func19, Tryz.ntmps19
  go_wp2
  go_ret
  refine ⟨?_, Below.refl _ _⟩
  rw [← HR.out]
  rw [HE.out] at h1 h2
  unfold validK
  rw [decide_eq_true (show 2 ≤ k.toNat by omega), decide_eq_false (show ¬ k.toNat ≤ 2147483645 by omega)]
  rfl
 go_enter Tryz.func19, Tryz.ntmps19
 go_wp2
 go_ret
 refine ⟨?_, Below.refl _ _⟩
 rw [← HR.out]
 rw [HE.out] at h1
 unfold validK
 rw [decide_eq_false (show ¬ 2 ≤ k.toNat by omega)]
 rfl
theorem half_step (e : BitVec 32) (k : Nat) (E : BitVec 32) (h : E.toNat = e.toNat / 2 ^ k) : (E / 2#32).toNat = e.toNat / 2 ^ (k + 1) := by
  rw [BitVec.toNat_udiv, h, Nat.pow_succ, Nat.div_div_eq_div_mul]
  rfl
theorem half_bit (E : BitVec 32) : (W32 (E % 2#32) == 1) = decide (E.toNat % 2 = 1) := by
  rw [Bool.eq_iff_iff, beq_iff_eq, decide_eq_true_iff]
  show (((E % 2#32).toNat : Nat) : Int) = 1 ↔ _
  rw [BitVec.toNat_umod]
  show (((E.toNat % 2 : Nat)) : Int) = 1 ↔ _
  omega
set_option maxHeartbeats 1000000 in
theorem rgr_Power (b e : BitVec 32) (w : World) : Calls Tryz.prog 40 #[.int .u32 (W32 b), .int .u32 (W32 e)] w fun x w' => x = .returned (.int .u32 (W32 (BitVec.ofNat 32 (powK b.toNat e.toNat)))) ∧ Below w.heap.size w w' := by
 obtain ⟨B, hB⟩ : ∃ B, b.toNat = B := ⟨_, rfl⟩
 obtain ⟨X, hX⟩ : ∃ X, e.toNat = X := ⟨_, rfl⟩
 have h0 : b.setWidth 64 % 2147483647#64 = BitVec.ofNat 64 (powS B 0) := by
  rw [powS_zero, ← hB]
  apply BitVec.eq_of_toNat_eq
  have := b.isLt
  have e : 2147483647 % 2 ^ 64 = 2147483647 := rfl
  have hg : gp = 2147483647 := rfl
  have hl : b.toNat % gp < gp := Nat.mod_lt _ (by decide)
  rw [BitVec.toNat_umod, BitVec.toNat_setWidth, BitVec.toNat_ofNat, BitVec.toNat_ofNat, e, Nat.mod_eq_of_lt (show b.toNat < 2 ^ 64 by omega), Nat.mod_eq_of_lt (show b.toNat % gp < 2 ^ 64 by omega), hg]
 have hE := e.isLt
 rw [hX] at hE
 rw [hB, hX]
 have HB := Lib.hid hB
 have HX := Lib.hid hX
 have H0 := Lib.hid h0
 have HE := Lib.hid hE
 clear hB hX h0 hE
 go_enter Tryz.func40, Tryz.ntmps40
 go_wp2
 go_loop [5, 6, 7] (fun o s i => ∃ (k : Nat) (E : BitVec 32), Hid (E.toNat = X / 2 ^ k) ∧ i = .int .u32 (W32 E) ∧ o = .int .u64 (W64 (BitVec.ofNat 64 (powO B X k))) ∧ s = .int .u64 (W64 (BitVec.ofNat 64 (powS B k)))) (fun _ _ i => (intOf i).toNat)
 case atStart => exact ⟨0, e, Lib.hid (by rw [HX.out, Nat.pow_zero, Nat.div_one]), rfl, by rw [powO_zero]; rfl, by rw [← H0.out]⟩
 case round =>
  obtain ⟨k, E, hk, rfl, rfl, rfl⟩ := hrel
  by_cases hlt : 0 < W32 E
  ·
   have hlt' := Lib.hid hlt
   by_cases hbit : E.toNat % 2 = 1
   ·
    have hd : (W32 (E % 2#32) == 1) = true := by rw [half_bit]; simpa using hbit
    have HS := Lib.hid hbit
    clear hbit
    go_wp2
    go_round
    case rel => exact ⟨k + 1, E / 2#32, Lib.hid (by rw [← HX.out]; exact half_step e k E (by rw [HX.out]; exact hk.out)), rfl, by rw [powO_one _ _ _ (by rw [← hk.out]; exact HS.out), ← mul_gp _ _ (powO_lt _ _ _) (powS_lt _ _)], by rw [powS_succ, ← mul_gp _ _ (powS_lt _ _) (powS_lt _ _)]⟩
    case measure =>
     have h1 : 0 < E.toNat := by have := hlt'.out; unfold W32 at this; omega
     have h2 : (E / 2#32).toNat = E.toNat / 2 := by rw [BitVec.toNat_udiv]; rfl
     simp [intOf, W32]; omega
   have hd : (W32 (E % 2#32) == 1) = false := by rw [half_bit]; simpa using hbit
   have HS := Lib.hid hbit
   clear hbit
   go_wp2
   go_round
   case rel => exact ⟨k + 1, E / 2#32, Lib.hid (by rw [← HX.out]; exact half_step e k E (by rw [HX.out]; exact hk.out)), rfl, by rw [powO_none _ _ _ (by rw [← hk.out]; exact HS.out)], by rw [powS_succ, ← mul_gp _ _ (powS_lt _ _) (powS_lt _ _)]⟩
   case measure =>
    have h1 : 0 < E.toNat := by have := hlt'.out; unfold W32 at this; omega
    have h2 : (E / 2#32).toNat = E.toNat / 2 := by rw [BitVec.toNat_udiv]; rfl
    simp [intOf, W32]; omega
  have HZ := Lib.hid hlt
  go_wp2
  go_ret
  refine ⟨?_, Below.refl _ _⟩
  have hz : E.toNat = 0 := by have := HZ.out; unfold W32 at this; omega
  have := powK_lt B X
  have hg : gp = 2147483647 := rfl
  have hx : X < 2 ^ k := by
   have := hk.out
   rw [hz] at this
   exact (Nat.div_eq_zero_iff_lt (Nat.two_pow_pos k)).mp this.symm
  rw [powO_all _ _ _ hx]
  rfl
theorem rgr_Public (s : BitVec 32) (w : World) : Calls Tryz.prog 20 #[.int .u32 (W32 s)] w fun e w' => e = .returned (.int .u32 (W32 (pubK s))) ∧ Below w.heap.size w w' := by
 have H := Lib.hid (fun W => rgr_Power 7#32 s W)
 go_enter Tryz.func20, Tryz.ntmps20
 go_wp2_with fail
 refine (H.out _).mono ?_; rintro e w' ⟨rfl, hb⟩
 go_wp2
 go_ret
 exact ⟨rfl, hb⟩
end Go.Proofs.YtihmbcnccdiecaaGreatDoor
