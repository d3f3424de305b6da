/- Part of the proofs of the laws of pairing. -/
import Derived.Test.YtihmbcnccdiecaaDoorA2
namespace Go.Proofs.YtihmbcnccdiecaaDoor
set_option maxRecDepth 100000
open Go.ChangeShapes Go.WideShapes Go.ChangeAt Go.RowKit
set_option linter.unusedVariables false
set_option linter.unusedSimpArgs false
theorem me_Check (f : Feat) (w : World) :
  Calls Tryd.prog 19 #[.agg (featL f).toArray] w (fun e w' => e = .returned (.int .i64 (featK_ f)) ∧ Below w.heap.size w w') := by
 obtain ⟨r, hr⟩ : ∃ r, featK_ f = r := ⟨_, rfl⟩
 rw [hr]
 have HR := Lib.hid hr
 clear hr
 go_enter Tryd.func19, Tryd.ntmps19
 have hB := Below.refl w.heap.size w
 go_wp2_with (with_reducible refine so ?_)
 refine go_mem (ty := 23) (cs := (featL f).toArray) (fun g => .pointer (some ⟨g, 0, none⟩)) rfl (by kernel_rfl) ?_
 intro g_1 w_2 z_6 l_5 hb_3 G_4
 have n_7 : w.heap.size ≤ g_1 := Nat.le_trans hB.size l_5
 replace hB := hB.trans (hb_3.mono hB.size)
 clear hb_3 l_5 z_6
 by_cases hc_8 : (f.io : Int) < 0
 ·
  obtain ⟨ec_8m, ec_8, ec_8n, kc_8⟩ := lT hc_8; clear hc_8
  have ld_9 := G_4.c 0 (.int .i64 f.io)
  go_wp2_with (with_reducible refine so ?_)
  go_returns
  have q0 := kc_8.out
  have er : r = 5 := by rw [← HR.out]; unfold featK_; first | (rw [if_pos (by omega)]; done) | (rw [if_neg (by omega)]; done)
  rw [er]
  exact ⟨rfl, hB⟩
 obtain ⟨ec_8m, ec_8, ec_8n, kc_8⟩ := lF hc_8; clear hc_8
 by_cases hc_10 : (f.io : Int) < 5
 ·
  obtain ⟨ec_10m, ec_10, ec_10n, kc_10⟩ := lT hc_10; clear hc_10
  have ld_11 := G_4.c 0 (.int .i64 f.io)
  go_wp2_with (with_reducible refine so ?_)
  go_returns
  have q0 := kc_8.out
  have q1 := kc_10.out
  have er : r = 0 := by rw [← HR.out]; unfold featK_; first | (rw [if_pos (by omega)]; done) | (rw [if_neg (by omega)]; done)
  rw [er]
  exact ⟨rfl, hB⟩
 obtain ⟨ec_10m, ec_10, ec_10n, kc_10⟩ := lF hc_10; clear hc_10
 have ld_12 := G_4.c 0 (.int .i64 f.io)
 go_wp2_with (with_reducible refine so ?_)
 go_returns
 have q0 := kc_8.out
 have q1 := kc_10.out
 have er : r = 5 := by rw [← HR.out]; unfold featK_; first | (rw [if_pos (by omega)]; done) | (rw [if_neg (by omega)]; done)
 rw [er]
 exact ⟨rfl, hB⟩
theorem me_Identities (i j : Feat) (w : World) :
  Calls Tryd.prog 16 #[.agg (featL i).toArray, .agg (featL j).toArray] w (fun e w' => e = .returned (.tuple #[.bool (identsK i j).1, .bool (identsK i j).2]) ∧ Below w.heap.size w w') := by
 obtain ⟨r, hr⟩ : ∃ r, identsK i j = r := ⟨_, rfl⟩
 rw [hr]
 have HR := Lib.hid hr
 clear hr
 go_enter Tryd.func16, Tryd.ntmps16
 have hB := Below.refl w.heap.size w
 go_wp2_with (with_reducible refine so ?_)
 refine go_mem (ty := 23) (cs := (featL i).toArray) (fun g => .pointer (some ⟨g, 0, none⟩)) rfl (by kernel_rfl) ?_
 intro g_1 w_2 z_6 l_5 hb_3 G_4
 have n_7 : w.heap.size ≤ g_1 := Nat.le_trans hB.size l_5
 replace hB := hB.trans (hb_3.mono hB.size)
 clear hb_3 l_5 z_6
 go_wp2_with (with_reducible refine so ?_)
 refine go_mem (ty := 23) (cs := (featL j).toArray) (fun g => .pointer (some ⟨g, 0, none⟩)) rfl (by kernel_rfl) ?_
 intro g_8 w_9 z_13 l_12 hb_10 G_11
 have n_14 : g_1 < g_8 := Nat.lt_of_lt_of_le G_4.lt l_12
 have n_15 : w.heap.size ≤ g_8 := Nat.le_trans hB.size l_12
 replace G_4 := G_4.to hb_10 G_4.lt
 replace hB := hB.trans (hb_10.mono hB.size)
 clear hb_10 l_12 z_13
 rcases hc_16 : i.sid with _ | _
 ·
  skip
  rcases hc_17 : j.sid with _ | _
  ·
   skip
   go_wp2_with (with_reducible refine so ?_)
   have hst : Stable fun W => Below w.heap.size w W ∧ Blk W g_1 23 (featL i).toArray ∧ Blk W g_8 23 (featL j).toArray := stable_and (stable_below _ _ (Nat.le_refl _)) (stable_and (stable_blk _ _ _) (stable_blk _ _ _))
   refine wp_region_v _ 14 hst ⟨hB.drew, G_4, G_11⟩ ?_
   clear hB G_4 G_11
   refine wpU_p 0 hst ?_
   refine wpU_take (v := ?_) 1 hst (fun _ h => h) rfl ?_ ?_; rotate_left; (intro W hS K hK; have ld : W.cell? ⟨g_1, 4, none⟩ = some (.bool i.sid) := hS.2.1.cell 4; clear hS; go_simp; exact hK.out _ (Below.refl _ _)); simp only [nrm]
   refine wpU_p 2 hst ?_
   refine wpU_s 3 hst ?_
   refine wpU_s 4 hst ?_
   refine wpU_p 5 hst ?_
   refine wpU_p 6 hst ?_
   refine wpU_take (v := ?_) 7 hst (fun _ h => h) rfl ?_ ?_; rotate_left; (intro W hS K hK; have ld : W.cell? ⟨g_8, 4, none⟩ = some (.bool j.sid) := hS.2.2.cell 4; clear hS; go_simp; exact hK.out _ (Below.refl _ _)); simp only [nrm]
   refine wpU_p 8 hst ?_
   refine wpU_s 9 hst ?_
   refine wpU_s 10 hst ?_
   refine wpU_p 11 hst ?_
   refine wpU_p 12 hst ?_
   refine wpU_p 13 hst ?_
   refine wpU_done (fun w_18 hS => ?_)
   obtain ⟨hB, G_4, G_11⟩ := hS
   clear hst
   go_wp2_with (with_reducible refine so ?_)
   go_returns
   have er : r = (false, false) := by rw [← HR.out]; first | (simp [identsK, hc_16, hc_17]; done) | (simp only [identsK, hc_16, hc_17]; simp [hc_16, hc_17]; done) | ((simp [identsK, hc_16, hc_17]) <;> rfl)
   rw [er]
   exact ⟨rfl, hB⟩
  skip
  go_wp2_with (with_reducible refine so ?_)
  have hst : Stable fun W => Below w.heap.size w W ∧ Blk W g_1 23 (featL i).toArray ∧ Blk W g_8 23 (featL j).toArray := stable_and (stable_below _ _ (Nat.le_refl _)) (stable_and (stable_blk _ _ _) (stable_blk _ _ _))
  refine wp_region_v _ 14 hst ⟨hB.drew, G_4, G_11⟩ ?_
  clear hB G_4 G_11
  refine wpU_p 0 hst ?_
  refine wpU_take (v := ?_) 1 hst (fun _ h => h) rfl ?_ ?_; rotate_left; (intro W hS K hK; have ld : W.cell? ⟨g_1, 4, none⟩ = some (.bool i.sid) := hS.2.1.cell 4; clear hS; go_simp; exact hK.out _ (Below.refl _ _)); simp only [nrm]
  refine wpU_p 2 hst ?_
  refine wpU_s 3 hst ?_
  refine wpU_s 4 hst ?_
  refine wpU_p 5 hst ?_
  refine wpU_p 6 hst ?_
  refine wpU_take (v := ?_) 7 hst (fun _ h => h) rfl ?_ ?_; rotate_left; (intro W hS K hK; have ld : W.cell? ⟨g_8, 4, none⟩ = some (.bool j.sid) := hS.2.2.cell 4; clear hS; go_simp; exact hK.out _ (Below.refl _ _)); simp only [nrm]
  refine wpU_p 8 hst ?_
  refine wpU_p 9 hst ?_
  refine wpU_take (v := ?_) 10 hst (fun _ h => h) rfl ?_ ?_; rotate_left; (intro W hS K hK; have ld : W.cell? ⟨g_1, 5, none⟩ = some (.bool i.tid) := hS.2.1.cell 5; clear hS; go_simp; exact hK.out _ (Below.refl _ _)); simp only [nrm]
  refine wpU_p 11 hst ?_
  refine wpU_p 12 hst ?_
  refine wpU_p 13 hst ?_
  refine wpU_done (fun w_19 hS => ?_)
  obtain ⟨hB, G_4, G_11⟩ := hS
  clear hst
  go_wp2_with (with_reducible refine so ?_)
  go_returns
  have er : r = (false, i.tid) := by rw [← HR.out]; first | (simp [identsK, hc_16, hc_17]; done) | (simp only [identsK, hc_16, hc_17]; simp [hc_16, hc_17]; done) | ((simp [identsK, hc_16, hc_17]) <;> rfl)
  rw [er]
  exact ⟨rfl, hB⟩
 skip
 rcases hc_20 : j.sid with _ | _
 ·
  skip
  go_wp2_with (with_reducible refine so ?_)
  have hst : Stable fun W => Below w.heap.size w W ∧ Blk W g_1 23 (featL i).toArray ∧ Blk W g_8 23 (featL j).toArray := stable_and (stable_below _ _ (Nat.le_refl _)) (stable_and (stable_blk _ _ _) (stable_blk _ _ _))
  refine wp_region_v _ 14 hst ⟨hB.drew, G_4, G_11⟩ ?_
  clear hB G_4 G_11
  refine wpU_p 0 hst ?_
  refine wpU_take (v := ?_) 1 hst (fun _ h => h) rfl ?_ ?_; rotate_left; (intro W hS K hK; have ld : W.cell? ⟨g_1, 4, none⟩ = some (.bool i.sid) := hS.2.1.cell 4; clear hS; go_simp; exact hK.out _ (Below.refl _ _)); simp only [nrm]
  refine wpU_p 2 hst ?_
  refine wpU_p 3 hst ?_
  refine wpU_take (v := ?_) 4 hst (fun _ h => h) rfl ?_ ?_; rotate_left; (intro W hS K hK; have ld : W.cell? ⟨g_8, 5, none⟩ = some (.bool j.tid) := hS.2.2.cell 5; clear hS; go_simp; exact hK.out _ (Below.refl _ _)); simp only [nrm]
  refine wpU_p 5 hst ?_
  refine wpU_p 6 hst ?_
  refine wpU_take (v := ?_) 7 hst (fun _ h => h) rfl ?_ ?_; rotate_left; (intro W hS K hK; have ld : W.cell? ⟨g_8, 4, none⟩ = some (.bool j.sid) := hS.2.2.cell 4; clear hS; go_simp; exact hK.out _ (Below.refl _ _)); simp only [nrm]
  refine wpU_p 8 hst ?_
  refine wpU_s 9 hst ?_
  refine wpU_s 10 hst ?_
  refine wpU_p 11 hst ?_
  refine wpU_p 12 hst ?_
  refine wpU_p 13 hst ?_
  refine wpU_done (fun w_21 hS => ?_)
  obtain ⟨hB, G_4, G_11⟩ := hS
  clear hst
  go_wp2_with (with_reducible refine so ?_)
  go_returns
  have er : r = (j.tid, false) := by rw [← HR.out]; first | (simp [identsK, hc_16, hc_20]; done) | (simp only [identsK, hc_16, hc_20]; simp [hc_16, hc_20]; done) | ((simp [identsK, hc_16, hc_20]) <;> rfl)
  rw [er]
  exact ⟨rfl, hB⟩
 skip
 go_wp2_with (with_reducible refine so ?_)
 have hst : Stable fun W => Below w.heap.size w W ∧ Blk W g_1 23 (featL i).toArray ∧ Blk W g_8 23 (featL j).toArray := stable_and (stable_below _ _ (Nat.le_refl _)) (stable_and (stable_blk _ _ _) (stable_blk _ _ _))
 refine wp_region_v _ 14 hst ⟨hB.drew, G_4, G_11⟩ ?_
 clear hB G_4 G_11
 refine wpU_p 0 hst ?_
 refine wpU_take (v := ?_) 1 hst (fun _ h => h) rfl ?_ ?_; rotate_left; (intro W hS K hK; have ld : W.cell? ⟨g_1, 4, none⟩ = some (.bool i.sid) := hS.2.1.cell 4; clear hS; go_simp; exact hK.out _ (Below.refl _ _)); simp only [nrm]
 refine wpU_p 2 hst ?_
 refine wpU_p 3 hst ?_
 refine wpU_take (v := ?_) 4 hst (fun _ h => h) rfl ?_ ?_; rotate_left; (intro W hS K hK; have ld : W.cell? ⟨g_8, 5, none⟩ = some (.bool j.tid) := hS.2.2.cell 5; clear hS; go_simp; exact hK.out _ (Below.refl _ _)); simp only [nrm]
 refine wpU_p 5 hst ?_
 refine wpU_p 6 hst ?_
 refine wpU_take (v := ?_) 7 hst (fun _ h => h) rfl ?_ ?_; rotate_left; (intro W hS K hK; have ld : W.cell? ⟨g_8, 4, none⟩ = some (.bool j.sid) := hS.2.2.cell 4; clear hS; go_simp; exact hK.out _ (Below.refl _ _)); simp only [nrm]
 refine wpU_p 8 hst ?_
 refine wpU_p 9 hst ?_
 refine wpU_take (v := ?_) 10 hst (fun _ h => h) rfl ?_ ?_; rotate_left; (intro W hS K hK; have ld : W.cell? ⟨g_1, 5, none⟩ = some (.bool i.tid) := hS.2.1.cell 5; clear hS; go_simp; exact hK.out _ (Below.refl _ _)); simp only [nrm]
 refine wpU_p 11 hst ?_
 refine wpU_p 12 hst ?_
 refine wpU_p 13 hst ?_
 refine wpU_done (fun w_22 hS => ?_)
 obtain ⟨hB, G_4, G_11⟩ := hS
 clear hst
 go_wp2_with (with_reducible refine so ?_)
 go_returns
 have er : r = (j.tid, i.tid) := by rw [← HR.out]; first | (simp [identsK, hc_16, hc_20]; done) | (simp only [identsK, hc_16, hc_20]; simp [hc_16, hc_20]; done) | ((simp [identsK, hc_16, hc_20]) <;> rfl)
 rw [er]
 exact ⟨rfl, hB⟩
theorem feat_ok {n : Nat} {a b c d e : Bool} (f : Feat) (hn : n < 5) (hf : f = ⟨(n : Int), a, b, c, d, e⟩ := by rfl) : featK_ f = 0 := by
  subst hf
  unfold featK_
  rw [if_neg (by show ¬ ((n : Int) < 0 ∨ 4 < (n : Int)); omega)]
theorem feat_nat (f : Feat) (h : featK_ f = 0) : ∃ n : Nat, n < 5 ∧ f.io = (n : Int) := by
  unfold featK_ at h
  split at h
  · cases h
  · exact ⟨f.io.toNat, by omega, by omega⟩
theorem tab_at (n m : Nat) (hn : n < 5) (hm : m < 5) : tabL[n * 5 + m]? = some (.int .i64 (tableK (n : Int) (m : Int))) := by
  have h : ∀ n : Nat, n < 5 → ∀ m : Nat, m < 5 → ([1, 1, 3, 1, 3, 1, 2, 3, 1, 2, 4, 4, 5, 1, 4, 1, 1, 1, 1, 1, 4, 2, 3, 1, 2] : List Int)[n * 5 + m]? = some (tableK (n : Int) (m : Int)) := by decide +kernel
  unfold tabL
  rw [List.getElem?_map, h n hn m hm]
  rfl
theorem me_Choose_a (i j : Feat) (w : World)  (hi : ¬ featK_ i = 0) :
  Calls Tryd.prog 15 #[.agg (featL i).toArray, .agg (featL j).toArray] w (fun e w' => e = .returned (.tuple #[.int .i64 (chooseK i j).1, .bool (chooseK i j).2]) ∧ Below w.heap.size w w') := by
 obtain ⟨r, hr⟩ : ∃ r, chooseK i j = r := ⟨_, rfl⟩
 rw [hr]
 have HR := Lib.hid hr
 clear hr
 have eei : (featK_ i == 0) = false := by simpa using hi
 have eni : (featK_ i != 0) = true := by simpa using hi
 have Ki := Lib.hid hi
 clear hi
 go_enter Tryd.func15, Tryd.ntmps15
 have hB := Below.refl w.heap.size w
 go_wp2_with (with_reducible refine so ?_)
 refine go_mem (ty := 23) (cs := (featL i).toArray) (fun g => .pointer (some ⟨g, 0, none⟩)) rfl (by kernel_rfl) ?_
 intro g_1 w_2 z_6 l_5 hb_3 G_4
 have n_7 : w.heap.size ≤ g_1 := Nat.le_trans hB.size l_5
 replace hB := hB.trans (hb_3.mono hB.size)
 clear hb_3 l_5 z_6
 go_wp2_with (with_reducible refine so ?_)
 refine go_mem (ty := 23) (cs := (featL j).toArray) (fun g => .pointer (some ⟨g, 0, none⟩)) rfl (by kernel_rfl) ?_
 intro g_8 w_9 z_13 l_12 hb_10 G_11
 have n_14 : g_1 < g_8 := Nat.lt_of_lt_of_le G_4.lt l_12
 have n_15 : w.heap.size ≤ g_8 := Nat.le_trans hB.size l_12
 replace G_4 := G_4.to hb_10 G_4.lt
 replace hB := hB.trans (hb_10.mono hB.size)
 clear hb_10 l_12 z_13
 go_wp2_with (first | (with_reducible refine so ?_) | (with_reducible refine ld 0 (featL i) G_4 Tryd.underlying23 ?_) | ((with_reducible refine wpList_ldg 0 (featL i) G_4 ?_ ?_ Tryd.underlying23 ?_ ?_ ?_ ?_); rfl; rfl; rfl; kernel_rfl; rfl))
 refine (me_Check i _).mono ?_; rintro e w_17 ⟨rfl, hb_18⟩
 replace G_4 := G_4.to hb_18 G_4.lt
 replace G_11 := G_11.to hb_18 G_11.lt
 replace hB := hB.trans (hb_18.mono hB.size)
 clear hb_18
 go_wp2_with (with_reducible refine so ?_)
 go_returns
 have er : r = (0, false) := by rw [← HR.out]; unfold chooseK; rw [if_pos (.inl Ki.out)]
 rw [er]
 exact ⟨rfl, hB⟩
theorem me_Choose_b (i j : Feat) (w : World)  (hi : featK_ i = 0) (hj : ¬ featK_ j = 0) :
  Calls Tryd.prog 15 #[.agg (featL i).toArray, .agg (featL j).toArray] w (fun e w' => e = .returned (.tuple #[.int .i64 (chooseK i j).1, .bool (chooseK i j).2]) ∧ Below w.heap.size w w') := by
 obtain ⟨r, hr⟩ : ∃ r, chooseK i j = r := ⟨_, rfl⟩
 rw [hr]
 have HR := Lib.hid hr
 clear hr
 have eei : (featK_ i == 0) = true := by simpa using hi
 have eni : (featK_ i != 0) = false := by simpa using hi
 have Ki := Lib.hid hi
 clear hi
 have eej : (featK_ j == 0) = false := by simpa using hj
 have enj : (featK_ j != 0) = true := by simpa using hj
 have Kj := Lib.hid hj
 clear hj
 go_enter Tryd.func15, Tryd.ntmps15
 have hB := Below.refl w.heap.size w
 go_wp2_with (with_reducible refine so ?_)
 refine go_mem (ty := 23) (cs := (featL i).toArray) (fun g => .pointer (some ⟨g, 0, none⟩)) rfl (by kernel_rfl) ?_
 intro g_1 w_2 z_6 l_5 hb_3 G_4
 have n_7 : w.heap.size ≤ g_1 := Nat.le_trans hB.size l_5
 replace hB := hB.trans (hb_3.mono hB.size)
 clear hb_3 l_5 z_6
 go_wp2_with (with_reducible refine so ?_)
 refine go_mem (ty := 23) (cs := (featL j).toArray) (fun g => .pointer (some ⟨g, 0, none⟩)) rfl (by kernel_rfl) ?_
 intro g_8 w_9 z_13 l_12 hb_10 G_11
 have n_14 : g_1 < g_8 := Nat.lt_of_lt_of_le G_4.lt l_12
 have n_15 : w.heap.size ≤ g_8 := Nat.le_trans hB.size l_12
 replace G_4 := G_4.to hb_10 G_4.lt
 replace hB := hB.trans (hb_10.mono hB.size)
 clear hb_10 l_12 z_13
 go_wp2_with (first | (with_reducible refine so ?_) | (with_reducible refine ld 0 (featL i) G_4 Tryd.underlying23 ?_) | ((with_reducible refine wpList_ldg 0 (featL i) G_4 ?_ ?_ Tryd.underlying23 ?_ ?_ ?_ ?_); rfl; rfl; rfl; kernel_rfl; rfl))
 refine (me_Check i _).mono ?_; rintro e w_17 ⟨rfl, hb_18⟩
 replace G_4 := G_4.to hb_18 G_4.lt
 replace G_11 := G_11.to hb_18 G_11.lt
 replace hB := hB.trans (hb_18.mono hB.size)
 clear hb_18
 go_wp2_with (first | (with_reducible refine so ?_) | (with_reducible refine ld 0 (featL j) G_11 Tryd.underlying23 ?_) | ((with_reducible refine wpList_ldg 0 (featL j) G_11 ?_ ?_ Tryd.underlying23 ?_ ?_ ?_ ?_); rfl; rfl; rfl; kernel_rfl; rfl))
 refine (me_Check j _).mono ?_; rintro e w_20 ⟨rfl, hb_21⟩
 replace G_4 := G_4.to hb_21 G_4.lt
 replace G_11 := G_11.to hb_21 G_11.lt
 replace hB := hB.trans (hb_21.mono hB.size)
 clear hb_21
 go_wp2_with (with_reducible refine so ?_)
 go_returns
 have er : r = (0, false) := by rw [← HR.out]; unfold chooseK; rw [if_pos (.inr Kj.out)]
 rw [er]
 exact ⟨rfl, hB⟩
theorem me_Choose_c (n m : Nat) (a0 a1 a2 a3 a4 b0 b1 b2 b3 b4 : Bool) (w : World)  (HL : Laid w) (hn : n < 5) (hm : m < 5) :
  Calls Tryd.prog 15 #[.agg #[.int .i64 (((n : Nat) : Int)), .bool a0, .bool a1, .bool a2, .bool a3, .bool a4], .agg #[.int .i64 (((m : Nat) : Int)), .bool b0, .bool b1, .bool b2, .bool b3, .bool b4]] w (fun e w' => e = .returned (.tuple #[.int .i64 (chooseK ⟨((n : Nat) : Int), a0, a1, a2, a3, a4⟩ ⟨((m : Nat) : Int), b0, b1, b2, b3, b4⟩).1, .bool (chooseK ⟨((n : Nat) : Int), a0, a1, a2, a3, a4⟩ ⟨((m : Nat) : Int), b0, b1, b2, b3, b4⟩).2]) ∧ Below w.heap.size w w') := by
 obtain ⟨r, hr⟩ : ∃ r, chooseK ⟨((n : Nat) : Int), a0, a1, a2, a3, a4⟩ ⟨((m : Nat) : Int), b0, b1, b2, b3, b4⟩ = r := ⟨_, rfl⟩
 rw [hr]
 have HR := Lib.hid hr
 clear hr
 have CA := Lib.hid (fun W => show Calls Tryd.prog 19 #[.agg #[.int .i64 (((n : Nat) : Int)), .bool a0, .bool a1, .bool a2, .bool a3, .bool a4]] W fun e w' => e = .returned (.int .i64 0) ∧ Below W.heap.size W w' from by
  have := me_Check ⟨((n : Nat) : Int), a0, a1, a2, a3, a4⟩ W
  rw [feat_ok _ hn] at this
  exact this)
 have CB := Lib.hid (fun W => show Calls Tryd.prog 19 #[.agg #[.int .i64 (((m : Nat) : Int)), .bool b0, .bool b1, .bool b2, .bool b3, .bool b4]] W fun e w' => e = .returned (.int .i64 0) ∧ Below W.heap.size W w' from by
  have := me_Check ⟨((m : Nat) : Int), b0, b1, b2, b3, b4⟩ W
  rw [feat_ok _ hm] at this
  exact this)
 have FK := Lib.hid (show featK_ ⟨((n : Nat) : Int), a0, a1, a2, a3, a4⟩ = 0 ∧ featK_ ⟨((m : Nat) : Int), b0, b1, b2, b3, b4⟩ = 0 from ⟨feat_ok _ hn, feat_ok _ hm⟩)
 have TB := Lib.hid (fun W (hB : Below w.heap.size w W) => show W.rangeAt 0 (n * 5 + m) [.int .i64 (tableK n m)] from fun j v hj => by
  match j, hj with
  | 0, hj =>
   have := (HL.to hB).tab (n * 5 + m) _ (tab_at n m hn hm)
   rw [Nat.zero_add] at this
   simp only [List.getElem?_cons_zero, Option.some.injEq] at hj
   rw [← hj]
   exact this)
 obtain ⟨tk, htk⟩ : ∃ t, tableK n m = t := ⟨_, rfl⟩
 rw [htk] at TB
 have TK := Lib.hid htk
 have i1 : (n : Int) < 5 := by omega
 have i2 : (m : Int) < 5 := by omega
 clear htk HL
 go_enter Tryd.func15, Tryd.ntmps15
 have hB := Below.refl w.heap.size w
 go_wp2_with (with_reducible refine so ?_)
 refine go_mem (ty := 23) (cs := #[.int .i64 (((n : Nat) : Int)), .bool a0, .bool a1, .bool a2, .bool a3, .bool a4]) (fun g => .pointer (some ⟨g, 0, none⟩)) rfl (by kernel_rfl) ?_
 intro g_1 w_2 z_6 l_5 hb_3 G_4
 have n_7 : w.heap.size ≤ g_1 := Nat.le_trans hB.size l_5
 replace hB := hB.trans (hb_3.mono hB.size)
 clear hb_3 l_5 z_6
 go_wp2_with (with_reducible refine so ?_)
 refine go_mem (ty := 23) (cs := #[.int .i64 (((m : Nat) : Int)), .bool b0, .bool b1, .bool b2, .bool b3, .bool b4]) (fun g => .pointer (some ⟨g, 0, none⟩)) rfl (by kernel_rfl) ?_
 intro g_8 w_9 z_13 l_12 hb_10 G_11
 have n_14 : g_1 < g_8 := Nat.lt_of_lt_of_le G_4.lt l_12
 have n_15 : w.heap.size ≤ g_8 := Nat.le_trans hB.size l_12
 replace G_4 := G_4.to hb_10 G_4.lt
 replace hB := hB.trans (hb_10.mono hB.size)
 clear hb_10 l_12 z_13
 go_wp2_with (first | (with_reducible refine so ?_) | (with_reducible refine ld 0 [.int .i64 (((n : Nat) : Int)), .bool a0, .bool a1, .bool a2, .bool a3, .bool a4] G_4 Tryd.underlying23 ?_) | ((with_reducible refine wpList_ldg 0 [.int .i64 (((n : Nat) : Int)), .bool a0, .bool a1, .bool a2, .bool a3, .bool a4] G_4 ?_ ?_ Tryd.underlying23 ?_ ?_ ?_ ?_); rfl; rfl; rfl; kernel_rfl; rfl))
 refine (CA.out _).mono ?_; rintro e w_17 ⟨rfl, hb_18⟩
 replace G_4 := G_4.to hb_18 G_4.lt
 replace G_11 := G_11.to hb_18 G_11.lt
 replace hB := hB.trans (hb_18.mono hB.size)
 clear hb_18
 go_wp2_with (first | (with_reducible refine so ?_) | (with_reducible refine ld 0 [.int .i64 (((m : Nat) : Int)), .bool b0, .bool b1, .bool b2, .bool b3, .bool b4] G_11 Tryd.underlying23 ?_) | ((with_reducible refine wpList_ldg 0 [.int .i64 (((m : Nat) : Int)), .bool b0, .bool b1, .bool b2, .bool b3, .bool b4] G_11 ?_ ?_ Tryd.underlying23 ?_ ?_ ?_ ?_); rfl; rfl; rfl; kernel_rfl; rfl))
 refine (CB.out _).mono ?_; rintro e w_20 ⟨rfl, hb_21⟩
 replace G_4 := G_4.to hb_21 G_4.lt
 replace G_11 := G_11.to hb_21 G_11.lt
 replace hB := hB.trans (hb_21.mono hB.size)
 clear hb_21
 cases a0
 case false =>
  skip
  cases b0
  case false =>
   skip
   cases a2
   case false =>
    skip
    cases b2
    case false =>
     skip
     have ld_26 := G_4.c 1 (.bool false)
     have ld_27 := G_11.c 1 (.bool false)
     have ld_28 := G_4.c 3 (.bool false)
     have ld_29 := G_11.c 3 (.bool false)
     go_wp2_with (with_reducible refine so ?_)
     go_returns
     have er : r = (1, false) := by rw [← HR.out]; have fk := FK.out; have tk1 := TK.out; unfold chooseK; rw [if_neg (by rw [fk.1, fk.2]; decide)]; simp [tk1] <;> rfl
     rw [er]
     exact ⟨rfl, hB⟩
    case true =>
     skip
     have ld_30 := G_4.c 1 (.bool false)
     have ld_31 := G_11.c 1 (.bool false)
     have ld_32 := G_4.c 3 (.bool false)
     have ld_33 := G_11.c 3 (.bool true)
     go_wp2_with (with_reducible refine so ?_)
     clear ld_30 ld_31 ld_32 ld_33
     have hst : Stable fun W => Below w.heap.size w W ∧ Blk W g_1 23 #[.int .i64 (((n : Nat) : Int)), .bool false, .bool a1, .bool false, .bool a3, .bool a4] ∧ Blk W g_8 23 #[.int .i64 (((m : Nat) : Int)), .bool false, .bool b1, .bool true, .bool b3, .bool b4] := stable_and (stable_below _ _ (Nat.le_refl _)) (stable_and (stable_blk _ _ _) (stable_blk _ _ _))
     refine wp_region_v _ 8 hst ⟨hB.drew, G_4, G_11⟩ ?_
     clear hB G_4 G_11
     refine wpU_p 0 hst ?_
     refine wpU_c 1 (.int .i64 (((n : Nat) : Int))) hst (fun W hS => hS.2.1.cell 0) ?_
     refine wpU_p 2 hst ?_
     refine wpU_c 3 (.int .i64 (((m : Nat) : Int))) hst (fun W hS => hS.2.2.cell 0) ?_
     refine wpU_p 4 hst ?_
     refine wpU_p 5 hst ?_
     refine wpU_take (v := ?_) 6 hst (fun _ h => h) rfl ?_ ?_; rotate_left; (intro W hS K hK; have ld : W.cell? ⟨0, n * 5 + m, none⟩ = some (.int .i64 tk) := (TB.out _ hS.1) 0 _ rfl; clear hS; go_simp; exact hK.out _ (Below.refl _ _)); simp only [nrm]
     refine wpU_p 7 hst ?_
     refine wpU_done (fun w_34 hS => ?_)
     obtain ⟨hB, G_4, G_11⟩ := hS
     clear hst
     go_wp2_with (with_reducible refine so ?_)
     go_returns
     have er : r = (tk, !(tk == 1)) := by rw [← HR.out]; have fk := FK.out; have tk1 := TK.out; unfold chooseK; rw [if_neg (by rw [fk.1, fk.2]; decide)]; simp [tk1] <;> rfl
     rw [er]
     exact ⟨rfl, hB⟩
   case true =>
    skip
    have ld_35 := G_4.c 1 (.bool false)
    have ld_36 := G_11.c 1 (.bool false)
    have ld_37 := G_4.c 3 (.bool true)
    go_wp2_with (with_reducible refine so ?_)
    clear ld_35 ld_36 ld_37
    have hst : Stable fun W => Below w.heap.size w W ∧ Blk W g_1 23 #[.int .i64 (((n : Nat) : Int)), .bool false, .bool a1, .bool true, .bool a3, .bool a4] ∧ Blk W g_8 23 #[.int .i64 (((m : Nat) : Int)), .bool false, .bool b1, .bool b2, .bool b3, .bool b4] := stable_and (stable_below _ _ (Nat.le_refl _)) (stable_and (stable_blk _ _ _) (stable_blk _ _ _))
    refine wp_region_v _ 8 hst ⟨hB.drew, G_4, G_11⟩ ?_
    clear hB G_4 G_11
    refine wpU_p 0 hst ?_
    refine wpU_c 1 (.int .i64 (((n : Nat) : Int))) hst (fun W hS => hS.2.1.cell 0) ?_
    refine wpU_p 2 hst ?_
    refine wpU_c 3 (.int .i64 (((m : Nat) : Int))) hst (fun W hS => hS.2.2.cell 0) ?_
    refine wpU_p 4 hst ?_
    refine wpU_p 5 hst ?_
    refine wpU_take (v := ?_) 6 hst (fun _ h => h) rfl ?_ ?_; rotate_left; (intro W hS K hK; have ld : W.cell? ⟨0, n * 5 + m, none⟩ = some (.int .i64 tk) := (TB.out _ hS.1) 0 _ rfl; clear hS; go_simp; exact hK.out _ (Below.refl _ _)); simp only [nrm]
    refine wpU_p 7 hst ?_
    refine wpU_done (fun w_38 hS => ?_)
    obtain ⟨hB, G_4, G_11⟩ := hS
    clear hst
    go_wp2_with (with_reducible refine so ?_)
    go_returns
    have er : r = (tk, !(tk == 1)) := by rw [← HR.out]; have fk := FK.out; have tk1 := TK.out; unfold chooseK; rw [if_neg (by rw [fk.1, fk.2]; decide)]; simp [tk1] <;> rfl
    rw [er]
    exact ⟨rfl, hB⟩
  case true =>
   skip
   have ld_39 := G_4.c 1 (.bool false)
   have ld_40 := G_11.c 1 (.bool true)
   go_wp2_with (with_reducible refine so ?_)
   go_returns
   have er : r = (6, true) := by rw [← HR.out]; have fk := FK.out; have tk1 := TK.out; unfold chooseK; rw [if_neg (by rw [fk.1, fk.2]; decide)]; simp [tk1] <;> rfl
   rw [er]
   exact ⟨rfl, hB⟩
 case true =>
  skip
  have ld_41 := G_4.c 1 (.bool true)
  go_wp2_with (with_reducible refine so ?_)
  go_returns
  have er : r = (6, true) := by rw [← HR.out]; have fk := FK.out; have tk1 := TK.out; unfold chooseK; rw [if_neg (by rw [fk.1, fk.2]; decide)]; simp [tk1] <;> rfl
  rw [er]
  exact ⟨rfl, hB⟩
theorem me_Choose (i j : Feat) (w : World) (HL : Laid w) : Calls Tryd.prog 15 #[.agg (featL i).toArray, .agg (featL j).toArray] w fun e w' => e = .returned (.tuple #[.int .i64 (chooseK i j).1, .bool (chooseK i j).2]) ∧ Below w.heap.size w w' := by
  by_cases hi : featK_ i = 0
  · by_cases hj : featK_ j = 0
    · obtain ⟨n, hn, h1⟩ := feat_nat i hi
      obtain ⟨m, hm, h2⟩ := feat_nat j hj
      obtain ⟨io, a0, a1, a2, a3, a4⟩ := i
      obtain ⟨jo, b0, b1, b2, b3, b4⟩ := j
      obtain rfl : io = n := h1
      obtain rfl : jo = m := h2
      exact me_Choose_c n m a0 a1 a2 a3 a4 b0 b1 b2 b3 b4 w HL hn hm
    · exact me_Choose_b i j w hi hj
  · exact me_Choose_a i j w hi
theorem me_Enough (i j : Feat) (w : World) (HL : Laid w) :
  Calls Tryd.prog 13 #[.agg (featL i).toArray, .agg (featL j).toArray] w (fun e w' => e = .returned (.bool (enoughK i j)) ∧ Below w.heap.size w w') := by
 obtain ⟨r, hr⟩ : ∃ r, enoughK i j = r := ⟨_, rfl⟩
 rw [hr]
 have HR := Lib.hid hr
 clear hr
 go_enter Tryd.func13, Tryd.ntmps13
 have hB := Below.refl w.heap.size w
 go_wp2_with (with_reducible refine so ?_)
 refine go_mem (ty := 23) (cs := (featL i).toArray) (fun g => .pointer (some ⟨g, 0, none⟩)) rfl (by kernel_rfl) ?_
 intro g_1 w_2 z_6 l_5 hb_3 G_4
 have n_7 : w.heap.size ≤ g_1 := Nat.le_trans hB.size l_5
 replace HL := Laid.to HL hb_3
 replace hB := hB.trans (hb_3.mono hB.size)
 clear hb_3 l_5 z_6
 go_wp2_with (with_reducible refine so ?_)
 refine go_mem (ty := 23) (cs := (featL j).toArray) (fun g => .pointer (some ⟨g, 0, none⟩)) rfl (by kernel_rfl) ?_
 intro g_8 w_9 z_13 l_12 hb_10 G_11
 have n_14 : g_1 < g_8 := Nat.lt_of_lt_of_le G_4.lt l_12
 have n_15 : w.heap.size ≤ g_8 := Nat.le_trans hB.size l_12
 replace G_4 := G_4.to hb_10 G_4.lt
 replace HL := Laid.to HL hb_10
 replace hB := hB.trans (hb_10.mono hB.size)
 clear hb_10 l_12 z_13
 go_wp2_with (first | (with_reducible refine so ?_) | (with_reducible refine ld 0 (featL i) G_4 Tryd.underlying23 ?_) | (with_reducible refine ld 0 (featL j) G_11 Tryd.underlying23 ?_))
 refine (me_Choose i j _ HL).mono ?_; rintro e w_18 ⟨rfl, hb_19⟩
 replace G_4 := G_4.to hb_19 G_4.lt
 replace G_11 := G_11.to hb_19 G_11.lt
 replace HL := Laid.to HL hb_19
 replace hB := hB.trans (hb_19.mono hB.size)
 clear hb_19
 by_cases hc_20 : ((chooseK i j).1 : Int) = 0
 ·
  obtain ⟨ec_20, ec_20n, kc_20⟩ := fT hc_20; clear hc_20
  go_wp2_with (with_reducible refine so ?_)
  go_returns
  have q0 := kc_20.out
  have er : r = false := by rw [← HR.out]; first | (simp [enoughK, q0]; done) | (simp only [enoughK]; simp [q0]; done) | ((simp [enoughK, q0]) <;> rfl)
  rw [er]
  exact ⟨rfl, hB⟩
 obtain ⟨ec_20, ec_20n, kc_20⟩ := fF hc_20; clear hc_20
 rcases hc_21 : (chooseK i j).2 with _ | _
 ·
  skip
  rcases hc_22 : i.mitm with _ | _
  ·
   skip
   rcases hc_23 : j.mitm with _ | _
   ·
    skip
    have ld_24 := G_4.c 3 (.bool i.mitm)
    have ld_25 := G_11.c 3 (.bool j.mitm)
    go_wp2_with (with_reducible refine so ?_)
    go_returns
    have q0 := kc_20.out
    have er : r = true := by rw [← HR.out]; first | (simp [enoughK, q0, hc_21, hc_22, hc_23]; done) | (simp only [enoughK, hc_21, hc_22, hc_23]; simp [q0, hc_21, hc_22, hc_23]; done) | ((simp [enoughK, q0, hc_21, hc_22, hc_23]) <;> rfl)
    rw [er]
    exact ⟨rfl, hB⟩
   skip
   have ld_26 := G_4.c 3 (.bool i.mitm)
   have ld_27 := G_11.c 3 (.bool j.mitm)
   go_wp2_with (with_reducible refine so ?_)
   go_returns
   have q0 := kc_20.out
   have er : r = false := by rw [← HR.out]; first | (simp [enoughK, q0, hc_21, hc_22, hc_23]; done) | (simp only [enoughK, hc_21, hc_22, hc_23]; simp [q0, hc_21, hc_22, hc_23]; done) | ((simp [enoughK, q0, hc_21, hc_22, hc_23]) <;> rfl)
   rw [er]
   exact ⟨rfl, hB⟩
  skip
  have ld_28 := G_4.c 3 (.bool i.mitm)
  go_wp2_with (with_reducible refine so ?_)
  go_returns
  have q0 := kc_20.out
  have er : r = false := by rw [← HR.out]; first | (simp [enoughK, q0, hc_21, hc_22]; done) | (simp only [enoughK, hc_21, hc_22]; simp [q0, hc_21, hc_22]; done) | ((simp [enoughK, q0, hc_21, hc_22]) <;> rfl)
  rw [er]
  exact ⟨rfl, hB⟩
 skip
 go_wp2_with (with_reducible refine so ?_)
 go_returns
 have q0 := kc_20.out
 have er : r = true := by rw [← HR.out]; first | (simp [enoughK, q0, hc_21]; done) | (simp only [enoughK, hc_21]; simp [q0, hc_21]; done) | ((simp [enoughK, q0, hc_21]) <;> rfl)
 rw [er]
 exact ⟨rfl, hB⟩
theorem ad_mask22 (w : World) : Calls Tryd.prog 37 #[.int .i64 22] w fun e w' => e = .returned (.int .u64 (W64 4194303#64)) ∧ Below w.heap.size w w' := by
 go_enter Tryd.func37, Tryd.ntmps37
 go_wp2
 go_ret
 exact ⟨rfl, Below.refl _ _⟩
theorem ad_mask46 (w : World) : Calls Tryd.prog 37 #[.int .i64 46] w fun e w' => e = .returned (.int .u64 (W64 70368744177663#64)) ∧ Below w.heap.size w w' := by
 go_enter Tryd.func37, Tryd.ntmps37
 go_wp2
 go_ret
 exact ⟨rfl, Below.refl _ _⟩
def partB (a : Adr) : BitVec 64 × Int := if a.kind = 3 then (a.bits >>> 24 &&& 4194303#64, 22) else (a.bits &&& 70368744177663#64, 46)
def adrB (k : Int) (x : BitVec 64) : Int :=
  if k ≤ 0 ∨ 5 ≤ k then 12
  else if x >>> 48 ≠ 0#64 then 5
  else if k = 1 then 0
  else if x >>> 46 ≠ BitVec.ofInt 64 (prefixK k) ∨ (partB ⟨k, x⟩).1 = 0#64 ∨ (partB ⟨k, x⟩).1 = (if k = 3 then 4194303#64 else 70368744177663#64) then 1 else 0
theorem and_low (x : BitVec 64) (n : Nat) (m : BitVec 64) (hm : m.toNat = 2 ^ n - 1) : (x &&& m).toNat = x.toNat % 2 ^ n := by
  rw [BitVec.toNat_and, hm, Nat.and_two_pow_sub_one_eq_mod]
theorem eq_nat {x y : BitVec 64} : x = y ↔ x.toNat = y.toNat := BitVec.toNat_inj.symm
theorem adrB_eq (a : Adr) : adrB a.kind a.bits = adrK a := by
  obtain ⟨k, x⟩ := a
  unfold adrB adrK partB
  dsimp only
  have hx := x.isLt
  by_cases h1 : k < 1 ∨ 4 < k
  · rw [if_pos (by omega), if_pos h1]
  rw [if_neg (by omega), if_neg h1]
  have e48 : (x >>> 48).toNat = x.toNat / 281474976710656 := by rw [BitVec.toNat_ushiftRight, Nat.shiftRight_eq_div_pow]
  have e46 : (x >>> 46).toNat = x.toNat / 70368744177664 := by rw [BitVec.toNat_ushiftRight, Nat.shiftRight_eq_div_pow]
  by_cases h2 : 281474976710656 ≤ x.toNat
  · rw [if_pos (by rw [Ne, eq_nat, e48]; simp; omega), if_pos h2]
  rw [if_neg (by rw [Ne, eq_nat, e48]; simp; omega), if_neg h2]
  by_cases h3 : k = 1
  · rw [if_pos h3, if_pos h3]
  rw [if_neg h3, if_neg h3]
  have e3 : ((x >>> 24) &&& 4194303#64).toNat = x.toNat % 70368744177664 / 16777216 := by
    rw [and_low _ 22 _ rfl, BitVec.toNat_ushiftRight, Nat.shiftRight_eq_div_pow]
    omega
  have e0 : (x &&& 70368744177663#64).toNat = x.toNat % 70368744177664 := and_low _ 46 _ rfl
  rcases (by omega : k = 2 ∨ k = 3 ∨ k = 4) with rfl | rfl | rfl
  · simp only [eq_nat, Ne, e46, e0, reduceIte, Int.reduceEq, show prefixK 2 = 3 from rfl]
    norm_cast
  · simp only [eq_nat, Ne, e46, e3, reduceIte, Int.reduceEq, show prefixK 3 = 1 from rfl]
    norm_cast
  · simp only [eq_nat, Ne, e46, e0, reduceIte, Int.reduceEq, show prefixK 4 = 0 from rfl]
    norm_cast
theorem ad_part (a : Adr) (w : World) :
  Calls Tryd.prog 36 #[.agg (adrL a).toArray] w (fun e w' => e = .returned (.tuple #[.int .u64 (W64 (partB a).1), .int .i64 (partB a).2]) ∧ Below w.heap.size w w') := by
 obtain ⟨r, hr⟩ : ∃ r, partB a = r := ⟨_, rfl⟩
 rw [hr]
 have HR := Lib.hid hr
 clear hr
 go_enter Tryd.func36, Tryd.ntmps36
 have hB := Below.refl w.heap.size w
 go_wp2_with (with_reducible refine so ?_)
 refine go_mem (ty := 26) (cs := #[.int .i64 a.kind, .int .u64 (W64 a.bits)]) (fun g => .pointer (some ⟨g, 0, none⟩)) rfl (by kernel_rfl) ?_
 intro g_1 w_2 z_6 l_5 hb_3 G_4
 have n_7 : w.heap.size ≤ g_1 := Nat.le_trans hB.size l_5
 replace hB := hB.trans (hb_3.mono hB.size)
 clear hb_3 l_5 z_6
 by_cases hc_8 : (a.kind : Int) = 3
 ·
  obtain ⟨ec_8, ec_8n, kc_8⟩ := fT hc_8; clear hc_8
  have ld_9 := G_4.c 0 (.int .i64 a.kind)
  go_wp2_with (with_reducible refine so ?_)
  clear ld_9
  have hst : Stable fun W => Below w.heap.size w W ∧ Blk W g_1 26 #[.int .i64 a.kind, .int .u64 (W64 a.bits)] := stable_and (stable_below _ _ (Nat.le_refl _)) (stable_blk _ _ _)
  refine wp_region_v _ 7 hst ⟨hB.drew, G_4⟩ ?_
  clear hB G_4
  refine wpU_p 0 hst ?_
  refine wpU_c 1 (.int .u64 (W64 a.bits)) hst (fun W hS => hS.2.cell 1) ?_
  refine wpU_p 2 hst ?_
  refine wpU_take (v := ?_) 3 hst (fun _ h => h) rfl ?_ ?_; rotate_left; (intro W hS K hK; clear hS; go_simp; refine (ad_mask22 _).mono ?_; rintro e w9 ⟨rfl, hb⟩; refine CallPost.mk ?_; exact hK.out _ (hb)); simp only [nrm]
  refine wpU_p 4 hst ?_
  refine wpU_p 5 hst ?_
  refine wpU_p 6 hst ?_
  refine wpU_done (fun w_10 hS => ?_)
  obtain ⟨hB, G_4⟩ := hS
  clear hst
  go_wp2_with (with_reducible refine so ?_)
  go_returns
  have q0 := kc_8.out
  have er : r = (((a.bits >>> 24) &&& (4194303#64)), 22) := by rw [← HR.out]; first | (simp [partB, q0]; done) | (simp only [partB]; simp [q0]; done) | ((simp [partB, q0]) <;> rfl)
  rw [er]
  exact ⟨rfl, hB⟩
 obtain ⟨ec_8, ec_8n, kc_8⟩ := fF hc_8; clear hc_8
 have ld_11 := G_4.c 0 (.int .i64 a.kind)
 go_wp2_with (with_reducible refine so ?_)
 clear ld_11
 have hst : Stable fun W => Below w.heap.size w W ∧ Blk W g_1 26 #[.int .i64 a.kind, .int .u64 (W64 a.bits)] := stable_and (stable_below _ _ (Nat.le_refl _)) (stable_blk _ _ _)
 refine wp_region_v _ 6 hst ⟨hB.drew, G_4⟩ ?_
 clear hB G_4
 refine wpU_p 0 hst ?_
 refine wpU_c 1 (.int .u64 (W64 a.bits)) hst (fun W hS => hS.2.cell 1) ?_
 refine wpU_take (v := ?_) 2 hst (fun _ h => h) rfl ?_ ?_; rotate_left; (intro W hS K hK; clear hS; go_simp; refine (ad_mask46 _).mono ?_; rintro e w9 ⟨rfl, hb⟩; refine CallPost.mk ?_; exact hK.out _ (hb)); simp only [nrm]
 refine wpU_p 3 hst ?_
 refine wpU_p 4 hst ?_
 refine wpU_p 5 hst ?_
 refine wpU_done (fun w_12 hS => ?_)
 obtain ⟨hB, G_4⟩ := hS
 clear hst
 go_wp2_with (with_reducible refine so ?_)
 go_returns
 have q0 := kc_8.out
 have er : r = ((a.bits &&& (70368744177663#64)), 46) := by rw [← HR.out]; first | (simp [partB, q0]; done) | (simp only [partB]; simp [q0]; done) | ((simp [partB, q0]) <;> rfl)
 rw [er]
 exact ⟨rfl, hB⟩
theorem ad_Check_low (k : Int) (x : BitVec 64) (w : World) (hk : k ≤ 0 ∨ 5 ≤ k) : Calls Tryd.prog 20 #[.agg #[.int .i64 k, .int .u64 (W64 x)]] w fun e w' => e = .returned (.int .i64 12) ∧ Below w.heap.size w w' := by
 rcases hk with h | h
 ·
  go_enter Tryd.func20, Tryd.ntmps20
  go_wp2
  go_ret
  exact ⟨rfl, (Below.refl _ _).alloc (Nat.le_refl _) _⟩
 have h0 : ¬ k ≤ 0 := by omega
 go_enter Tryd.func20, Tryd.ntmps20
 go_wp2
 go_ret
 exact ⟨rfl, (Below.refl _ _).alloc (Nat.le_refl _) _⟩
theorem ad_Check_1 (x : BitVec 64) (w : World) :
  Calls Tryd.prog 20 #[.agg #[.int .i64 1, .int .u64 (W64 x)]] w (fun e w' => e = .returned (.int .i64 (adrB 1 x)) ∧ Below w.heap.size w w') := by
 obtain ⟨r, hr⟩ : ∃ r, adrB 1 x = r := ⟨_, rfl⟩
 rw [hr]
 have HR := Lib.hid hr
 clear hr
 go_enter Tryd.func20, Tryd.ntmps20
 have hB := Below.refl w.heap.size w
 go_wp2_with (with_reducible refine so ?_)
 refine go_mem (ty := 26) (cs := #[.int .i64 1, .int .u64 (W64 x)]) (fun g => .pointer (some ⟨g, 0, none⟩)) rfl (by kernel_rfl) ?_
 intro g_1 w_2 z_6 l_5 hb_3 G_4
 have n_7 : w.heap.size ≤ g_1 := Nat.le_trans hB.size l_5
 replace hB := hB.trans (hb_3.mono hB.size)
 clear hb_3 l_5 z_6
 by_cases hc_8 : x >>> 48 = 0#64
 ·
  have ec_8 : ((W64 (x >>> 48) : Int) == 0) = true := by have this : (W64 (x >>> 48) == W64 (0#64)) = true := (by rw [W64_beq]; simpa using hc_8); exact this
  have ec_8n : ((W64 (x >>> 48) : Int) != 0) = false := by have this : (W64 (x >>> 48) != W64 (0#64)) = false := (by rw [W64_bne]; simpa using hc_8); exact this
  have kc_8 := Lib.hid hc_8
  clear hc_8
  have ld_9 := G_4.c 0 (.int .i64 1)
  have ld_10 := G_4.c 1 (.int .u64 (W64 x))
  go_wp2_with (with_reducible refine so ?_)
  go_returns
  have q0 := kc_8.out
  have er : r = 0 := by rw [← HR.out]; unfold adrB; rw [if_neg (by decide)]; simp [q0]
  rw [er]
  exact ⟨rfl, hB⟩
 have ec_8 : ((W64 (x >>> 48) : Int) == 0) = false := by have this : (W64 (x >>> 48) == W64 (0#64)) = false := (by rw [W64_beq]; simpa using hc_8); exact this
 have ec_8n : ((W64 (x >>> 48) : Int) != 0) = true := by have this : (W64 (x >>> 48) != W64 (0#64)) = true := (by rw [W64_bne]; simpa using hc_8); exact this
 have kc_8 := Lib.hid hc_8
 clear hc_8
 have ld_11 := G_4.c 0 (.int .i64 1)
 have ld_12 := G_4.c 1 (.int .u64 (W64 x))
 go_wp2_with (with_reducible refine so ?_)
 go_returns
 have q0 := kc_8.out
 have er : r = 5 := by rw [← HR.out]; unfold adrB; rw [if_neg (by decide)]; simp [q0]
 rw [er]
 exact ⟨rfl, hB⟩
theorem ad_Check_2 (x : BitVec 64) (w : World)  (HL : Laid w) :
  Calls Tryd.prog 20 #[.agg #[.int .i64 2, .int .u64 (W64 x)]] w (fun e w' => e = .returned (.int .i64 (adrB 2 x)) ∧ Below w.heap.size w w') := by
 obtain ⟨r, hr⟩ : ∃ r, adrB 2 x = r := ⟨_, rfl⟩
 rw [hr]
 have HR := Lib.hid hr
 clear hr
 have PB := Lib.hid (fun W (hB : Below w.heap.size w W) => show W.rangeAt 1 2 [.int .u64 3] from fun j v hj => by
  match j, hj with
  | 0, hj =>
   have := (HL.to hB).pre 2 _ (show preL[2]? = some (.int .u64 3) from rfl)
   rw [Nat.zero_add] at this
   simp only [List.getElem?_cons_zero, Option.some.injEq] at hj
   rw [← hj]
   exact this)
 clear HL
 go_enter Tryd.func20, Tryd.ntmps20
 have hB := Below.refl w.heap.size w
 go_wp2_with (with_reducible refine so ?_)
 refine go_mem (ty := 26) (cs := #[.int .i64 2, .int .u64 (W64 x)]) (fun g => .pointer (some ⟨g, 0, none⟩)) rfl (by kernel_rfl) ?_
 intro g_1 w_2 z_6 l_5 hb_3 G_4
 have n_7 : w.heap.size ≤ g_1 := Nat.le_trans hB.size l_5
 replace hB := hB.trans (hb_3.mono hB.size)
 clear hb_3 l_5 z_6
 by_cases hc_8 : x >>> 48 = 0#64
 ·
  have ec_8 : ((W64 (x >>> 48) : Int) == 0) = true := by have this : (W64 (x >>> 48) == W64 (0#64)) = true := (by rw [W64_beq]; simpa using hc_8); exact this
  have ec_8n : ((W64 (x >>> 48) : Int) != 0) = false := by have this : (W64 (x >>> 48) != W64 (0#64)) = false := (by rw [W64_bne]; simpa using hc_8); exact this
  have kc_8 := Lib.hid hc_8
  clear hc_8
  have ld_9 := G_4.c 0 (.int .i64 2)
  have ld_10 := G_4.c 1 (.int .u64 (W64 x))
  go_wp2_with (first | (with_reducible refine so ?_) | (with_reducible refine ld 0 [.int .i64 2, .int .u64 (W64 x)] G_4 Tryd.underlying26 ?_))
  refine (ad_part ⟨2, x⟩ _).mono ?_; rintro e w_12 ⟨rfl, hb_13⟩
  clear ld_9 ld_10
  replace G_4 := G_4.to hb_13 G_4.lt
  replace hB := hB.trans (hb_13.mono hB.size)
  clear hb_13
  by_cases hc_14 : x >>> 46 = 3#64
  ·
   have ec_14 : ((W64 (x >>> 46) : Int) == 3) = true := by have this : (W64 (x >>> 46) == W64 (3#64)) = true := (by rw [W64_beq]; simpa using hc_14); exact this
   have ec_14n : ((W64 (x >>> 46) : Int) != 3) = false := by have this : (W64 (x >>> 46) != W64 (3#64)) = false := (by rw [W64_bne]; simpa using hc_14); exact this
   have kc_14 := Lib.hid hc_14
   clear hc_14
   by_cases hc_15 : (partB ⟨2, x⟩).1 = 0#64
   ·
    have ec_15 : ((W64 (partB ⟨2, x⟩).1 : Int) == 0) = true := by have this : (W64 ((partB ⟨2, x⟩).1) == W64 (0#64)) = true := (by rw [W64_beq]; simpa using hc_15); exact this
    have ec_15n : ((W64 (partB ⟨2, x⟩).1 : Int) != 0) = false := by have this : (W64 ((partB ⟨2, x⟩).1) != W64 (0#64)) = false := (by rw [W64_bne]; simpa using hc_15); exact this
    have kc_15 := Lib.hid hc_15
    clear hc_15
    go_wp2_with (with_reducible refine so ?_)
    have hst : Stable fun W => Below w.heap.size w W ∧ Blk W g_1 26 #[.int .i64 2, .int .u64 (W64 x)] := stable_and (stable_below _ _ (Nat.le_refl _)) (stable_blk _ _ _)
    refine wp_region_v _ 18 hst ⟨hB.drew, G_4⟩ ?_
    clear hB G_4
    refine wpU_p 0 hst ?_
    refine wpU_c 1 (.int .u64 (W64 x)) hst (fun W hS => hS.2.cell 1) ?_
    refine wpU_p 2 hst ?_
    refine wpU_p 3 hst ?_
    refine wpU_c 4 (.int .i64 2) hst (fun W hS => hS.2.cell 0) ?_
    refine wpU_p 5 hst ?_
    refine wpU_take (v := ?_) 6 hst (fun _ h => h) rfl ?_ ?_; rotate_left; (intro W hS K hK; have ld : W.cell? ⟨1, 2, none⟩ = some (.int .u64 3) := (PB.out _ hS.1) 0 _ rfl; clear hS; go_simp; exact hK.out _ (Below.refl _ _)); simp only [nrm]
    refine wpU_p 7 hst ?_
    refine wpU_p 8 hst ?_
    refine wpU_p 9 hst ?_
    refine wpU_p 10 hst ?_
    refine wpU_p 11 hst ?_
    refine wpU_p 12 hst ?_
    refine wpU_s 13 hst ?_
    refine wpU_s 14 hst ?_
    refine wpU_s 15 hst ?_
    refine wpU_s 16 hst ?_
    refine wpU_p 17 hst ?_
    refine wpU_done (fun w_16 hS => ?_)
    obtain ⟨hB, G_4⟩ := hS
    clear hst
    go_wp2_with (with_reducible refine so ?_)
    go_returns
    have q0 := kc_8.out
    have q1 := kc_14.out
    have q2 := kc_15.out
    have er : r = 1 := by rw [← HR.out]; unfold adrB; rw [if_neg (by decide)]; simp [q0, q1, q2, show prefixK 2 = 3 from rfl] <;> simp_all
    rw [er]
    exact ⟨rfl, hB⟩
   have ec_15 : ((W64 (partB ⟨2, x⟩).1 : Int) == 0) = false := by have this : (W64 ((partB ⟨2, x⟩).1) == W64 (0#64)) = false := (by rw [W64_beq]; simpa using hc_15); exact this
   have ec_15n : ((W64 (partB ⟨2, x⟩).1 : Int) != 0) = true := by have this : (W64 ((partB ⟨2, x⟩).1) != W64 (0#64)) = true := (by rw [W64_bne]; simpa using hc_15); exact this
   have kc_15 := Lib.hid hc_15
   clear hc_15
   go_wp2_with (with_reducible refine so ?_)
   have hst : Stable fun W => Below w.heap.size w W ∧ Blk W g_1 26 #[.int .i64 2, .int .u64 (W64 x)] := stable_and (stable_below _ _ (Nat.le_refl _)) (stable_blk _ _ _)
   refine wp_region_v _ 18 hst ⟨hB.drew, G_4⟩ ?_
   clear hB G_4
   refine wpU_p 0 hst ?_
   refine wpU_c 1 (.int .u64 (W64 x)) hst (fun W hS => hS.2.cell 1) ?_
   refine wpU_p 2 hst ?_
   refine wpU_p 3 hst ?_
   refine wpU_c 4 (.int .i64 2) hst (fun W hS => hS.2.cell 0) ?_
   refine wpU_p 5 hst ?_
   refine wpU_take (v := ?_) 6 hst (fun _ h => h) rfl ?_ ?_; rotate_left; (intro W hS K hK; have ld : W.cell? ⟨1, 2, none⟩ = some (.int .u64 3) := (PB.out _ hS.1) 0 _ rfl; clear hS; go_simp; exact hK.out _ (Below.refl _ _)); simp only [nrm]
   refine wpU_p 7 hst ?_
   refine wpU_p 8 hst ?_
   refine wpU_p 9 hst ?_
   refine wpU_p 10 hst ?_
   refine wpU_p 11 hst ?_
   refine wpU_p 12 hst ?_
   refine wpU_p 13 hst ?_
   refine wpU_p 14 hst ?_
   refine wpU_take (v := ?_) 15 hst (fun _ h => h) rfl ?_ ?_; rotate_left; (intro W hS K hK; clear hS; go_simp; refine (ad_mask46 _).mono ?_; rintro e w9 ⟨rfl, hb⟩; refine CallPost.mk ?_; exact hK.out _ (hb)); simp only [nrm]
   refine wpU_p 16 hst ?_
   refine wpU_p 17 hst ?_
   refine wpU_done (fun w_17 hS => ?_)
   obtain ⟨hB, G_4⟩ := hS
   clear hst
   by_cases hc_18 : (partB ⟨2, x⟩).1 = 70368744177663#64
   ·
    obtain ⟨ec_18, ec_18n, kc_18⟩ := gT hc_18; clear hc_18
    go_wp2_with (with_reducible refine so ?_)
    go_returns
    have q0 := kc_8.out
    have q1 := kc_14.out
    have q2 := kc_15.out
    have q3 := kc_18.out
    have er : r = 1 := by rw [← HR.out]; unfold adrB; rw [if_neg (by decide)]; simp [q0, q1, q2, q3, show prefixK 2 = 3 from rfl] <;> simp_all
    rw [er]
    exact ⟨rfl, hB⟩
   obtain ⟨ec_18, ec_18n, kc_18⟩ := gF hc_18; clear hc_18
   go_wp2_with (with_reducible refine so ?_)
   go_returns
   have q0 := kc_8.out
   have q1 := kc_14.out
   have q2 := kc_15.out
   have q3 := kc_18.out
   have er : r = 0 := by rw [← HR.out]; unfold adrB; rw [if_neg (by decide)]; simp [q0, q1, q2, q3, show prefixK 2 = 3 from rfl] <;> simp_all
   rw [er]
   exact ⟨rfl, hB⟩
  have ec_14 : ((W64 (x >>> 46) : Int) == 3) = false := by have this : (W64 (x >>> 46) == W64 (3#64)) = false := (by rw [W64_beq]; simpa using hc_14); exact this
  have ec_14n : ((W64 (x >>> 46) : Int) != 3) = true := by have this : (W64 (x >>> 46) != W64 (3#64)) = true := (by rw [W64_bne]; simpa using hc_14); exact this
  have kc_14 := Lib.hid hc_14
  clear hc_14
  go_wp2_with (with_reducible refine so ?_)
  have hst : Stable fun W => Below w.heap.size w W ∧ Blk W g_1 26 #[.int .i64 2, .int .u64 (W64 x)] := stable_and (stable_below _ _ (Nat.le_refl _)) (stable_blk _ _ _)
  refine wp_region_v _ 18 hst ⟨hB.drew, G_4⟩ ?_
  clear hB G_4
  refine wpU_p 0 hst ?_
  refine wpU_c 1 (.int .u64 (W64 x)) hst (fun W hS => hS.2.cell 1) ?_
  refine wpU_p 2 hst ?_
  refine wpU_p 3 hst ?_
  refine wpU_c 4 (.int .i64 2) hst (fun W hS => hS.2.cell 0) ?_
  refine wpU_p 5 hst ?_
  refine wpU_take (v := ?_) 6 hst (fun _ h => h) rfl ?_ ?_; rotate_left; (intro W hS K hK; have ld : W.cell? ⟨1, 2, none⟩ = some (.int .u64 3) := (PB.out _ hS.1) 0 _ rfl; clear hS; go_simp; exact hK.out _ (Below.refl _ _)); simp only [nrm]
  refine wpU_p 7 hst ?_
  refine wpU_p 8 hst ?_
  refine wpU_s 9 hst ?_
  refine wpU_s 10 hst ?_
  refine wpU_p 11 hst ?_
  refine wpU_p 12 hst ?_
  refine wpU_s 13 hst ?_
  refine wpU_s 14 hst ?_
  refine wpU_s 15 hst ?_
  refine wpU_s 16 hst ?_
  refine wpU_p 17 hst ?_
  refine wpU_done (fun w_19 hS => ?_)
  obtain ⟨hB, G_4⟩ := hS
  clear hst
  go_wp2_with (with_reducible refine so ?_)
  go_returns
  have q0 := kc_8.out
  have q1 := kc_14.out
  have er : r = 1 := by rw [← HR.out]; unfold adrB; rw [if_neg (by decide)]; simp [q0, q1, show prefixK 2 = 3 from rfl] <;> simp_all
  rw [er]
  exact ⟨rfl, hB⟩
 have ec_8 : ((W64 (x >>> 48) : Int) == 0) = false := by have this : (W64 (x >>> 48) == W64 (0#64)) = false := (by rw [W64_beq]; simpa using hc_8); exact this
 have ec_8n : ((W64 (x >>> 48) : Int) != 0) = true := by have this : (W64 (x >>> 48) != W64 (0#64)) = true := (by rw [W64_bne]; simpa using hc_8); exact this
 have kc_8 := Lib.hid hc_8
 clear hc_8
 have ld_20 := G_4.c 0 (.int .i64 2)
 have ld_21 := G_4.c 1 (.int .u64 (W64 x))
 go_wp2_with (with_reducible refine so ?_)
 go_returns
 have q0 := kc_8.out
 have er : r = 5 := by rw [← HR.out]; unfold adrB; rw [if_neg (by decide)]; simp [q0, show prefixK 2 = 3 from rfl] <;> simp_all
 rw [er]
 exact ⟨rfl, hB⟩
theorem ad_Check_3 (x : BitVec 64) (w : World)  (HL : Laid w) :
  Calls Tryd.prog 20 #[.agg #[.int .i64 3, .int .u64 (W64 x)]] w (fun e w' => e = .returned (.int .i64 (adrB 3 x)) ∧ Below w.heap.size w w') := by
 obtain ⟨r, hr⟩ : ∃ r, adrB 3 x = r := ⟨_, rfl⟩
 rw [hr]
 have HR := Lib.hid hr
 clear hr
 have PB := Lib.hid (fun W (hB : Below w.heap.size w W) => show W.rangeAt 1 3 [.int .u64 1] from fun j v hj => by
  match j, hj with
  | 0, hj =>
   have := (HL.to hB).pre 3 _ (show preL[3]? = some (.int .u64 1) from rfl)
   rw [Nat.zero_add] at this
   simp only [List.getElem?_cons_zero, Option.some.injEq] at hj
   rw [← hj]
   exact this)
 clear HL
 go_enter Tryd.func20, Tryd.ntmps20
 have hB := Below.refl w.heap.size w
 go_wp2_with (with_reducible refine so ?_)
 refine go_mem (ty := 26) (cs := #[.int .i64 3, .int .u64 (W64 x)]) (fun g => .pointer (some ⟨g, 0, none⟩)) rfl (by kernel_rfl) ?_
 intro g_1 w_2 z_6 l_5 hb_3 G_4
 have n_7 : w.heap.size ≤ g_1 := Nat.le_trans hB.size l_5
 replace hB := hB.trans (hb_3.mono hB.size)
 clear hb_3 l_5 z_6
 by_cases hc_8 : x >>> 48 = 0#64
 ·
  have ec_8 : ((W64 (x >>> 48) : Int) == 0) = true := by have this : (W64 (x >>> 48) == W64 (0#64)) = true := (by rw [W64_beq]; simpa using hc_8); exact this
  have ec_8n : ((W64 (x >>> 48) : Int) != 0) = false := by have this : (W64 (x >>> 48) != W64 (0#64)) = false := (by rw [W64_bne]; simpa using hc_8); exact this
  have kc_8 := Lib.hid hc_8
  clear hc_8
  have ld_9 := G_4.c 0 (.int .i64 3)
  have ld_10 := G_4.c 1 (.int .u64 (W64 x))
  go_wp2_with (first | (with_reducible refine so ?_) | (with_reducible refine ld 0 [.int .i64 3, .int .u64 (W64 x)] G_4 Tryd.underlying26 ?_))
  refine (ad_part ⟨3, x⟩ _).mono ?_; rintro e w_12 ⟨rfl, hb_13⟩
  clear ld_9 ld_10
  replace G_4 := G_4.to hb_13 G_4.lt
  replace hB := hB.trans (hb_13.mono hB.size)
  clear hb_13
  by_cases hc_14 : x >>> 46 = 1#64
  ·
   have ec_14 : ((W64 (x >>> 46) : Int) == 1) = true := by have this : (W64 (x >>> 46) == W64 (1#64)) = true := (by rw [W64_beq]; simpa using hc_14); exact this
   have ec_14n : ((W64 (x >>> 46) : Int) != 1) = false := by have this : (W64 (x >>> 46) != W64 (1#64)) = false := (by rw [W64_bne]; simpa using hc_14); exact this
   have kc_14 := Lib.hid hc_14
   clear hc_14
   by_cases hc_15 : (partB ⟨3, x⟩).1 = 0#64
   ·
    have ec_15 : ((W64 (partB ⟨3, x⟩).1 : Int) == 0) = true := by have this : (W64 ((partB ⟨3, x⟩).1) == W64 (0#64)) = true := (by rw [W64_beq]; simpa using hc_15); exact this
    have ec_15n : ((W64 (partB ⟨3, x⟩).1 : Int) != 0) = false := by have this : (W64 ((partB ⟨3, x⟩).1) != W64 (0#64)) = false := (by rw [W64_bne]; simpa using hc_15); exact this
    have kc_15 := Lib.hid hc_15
    clear hc_15
    go_wp2_with (with_reducible refine so ?_)
    have hst : Stable fun W => Below w.heap.size w W ∧ Blk W g_1 26 #[.int .i64 3, .int .u64 (W64 x)] := stable_and (stable_below _ _ (Nat.le_refl _)) (stable_blk _ _ _)
    refine wp_region_v _ 18 hst ⟨hB.drew, G_4⟩ ?_
    clear hB G_4
    refine wpU_p 0 hst ?_
    refine wpU_c 1 (.int .u64 (W64 x)) hst (fun W hS => hS.2.cell 1) ?_
    refine wpU_p 2 hst ?_
    refine wpU_p 3 hst ?_
    refine wpU_c 4 (.int .i64 3) hst (fun W hS => hS.2.cell 0) ?_
    refine wpU_p 5 hst ?_
    refine wpU_take (v := ?_) 6 hst (fun _ h => h) rfl ?_ ?_; rotate_left; (intro W hS K hK; have ld : W.cell? ⟨1, 3, none⟩ = some (.int .u64 1) := (PB.out _ hS.1) 0 _ rfl; clear hS; go_simp; exact hK.out _ (Below.refl _ _)); simp only [nrm]
    refine wpU_p 7 hst ?_
    refine wpU_p 8 hst ?_
    refine wpU_p 9 hst ?_
    refine wpU_p 10 hst ?_
    refine wpU_p 11 hst ?_
    refine wpU_p 12 hst ?_
    refine wpU_s 13 hst ?_
    refine wpU_s 14 hst ?_
    refine wpU_s 15 hst ?_
    refine wpU_s 16 hst ?_
    refine wpU_p 17 hst ?_
    refine wpU_done (fun w_16 hS => ?_)
    obtain ⟨hB, G_4⟩ := hS
    clear hst
    go_wp2_with (with_reducible refine so ?_)
    go_returns
    have q0 := kc_8.out
    have q1 := kc_14.out
    have q2 := kc_15.out
    have er : r = 1 := by rw [← HR.out]; unfold adrB; rw [if_neg (by decide)]; simp [q0, q1, q2, show prefixK 3 = 1 from rfl] <;> simp_all
    rw [er]
    exact ⟨rfl, hB⟩
   have ec_15 : ((W64 (partB ⟨3, x⟩).1 : Int) == 0) = false := by have this : (W64 ((partB ⟨3, x⟩).1) == W64 (0#64)) = false := (by rw [W64_beq]; simpa using hc_15); exact this
   have ec_15n : ((W64 (partB ⟨3, x⟩).1 : Int) != 0) = true := by have this : (W64 ((partB ⟨3, x⟩).1) != W64 (0#64)) = true := (by rw [W64_bne]; simpa using hc_15); exact this
   have kc_15 := Lib.hid hc_15
   clear hc_15
   go_wp2_with (with_reducible refine so ?_)
   have hst : Stable fun W => Below w.heap.size w W ∧ Blk W g_1 26 #[.int .i64 3, .int .u64 (W64 x)] := stable_and (stable_below _ _ (Nat.le_refl _)) (stable_blk _ _ _)
   refine wp_region_v _ 18 hst ⟨hB.drew, G_4⟩ ?_
   clear hB G_4
   refine wpU_p 0 hst ?_
   refine wpU_c 1 (.int .u64 (W64 x)) hst (fun W hS => hS.2.cell 1) ?_
   refine wpU_p 2 hst ?_
   refine wpU_p 3 hst ?_
   refine wpU_c 4 (.int .i64 3) hst (fun W hS => hS.2.cell 0) ?_
   refine wpU_p 5 hst ?_
   refine wpU_take (v := ?_) 6 hst (fun _ h => h) rfl ?_ ?_; rotate_left; (intro W hS K hK; have ld : W.cell? ⟨1, 3, none⟩ = some (.int .u64 1) := (PB.out _ hS.1) 0 _ rfl; clear hS; go_simp; exact hK.out _ (Below.refl _ _)); simp only [nrm]
   refine wpU_p 7 hst ?_
   refine wpU_p 8 hst ?_
   refine wpU_p 9 hst ?_
   refine wpU_p 10 hst ?_
   refine wpU_p 11 hst ?_
   refine wpU_p 12 hst ?_
   refine wpU_p 13 hst ?_
   refine wpU_p 14 hst ?_
   refine wpU_take (v := ?_) 15 hst (fun _ h => h) rfl ?_ ?_; rotate_left; (intro W hS K hK; clear hS; go_simp; refine (ad_mask22 _).mono ?_; rintro e w9 ⟨rfl, hb⟩; refine CallPost.mk ?_; exact hK.out _ (hb)); simp only [nrm]
   refine wpU_p 16 hst ?_
   refine wpU_p 17 hst ?_
   refine wpU_done (fun w_17 hS => ?_)
   obtain ⟨hB, G_4⟩ := hS
   clear hst
   by_cases hc_18 : (partB ⟨3, x⟩).1 = 4194303#64
   ·
    obtain ⟨ec_18, ec_18n, kc_18⟩ := gT hc_18; clear hc_18
    go_wp2_with (with_reducible refine so ?_)
    go_returns
    have q0 := kc_8.out
    have q1 := kc_14.out
    have q2 := kc_15.out
    have q3 := kc_18.out
    have er : r = 1 := by rw [← HR.out]; unfold adrB; rw [if_neg (by decide)]; simp [q0, q1, q2, q3, show prefixK 3 = 1 from rfl] <;> simp_all
    rw [er]
    exact ⟨rfl, hB⟩
   obtain ⟨ec_18, ec_18n, kc_18⟩ := gF hc_18; clear hc_18
   go_wp2_with (with_reducible refine so ?_)
   go_returns
   have q0 := kc_8.out
   have q1 := kc_14.out
   have q2 := kc_15.out
   have q3 := kc_18.out
   have er : r = 0 := by rw [← HR.out]; unfold adrB; rw [if_neg (by decide)]; simp [q0, q1, q2, q3, show prefixK 3 = 1 from rfl] <;> simp_all
   rw [er]
   exact ⟨rfl, hB⟩
  have ec_14 : ((W64 (x >>> 46) : Int) == 1) = false := by have this : (W64 (x >>> 46) == W64 (1#64)) = false := (by rw [W64_beq]; simpa using hc_14); exact this
  have ec_14n : ((W64 (x >>> 46) : Int) != 1) = true := by have this : (W64 (x >>> 46) != W64 (1#64)) = true := (by rw [W64_bne]; simpa using hc_14); exact this
  have kc_14 := Lib.hid hc_14
  clear hc_14
  go_wp2_with (with_reducible refine so ?_)
  have hst : Stable fun W => Below w.heap.size w W ∧ Blk W g_1 26 #[.int .i64 3, .int .u64 (W64 x)] := stable_and (stable_below _ _ (Nat.le_refl _)) (stable_blk _ _ _)
  refine wp_region_v _ 18 hst ⟨hB.drew, G_4⟩ ?_
  clear hB G_4
  refine wpU_p 0 hst ?_
  refine wpU_c 1 (.int .u64 (W64 x)) hst (fun W hS => hS.2.cell 1) ?_
  refine wpU_p 2 hst ?_
  refine wpU_p 3 hst ?_
  refine wpU_c 4 (.int .i64 3) hst (fun W hS => hS.2.cell 0) ?_
  refine wpU_p 5 hst ?_
  refine wpU_take (v := ?_) 6 hst (fun _ h => h) rfl ?_ ?_; rotate_left; (intro W hS K hK; have ld : W.cell? ⟨1, 3, none⟩ = some (.int .u64 1) := (PB.out _ hS.1) 0 _ rfl; clear hS; go_simp; exact hK.out _ (Below.refl _ _)); simp only [nrm]
  refine wpU_p 7 hst ?_
  refine wpU_p 8 hst ?_
  refine wpU_s 9 hst ?_
  refine wpU_s 10 hst ?_
  refine wpU_p 11 hst ?_
  refine wpU_p 12 hst ?_
  refine wpU_s 13 hst ?_
  refine wpU_s 14 hst ?_
  refine wpU_s 15 hst ?_
  refine wpU_s 16 hst ?_
  refine wpU_p 17 hst ?_
  refine wpU_done (fun w_19 hS => ?_)
  obtain ⟨hB, G_4⟩ := hS
  clear hst
  go_wp2_with (with_reducible refine so ?_)
  go_returns
  have q0 := kc_8.out
  have q1 := kc_14.out
  have er : r = 1 := by rw [← HR.out]; unfold adrB; rw [if_neg (by decide)]; simp [q0, q1, show prefixK 3 = 1 from rfl] <;> simp_all
  rw [er]
  exact ⟨rfl, hB⟩
 have ec_8 : ((W64 (x >>> 48) : Int) == 0) = false := by have this : (W64 (x >>> 48) == W64 (0#64)) = false := (by rw [W64_beq]; simpa using hc_8); exact this
 have ec_8n : ((W64 (x >>> 48) : Int) != 0) = true := by have this : (W64 (x >>> 48) != W64 (0#64)) = true := (by rw [W64_bne]; simpa using hc_8); exact this
 have kc_8 := Lib.hid hc_8
 clear hc_8
 have ld_20 := G_4.c 0 (.int .i64 3)
 have ld_21 := G_4.c 1 (.int .u64 (W64 x))
 go_wp2_with (with_reducible refine so ?_)
 go_returns
 have q0 := kc_8.out
 have er : r = 5 := by rw [← HR.out]; unfold adrB; rw [if_neg (by decide)]; simp [q0, show prefixK 3 = 1 from rfl] <;> simp_all
 rw [er]
 exact ⟨rfl, hB⟩
theorem ad_Check_4 (x : BitVec 64) (w : World)  (HL : Laid w) :
  Calls Tryd.prog 20 #[.agg #[.int .i64 4, .int .u64 (W64 x)]] w (fun e w' => e = .returned (.int .i64 (adrB 4 x)) ∧ Below w.heap.size w w') := by
 obtain ⟨r, hr⟩ : ∃ r, adrB 4 x = r := ⟨_, rfl⟩
 rw [hr]
 have HR := Lib.hid hr
 clear hr
 have PB := Lib.hid (fun W (hB : Below w.heap.size w W) => show W.rangeAt 1 4 [.int .u64 0] from fun j v hj => by
  match j, hj with
  | 0, hj =>
   have := (HL.to hB).pre 4 _ (show preL[4]? = some (.int .u64 0) from rfl)
   rw [Nat.zero_add] at this
   simp only [List.getElem?_cons_zero, Option.some.injEq] at hj
   rw [← hj]
   exact this)
 clear HL
 go_enter Tryd.func20, Tryd.ntmps20
 have hB := Below.refl w.heap.size w
 go_wp2_with (with_reducible refine so ?_)
 refine go_mem (ty := 26) (cs := #[.int .i64 4, .int .u64 (W64 x)]) (fun g => .pointer (some ⟨g, 0, none⟩)) rfl (by kernel_rfl) ?_
 intro g_1 w_2 z_6 l_5 hb_3 G_4
 have n_7 : w.heap.size ≤ g_1 := Nat.le_trans hB.size l_5
 replace hB := hB.trans (hb_3.mono hB.size)
 clear hb_3 l_5 z_6
 by_cases hc_8 : x >>> 48 = 0#64
 ·
  have ec_8 : ((W64 (x >>> 48) : Int) == 0) = true := by have this : (W64 (x >>> 48) == W64 (0#64)) = true := (by rw [W64_beq]; simpa using hc_8); exact this
  have ec_8n : ((W64 (x >>> 48) : Int) != 0) = false := by have this : (W64 (x >>> 48) != W64 (0#64)) = false := (by rw [W64_bne]; simpa using hc_8); exact this
  have kc_8 := Lib.hid hc_8
  clear hc_8
  have ld_9 := G_4.c 0 (.int .i64 4)
  have ld_10 := G_4.c 1 (.int .u64 (W64 x))
  go_wp2_with (first | (with_reducible refine so ?_) | (with_reducible refine ld 0 [.int .i64 4, .int .u64 (W64 x)] G_4 Tryd.underlying26 ?_))
  refine (ad_part ⟨4, x⟩ _).mono ?_; rintro e w_12 ⟨rfl, hb_13⟩
  clear ld_9 ld_10
  replace G_4 := G_4.to hb_13 G_4.lt
  replace hB := hB.trans (hb_13.mono hB.size)
  clear hb_13
  by_cases hc_14 : x >>> 46 = 0#64
  ·
   have ec_14 : ((W64 (x >>> 46) : Int) == 0) = true := by have this : (W64 (x >>> 46) == W64 (0#64)) = true := (by rw [W64_beq]; simpa using hc_14); exact this
   have ec_14n : ((W64 (x >>> 46) : Int) != 0) = false := by have this : (W64 (x >>> 46) != W64 (0#64)) = false := (by rw [W64_bne]; simpa using hc_14); exact this
   have kc_14 := Lib.hid hc_14
   clear hc_14
   by_cases hc_15 : (partB ⟨4, x⟩).1 = 0#64
   ·
    have ec_15 : ((W64 (partB ⟨4, x⟩).1 : Int) == 0) = true := by have this : (W64 ((partB ⟨4, x⟩).1) == W64 (0#64)) = true := (by rw [W64_beq]; simpa using hc_15); exact this
    have ec_15n : ((W64 (partB ⟨4, x⟩).1 : Int) != 0) = false := by have this : (W64 ((partB ⟨4, x⟩).1) != W64 (0#64)) = false := (by rw [W64_bne]; simpa using hc_15); exact this
    have kc_15 := Lib.hid hc_15
    clear hc_15
    go_wp2_with (with_reducible refine so ?_)
    have hst : Stable fun W => Below w.heap.size w W ∧ Blk W g_1 26 #[.int .i64 4, .int .u64 (W64 x)] := stable_and (stable_below _ _ (Nat.le_refl _)) (stable_blk _ _ _)
    refine wp_region_v _ 18 hst ⟨hB.drew, G_4⟩ ?_
    clear hB G_4
    refine wpU_p 0 hst ?_
    refine wpU_c 1 (.int .u64 (W64 x)) hst (fun W hS => hS.2.cell 1) ?_
    refine wpU_p 2 hst ?_
    refine wpU_p 3 hst ?_
    refine wpU_c 4 (.int .i64 4) hst (fun W hS => hS.2.cell 0) ?_
    refine wpU_p 5 hst ?_
    refine wpU_take (v := ?_) 6 hst (fun _ h => h) rfl ?_ ?_; rotate_left; (intro W hS K hK; have ld : W.cell? ⟨1, 4, none⟩ = some (.int .u64 0) := (PB.out _ hS.1) 0 _ rfl; clear hS; go_simp; exact hK.out _ (Below.refl _ _)); simp only [nrm]
    refine wpU_p 7 hst ?_
    refine wpU_p 8 hst ?_
    refine wpU_p 9 hst ?_
    refine wpU_p 10 hst ?_
    refine wpU_p 11 hst ?_
    refine wpU_p 12 hst ?_
    refine wpU_s 13 hst ?_
    refine wpU_s 14 hst ?_
    refine wpU_s 15 hst ?_
    refine wpU_s 16 hst ?_
    refine wpU_p 17 hst ?_
    refine wpU_done (fun w_16 hS => ?_)
    obtain ⟨hB, G_4⟩ := hS
    clear hst
    go_wp2_with (with_reducible refine so ?_)
    go_returns
    have q0 := kc_8.out
    have q1 := kc_14.out
    have q2 := kc_15.out
    have er : r = 1 := by rw [← HR.out]; unfold adrB; rw [if_neg (by decide)]; simp [q0, q1, q2, show prefixK 4 = 0 from rfl] <;> simp_all
    rw [er]
    exact ⟨rfl, hB⟩
   have ec_15 : ((W64 (partB ⟨4, x⟩).1 : Int) == 0) = false := by have this : (W64 ((partB ⟨4, x⟩).1) == W64 (0#64)) = false := (by rw [W64_beq]; simpa using hc_15); exact this
   have ec_15n : ((W64 (partB ⟨4, x⟩).1 : Int) != 0) = true := by have this : (W64 ((partB ⟨4, x⟩).1) != W64 (0#64)) = true := (by rw [W64_bne]; simpa using hc_15); exact this
   have kc_15 := Lib.hid hc_15
   clear hc_15
   go_wp2_with (with_reducible refine so ?_)
   have hst : Stable fun W => Below w.heap.size w W ∧ Blk W g_1 26 #[.int .i64 4, .int .u64 (W64 x)] := stable_and (stable_below _ _ (Nat.le_refl _)) (stable_blk _ _ _)
   refine wp_region_v _ 18 hst ⟨hB.drew, G_4⟩ ?_
   clear hB G_4
   refine wpU_p 0 hst ?_
   refine wpU_c 1 (.int .u64 (W64 x)) hst (fun W hS => hS.2.cell 1) ?_
   refine wpU_p 2 hst ?_
   refine wpU_p 3 hst ?_
   refine wpU_c 4 (.int .i64 4) hst (fun W hS => hS.2.cell 0) ?_
   refine wpU_p 5 hst ?_
   refine wpU_take (v := ?_) 6 hst (fun _ h => h) rfl ?_ ?_; rotate_left; (intro W hS K hK; have ld : W.cell? ⟨1, 4, none⟩ = some (.int .u64 0) := (PB.out _ hS.1) 0 _ rfl; clear hS; go_simp; exact hK.out _ (Below.refl _ _)); simp only [nrm]
   refine wpU_p 7 hst ?_
   refine wpU_p 8 hst ?_
   refine wpU_p 9 hst ?_
   refine wpU_p 10 hst ?_
   refine wpU_p 11 hst ?_
   refine wpU_p 12 hst ?_
   refine wpU_p 13 hst ?_
   refine wpU_p 14 hst ?_
   refine wpU_take (v := ?_) 15 hst (fun _ h => h) rfl ?_ ?_; rotate_left; (intro W hS K hK; clear hS; go_simp; refine (ad_mask46 _).mono ?_; rintro e w9 ⟨rfl, hb⟩; refine CallPost.mk ?_; exact hK.out _ (hb)); simp only [nrm]
   refine wpU_p 16 hst ?_
   refine wpU_p 17 hst ?_
   refine wpU_done (fun w_17 hS => ?_)
   obtain ⟨hB, G_4⟩ := hS
   clear hst
   by_cases hc_18 : (partB ⟨4, x⟩).1 = 70368744177663#64
   ·
    obtain ⟨ec_18, ec_18n, kc_18⟩ := gT hc_18; clear hc_18
    go_wp2_with (with_reducible refine so ?_)
    go_returns
    have q0 := kc_8.out
    have q1 := kc_14.out
    have q2 := kc_15.out
    have q3 := kc_18.out
    have er : r = 1 := by rw [← HR.out]; unfold adrB; rw [if_neg (by decide)]; simp [q0, q1, q2, q3, show prefixK 4 = 0 from rfl] <;> simp_all
    rw [er]
    exact ⟨rfl, hB⟩
   obtain ⟨ec_18, ec_18n, kc_18⟩ := gF hc_18; clear hc_18
   go_wp2_with (with_reducible refine so ?_)
   go_returns
   have q0 := kc_8.out
   have q1 := kc_14.out
   have q2 := kc_15.out
   have q3 := kc_18.out
   have er : r = 0 := by rw [← HR.out]; unfold adrB; rw [if_neg (by decide)]; simp [q0, q1, q2, q3, show prefixK 4 = 0 from rfl] <;> simp_all
   rw [er]
   exact ⟨rfl, hB⟩
  have ec_14 : ((W64 (x >>> 46) : Int) == 0) = false := by have this : (W64 (x >>> 46) == W64 (0#64)) = false := (by rw [W64_beq]; simpa using hc_14); exact this
  have ec_14n : ((W64 (x >>> 46) : Int) != 0) = true := by have this : (W64 (x >>> 46) != W64 (0#64)) = true := (by rw [W64_bne]; simpa using hc_14); exact this
  have kc_14 := Lib.hid hc_14
  clear hc_14
  go_wp2_with (with_reducible refine so ?_)
  have hst : Stable fun W => Below w.heap.size w W ∧ Blk W g_1 26 #[.int .i64 4, .int .u64 (W64 x)] := stable_and (stable_below _ _ (Nat.le_refl _)) (stable_blk _ _ _)
  refine wp_region_v _ 18 hst ⟨hB.drew, G_4⟩ ?_
  clear hB G_4
  refine wpU_p 0 hst ?_
  refine wpU_c 1 (.int .u64 (W64 x)) hst (fun W hS => hS.2.cell 1) ?_
  refine wpU_p 2 hst ?_
  refine wpU_p 3 hst ?_
  refine wpU_c 4 (.int .i64 4) hst (fun W hS => hS.2.cell 0) ?_
  refine wpU_p 5 hst ?_
  refine wpU_take (v := ?_) 6 hst (fun _ h => h) rfl ?_ ?_; rotate_left; (intro W hS K hK; have ld : W.cell? ⟨1, 4, none⟩ = some (.int .u64 0) := (PB.out _ hS.1) 0 _ rfl; clear hS; go_simp; exact hK.out _ (Below.refl _ _)); simp only [nrm]
  refine wpU_p 7 hst ?_
  refine wpU_p 8 hst ?_
  refine wpU_s 9 hst ?_
  refine wpU_s 10 hst ?_
  refine wpU_p 11 hst ?_
  refine wpU_p 12 hst ?_
  refine wpU_s 13 hst ?_
  refine wpU_s 14 hst ?_
  refine wpU_s 15 hst ?_
  refine wpU_s 16 hst ?_
  refine wpU_p 17 hst ?_
  refine wpU_done (fun w_19 hS => ?_)
  obtain ⟨hB, G_4⟩ := hS
  clear hst
  go_wp2_with (with_reducible refine so ?_)
  go_returns
  have q0 := kc_8.out
  have q1 := kc_14.out
  have er : r = 1 := by rw [← HR.out]; unfold adrB; rw [if_neg (by decide)]; simp [q0, q1, show prefixK 4 = 0 from rfl] <;> simp_all
  rw [er]
  exact ⟨rfl, hB⟩
 have ec_8 : ((W64 (x >>> 48) : Int) == 0) = false := by have this : (W64 (x >>> 48) == W64 (0#64)) = false := (by rw [W64_beq]; simpa using hc_8); exact this
 have ec_8n : ((W64 (x >>> 48) : Int) != 0) = true := by have this : (W64 (x >>> 48) != W64 (0#64)) = true := (by rw [W64_bne]; simpa using hc_8); exact this
 have kc_8 := Lib.hid hc_8
 clear hc_8
 have ld_20 := G_4.c 0 (.int .i64 4)
 have ld_21 := G_4.c 1 (.int .u64 (W64 x))
 go_wp2_with (with_reducible refine so ?_)
 go_returns
 have q0 := kc_8.out
 have er : r = 5 := by rw [← HR.out]; unfold adrB; rw [if_neg (by decide)]; simp [q0, show prefixK 4 = 0 from rfl] <;> simp_all
 rw [er]
 exact ⟨rfl, hB⟩
theorem ad_Check (a : Adr) (w : World) (HL : Laid w) : Calls Tryd.prog 20 #[.agg (adrL a).toArray] w fun e w' => e = .returned (.int .i64 (adrK a)) ∧ Below w.heap.size w w' := by
  rw [← adrB_eq]
  obtain ⟨k, x⟩ := a
  by_cases hk : k ≤ 0 ∨ 5 ≤ k
  · have := ad_Check_low k x w hk
    show Calls _ _ _ w fun e w' => e = .returned (.int .i64 (adrB k x)) ∧ _
    rw [show adrB k x = 12 from if_pos hk]
    exact this
  · rcases (by omega : k = 1 ∨ k = 2 ∨ k = 3 ∨ k = 4) with rfl | rfl | rfl | rfl
    · exact ad_Check_1 x w
    · exact ad_Check_2 x w HL
    · exact ad_Check_3 x w HL
    · exact ad_Check_4 x w HL
end Go.Proofs.YtihmbcnccdiecaaDoor
