/- The walk of RefreshUnderstood. -/
import Derived.Test.YtmehemojopfihaaRefrJ
namespace Go.Proofs.Ytmehemojopfihaa
set_option maxRecDepth 100000
open Go.ChangeShapes Go.WideShapes Go.ChangeAt Go.RowKit
set_option linter.unusedVariables false
set_option linter.unusedSimpArgs false

theorem mem0 {α : Type} (a : α) (l : List α) : a ∈ a :: l := List.mem_cons_self ..
theorem mem1 {α : Type} (a b : α) (l : List α) : b ∈ a :: b :: l := List.mem_cons_of_mem _ (List.mem_cons_self ..)
set_option maxHeartbeats 4000000 in
theorem under_0_false (first second : BitVec 64) (ix : BitVec 32) (w : World) (h0 : first ≠ second) (h1 : ix ≠ 0#32) (h2 : ix ≠ 4294967295#32) :
    Calls Try.prog 8 #[.int .u64 (W64 first), .int .u64 (W64 second), .int .i64 0, .int .u32 (W32 ix), .bool false] w fun e w' => e = .returned (.bool true) ∧ Below w.heap.size w w' := by
  have hk1 : newKeyK ⟨0, nkD first, nk0⟩ second = (⟨1, nkD first, nkD second⟩, 0) := by unfold newKeyK; rw [if_neg (by simp), if_neg (by simp), if_neg (fun h => h0 (by rw [h]; rfl))]
  obtain ⟨⟨d1, d2, d3, d4, d5⟩, hd1⟩ : ∃ z, nkD first = z := ⟨_, rfl⟩
  obtain ⟨⟨f1, f2, f3, f4, f5⟩, hd2⟩ : ∃ z, nkD second = z := ⟨_, rfl⟩
  rw [hd1, hd2] at hk1
  have CD := Lib.hid (show ∀ W, Calls Try.prog 46 #[.int .u64 (W64 first)] W fun e w' => e = .returned (.agg #[.int .u64 (W64 d1), .int .i64 d2, .int .u64 (W64 d3), .int .u64 (W64 d4), .int .u64 (W64 d5)]) ∧ Below W.heap.size W w' from fun W => by
    have := mesh_Derive first W
    have hh : nkA (nkD first) = #[.int .u64 (W64 d1), .int .i64 d2, .int .u64 (W64 d3), .int .u64 (W64 d4), .int .u64 (W64 d5)] := by rw [hd1]; rfl
    unfold nkA nkD at hh
    dsimp only at hh
    rw [hh] at this
    exact this)
  have CN := Lib.hid (show ∀ W, Calls Try.prog 15 #[.agg #[.int .i64 0, .int .u64 (W64 d1), .int .i64 d2, .int .u64 (W64 d3), .int .u64 (W64 d4), .int .u64 (W64 d5), .int .u64 0, .int .i64 0, .int .u64 0, .int .u64 0, .int .u64 0], .int .u64 (W64 second)] W fun e w' => e = .returned (.tuple #[.agg #[.int .i64 1, .int .u64 (W64 d1), .int .i64 d2, .int .u64 (W64 d3), .int .u64 (W64 d4), .int .u64 (W64 d5), .int .u64 (W64 f1), .int .i64 f2, .int .u64 (W64 f3), .int .u64 (W64 f4), .int .u64 (W64 f5)], .int .i64 0]) ∧ Below W.heap.size W w' from fun W => by have := rf_NewKey ⟨0, ⟨d1, d2, d3, d4, d5⟩, nk0⟩ second W; rw [hk1] at this; exact this)
  have CP2 := Lib.hid (show ∀ W, Calls Try.prog 17 #[.agg #[.int .i64 1, .int .u64 (W64 d1), .int .i64 d2, .int .u64 (W64 d3), .int .u64 (W64 d4), .int .u64 (W64 d5), .int .u64 (W64 f1), .int .i64 f2, .int .u64 (W64 f3), .int .u64 (W64 f4), .int .u64 (W64 f5)], .int .i64 2] W fun e w' => e = .returned (.tuple #[.agg #[.int .i64 2, .int .u64 (W64 d1), .int .i64 d2, .int .u64 (W64 d3), .int .u64 (W64 d4), .int .u64 (W64 d5), .int .u64 (W64 f1), .int .i64 f2, .int .u64 (W64 f3), .int .u64 (W64 f4), .int .u64 (W64 f5)], .bool true]) ∧ Below W.heap.size W w' from fun W => rf_Phase ⟨1, ⟨d1, d2, d3, d4, d5⟩, ⟨f1, f2, f3, f4, f5⟩⟩ 2 W)
  have CP3 := Lib.hid (show ∀ W, Calls Try.prog 17 #[.agg #[.int .i64 2, .int .u64 (W64 d1), .int .i64 d2, .int .u64 (W64 d3), .int .u64 (W64 d4), .int .u64 (W64 d5), .int .u64 (W64 f1), .int .i64 f2, .int .u64 (W64 f3), .int .u64 (W64 f4), .int .u64 (W64 f5)], .int .i64 3] W fun e w' => e = .returned (.tuple #[.agg #[.int .i64 0, .int .u64 (W64 f1), .int .i64 f2, .int .u64 (W64 f3), .int .u64 (W64 f4), .int .u64 (W64 f5), .int .u64 0, .int .i64 0, .int .u64 0, .int .u64 0, .int .u64 0], .bool true]) ∧ Below W.heap.size W w' from fun W => rf_Phase ⟨2, ⟨d1, d2, d3, d4, d5⟩, ⟨f1, f2, f3, f4, f5⟩⟩ 3 W)
  have hb : beginK ⟨ix, false, 0⟩ 1000 = (⟨ix + 1#32, true, 1000⟩, 0) := by unfold beginK lastB; rw [if_neg (by simp), if_neg (by simp), if_neg h2]
  have CB := Lib.hid (show ∀ W, Calls Try.prog 38 #[.agg #[.int .u32 (W32 ix), .bool false, .int .i64 0], .int .i64 1000] W fun e w' => e = .returned (.tuple #[.agg #[.int .u32 (W32 (ix + 1#32)), .bool true, .int .i64 1000], .int .i64 0]) ∧ Below W.heap.size W w' from fun W => by have := rf_Begin ⟨ix, false, 0⟩ 1000 W (show (0 : Int) ≤ 0 ∧ (0 : Int) ≤ 1099511627776 from by decide) (by decide); rw [hb] at this; exact this)
  have hnz : ix + 1#32 ≠ 0#32 := fun h => h2 (by have := congrArg BitVec.toNat h; apply BitVec.eq_of_toNat_eq; rw [BitVec.toNat_add] at this; have q := ix.isLt; have e1 : (1#32).toNat = 1 := rfl; have e2 : (0#32).toNat = 0 := rfl; have e3 : (4294967295#32).toNat = 4294967295 := rfl; omega)
  have htv : txK ⟨ix, false, 0⟩ = ix := by unfold txK; rw [if_neg (by simp)]
  have htu : txK ⟨ix + 1#32, true, 1000⟩ = ix := by unfold txK; rw [if_pos ⟨rfl, hnz⟩]; exact BitVec.add_sub_cancel ix 1#32
  have r1 : rxK ⟨ix, false, 0⟩ (W32 (txK ⟨ix + 1#32, true, 1000⟩ % 2#32)) = (txK ⟨ix + 1#32, true, 1000⟩, true) := rx_of _ _ (.inl htu)
  have r2 : rxK ⟨ix + 1#32, true, 1000⟩ (W32 (txK ⟨ix, false, 0⟩ % 2#32)) = (txK ⟨ix, false, 0⟩, true) := rx_of _ _ (.inr ⟨hnz, by rw [htv]; exact (BitVec.add_sub_cancel ix 1#32).symm⟩)
  clear htv htu hnz hb
  have H1 := Lib.hid (show ∀ W, Calls Try.prog 47 #[.agg #[.int .i64 0, .int .u64 (W64 d1), .int .i64 d2, .int .u64 (W64 d3), .int .u64 (W64 d4), .int .u64 (W64 d5), .int .u64 0, .int .i64 0, .int .u64 0, .int .u64 0, .int .u64 0], .agg #[.int .i64 1, .int .u64 (W64 d1), .int .i64 d2, .int .u64 (W64 d3), .int .u64 (W64 d4), .int .u64 (W64 d5), .int .u64 (W64 f1), .int .i64 f2, .int .u64 (W64 f3), .int .u64 (W64 f4), .int .u64 (W64 f5)], .agg #[.int .u32 (W32 ix), .bool false, .int .i64 0], .agg #[.int .u32 (W32 (ix + 1#32)), .bool true, .int .i64 1000]] W fun e w' => e = .returned (.bool true) ∧ Below W.heap.size W w' from fun W => hears_c ⟨0, ⟨d1, d2, d3, d4, d5⟩, nk0⟩ ⟨1, ⟨d1, d2, d3, d4, d5⟩, ⟨f1, f2, f3, f4, f5⟩⟩ ⟨ix, false, 0⟩ ⟨ix + 1#32, true, 1000⟩ W (by exact mem0 _ _) r1)
  have H2 := Lib.hid (show ∀ W, Calls Try.prog 47 #[.agg #[.int .i64 1, .int .u64 (W64 d1), .int .i64 d2, .int .u64 (W64 d3), .int .u64 (W64 d4), .int .u64 (W64 d5), .int .u64 (W64 f1), .int .i64 f2, .int .u64 (W64 f3), .int .u64 (W64 f4), .int .u64 (W64 f5)], .agg #[.int .i64 0, .int .u64 (W64 d1), .int .i64 d2, .int .u64 (W64 d3), .int .u64 (W64 d4), .int .u64 (W64 d5), .int .u64 0, .int .i64 0, .int .u64 0, .int .u64 0, .int .u64 0], .agg #[.int .u32 (W32 (ix + 1#32)), .bool true, .int .i64 1000], .agg #[.int .u32 (W32 ix), .bool false, .int .i64 0]] W fun e w' => e = .returned (.bool true) ∧ Below W.heap.size W w' from fun W => hears_c ⟨1, ⟨d1, d2, d3, d4, d5⟩, ⟨f1, f2, f3, f4, f5⟩⟩ ⟨0, ⟨d1, d2, d3, d4, d5⟩, nk0⟩ ⟨ix + 1#32, true, 1000⟩ ⟨ix, false, 0⟩ W (by exact mem0 _ _) r2)
  have H3 := Lib.hid (show ∀ W, Calls Try.prog 47 #[.agg #[.int .i64 0, .int .u64 (W64 d1), .int .i64 d2, .int .u64 (W64 d3), .int .u64 (W64 d4), .int .u64 (W64 d5), .int .u64 0, .int .i64 0, .int .u64 0, .int .u64 0, .int .u64 0], .agg #[.int .i64 0, .int .u64 (W64 d1), .int .i64 d2, .int .u64 (W64 d3), .int .u64 (W64 d4), .int .u64 (W64 d5), .int .u64 0, .int .i64 0, .int .u64 0, .int .u64 0, .int .u64 0], .agg #[.int .u32 (W32 ix), .bool false, .int .i64 0], .agg #[.int .u32 (W32 ix), .bool false, .int .i64 0]] W fun e w' => e = .returned (.bool true) ∧ Below W.heap.size W w' from fun W => hears_c ⟨0, ⟨d1, d2, d3, d4, d5⟩, nk0⟩ ⟨0, ⟨d1, d2, d3, d4, d5⟩, nk0⟩ ⟨ix, false, 0⟩ ⟨ix, false, 0⟩ W (by exact mem0 _ _) (rx_tx ⟨ix, false, 0⟩))
  have H4 := Lib.hid (show ∀ W, Calls Try.prog 47 #[.agg #[.int .i64 1, .int .u64 (W64 d1), .int .i64 d2, .int .u64 (W64 d3), .int .u64 (W64 d4), .int .u64 (W64 d5), .int .u64 (W64 f1), .int .i64 f2, .int .u64 (W64 f3), .int .u64 (W64 f4), .int .u64 (W64 f5)], .agg #[.int .i64 1, .int .u64 (W64 d1), .int .i64 d2, .int .u64 (W64 d3), .int .u64 (W64 d4), .int .u64 (W64 d5), .int .u64 (W64 f1), .int .i64 f2, .int .u64 (W64 f3), .int .u64 (W64 f4), .int .u64 (W64 f5)], .agg #[.int .u32 (W32 (ix + 1#32)), .bool true, .int .i64 1000], .agg #[.int .u32 (W32 (ix + 1#32)), .bool true, .int .i64 1000]] W fun e w' => e = .returned (.bool true) ∧ Below W.heap.size W w' from fun W => hears_c ⟨1, ⟨d1, d2, d3, d4, d5⟩, ⟨f1, f2, f3, f4, f5⟩⟩ ⟨1, ⟨d1, d2, d3, d4, d5⟩, ⟨f1, f2, f3, f4, f5⟩⟩ ⟨ix + 1#32, true, 1000⟩ ⟨ix + 1#32, true, 1000⟩ W (by exact mem0 _ _) (rx_tx ⟨ix + 1#32, true, 1000⟩))
  clear r1 r2 hk1 hd1 hd2
  have q0 : ((W64 first : Int) == W64 second) = false := by rw [W64_beq]; simpa using h0
  have q1 : ((W32 ix : Int) == 0) = false := by have this : (W32 ix == W32 0#32) = false := (by rw [W32_beq]; simpa using h1); exact this
  have q2 : ((W32 ix : Int) == 4294967295) = false := by have this : (W32 ix == W32 4294967295#32) = false := (by rw [W32_beq]; simpa using h2); exact this
  clear h0 h1 h2
  go_enter Try.func8, Try.ntmps8
  go_wp2_with (first | (with_reducible refine stop_store ?_) | (with_reducible refine stop_box ?_) | (with_reducible refine stop_alloc ?_) | (with_reducible refine stop_bslice ?_))
  refine (CD.out _).mono ?_; rintro e w_1 ⟨rfl, hb_2⟩
  have hB := hb_2
  clear hb_2
  go_wp2_with (first | (with_reducible refine stop_store ?_) | (with_reducible refine stop_box ?_) | (with_reducible refine stop_alloc ?_) | (with_reducible refine stop_bslice ?_))
  unfold Kept
  refine go_mem (ty := 27) (cs := #[.int .i64 0, .int .u64 0, .int .i64 0, .int .u64 0, .int .u64 0, .int .u64 0, .int .u64 0, .int .i64 0, .int .u64 0, .int .u64 0, .int .u64 0]) (fun g => .pointer (some ⟨g, 0, none⟩)) rfl (by kernel_rfl) ?_
  intro g_3 w_4 z_8 l_7 hb_5 G_6
  have n_9 : w.heap.size ≤ g_3 := Nat.le_trans hB.size l_7
  replace hB := hB.trans (hb_5.mono hB.size)
  clear hb_5 l_7 z_8
  go_wp2_with (first | (with_reducible refine stop_store ?_) | (with_reducible refine stop_box ?_) | (with_reducible refine stop_alloc ?_) | (with_reducible refine stop_bslice ?_))
  unfold Kept
  refine wpList_st 0 #[.int .i64 0, .int .u64 (W64 d1), .int .i64 d2, .int .u64 (W64 d3), .int .u64 (W64 d4), .int .u64 (W64 d5), .int .u64 0, .int .i64 0, .int .u64 0, .int .u64 0, .int .u64 0] #[.int .i64 0, .int .u64 (W64 d1), .int .i64 d2, .int .u64 (W64 d3), .int .u64 (W64 d4), .int .u64 (W64 d5), .int .u64 0, .int .i64 0, .int .u64 0, .int .u64 0, .int .u64 0] G_6 rfl rfl (by kernel_rfl) rfl (of_decide_eq_true rfl) rfl ?_
  intro w_10 G_12 hU_11
  replace hB := hU_11.below hB (by omega)
  clear G_6 hU_11
  go_wp2_with (first | (with_reducible refine stop_store ?_) | (with_reducible refine stop_box ?_) | (with_reducible refine stop_alloc ?_) | (with_reducible refine stop_bslice ?_) | ((with_reducible refine wpList_ld 0 [.int .i64 0, .int .u64 (W64 d1), .int .i64 d2, .int .u64 (W64 d3), .int .u64 (W64 d4), .int .u64 (W64 d5), .int .u64 0, .int .i64 0, .int .u64 0, .int .u64 0, .int .u64 0] G_12 ?_ ?_ Try.underlying27 ?_ ?_ ?_); rfl; rfl; rfl; kernel_rfl) | ((with_reducible refine wpList_ldg 0 [.int .i64 0, .int .u64 (W64 d1), .int .i64 d2, .int .u64 (W64 d3), .int .u64 (W64 d4), .int .u64 (W64 d5), .int .u64 0, .int .i64 0, .int .u64 0, .int .u64 0, .int .u64 0] G_12 ?_ ?_ Try.underlying27 ?_ ?_ ?_ ?_); rfl; rfl; rfl; kernel_rfl; rfl))
  unfold Kept
  refine go_mem (ty := 27) (cs := #[.int .i64 0, .int .u64 0, .int .i64 0, .int .u64 0, .int .u64 0, .int .u64 0, .int .u64 0, .int .i64 0, .int .u64 0, .int .u64 0, .int .u64 0]) (fun g => .pointer (some ⟨g, 0, none⟩)) rfl (by kernel_rfl) ?_
  intro g_14 w_15 z_19 l_18 hb_16 G_17
  have n_20 : g_3 < g_14 := Nat.lt_of_lt_of_le G_12.lt l_18
  have n_21 : w.heap.size ≤ g_14 := Nat.le_trans hB.size l_18
  replace G_12 := G_12.to hb_16 G_12.lt
  replace hB := hB.trans (hb_16.mono hB.size)
  clear hb_16 l_18 z_19
  go_wp2_with (first | (with_reducible refine stop_store ?_) | (with_reducible refine stop_box ?_) | (with_reducible refine stop_alloc ?_) | (with_reducible refine stop_bslice ?_))
  unfold Kept
  refine wpList_st 0 #[.int .i64 0, .int .u64 (W64 d1), .int .i64 d2, .int .u64 (W64 d3), .int .u64 (W64 d4), .int .u64 (W64 d5), .int .u64 0, .int .i64 0, .int .u64 0, .int .u64 0, .int .u64 0] #[.int .i64 0, .int .u64 (W64 d1), .int .i64 d2, .int .u64 (W64 d3), .int .u64 (W64 d4), .int .u64 (W64 d5), .int .u64 0, .int .i64 0, .int .u64 0, .int .u64 0, .int .u64 0] G_17 rfl rfl (by kernel_rfl) rfl (of_decide_eq_true rfl) rfl ?_
  intro w_22 G_24 hU_23
  replace G_12 := hU_23.blk G_12 (by omega)
  replace hB := hU_23.below hB (by omega)
  clear G_17 hU_23
  go_wp2_with (first | (with_reducible refine stop_store ?_) | (with_reducible refine stop_box ?_) | (with_reducible refine stop_alloc ?_) | (with_reducible refine stop_bslice ?_) | ((with_reducible refine wpList_ld 0 [.int .i64 0, .int .u64 (W64 d1), .int .i64 d2, .int .u64 (W64 d3), .int .u64 (W64 d4), .int .u64 (W64 d5), .int .u64 0, .int .i64 0, .int .u64 0, .int .u64 0, .int .u64 0] G_12 ?_ ?_ Try.underlying27 ?_ ?_ ?_); rfl; rfl; rfl; kernel_rfl) | ((with_reducible refine wpList_ldg 0 [.int .i64 0, .int .u64 (W64 d1), .int .i64 d2, .int .u64 (W64 d3), .int .u64 (W64 d4), .int .u64 (W64 d5), .int .u64 0, .int .i64 0, .int .u64 0, .int .u64 0, .int .u64 0] G_12 ?_ ?_ Try.underlying27 ?_ ?_ ?_ ?_); rfl; rfl; rfl; kernel_rfl; rfl))
  refine (CN.out _).mono ?_; rintro e w_26 ⟨rfl, hb_27⟩
  replace G_12 := G_12.to hb_27 G_12.lt
  replace G_24 := G_24.to hb_27 G_24.lt
  replace hB := hB.trans (hb_27.mono hB.size)
  clear hb_27
  go_wp2_with (first | (with_reducible refine stop_store ?_) | (with_reducible refine stop_box ?_) | (with_reducible refine stop_alloc ?_) | (with_reducible refine stop_bslice ?_))
  unfold Kept
  refine wpList_st 0 #[.int .i64 1, .int .u64 (W64 d1), .int .i64 d2, .int .u64 (W64 d3), .int .u64 (W64 d4), .int .u64 (W64 d5), .int .u64 (W64 f1), .int .i64 f2, .int .u64 (W64 f3), .int .u64 (W64 f4), .int .u64 (W64 f5)] #[.int .i64 1, .int .u64 (W64 d1), .int .i64 d2, .int .u64 (W64 d3), .int .u64 (W64 d4), .int .u64 (W64 d5), .int .u64 (W64 f1), .int .i64 f2, .int .u64 (W64 f3), .int .u64 (W64 f4), .int .u64 (W64 f5)] G_24 rfl rfl (by kernel_rfl) rfl (of_decide_eq_true rfl) rfl ?_
  intro w_28 G_30 hU_29
  replace G_12 := hU_29.blk G_12 (by omega)
  replace hB := hU_29.below hB (by omega)
  clear G_24 hU_29
  have ld_31 : w_28.cell? ⟨g_14, 0, none⟩ = some (.int .i64 1) := G_30.cell 0
  go_wp2_with (first | (with_reducible refine stop_store ?_) | (with_reducible refine stop_box ?_) | (with_reducible refine stop_alloc ?_) | (with_reducible refine stop_bslice ?_))
  unfold Kept
  refine go_mem (ty := 59) (cs := #[.int .u32 0, .bool false, .int .i64 0]) (fun g => .pointer (some ⟨g, 0, none⟩)) rfl (by kernel_rfl) ?_
  intro g_32 w_33 z_37 l_36 hb_34 G_35
  clear ld_31
  have n_38 : g_14 < g_32 := Nat.lt_of_lt_of_le G_30.lt l_36
  have n_39 : w.heap.size ≤ g_32 := Nat.le_trans hB.size l_36
  replace G_12 := G_12.to hb_34 G_12.lt
  replace G_30 := G_30.to hb_34 G_30.lt
  replace hB := hB.trans (hb_34.mono hB.size)
  clear hb_34 l_36 z_37
  go_wp2_with (first | (with_reducible refine stop_store ?_) | (with_reducible refine stop_box ?_) | (with_reducible refine stop_alloc ?_) | (with_reducible refine stop_bslice ?_))
  unfold Kept
  refine wpList_st 0 #[.int .u32 (W32 ix), .bool false, .int .i64 0] #[.int .u32 (W32 ix), .bool false, .int .i64 0] G_35 rfl rfl (by kernel_rfl) rfl (of_decide_eq_true rfl) rfl ?_
  intro w_40 G_42 hU_41
  replace G_12 := hU_41.blk G_12 (by omega)
  replace G_30 := hU_41.blk G_30 (by omega)
  replace hB := hU_41.below hB (by omega)
  clear G_35 hU_41
  go_wp2_with (first | (with_reducible refine stop_store ?_) | (with_reducible refine stop_box ?_) | (with_reducible refine stop_alloc ?_) | (with_reducible refine stop_bslice ?_) | ((with_reducible refine wpList_ld 0 [.int .u32 (W32 ix), .bool false, .int .i64 0] G_42 ?_ ?_ Try.underlying59 ?_ ?_ ?_); rfl; rfl; rfl; kernel_rfl) | ((with_reducible refine wpList_ldg 0 [.int .u32 (W32 ix), .bool false, .int .i64 0] G_42 ?_ ?_ Try.underlying59 ?_ ?_ ?_ ?_); rfl; rfl; rfl; kernel_rfl; rfl))
  refine (CB.out _).mono ?_; rintro e w_44 ⟨rfl, hb_45⟩
  replace G_12 := G_12.to hb_45 G_12.lt
  replace G_30 := G_30.to hb_45 G_30.lt
  replace G_42 := G_42.to hb_45 G_42.lt
  replace hB := hB.trans (hb_45.mono hB.size)
  clear hb_45
  go_wp2_with (first | (with_reducible refine stop_store ?_) | (with_reducible refine stop_box ?_) | (with_reducible refine stop_alloc ?_) | (with_reducible refine stop_bslice ?_))
  unfold Kept
  refine go_mem (ty := 59) (cs := #[.int .u32 0, .bool false, .int .i64 0]) (fun g => .pointer (some ⟨g, 0, none⟩)) rfl (by kernel_rfl) ?_
  intro g_46 w_47 z_51 l_50 hb_48 G_49
  have n_52 : g_32 < g_46 := Nat.lt_of_lt_of_le G_42.lt l_50
  have n_53 : w.heap.size ≤ g_46 := Nat.le_trans hB.size l_50
  replace G_12 := G_12.to hb_48 G_12.lt
  replace G_30 := G_30.to hb_48 G_30.lt
  replace G_42 := G_42.to hb_48 G_42.lt
  replace hB := hB.trans (hb_48.mono hB.size)
  clear hb_48 l_50 z_51
  go_wp2_with (first | (with_reducible refine stop_store ?_) | (with_reducible refine stop_box ?_) | (with_reducible refine stop_alloc ?_) | (with_reducible refine stop_bslice ?_))
  unfold Kept
  refine wpList_st 0 #[.int .u32 (W32 (ix + 1#32)), .bool true, .int .i64 1000] #[.int .u32 (W32 (ix + 1#32)), .bool true, .int .i64 1000] G_49 rfl rfl (by kernel_rfl) rfl (of_decide_eq_true rfl) rfl ?_
  intro w_54 G_56 hU_55
  replace G_12 := hU_55.blk G_12 (by omega)
  replace G_30 := hU_55.blk G_30 (by omega)
  replace G_42 := hU_55.blk G_42 (by omega)
  replace hB := hU_55.below hB (by omega)
  clear G_49 hU_55
  go_wp2_with (first | (with_reducible refine stop_store ?_) | (with_reducible refine stop_box ?_) | (with_reducible refine stop_alloc ?_) | (with_reducible refine stop_bslice ?_))
  refine (lives52 _).mono ?_; rintro e w_57 ⟨rfl, hb_58⟩
  replace G_12 := G_12.to hb_58 G_12.lt
  replace G_30 := G_30.to hb_58 G_30.lt
  replace G_42 := G_42.to hb_58 G_42.lt
  replace G_56 := G_56.to hb_58 G_56.lt
  replace hB := hB.trans (hb_58.mono hB.size)
  clear hb_58
  go_wp2_with (first | (with_reducible refine stop_store ?_) | (with_reducible refine stop_box ?_) | (with_reducible refine stop_alloc ?_) | (with_reducible refine stop_bslice ?_) | ((with_reducible refine wpList_ld 0 [.int .i64 0, .int .u64 (W64 d1), .int .i64 d2, .int .u64 (W64 d3), .int .u64 (W64 d4), .int .u64 (W64 d5), .int .u64 0, .int .i64 0, .int .u64 0, .int .u64 0, .int .u64 0] G_12 ?_ ?_ Try.underlying27 ?_ ?_ ?_); rfl; rfl; rfl; kernel_rfl) | ((with_reducible refine wpList_ldg 0 [.int .i64 0, .int .u64 (W64 d1), .int .i64 d2, .int .u64 (W64 d3), .int .u64 (W64 d4), .int .u64 (W64 d5), .int .u64 0, .int .i64 0, .int .u64 0, .int .u64 0, .int .u64 0] G_12 ?_ ?_ Try.underlying27 ?_ ?_ ?_ ?_); rfl; rfl; rfl; kernel_rfl; rfl) | ((with_reducible refine wpList_ld 0 [.int .i64 1, .int .u64 (W64 d1), .int .i64 d2, .int .u64 (W64 d3), .int .u64 (W64 d4), .int .u64 (W64 d5), .int .u64 (W64 f1), .int .i64 f2, .int .u64 (W64 f3), .int .u64 (W64 f4), .int .u64 (W64 f5)] G_30 ?_ ?_ Try.underlying27 ?_ ?_ ?_); rfl; rfl; rfl; kernel_rfl) | ((with_reducible refine wpList_ldg 0 [.int .i64 1, .int .u64 (W64 d1), .int .i64 d2, .int .u64 (W64 d3), .int .u64 (W64 d4), .int .u64 (W64 d5), .int .u64 (W64 f1), .int .i64 f2, .int .u64 (W64 f3), .int .u64 (W64 f4), .int .u64 (W64 f5)] G_30 ?_ ?_ Try.underlying27 ?_ ?_ ?_ ?_); rfl; rfl; rfl; kernel_rfl; rfl) | ((with_reducible refine wpList_ld 0 [.int .u32 (W32 ix), .bool false, .int .i64 0] G_42 ?_ ?_ Try.underlying59 ?_ ?_ ?_); rfl; rfl; rfl; kernel_rfl) | ((with_reducible refine wpList_ldg 0 [.int .u32 (W32 ix), .bool false, .int .i64 0] G_42 ?_ ?_ Try.underlying59 ?_ ?_ ?_ ?_); rfl; rfl; rfl; kernel_rfl; rfl) | ((with_reducible refine wpList_ld 0 [.int .u32 (W32 (ix + 1#32)), .bool true, .int .i64 1000] G_56 ?_ ?_ Try.underlying59 ?_ ?_ ?_); rfl; rfl; rfl; kernel_rfl) | ((with_reducible refine wpList_ldg 0 [.int .u32 (W32 (ix + 1#32)), .bool true, .int .i64 1000] G_56 ?_ ?_ Try.underlying59 ?_ ?_ ?_ ?_); rfl; rfl; rfl; kernel_rfl; rfl))
  refine (H1.out _).mono ?_; rintro e w_63 ⟨rfl, hb_64⟩
  replace G_12 := G_12.to hb_64 G_12.lt
  replace G_30 := G_30.to hb_64 G_30.lt
  replace G_42 := G_42.to hb_64 G_42.lt
  replace G_56 := G_56.to hb_64 G_56.lt
  replace hB := hB.trans (hb_64.mono hB.size)
  clear hb_64
  go_wp2_with (first | (with_reducible refine stop_store ?_) | (with_reducible refine stop_box ?_) | (with_reducible refine stop_alloc ?_) | (with_reducible refine stop_bslice ?_) | ((with_reducible refine wpList_ld 0 [.int .i64 1, .int .u64 (W64 d1), .int .i64 d2, .int .u64 (W64 d3), .int .u64 (W64 d4), .int .u64 (W64 d5), .int .u64 (W64 f1), .int .i64 f2, .int .u64 (W64 f3), .int .u64 (W64 f4), .int .u64 (W64 f5)] G_30 ?_ ?_ Try.underlying27 ?_ ?_ ?_); rfl; rfl; rfl; kernel_rfl) | ((with_reducible refine wpList_ldg 0 [.int .i64 1, .int .u64 (W64 d1), .int .i64 d2, .int .u64 (W64 d3), .int .u64 (W64 d4), .int .u64 (W64 d5), .int .u64 (W64 f1), .int .i64 f2, .int .u64 (W64 f3), .int .u64 (W64 f4), .int .u64 (W64 f5)] G_30 ?_ ?_ Try.underlying27 ?_ ?_ ?_ ?_); rfl; rfl; rfl; kernel_rfl; rfl) | ((with_reducible refine wpList_ld 0 [.int .i64 0, .int .u64 (W64 d1), .int .i64 d2, .int .u64 (W64 d3), .int .u64 (W64 d4), .int .u64 (W64 d5), .int .u64 0, .int .i64 0, .int .u64 0, .int .u64 0, .int .u64 0] G_12 ?_ ?_ Try.underlying27 ?_ ?_ ?_); rfl; rfl; rfl; kernel_rfl) | ((with_reducible refine wpList_ldg 0 [.int .i64 0, .int .u64 (W64 d1), .int .i64 d2, .int .u64 (W64 d3), .int .u64 (W64 d4), .int .u64 (W64 d5), .int .u64 0, .int .i64 0, .int .u64 0, .int .u64 0, .int .u64 0] G_12 ?_ ?_ Try.underlying27 ?_ ?_ ?_ ?_); rfl; rfl; rfl; kernel_rfl; rfl) | ((with_reducible refine wpList_ld 0 [.int .u32 (W32 (ix + 1#32)), .bool true, .int .i64 1000] G_56 ?_ ?_ Try.underlying59 ?_ ?_ ?_); rfl; rfl; rfl; kernel_rfl) | ((with_reducible refine wpList_ldg 0 [.int .u32 (W32 (ix + 1#32)), .bool true, .int .i64 1000] G_56 ?_ ?_ Try.underlying59 ?_ ?_ ?_ ?_); rfl; rfl; rfl; kernel_rfl; rfl) | ((with_reducible refine wpList_ld 0 [.int .u32 (W32 ix), .bool false, .int .i64 0] G_42 ?_ ?_ Try.underlying59 ?_ ?_ ?_); rfl; rfl; rfl; kernel_rfl) | ((with_reducible refine wpList_ldg 0 [.int .u32 (W32 ix), .bool false, .int .i64 0] G_42 ?_ ?_ Try.underlying59 ?_ ?_ ?_ ?_); rfl; rfl; rfl; kernel_rfl; rfl))
  refine (H2.out _).mono ?_; rintro e w_69 ⟨rfl, hb_70⟩
  replace G_12 := G_12.to hb_70 G_12.lt
  replace G_30 := G_30.to hb_70 G_30.lt
  replace G_42 := G_42.to hb_70 G_42.lt
  replace G_56 := G_56.to hb_70 G_56.lt
  replace hB := hB.trans (hb_70.mono hB.size)
  clear hb_70
  go_wp2_with (first | (with_reducible refine stop_store ?_) | (with_reducible refine stop_box ?_) | (with_reducible refine stop_alloc ?_) | (with_reducible refine stop_bslice ?_) | ((with_reducible refine wpList_ld 0 [.int .i64 0, .int .u64 (W64 d1), .int .i64 d2, .int .u64 (W64 d3), .int .u64 (W64 d4), .int .u64 (W64 d5), .int .u64 0, .int .i64 0, .int .u64 0, .int .u64 0, .int .u64 0] G_12 ?_ ?_ Try.underlying27 ?_ ?_ ?_); rfl; rfl; rfl; kernel_rfl) | ((with_reducible refine wpList_ldg 0 [.int .i64 0, .int .u64 (W64 d1), .int .i64 d2, .int .u64 (W64 d3), .int .u64 (W64 d4), .int .u64 (W64 d5), .int .u64 0, .int .i64 0, .int .u64 0, .int .u64 0, .int .u64 0] G_12 ?_ ?_ Try.underlying27 ?_ ?_ ?_ ?_); rfl; rfl; rfl; kernel_rfl; rfl) | ((with_reducible refine wpList_ld 0 [.int .u32 (W32 ix), .bool false, .int .i64 0] G_42 ?_ ?_ Try.underlying59 ?_ ?_ ?_); rfl; rfl; rfl; kernel_rfl) | ((with_reducible refine wpList_ldg 0 [.int .u32 (W32 ix), .bool false, .int .i64 0] G_42 ?_ ?_ Try.underlying59 ?_ ?_ ?_ ?_); rfl; rfl; rfl; kernel_rfl; rfl))
  refine (H3.out _).mono ?_; rintro e w_73 ⟨rfl, hb_74⟩
  replace G_12 := G_12.to hb_74 G_12.lt
  replace G_30 := G_30.to hb_74 G_30.lt
  replace G_42 := G_42.to hb_74 G_42.lt
  replace G_56 := G_56.to hb_74 G_56.lt
  replace hB := hB.trans (hb_74.mono hB.size)
  clear hb_74
  go_wp2_with (first | (with_reducible refine stop_store ?_) | (with_reducible refine stop_box ?_) | (with_reducible refine stop_alloc ?_) | (with_reducible refine stop_bslice ?_) | ((with_reducible refine wpList_ld 0 [.int .i64 1, .int .u64 (W64 d1), .int .i64 d2, .int .u64 (W64 d3), .int .u64 (W64 d4), .int .u64 (W64 d5), .int .u64 (W64 f1), .int .i64 f2, .int .u64 (W64 f3), .int .u64 (W64 f4), .int .u64 (W64 f5)] G_30 ?_ ?_ Try.underlying27 ?_ ?_ ?_); rfl; rfl; rfl; kernel_rfl) | ((with_reducible refine wpList_ldg 0 [.int .i64 1, .int .u64 (W64 d1), .int .i64 d2, .int .u64 (W64 d3), .int .u64 (W64 d4), .int .u64 (W64 d5), .int .u64 (W64 f1), .int .i64 f2, .int .u64 (W64 f3), .int .u64 (W64 f4), .int .u64 (W64 f5)] G_30 ?_ ?_ Try.underlying27 ?_ ?_ ?_ ?_); rfl; rfl; rfl; kernel_rfl; rfl) | ((with_reducible refine wpList_ld 0 [.int .u32 (W32 (ix + 1#32)), .bool true, .int .i64 1000] G_56 ?_ ?_ Try.underlying59 ?_ ?_ ?_); rfl; rfl; rfl; kernel_rfl) | ((with_reducible refine wpList_ldg 0 [.int .u32 (W32 (ix + 1#32)), .bool true, .int .i64 1000] G_56 ?_ ?_ Try.underlying59 ?_ ?_ ?_ ?_); rfl; rfl; rfl; kernel_rfl; rfl))
  refine (H4.out _).mono ?_; rintro e w_77 ⟨rfl, hb_78⟩
  replace G_12 := G_12.to hb_78 G_12.lt
  replace G_30 := G_30.to hb_78 G_30.lt
  replace G_42 := G_42.to hb_78 G_42.lt
  replace G_56 := G_56.to hb_78 G_56.lt
  replace hB := hB.trans (hb_78.mono hB.size)
  clear hb_78
  go_wp2_with (first | (with_reducible refine stop_store ?_) | (with_reducible refine stop_box ?_) | (with_reducible refine stop_alloc ?_) | (with_reducible refine stop_bslice ?_))
  go_returns
  exact ⟨rfl, hB⟩
set_option maxHeartbeats 4000000 in
theorem under_0_true (first second : BitVec 64) (ix : BitVec 32) (w : World) (h0 : first ≠ second) (h1 : ix ≠ 0#32) (h2 : ix ≠ 4294967295#32) :
    Calls Try.prog 8 #[.int .u64 (W64 first), .int .u64 (W64 second), .int .i64 0, .int .u32 (W32 ix), .bool true] w fun e w' => e = .returned (.bool true) ∧ Below w.heap.size w w' := by
  have hk1 : newKeyK ⟨0, nkD first, nk0⟩ second = (⟨1, nkD first, nkD second⟩, 0) := by unfold newKeyK; rw [if_neg (by simp), if_neg (by simp), if_neg (fun h => h0 (by rw [h]; rfl))]
  obtain ⟨⟨d1, d2, d3, d4, d5⟩, hd1⟩ : ∃ z, nkD first = z := ⟨_, rfl⟩
  obtain ⟨⟨f1, f2, f3, f4, f5⟩, hd2⟩ : ∃ z, nkD second = z := ⟨_, rfl⟩
  rw [hd1, hd2] at hk1
  have CD := Lib.hid (show ∀ W, Calls Try.prog 46 #[.int .u64 (W64 first)] W fun e w' => e = .returned (.agg #[.int .u64 (W64 d1), .int .i64 d2, .int .u64 (W64 d3), .int .u64 (W64 d4), .int .u64 (W64 d5)]) ∧ Below W.heap.size W w' from fun W => by
    have := mesh_Derive first W
    have hh : nkA (nkD first) = #[.int .u64 (W64 d1), .int .i64 d2, .int .u64 (W64 d3), .int .u64 (W64 d4), .int .u64 (W64 d5)] := by rw [hd1]; rfl
    unfold nkA nkD at hh
    dsimp only at hh
    rw [hh] at this
    exact this)
  have CN := Lib.hid (show ∀ W, Calls Try.prog 15 #[.agg #[.int .i64 0, .int .u64 (W64 d1), .int .i64 d2, .int .u64 (W64 d3), .int .u64 (W64 d4), .int .u64 (W64 d5), .int .u64 0, .int .i64 0, .int .u64 0, .int .u64 0, .int .u64 0], .int .u64 (W64 second)] W fun e w' => e = .returned (.tuple #[.agg #[.int .i64 1, .int .u64 (W64 d1), .int .i64 d2, .int .u64 (W64 d3), .int .u64 (W64 d4), .int .u64 (W64 d5), .int .u64 (W64 f1), .int .i64 f2, .int .u64 (W64 f3), .int .u64 (W64 f4), .int .u64 (W64 f5)], .int .i64 0]) ∧ Below W.heap.size W w' from fun W => by have := rf_NewKey ⟨0, ⟨d1, d2, d3, d4, d5⟩, nk0⟩ second W; rw [hk1] at this; exact this)
  have CP2 := Lib.hid (show ∀ W, Calls Try.prog 17 #[.agg #[.int .i64 1, .int .u64 (W64 d1), .int .i64 d2, .int .u64 (W64 d3), .int .u64 (W64 d4), .int .u64 (W64 d5), .int .u64 (W64 f1), .int .i64 f2, .int .u64 (W64 f3), .int .u64 (W64 f4), .int .u64 (W64 f5)], .int .i64 2] W fun e w' => e = .returned (.tuple #[.agg #[.int .i64 2, .int .u64 (W64 d1), .int .i64 d2, .int .u64 (W64 d3), .int .u64 (W64 d4), .int .u64 (W64 d5), .int .u64 (W64 f1), .int .i64 f2, .int .u64 (W64 f3), .int .u64 (W64 f4), .int .u64 (W64 f5)], .bool true]) ∧ Below W.heap.size W w' from fun W => rf_Phase ⟨1, ⟨d1, d2, d3, d4, d5⟩, ⟨f1, f2, f3, f4, f5⟩⟩ 2 W)
  have CP3 := Lib.hid (show ∀ W, Calls Try.prog 17 #[.agg #[.int .i64 2, .int .u64 (W64 d1), .int .i64 d2, .int .u64 (W64 d3), .int .u64 (W64 d4), .int .u64 (W64 d5), .int .u64 (W64 f1), .int .i64 f2, .int .u64 (W64 f3), .int .u64 (W64 f4), .int .u64 (W64 f5)], .int .i64 3] W fun e w' => e = .returned (.tuple #[.agg #[.int .i64 0, .int .u64 (W64 f1), .int .i64 f2, .int .u64 (W64 f3), .int .u64 (W64 f4), .int .u64 (W64 f5), .int .u64 0, .int .i64 0, .int .u64 0, .int .u64 0, .int .u64 0], .bool true]) ∧ Below W.heap.size W w' from fun W => rf_Phase ⟨2, ⟨d1, d2, d3, d4, d5⟩, ⟨f1, f2, f3, f4, f5⟩⟩ 3 W)
  have CB := Lib.hid (show ∀ W, Calls Try.prog 38 #[.agg #[.int .u32 (W32 ix), .bool true, .int .i64 0], .int .i64 1000] W fun e w' => e = .returned (.tuple #[.agg #[.int .u32 (W32 ix), .bool true, .int .i64 0], .int .i64 9]) ∧ Below W.heap.size W w' from fun W => rf_Begin ⟨ix, true, 0⟩ 1000 W (show (0 : Int) ≤ 0 ∧ (0 : Int) ≤ 1099511627776 from by decide) (by decide))
  have CE := Lib.hid (show ∀ W, Calls Try.prog 40 #[.agg #[.int .u32 (W32 ix), .bool true, .int .i64 0], .int .i64 1000] W fun e w' => e = .returned (.tuple #[.agg #[.int .u32 (W32 ix), .bool false, .int .i64 1000], .int .i64 0]) ∧ Below W.heap.size W w' from fun W => rf_End ⟨ix, true, 0⟩ 1000 W (show (0 : Int) ≤ 0 ∧ (0 : Int) ≤ 1099511627776 from by decide) (by decide))
  have htv : txK ⟨ix, true, 0⟩ = ix - 1#32 := by unfold txK; rw [if_pos ⟨rfl, h1⟩]
  have htu : txK ⟨ix, false, 1000⟩ = ix := by unfold txK; rw [if_neg (by simp)]
  have r1 : rxK ⟨ix, true, 0⟩ (W32 (txK ⟨ix, false, 1000⟩ % 2#32)) = (txK ⟨ix, false, 1000⟩, true) := rx_of _ _ (.inl htu)
  have r2 : rxK ⟨ix, false, 1000⟩ (W32 (txK ⟨ix, true, 0⟩ % 2#32)) = (txK ⟨ix, true, 0⟩, true) := rx_of _ _ (.inr ⟨h1, htv⟩)
  clear htv htu
  have H1 := Lib.hid (show ∀ W, Calls Try.prog 47 #[.agg #[.int .i64 0, .int .u64 (W64 d1), .int .i64 d2, .int .u64 (W64 d3), .int .u64 (W64 d4), .int .u64 (W64 d5), .int .u64 0, .int .i64 0, .int .u64 0, .int .u64 0, .int .u64 0], .agg #[.int .i64 1, .int .u64 (W64 d1), .int .i64 d2, .int .u64 (W64 d3), .int .u64 (W64 d4), .int .u64 (W64 d5), .int .u64 (W64 f1), .int .i64 f2, .int .u64 (W64 f3), .int .u64 (W64 f4), .int .u64 (W64 f5)], .agg #[.int .u32 (W32 ix), .bool true, .int .i64 0], .agg #[.int .u32 (W32 ix), .bool false, .int .i64 1000]] W fun e w' => e = .returned (.bool true) ∧ Below W.heap.size W w' from fun W => hears_c ⟨0, ⟨d1, d2, d3, d4, d5⟩, nk0⟩ ⟨1, ⟨d1, d2, d3, d4, d5⟩, ⟨f1, f2, f3, f4, f5⟩⟩ ⟨ix, true, 0⟩ ⟨ix, false, 1000⟩ W (by exact mem0 _ _) r1)
  have H2 := Lib.hid (show ∀ W, Calls Try.prog 47 #[.agg #[.int .i64 1, .int .u64 (W64 d1), .int .i64 d2, .int .u64 (W64 d3), .int .u64 (W64 d4), .int .u64 (W64 d5), .int .u64 (W64 f1), .int .i64 f2, .int .u64 (W64 f3), .int .u64 (W64 f4), .int .u64 (W64 f5)], .agg #[.int .i64 0, .int .u64 (W64 d1), .int .i64 d2, .int .u64 (W64 d3), .int .u64 (W64 d4), .int .u64 (W64 d5), .int .u64 0, .int .i64 0, .int .u64 0, .int .u64 0, .int .u64 0], .agg #[.int .u32 (W32 ix), .bool false, .int .i64 1000], .agg #[.int .u32 (W32 ix), .bool true, .int .i64 0]] W fun e w' => e = .returned (.bool true) ∧ Below W.heap.size W w' from fun W => hears_c ⟨1, ⟨d1, d2, d3, d4, d5⟩, ⟨f1, f2, f3, f4, f5⟩⟩ ⟨0, ⟨d1, d2, d3, d4, d5⟩, nk0⟩ ⟨ix, false, 1000⟩ ⟨ix, true, 0⟩ W (by exact mem0 _ _) r2)
  have H3 := Lib.hid (show ∀ W, Calls Try.prog 47 #[.agg #[.int .i64 0, .int .u64 (W64 d1), .int .i64 d2, .int .u64 (W64 d3), .int .u64 (W64 d4), .int .u64 (W64 d5), .int .u64 0, .int .i64 0, .int .u64 0, .int .u64 0, .int .u64 0], .agg #[.int .i64 0, .int .u64 (W64 d1), .int .i64 d2, .int .u64 (W64 d3), .int .u64 (W64 d4), .int .u64 (W64 d5), .int .u64 0, .int .i64 0, .int .u64 0, .int .u64 0, .int .u64 0], .agg #[.int .u32 (W32 ix), .bool true, .int .i64 0], .agg #[.int .u32 (W32 ix), .bool true, .int .i64 0]] W fun e w' => e = .returned (.bool true) ∧ Below W.heap.size W w' from fun W => hears_c ⟨0, ⟨d1, d2, d3, d4, d5⟩, nk0⟩ ⟨0, ⟨d1, d2, d3, d4, d5⟩, nk0⟩ ⟨ix, true, 0⟩ ⟨ix, true, 0⟩ W (by exact mem0 _ _) (rx_tx ⟨ix, true, 0⟩))
  have H4 := Lib.hid (show ∀ W, Calls Try.prog 47 #[.agg #[.int .i64 1, .int .u64 (W64 d1), .int .i64 d2, .int .u64 (W64 d3), .int .u64 (W64 d4), .int .u64 (W64 d5), .int .u64 (W64 f1), .int .i64 f2, .int .u64 (W64 f3), .int .u64 (W64 f4), .int .u64 (W64 f5)], .agg #[.int .i64 1, .int .u64 (W64 d1), .int .i64 d2, .int .u64 (W64 d3), .int .u64 (W64 d4), .int .u64 (W64 d5), .int .u64 (W64 f1), .int .i64 f2, .int .u64 (W64 f3), .int .u64 (W64 f4), .int .u64 (W64 f5)], .agg #[.int .u32 (W32 ix), .bool false, .int .i64 1000], .agg #[.int .u32 (W32 ix), .bool false, .int .i64 1000]] W fun e w' => e = .returned (.bool true) ∧ Below W.heap.size W w' from fun W => hears_c ⟨1, ⟨d1, d2, d3, d4, d5⟩, ⟨f1, f2, f3, f4, f5⟩⟩ ⟨1, ⟨d1, d2, d3, d4, d5⟩, ⟨f1, f2, f3, f4, f5⟩⟩ ⟨ix, false, 1000⟩ ⟨ix, false, 1000⟩ W (by exact mem0 _ _) (rx_tx ⟨ix, false, 1000⟩))
  clear r1 r2 hk1 hd1 hd2
  have q0 : ((W64 first : Int) == W64 second) = false := by rw [W64_beq]; simpa using h0
  have q1 : ((W32 ix : Int) == 0) = false := by have this : (W32 ix == W32 0#32) = false := (by rw [W32_beq]; simpa using h1); exact this
  have q2 : ((W32 ix : Int) == 4294967295) = false := by have this : (W32 ix == W32 4294967295#32) = false := (by rw [W32_beq]; simpa using h2); exact this
  clear h0 h1 h2
  go_enter Try.func8, Try.ntmps8
  go_wp2_with (first | (with_reducible refine stop_store ?_) | (with_reducible refine stop_box ?_) | (with_reducible refine stop_alloc ?_) | (with_reducible refine stop_bslice ?_))
  refine (CD.out _).mono ?_; rintro e w_1 ⟨rfl, hb_2⟩
  have hB := hb_2
  clear hb_2
  go_wp2_with (first | (with_reducible refine stop_store ?_) | (with_reducible refine stop_box ?_) | (with_reducible refine stop_alloc ?_) | (with_reducible refine stop_bslice ?_))
  unfold Kept
  refine go_mem (ty := 27) (cs := #[.int .i64 0, .int .u64 0, .int .i64 0, .int .u64 0, .int .u64 0, .int .u64 0, .int .u64 0, .int .i64 0, .int .u64 0, .int .u64 0, .int .u64 0]) (fun g => .pointer (some ⟨g, 0, none⟩)) rfl (by kernel_rfl) ?_
  intro g_3 w_4 z_8 l_7 hb_5 G_6
  have n_9 : w.heap.size ≤ g_3 := Nat.le_trans hB.size l_7
  replace hB := hB.trans (hb_5.mono hB.size)
  clear hb_5 l_7 z_8
  go_wp2_with (first | (with_reducible refine stop_store ?_) | (with_reducible refine stop_box ?_) | (with_reducible refine stop_alloc ?_) | (with_reducible refine stop_bslice ?_))
  unfold Kept
  refine wpList_st 0 #[.int .i64 0, .int .u64 (W64 d1), .int .i64 d2, .int .u64 (W64 d3), .int .u64 (W64 d4), .int .u64 (W64 d5), .int .u64 0, .int .i64 0, .int .u64 0, .int .u64 0, .int .u64 0] #[.int .i64 0, .int .u64 (W64 d1), .int .i64 d2, .int .u64 (W64 d3), .int .u64 (W64 d4), .int .u64 (W64 d5), .int .u64 0, .int .i64 0, .int .u64 0, .int .u64 0, .int .u64 0] G_6 rfl rfl (by kernel_rfl) rfl (of_decide_eq_true rfl) rfl ?_
  intro w_10 G_12 hU_11
  replace hB := hU_11.below hB (by omega)
  clear G_6 hU_11
  go_wp2_with (first | (with_reducible refine stop_store ?_) | (with_reducible refine stop_box ?_) | (with_reducible refine stop_alloc ?_) | (with_reducible refine stop_bslice ?_) | ((with_reducible refine wpList_ld 0 [.int .i64 0, .int .u64 (W64 d1), .int .i64 d2, .int .u64 (W64 d3), .int .u64 (W64 d4), .int .u64 (W64 d5), .int .u64 0, .int .i64 0, .int .u64 0, .int .u64 0, .int .u64 0] G_12 ?_ ?_ Try.underlying27 ?_ ?_ ?_); rfl; rfl; rfl; kernel_rfl) | ((with_reducible refine wpList_ldg 0 [.int .i64 0, .int .u64 (W64 d1), .int .i64 d2, .int .u64 (W64 d3), .int .u64 (W64 d4), .int .u64 (W64 d5), .int .u64 0, .int .i64 0, .int .u64 0, .int .u64 0, .int .u64 0] G_12 ?_ ?_ Try.underlying27 ?_ ?_ ?_ ?_); rfl; rfl; rfl; kernel_rfl; rfl))
  unfold Kept
  refine go_mem (ty := 27) (cs := #[.int .i64 0, .int .u64 0, .int .i64 0, .int .u64 0, .int .u64 0, .int .u64 0, .int .u64 0, .int .i64 0, .int .u64 0, .int .u64 0, .int .u64 0]) (fun g => .pointer (some ⟨g, 0, none⟩)) rfl (by kernel_rfl) ?_
  intro g_14 w_15 z_19 l_18 hb_16 G_17
  have n_20 : g_3 < g_14 := Nat.lt_of_lt_of_le G_12.lt l_18
  have n_21 : w.heap.size ≤ g_14 := Nat.le_trans hB.size l_18
  replace G_12 := G_12.to hb_16 G_12.lt
  replace hB := hB.trans (hb_16.mono hB.size)
  clear hb_16 l_18 z_19
  go_wp2_with (first | (with_reducible refine stop_store ?_) | (with_reducible refine stop_box ?_) | (with_reducible refine stop_alloc ?_) | (with_reducible refine stop_bslice ?_))
  unfold Kept
  refine wpList_st 0 #[.int .i64 0, .int .u64 (W64 d1), .int .i64 d2, .int .u64 (W64 d3), .int .u64 (W64 d4), .int .u64 (W64 d5), .int .u64 0, .int .i64 0, .int .u64 0, .int .u64 0, .int .u64 0] #[.int .i64 0, .int .u64 (W64 d1), .int .i64 d2, .int .u64 (W64 d3), .int .u64 (W64 d4), .int .u64 (W64 d5), .int .u64 0, .int .i64 0, .int .u64 0, .int .u64 0, .int .u64 0] G_17 rfl rfl (by kernel_rfl) rfl (of_decide_eq_true rfl) rfl ?_
  intro w_22 G_24 hU_23
  replace G_12 := hU_23.blk G_12 (by omega)
  replace hB := hU_23.below hB (by omega)
  clear G_17 hU_23
  go_wp2_with (first | (with_reducible refine stop_store ?_) | (with_reducible refine stop_box ?_) | (with_reducible refine stop_alloc ?_) | (with_reducible refine stop_bslice ?_) | ((with_reducible refine wpList_ld 0 [.int .i64 0, .int .u64 (W64 d1), .int .i64 d2, .int .u64 (W64 d3), .int .u64 (W64 d4), .int .u64 (W64 d5), .int .u64 0, .int .i64 0, .int .u64 0, .int .u64 0, .int .u64 0] G_12 ?_ ?_ Try.underlying27 ?_ ?_ ?_); rfl; rfl; rfl; kernel_rfl) | ((with_reducible refine wpList_ldg 0 [.int .i64 0, .int .u64 (W64 d1), .int .i64 d2, .int .u64 (W64 d3), .int .u64 (W64 d4), .int .u64 (W64 d5), .int .u64 0, .int .i64 0, .int .u64 0, .int .u64 0, .int .u64 0] G_12 ?_ ?_ Try.underlying27 ?_ ?_ ?_ ?_); rfl; rfl; rfl; kernel_rfl; rfl))
  refine (CN.out _).mono ?_; rintro e w_26 ⟨rfl, hb_27⟩
  replace G_12 := G_12.to hb_27 G_12.lt
  replace G_24 := G_24.to hb_27 G_24.lt
  replace hB := hB.trans (hb_27.mono hB.size)
  clear hb_27
  go_wp2_with (first | (with_reducible refine stop_store ?_) | (with_reducible refine stop_box ?_) | (with_reducible refine stop_alloc ?_) | (with_reducible refine stop_bslice ?_))
  unfold Kept
  refine wpList_st 0 #[.int .i64 1, .int .u64 (W64 d1), .int .i64 d2, .int .u64 (W64 d3), .int .u64 (W64 d4), .int .u64 (W64 d5), .int .u64 (W64 f1), .int .i64 f2, .int .u64 (W64 f3), .int .u64 (W64 f4), .int .u64 (W64 f5)] #[.int .i64 1, .int .u64 (W64 d1), .int .i64 d2, .int .u64 (W64 d3), .int .u64 (W64 d4), .int .u64 (W64 d5), .int .u64 (W64 f1), .int .i64 f2, .int .u64 (W64 f3), .int .u64 (W64 f4), .int .u64 (W64 f5)] G_24 rfl rfl (by kernel_rfl) rfl (of_decide_eq_true rfl) rfl ?_
  intro w_28 G_30 hU_29
  replace G_12 := hU_29.blk G_12 (by omega)
  replace hB := hU_29.below hB (by omega)
  clear G_24 hU_29
  have ld_31 : w_28.cell? ⟨g_14, 0, none⟩ = some (.int .i64 1) := G_30.cell 0
  go_wp2_with (first | (with_reducible refine stop_store ?_) | (with_reducible refine stop_box ?_) | (with_reducible refine stop_alloc ?_) | (with_reducible refine stop_bslice ?_))
  unfold Kept
  refine go_mem (ty := 59) (cs := #[.int .u32 0, .bool false, .int .i64 0]) (fun g => .pointer (some ⟨g, 0, none⟩)) rfl (by kernel_rfl) ?_
  intro g_32 w_33 z_37 l_36 hb_34 G_35
  clear ld_31
  have n_38 : g_14 < g_32 := Nat.lt_of_lt_of_le G_30.lt l_36
  have n_39 : w.heap.size ≤ g_32 := Nat.le_trans hB.size l_36
  replace G_12 := G_12.to hb_34 G_12.lt
  replace G_30 := G_30.to hb_34 G_30.lt
  replace hB := hB.trans (hb_34.mono hB.size)
  clear hb_34 l_36 z_37
  go_wp2_with (first | (with_reducible refine stop_store ?_) | (with_reducible refine stop_box ?_) | (with_reducible refine stop_alloc ?_) | (with_reducible refine stop_bslice ?_))
  unfold Kept
  refine wpList_st 0 #[.int .u32 (W32 ix), .bool true, .int .i64 0] #[.int .u32 (W32 ix), .bool true, .int .i64 0] G_35 rfl rfl (by kernel_rfl) rfl (of_decide_eq_true rfl) rfl ?_
  intro w_40 G_42 hU_41
  replace G_12 := hU_41.blk G_12 (by omega)
  replace G_30 := hU_41.blk G_30 (by omega)
  replace hB := hU_41.below hB (by omega)
  clear G_35 hU_41
  go_wp2_with (first | (with_reducible refine stop_store ?_) | (with_reducible refine stop_box ?_) | (with_reducible refine stop_alloc ?_) | (with_reducible refine stop_bslice ?_) | ((with_reducible refine wpList_ld 0 [.int .u32 (W32 ix), .bool true, .int .i64 0] G_42 ?_ ?_ Try.underlying59 ?_ ?_ ?_); rfl; rfl; rfl; kernel_rfl) | ((with_reducible refine wpList_ldg 0 [.int .u32 (W32 ix), .bool true, .int .i64 0] G_42 ?_ ?_ Try.underlying59 ?_ ?_ ?_ ?_); rfl; rfl; rfl; kernel_rfl; rfl))
  refine (CB.out _).mono ?_; rintro e w_44 ⟨rfl, hb_45⟩
  replace G_12 := G_12.to hb_45 G_12.lt
  replace G_30 := G_30.to hb_45 G_30.lt
  replace G_42 := G_42.to hb_45 G_42.lt
  replace hB := hB.trans (hb_45.mono hB.size)
  clear hb_45
  go_wp2_with (first | (with_reducible refine stop_store ?_) | (with_reducible refine stop_box ?_) | (with_reducible refine stop_alloc ?_) | (with_reducible refine stop_bslice ?_))
  unfold Kept
  refine go_mem (ty := 59) (cs := #[.int .u32 0, .bool false, .int .i64 0]) (fun g => .pointer (some ⟨g, 0, none⟩)) rfl (by kernel_rfl) ?_
  intro g_46 w_47 z_51 l_50 hb_48 G_49
  have n_52 : g_32 < g_46 := Nat.lt_of_lt_of_le G_42.lt l_50
  have n_53 : w.heap.size ≤ g_46 := Nat.le_trans hB.size l_50
  replace G_12 := G_12.to hb_48 G_12.lt
  replace G_30 := G_30.to hb_48 G_30.lt
  replace G_42 := G_42.to hb_48 G_42.lt
  replace hB := hB.trans (hb_48.mono hB.size)
  clear hb_48 l_50 z_51
  go_wp2_with (first | (with_reducible refine stop_store ?_) | (with_reducible refine stop_box ?_) | (with_reducible refine stop_alloc ?_) | (with_reducible refine stop_bslice ?_))
  unfold Kept
  refine wpList_st 0 #[.int .u32 (W32 ix), .bool true, .int .i64 0] #[.int .u32 (W32 ix), .bool true, .int .i64 0] G_49 rfl rfl (by kernel_rfl) rfl (of_decide_eq_true rfl) rfl ?_
  intro w_54 G_56 hU_55
  replace G_12 := hU_55.blk G_12 (by omega)
  replace G_30 := hU_55.blk G_30 (by omega)
  replace G_42 := hU_55.blk G_42 (by omega)
  replace hB := hU_55.below hB (by omega)
  clear G_49 hU_55
  go_wp2_with (first | (with_reducible refine stop_store ?_) | (with_reducible refine stop_box ?_) | (with_reducible refine stop_alloc ?_) | (with_reducible refine stop_bslice ?_) | ((with_reducible refine wpList_ld 0 [.int .u32 (W32 ix), .bool true, .int .i64 0] G_42 ?_ ?_ Try.underlying59 ?_ ?_ ?_); rfl; rfl; rfl; kernel_rfl) | ((with_reducible refine wpList_ldg 0 [.int .u32 (W32 ix), .bool true, .int .i64 0] G_42 ?_ ?_ Try.underlying59 ?_ ?_ ?_ ?_); rfl; rfl; rfl; kernel_rfl; rfl))
  refine (CE.out _).mono ?_; rintro e w_58 ⟨rfl, hb_59⟩
  replace G_12 := G_12.to hb_59 G_12.lt
  replace G_30 := G_30.to hb_59 G_30.lt
  replace G_42 := G_42.to hb_59 G_42.lt
  replace G_56 := G_56.to hb_59 G_56.lt
  replace hB := hB.trans (hb_59.mono hB.size)
  clear hb_59
  go_wp2_with (first | (with_reducible refine stop_store ?_) | (with_reducible refine stop_box ?_) | (with_reducible refine stop_alloc ?_) | (with_reducible refine stop_bslice ?_))
  unfold Kept
  refine wpList_st 0 #[.int .u32 (W32 ix), .bool false, .int .i64 1000] #[.int .u32 (W32 ix), .bool false, .int .i64 1000] G_56 rfl rfl (by kernel_rfl) rfl (of_decide_eq_true rfl) rfl ?_
  intro w_60 G_62 hU_61
  replace G_12 := hU_61.blk G_12 (by omega)
  replace G_30 := hU_61.blk G_30 (by omega)
  replace G_42 := hU_61.blk G_42 (by omega)
  replace hB := hU_61.below hB (by omega)
  clear G_56 hU_61
  go_wp2_with (first | (with_reducible refine stop_store ?_) | (with_reducible refine stop_box ?_) | (with_reducible refine stop_alloc ?_) | (with_reducible refine stop_bslice ?_))
  refine (lives52 _).mono ?_; rintro e w_63 ⟨rfl, hb_64⟩
  replace G_12 := G_12.to hb_64 G_12.lt
  replace G_30 := G_30.to hb_64 G_30.lt
  replace G_42 := G_42.to hb_64 G_42.lt
  replace G_62 := G_62.to hb_64 G_62.lt
  replace hB := hB.trans (hb_64.mono hB.size)
  clear hb_64
  go_wp2_with (first | (with_reducible refine stop_store ?_) | (with_reducible refine stop_box ?_) | (with_reducible refine stop_alloc ?_) | (with_reducible refine stop_bslice ?_) | ((with_reducible refine wpList_ld 0 [.int .i64 0, .int .u64 (W64 d1), .int .i64 d2, .int .u64 (W64 d3), .int .u64 (W64 d4), .int .u64 (W64 d5), .int .u64 0, .int .i64 0, .int .u64 0, .int .u64 0, .int .u64 0] G_12 ?_ ?_ Try.underlying27 ?_ ?_ ?_); rfl; rfl; rfl; kernel_rfl) | ((with_reducible refine wpList_ldg 0 [.int .i64 0, .int .u64 (W64 d1), .int .i64 d2, .int .u64 (W64 d3), .int .u64 (W64 d4), .int .u64 (W64 d5), .int .u64 0, .int .i64 0, .int .u64 0, .int .u64 0, .int .u64 0] G_12 ?_ ?_ Try.underlying27 ?_ ?_ ?_ ?_); rfl; rfl; rfl; kernel_rfl; rfl) | ((with_reducible refine wpList_ld 0 [.int .i64 1, .int .u64 (W64 d1), .int .i64 d2, .int .u64 (W64 d3), .int .u64 (W64 d4), .int .u64 (W64 d5), .int .u64 (W64 f1), .int .i64 f2, .int .u64 (W64 f3), .int .u64 (W64 f4), .int .u64 (W64 f5)] G_30 ?_ ?_ Try.underlying27 ?_ ?_ ?_); rfl; rfl; rfl; kernel_rfl) | ((with_reducible refine wpList_ldg 0 [.int .i64 1, .int .u64 (W64 d1), .int .i64 d2, .int .u64 (W64 d3), .int .u64 (W64 d4), .int .u64 (W64 d5), .int .u64 (W64 f1), .int .i64 f2, .int .u64 (W64 f3), .int .u64 (W64 f4), .int .u64 (W64 f5)] G_30 ?_ ?_ Try.underlying27 ?_ ?_ ?_ ?_); rfl; rfl; rfl; kernel_rfl; rfl) | ((with_reducible refine wpList_ld 0 [.int .u32 (W32 ix), .bool true, .int .i64 0] G_42 ?_ ?_ Try.underlying59 ?_ ?_ ?_); rfl; rfl; rfl; kernel_rfl) | ((with_reducible refine wpList_ldg 0 [.int .u32 (W32 ix), .bool true, .int .i64 0] G_42 ?_ ?_ Try.underlying59 ?_ ?_ ?_ ?_); rfl; rfl; rfl; kernel_rfl; rfl) | ((with_reducible refine wpList_ld 0 [.int .u32 (W32 ix), .bool false, .int .i64 1000] G_62 ?_ ?_ Try.underlying59 ?_ ?_ ?_); rfl; rfl; rfl; kernel_rfl) | ((with_reducible refine wpList_ldg 0 [.int .u32 (W32 ix), .bool false, .int .i64 1000] G_62 ?_ ?_ Try.underlying59 ?_ ?_ ?_ ?_); rfl; rfl; rfl; kernel_rfl; rfl))
  refine (H1.out _).mono ?_; rintro e w_69 ⟨rfl, hb_70⟩
  replace G_12 := G_12.to hb_70 G_12.lt
  replace G_30 := G_30.to hb_70 G_30.lt
  replace G_42 := G_42.to hb_70 G_42.lt
  replace G_62 := G_62.to hb_70 G_62.lt
  replace hB := hB.trans (hb_70.mono hB.size)
  clear hb_70
  go_wp2_with (first | (with_reducible refine stop_store ?_) | (with_reducible refine stop_box ?_) | (with_reducible refine stop_alloc ?_) | (with_reducible refine stop_bslice ?_) | ((with_reducible refine wpList_ld 0 [.int .i64 1, .int .u64 (W64 d1), .int .i64 d2, .int .u64 (W64 d3), .int .u64 (W64 d4), .int .u64 (W64 d5), .int .u64 (W64 f1), .int .i64 f2, .int .u64 (W64 f3), .int .u64 (W64 f4), .int .u64 (W64 f5)] G_30 ?_ ?_ Try.underlying27 ?_ ?_ ?_); rfl; rfl; rfl; kernel_rfl) | ((with_reducible refine wpList_ldg 0 [.int .i64 1, .int .u64 (W64 d1), .int .i64 d2, .int .u64 (W64 d3), .int .u64 (W64 d4), .int .u64 (W64 d5), .int .u64 (W64 f1), .int .i64 f2, .int .u64 (W64 f3), .int .u64 (W64 f4), .int .u64 (W64 f5)] G_30 ?_ ?_ Try.underlying27 ?_ ?_ ?_ ?_); rfl; rfl; rfl; kernel_rfl; rfl) | ((with_reducible refine wpList_ld 0 [.int .i64 0, .int .u64 (W64 d1), .int .i64 d2, .int .u64 (W64 d3), .int .u64 (W64 d4), .int .u64 (W64 d5), .int .u64 0, .int .i64 0, .int .u64 0, .int .u64 0, .int .u64 0] G_12 ?_ ?_ Try.underlying27 ?_ ?_ ?_); rfl; rfl; rfl; kernel_rfl) | ((with_reducible refine wpList_ldg 0 [.int .i64 0, .int .u64 (W64 d1), .int .i64 d2, .int .u64 (W64 d3), .int .u64 (W64 d4), .int .u64 (W64 d5), .int .u64 0, .int .i64 0, .int .u64 0, .int .u64 0, .int .u64 0] G_12 ?_ ?_ Try.underlying27 ?_ ?_ ?_ ?_); rfl; rfl; rfl; kernel_rfl; rfl) | ((with_reducible refine wpList_ld 0 [.int .u32 (W32 ix), .bool false, .int .i64 1000] G_62 ?_ ?_ Try.underlying59 ?_ ?_ ?_); rfl; rfl; rfl; kernel_rfl) | ((with_reducible refine wpList_ldg 0 [.int .u32 (W32 ix), .bool false, .int .i64 1000] G_62 ?_ ?_ Try.underlying59 ?_ ?_ ?_ ?_); rfl; rfl; rfl; kernel_rfl; rfl) | ((with_reducible refine wpList_ld 0 [.int .u32 (W32 ix), .bool true, .int .i64 0] G_42 ?_ ?_ Try.underlying59 ?_ ?_ ?_); rfl; rfl; rfl; kernel_rfl) | ((with_reducible refine wpList_ldg 0 [.int .u32 (W32 ix), .bool true, .int .i64 0] G_42 ?_ ?_ Try.underlying59 ?_ ?_ ?_ ?_); rfl; rfl; rfl; kernel_rfl; rfl))
  refine (H2.out _).mono ?_; rintro e w_75 ⟨rfl, hb_76⟩
  replace G_12 := G_12.to hb_76 G_12.lt
  replace G_30 := G_30.to hb_76 G_30.lt
  replace G_42 := G_42.to hb_76 G_42.lt
  replace G_62 := G_62.to hb_76 G_62.lt
  replace hB := hB.trans (hb_76.mono hB.size)
  clear hb_76
  go_wp2_with (first | (with_reducible refine stop_store ?_) | (with_reducible refine stop_box ?_) | (with_reducible refine stop_alloc ?_) | (with_reducible refine stop_bslice ?_) | ((with_reducible refine wpList_ld 0 [.int .i64 0, .int .u64 (W64 d1), .int .i64 d2, .int .u64 (W64 d3), .int .u64 (W64 d4), .int .u64 (W64 d5), .int .u64 0, .int .i64 0, .int .u64 0, .int .u64 0, .int .u64 0] G_12 ?_ ?_ Try.underlying27 ?_ ?_ ?_); rfl; rfl; rfl; kernel_rfl) | ((with_reducible refine wpList_ldg 0 [.int .i64 0, .int .u64 (W64 d1), .int .i64 d2, .int .u64 (W64 d3), .int .u64 (W64 d4), .int .u64 (W64 d5), .int .u64 0, .int .i64 0, .int .u64 0, .int .u64 0, .int .u64 0] G_12 ?_ ?_ Try.underlying27 ?_ ?_ ?_ ?_); rfl; rfl; rfl; kernel_rfl; rfl) | ((with_reducible refine wpList_ld 0 [.int .u32 (W32 ix), .bool true, .int .i64 0] G_42 ?_ ?_ Try.underlying59 ?_ ?_ ?_); rfl; rfl; rfl; kernel_rfl) | ((with_reducible refine wpList_ldg 0 [.int .u32 (W32 ix), .bool true, .int .i64 0] G_42 ?_ ?_ Try.underlying59 ?_ ?_ ?_ ?_); rfl; rfl; rfl; kernel_rfl; rfl))
  refine (H3.out _).mono ?_; rintro e w_79 ⟨rfl, hb_80⟩
  replace G_12 := G_12.to hb_80 G_12.lt
  replace G_30 := G_30.to hb_80 G_30.lt
  replace G_42 := G_42.to hb_80 G_42.lt
  replace G_62 := G_62.to hb_80 G_62.lt
  replace hB := hB.trans (hb_80.mono hB.size)
  clear hb_80
  go_wp2_with (first | (with_reducible refine stop_store ?_) | (with_reducible refine stop_box ?_) | (with_reducible refine stop_alloc ?_) | (with_reducible refine stop_bslice ?_) | ((with_reducible refine wpList_ld 0 [.int .i64 1, .int .u64 (W64 d1), .int .i64 d2, .int .u64 (W64 d3), .int .u64 (W64 d4), .int .u64 (W64 d5), .int .u64 (W64 f1), .int .i64 f2, .int .u64 (W64 f3), .int .u64 (W64 f4), .int .u64 (W64 f5)] G_30 ?_ ?_ Try.underlying27 ?_ ?_ ?_); rfl; rfl; rfl; kernel_rfl) | ((with_reducible refine wpList_ldg 0 [.int .i64 1, .int .u64 (W64 d1), .int .i64 d2, .int .u64 (W64 d3), .int .u64 (W64 d4), .int .u64 (W64 d5), .int .u64 (W64 f1), .int .i64 f2, .int .u64 (W64 f3), .int .u64 (W64 f4), .int .u64 (W64 f5)] G_30 ?_ ?_ Try.underlying27 ?_ ?_ ?_ ?_); rfl; rfl; rfl; kernel_rfl; rfl) | ((with_reducible refine wpList_ld 0 [.int .u32 (W32 ix), .bool false, .int .i64 1000] G_62 ?_ ?_ Try.underlying59 ?_ ?_ ?_); rfl; rfl; rfl; kernel_rfl) | ((with_reducible refine wpList_ldg 0 [.int .u32 (W32 ix), .bool false, .int .i64 1000] G_62 ?_ ?_ Try.underlying59 ?_ ?_ ?_ ?_); rfl; rfl; rfl; kernel_rfl; rfl))
  refine (H4.out _).mono ?_; rintro e w_83 ⟨rfl, hb_84⟩
  replace G_12 := G_12.to hb_84 G_12.lt
  replace G_30 := G_30.to hb_84 G_30.lt
  replace G_42 := G_42.to hb_84 G_42.lt
  replace G_62 := G_62.to hb_84 G_62.lt
  replace hB := hB.trans (hb_84.mono hB.size)
  clear hb_84
  go_wp2_with (first | (with_reducible refine stop_store ?_) | (with_reducible refine stop_box ?_) | (with_reducible refine stop_alloc ?_) | (with_reducible refine stop_bslice ?_))
  go_returns
  exact ⟨rfl, hB⟩
set_option maxHeartbeats 4000000 in
theorem under_1_false (first second : BitVec 64) (ix : BitVec 32) (w : World) (h0 : first ≠ second) (h1 : ix ≠ 0#32) (h2 : ix ≠ 4294967295#32) :
    Calls Try.prog 8 #[.int .u64 (W64 first), .int .u64 (W64 second), .int .i64 1, .int .u32 (W32 ix), .bool false] w fun e w' => e = .returned (.bool true) ∧ Below w.heap.size w w' := by
  have hk1 : newKeyK ⟨0, nkD first, nk0⟩ second = (⟨1, nkD first, nkD second⟩, 0) := by unfold newKeyK; rw [if_neg (by simp), if_neg (by simp), if_neg (fun h => h0 (by rw [h]; rfl))]
  obtain ⟨⟨d1, d2, d3, d4, d5⟩, hd1⟩ : ∃ z, nkD first = z := ⟨_, rfl⟩
  obtain ⟨⟨f1, f2, f3, f4, f5⟩, hd2⟩ : ∃ z, nkD second = z := ⟨_, rfl⟩
  rw [hd1, hd2] at hk1
  have CD := Lib.hid (show ∀ W, Calls Try.prog 46 #[.int .u64 (W64 first)] W fun e w' => e = .returned (.agg #[.int .u64 (W64 d1), .int .i64 d2, .int .u64 (W64 d3), .int .u64 (W64 d4), .int .u64 (W64 d5)]) ∧ Below W.heap.size W w' from fun W => by
    have := mesh_Derive first W
    have hh : nkA (nkD first) = #[.int .u64 (W64 d1), .int .i64 d2, .int .u64 (W64 d3), .int .u64 (W64 d4), .int .u64 (W64 d5)] := by rw [hd1]; rfl
    unfold nkA nkD at hh
    dsimp only at hh
    rw [hh] at this
    exact this)
  have CN := Lib.hid (show ∀ W, Calls Try.prog 15 #[.agg #[.int .i64 0, .int .u64 (W64 d1), .int .i64 d2, .int .u64 (W64 d3), .int .u64 (W64 d4), .int .u64 (W64 d5), .int .u64 0, .int .i64 0, .int .u64 0, .int .u64 0, .int .u64 0], .int .u64 (W64 second)] W fun e w' => e = .returned (.tuple #[.agg #[.int .i64 1, .int .u64 (W64 d1), .int .i64 d2, .int .u64 (W64 d3), .int .u64 (W64 d4), .int .u64 (W64 d5), .int .u64 (W64 f1), .int .i64 f2, .int .u64 (W64 f3), .int .u64 (W64 f4), .int .u64 (W64 f5)], .int .i64 0]) ∧ Below W.heap.size W w' from fun W => by have := rf_NewKey ⟨0, ⟨d1, d2, d3, d4, d5⟩, nk0⟩ second W; rw [hk1] at this; exact this)
  have CP2 := Lib.hid (show ∀ W, Calls Try.prog 17 #[.agg #[.int .i64 1, .int .u64 (W64 d1), .int .i64 d2, .int .u64 (W64 d3), .int .u64 (W64 d4), .int .u64 (W64 d5), .int .u64 (W64 f1), .int .i64 f2, .int .u64 (W64 f3), .int .u64 (W64 f4), .int .u64 (W64 f5)], .int .i64 2] W fun e w' => e = .returned (.tuple #[.agg #[.int .i64 2, .int .u64 (W64 d1), .int .i64 d2, .int .u64 (W64 d3), .int .u64 (W64 d4), .int .u64 (W64 d5), .int .u64 (W64 f1), .int .i64 f2, .int .u64 (W64 f3), .int .u64 (W64 f4), .int .u64 (W64 f5)], .bool true]) ∧ Below W.heap.size W w' from fun W => rf_Phase ⟨1, ⟨d1, d2, d3, d4, d5⟩, ⟨f1, f2, f3, f4, f5⟩⟩ 2 W)
  have CP3 := Lib.hid (show ∀ W, Calls Try.prog 17 #[.agg #[.int .i64 2, .int .u64 (W64 d1), .int .i64 d2, .int .u64 (W64 d3), .int .u64 (W64 d4), .int .u64 (W64 d5), .int .u64 (W64 f1), .int .i64 f2, .int .u64 (W64 f3), .int .u64 (W64 f4), .int .u64 (W64 f5)], .int .i64 3] W fun e w' => e = .returned (.tuple #[.agg #[.int .i64 0, .int .u64 (W64 f1), .int .i64 f2, .int .u64 (W64 f3), .int .u64 (W64 f4), .int .u64 (W64 f5), .int .u64 0, .int .i64 0, .int .u64 0, .int .u64 0, .int .u64 0], .bool true]) ∧ Below W.heap.size W w' from fun W => rf_Phase ⟨2, ⟨d1, d2, d3, d4, d5⟩, ⟨f1, f2, f3, f4, f5⟩⟩ 3 W)
  have hb : beginK ⟨ix, false, 0⟩ 1000 = (⟨ix + 1#32, true, 1000⟩, 0) := by unfold beginK lastB; rw [if_neg (by simp), if_neg (by simp), if_neg h2]
  have CB := Lib.hid (show ∀ W, Calls Try.prog 38 #[.agg #[.int .u32 (W32 ix), .bool false, .int .i64 0], .int .i64 1000] W fun e w' => e = .returned (.tuple #[.agg #[.int .u32 (W32 (ix + 1#32)), .bool true, .int .i64 1000], .int .i64 0]) ∧ Below W.heap.size W w' from fun W => by have := rf_Begin ⟨ix, false, 0⟩ 1000 W (show (0 : Int) ≤ 0 ∧ (0 : Int) ≤ 1099511627776 from by decide) (by decide); rw [hb] at this; exact this)
  have hnz : ix + 1#32 ≠ 0#32 := fun h => h2 (by have := congrArg BitVec.toNat h; apply BitVec.eq_of_toNat_eq; rw [BitVec.toNat_add] at this; have q := ix.isLt; have e1 : (1#32).toNat = 1 := rfl; have e2 : (0#32).toNat = 0 := rfl; have e3 : (4294967295#32).toNat = 4294967295 := rfl; omega)
  have htv : txK ⟨ix, false, 0⟩ = ix := by unfold txK; rw [if_neg (by simp)]
  have htu : txK ⟨ix + 1#32, true, 1000⟩ = ix := by unfold txK; rw [if_pos ⟨rfl, hnz⟩]; exact BitVec.add_sub_cancel ix 1#32
  have r1 : rxK ⟨ix, false, 0⟩ (W32 (txK ⟨ix + 1#32, true, 1000⟩ % 2#32)) = (txK ⟨ix + 1#32, true, 1000⟩, true) := rx_of _ _ (.inl htu)
  have r2 : rxK ⟨ix + 1#32, true, 1000⟩ (W32 (txK ⟨ix, false, 0⟩ % 2#32)) = (txK ⟨ix, false, 0⟩, true) := rx_of _ _ (.inr ⟨hnz, by rw [htv]; exact (BitVec.add_sub_cancel ix 1#32).symm⟩)
  clear htv htu hnz hb
  have H1 := Lib.hid (show ∀ W, Calls Try.prog 47 #[.agg #[.int .i64 1, .int .u64 (W64 d1), .int .i64 d2, .int .u64 (W64 d3), .int .u64 (W64 d4), .int .u64 (W64 d5), .int .u64 (W64 f1), .int .i64 f2, .int .u64 (W64 f3), .int .u64 (W64 f4), .int .u64 (W64 f5)], .agg #[.int .i64 2, .int .u64 (W64 d1), .int .i64 d2, .int .u64 (W64 d3), .int .u64 (W64 d4), .int .u64 (W64 d5), .int .u64 (W64 f1), .int .i64 f2, .int .u64 (W64 f3), .int .u64 (W64 f4), .int .u64 (W64 f5)], .agg #[.int .u32 (W32 ix), .bool false, .int .i64 0], .agg #[.int .u32 (W32 (ix + 1#32)), .bool true, .int .i64 1000]] W fun e w' => e = .returned (.bool true) ∧ Below W.heap.size W w' from fun W => hears_c ⟨1, ⟨d1, d2, d3, d4, d5⟩, ⟨f1, f2, f3, f4, f5⟩⟩ ⟨2, ⟨d1, d2, d3, d4, d5⟩, ⟨f1, f2, f3, f4, f5⟩⟩ ⟨ix, false, 0⟩ ⟨ix + 1#32, true, 1000⟩ W (by exact mem1 _ _ _) r1)
  have H2 := Lib.hid (show ∀ W, Calls Try.prog 47 #[.agg #[.int .i64 2, .int .u64 (W64 d1), .int .i64 d2, .int .u64 (W64 d3), .int .u64 (W64 d4), .int .u64 (W64 d5), .int .u64 (W64 f1), .int .i64 f2, .int .u64 (W64 f3), .int .u64 (W64 f4), .int .u64 (W64 f5)], .agg #[.int .i64 1, .int .u64 (W64 d1), .int .i64 d2, .int .u64 (W64 d3), .int .u64 (W64 d4), .int .u64 (W64 d5), .int .u64 (W64 f1), .int .i64 f2, .int .u64 (W64 f3), .int .u64 (W64 f4), .int .u64 (W64 f5)], .agg #[.int .u32 (W32 (ix + 1#32)), .bool true, .int .i64 1000], .agg #[.int .u32 (W32 ix), .bool false, .int .i64 0]] W fun e w' => e = .returned (.bool true) ∧ Below W.heap.size W w' from fun W => hears_c ⟨2, ⟨d1, d2, d3, d4, d5⟩, ⟨f1, f2, f3, f4, f5⟩⟩ ⟨1, ⟨d1, d2, d3, d4, d5⟩, ⟨f1, f2, f3, f4, f5⟩⟩ ⟨ix + 1#32, true, 1000⟩ ⟨ix, false, 0⟩ W (by exact mem1 _ _ _) r2)
  have H3 := Lib.hid (show ∀ W, Calls Try.prog 47 #[.agg #[.int .i64 1, .int .u64 (W64 d1), .int .i64 d2, .int .u64 (W64 d3), .int .u64 (W64 d4), .int .u64 (W64 d5), .int .u64 (W64 f1), .int .i64 f2, .int .u64 (W64 f3), .int .u64 (W64 f4), .int .u64 (W64 f5)], .agg #[.int .i64 1, .int .u64 (W64 d1), .int .i64 d2, .int .u64 (W64 d3), .int .u64 (W64 d4), .int .u64 (W64 d5), .int .u64 (W64 f1), .int .i64 f2, .int .u64 (W64 f3), .int .u64 (W64 f4), .int .u64 (W64 f5)], .agg #[.int .u32 (W32 ix), .bool false, .int .i64 0], .agg #[.int .u32 (W32 ix), .bool false, .int .i64 0]] W fun e w' => e = .returned (.bool true) ∧ Below W.heap.size W w' from fun W => hears_c ⟨1, ⟨d1, d2, d3, d4, d5⟩, ⟨f1, f2, f3, f4, f5⟩⟩ ⟨1, ⟨d1, d2, d3, d4, d5⟩, ⟨f1, f2, f3, f4, f5⟩⟩ ⟨ix, false, 0⟩ ⟨ix, false, 0⟩ W (by exact mem0 _ _) (rx_tx ⟨ix, false, 0⟩))
  have H4 := Lib.hid (show ∀ W, Calls Try.prog 47 #[.agg #[.int .i64 2, .int .u64 (W64 d1), .int .i64 d2, .int .u64 (W64 d3), .int .u64 (W64 d4), .int .u64 (W64 d5), .int .u64 (W64 f1), .int .i64 f2, .int .u64 (W64 f3), .int .u64 (W64 f4), .int .u64 (W64 f5)], .agg #[.int .i64 2, .int .u64 (W64 d1), .int .i64 d2, .int .u64 (W64 d3), .int .u64 (W64 d4), .int .u64 (W64 d5), .int .u64 (W64 f1), .int .i64 f2, .int .u64 (W64 f3), .int .u64 (W64 f4), .int .u64 (W64 f5)], .agg #[.int .u32 (W32 (ix + 1#32)), .bool true, .int .i64 1000], .agg #[.int .u32 (W32 (ix + 1#32)), .bool true, .int .i64 1000]] W fun e w' => e = .returned (.bool true) ∧ Below W.heap.size W w' from fun W => hears_c ⟨2, ⟨d1, d2, d3, d4, d5⟩, ⟨f1, f2, f3, f4, f5⟩⟩ ⟨2, ⟨d1, d2, d3, d4, d5⟩, ⟨f1, f2, f3, f4, f5⟩⟩ ⟨ix + 1#32, true, 1000⟩ ⟨ix + 1#32, true, 1000⟩ W (by exact mem0 _ _) (rx_tx ⟨ix + 1#32, true, 1000⟩))
  clear r1 r2 hk1 hd1 hd2
  have q0 : ((W64 first : Int) == W64 second) = false := by rw [W64_beq]; simpa using h0
  have q1 : ((W32 ix : Int) == 0) = false := by have this : (W32 ix == W32 0#32) = false := (by rw [W32_beq]; simpa using h1); exact this
  have q2 : ((W32 ix : Int) == 4294967295) = false := by have this : (W32 ix == W32 4294967295#32) = false := (by rw [W32_beq]; simpa using h2); exact this
  clear h0 h1 h2
  go_enter Try.func8, Try.ntmps8
  go_wp2_with (first | (with_reducible refine stop_store ?_) | (with_reducible refine stop_box ?_) | (with_reducible refine stop_alloc ?_) | (with_reducible refine stop_bslice ?_))
  refine (CD.out _).mono ?_; rintro e w_1 ⟨rfl, hb_2⟩
  have hB := hb_2
  clear hb_2
  go_wp2_with (first | (with_reducible refine stop_store ?_) | (with_reducible refine stop_box ?_) | (with_reducible refine stop_alloc ?_) | (with_reducible refine stop_bslice ?_))
  unfold Kept
  refine go_mem (ty := 27) (cs := #[.int .i64 0, .int .u64 0, .int .i64 0, .int .u64 0, .int .u64 0, .int .u64 0, .int .u64 0, .int .i64 0, .int .u64 0, .int .u64 0, .int .u64 0]) (fun g => .pointer (some ⟨g, 0, none⟩)) rfl (by kernel_rfl) ?_
  intro g_3 w_4 z_8 l_7 hb_5 G_6
  have n_9 : w.heap.size ≤ g_3 := Nat.le_trans hB.size l_7
  replace hB := hB.trans (hb_5.mono hB.size)
  clear hb_5 l_7 z_8
  go_wp2_with (first | (with_reducible refine stop_store ?_) | (with_reducible refine stop_box ?_) | (with_reducible refine stop_alloc ?_) | (with_reducible refine stop_bslice ?_))
  unfold Kept
  refine wpList_st 0 #[.int .i64 0, .int .u64 (W64 d1), .int .i64 d2, .int .u64 (W64 d3), .int .u64 (W64 d4), .int .u64 (W64 d5), .int .u64 0, .int .i64 0, .int .u64 0, .int .u64 0, .int .u64 0] #[.int .i64 0, .int .u64 (W64 d1), .int .i64 d2, .int .u64 (W64 d3), .int .u64 (W64 d4), .int .u64 (W64 d5), .int .u64 0, .int .i64 0, .int .u64 0, .int .u64 0, .int .u64 0] G_6 rfl rfl (by kernel_rfl) rfl (of_decide_eq_true rfl) rfl ?_
  intro w_10 G_12 hU_11
  replace hB := hU_11.below hB (by omega)
  clear G_6 hU_11
  go_wp2_with (first | (with_reducible refine stop_store ?_) | (with_reducible refine stop_box ?_) | (with_reducible refine stop_alloc ?_) | (with_reducible refine stop_bslice ?_) | ((with_reducible refine wpList_ld 0 [.int .i64 0, .int .u64 (W64 d1), .int .i64 d2, .int .u64 (W64 d3), .int .u64 (W64 d4), .int .u64 (W64 d5), .int .u64 0, .int .i64 0, .int .u64 0, .int .u64 0, .int .u64 0] G_12 ?_ ?_ Try.underlying27 ?_ ?_ ?_); rfl; rfl; rfl; kernel_rfl) | ((with_reducible refine wpList_ldg 0 [.int .i64 0, .int .u64 (W64 d1), .int .i64 d2, .int .u64 (W64 d3), .int .u64 (W64 d4), .int .u64 (W64 d5), .int .u64 0, .int .i64 0, .int .u64 0, .int .u64 0, .int .u64 0] G_12 ?_ ?_ Try.underlying27 ?_ ?_ ?_ ?_); rfl; rfl; rfl; kernel_rfl; rfl))
  refine (CN.out _).mono ?_; rintro e w_14 ⟨rfl, hb_15⟩
  replace G_12 := G_12.to hb_15 G_12.lt
  replace hB := hB.trans (hb_15.mono hB.size)
  clear hb_15
  go_wp2_with (first | (with_reducible refine stop_store ?_) | (with_reducible refine stop_box ?_) | (with_reducible refine stop_alloc ?_) | (with_reducible refine stop_bslice ?_))
  unfold Kept
  refine wpList_st 0 #[.int .i64 1, .int .u64 (W64 d1), .int .i64 d2, .int .u64 (W64 d3), .int .u64 (W64 d4), .int .u64 (W64 d5), .int .u64 (W64 f1), .int .i64 f2, .int .u64 (W64 f3), .int .u64 (W64 f4), .int .u64 (W64 f5)] #[.int .i64 1, .int .u64 (W64 d1), .int .i64 d2, .int .u64 (W64 d3), .int .u64 (W64 d4), .int .u64 (W64 d5), .int .u64 (W64 f1), .int .i64 f2, .int .u64 (W64 f3), .int .u64 (W64 f4), .int .u64 (W64 f5)] G_12 rfl rfl (by kernel_rfl) rfl (of_decide_eq_true rfl) rfl ?_
  intro w_16 G_18 hU_17
  replace hB := hU_17.below hB (by omega)
  clear G_12 hU_17
  go_wp2_with (first | (with_reducible refine stop_store ?_) | (with_reducible refine stop_box ?_) | (with_reducible refine stop_alloc ?_) | (with_reducible refine stop_bslice ?_) | ((with_reducible refine wpList_ld 0 [.int .i64 1, .int .u64 (W64 d1), .int .i64 d2, .int .u64 (W64 d3), .int .u64 (W64 d4), .int .u64 (W64 d5), .int .u64 (W64 f1), .int .i64 f2, .int .u64 (W64 f3), .int .u64 (W64 f4), .int .u64 (W64 f5)] G_18 ?_ ?_ Try.underlying27 ?_ ?_ ?_); rfl; rfl; rfl; kernel_rfl) | ((with_reducible refine wpList_ldg 0 [.int .i64 1, .int .u64 (W64 d1), .int .i64 d2, .int .u64 (W64 d3), .int .u64 (W64 d4), .int .u64 (W64 d5), .int .u64 (W64 f1), .int .i64 f2, .int .u64 (W64 f3), .int .u64 (W64 f4), .int .u64 (W64 f5)] G_18 ?_ ?_ Try.underlying27 ?_ ?_ ?_ ?_); rfl; rfl; rfl; kernel_rfl; rfl))
  unfold Kept
  refine go_mem (ty := 27) (cs := #[.int .i64 0, .int .u64 0, .int .i64 0, .int .u64 0, .int .u64 0, .int .u64 0, .int .u64 0, .int .i64 0, .int .u64 0, .int .u64 0, .int .u64 0]) (fun g => .pointer (some ⟨g, 0, none⟩)) rfl (by kernel_rfl) ?_
  intro g_20 w_21 z_25 l_24 hb_22 G_23
  have n_26 : g_3 < g_20 := Nat.lt_of_lt_of_le G_18.lt l_24
  have n_27 : w.heap.size ≤ g_20 := Nat.le_trans hB.size l_24
  replace G_18 := G_18.to hb_22 G_18.lt
  replace hB := hB.trans (hb_22.mono hB.size)
  clear hb_22 l_24 z_25
  go_wp2_with (first | (with_reducible refine stop_store ?_) | (with_reducible refine stop_box ?_) | (with_reducible refine stop_alloc ?_) | (with_reducible refine stop_bslice ?_))
  unfold Kept
  refine wpList_st 0 #[.int .i64 1, .int .u64 (W64 d1), .int .i64 d2, .int .u64 (W64 d3), .int .u64 (W64 d4), .int .u64 (W64 d5), .int .u64 (W64 f1), .int .i64 f2, .int .u64 (W64 f3), .int .u64 (W64 f4), .int .u64 (W64 f5)] #[.int .i64 1, .int .u64 (W64 d1), .int .i64 d2, .int .u64 (W64 d3), .int .u64 (W64 d4), .int .u64 (W64 d5), .int .u64 (W64 f1), .int .i64 f2, .int .u64 (W64 f3), .int .u64 (W64 f4), .int .u64 (W64 f5)] G_23 rfl rfl (by kernel_rfl) rfl (of_decide_eq_true rfl) rfl ?_
  intro w_28 G_30 hU_29
  replace G_18 := hU_29.blk G_18 (by omega)
  replace hB := hU_29.below hB (by omega)
  clear G_23 hU_29
  go_wp2_with (first | (with_reducible refine stop_store ?_) | (with_reducible refine stop_box ?_) | (with_reducible refine stop_alloc ?_) | (with_reducible refine stop_bslice ?_) | ((with_reducible refine wpList_ld 0 [.int .i64 1, .int .u64 (W64 d1), .int .i64 d2, .int .u64 (W64 d3), .int .u64 (W64 d4), .int .u64 (W64 d5), .int .u64 (W64 f1), .int .i64 f2, .int .u64 (W64 f3), .int .u64 (W64 f4), .int .u64 (W64 f5)] G_18 ?_ ?_ Try.underlying27 ?_ ?_ ?_); rfl; rfl; rfl; kernel_rfl) | ((with_reducible refine wpList_ldg 0 [.int .i64 1, .int .u64 (W64 d1), .int .i64 d2, .int .u64 (W64 d3), .int .u64 (W64 d4), .int .u64 (W64 d5), .int .u64 (W64 f1), .int .i64 f2, .int .u64 (W64 f3), .int .u64 (W64 f4), .int .u64 (W64 f5)] G_18 ?_ ?_ Try.underlying27 ?_ ?_ ?_ ?_); rfl; rfl; rfl; kernel_rfl; rfl))
  refine (CP2.out _).mono ?_; rintro e w_32 ⟨rfl, hb_33⟩
  replace G_18 := G_18.to hb_33 G_18.lt
  replace G_30 := G_30.to hb_33 G_30.lt
  replace hB := hB.trans (hb_33.mono hB.size)
  clear hb_33
  go_wp2_with (first | (with_reducible refine stop_store ?_) | (with_reducible refine stop_box ?_) | (with_reducible refine stop_alloc ?_) | (with_reducible refine stop_bslice ?_))
  unfold Kept
  refine wpList_st 0 #[.int .i64 2, .int .u64 (W64 d1), .int .i64 d2, .int .u64 (W64 d3), .int .u64 (W64 d4), .int .u64 (W64 d5), .int .u64 (W64 f1), .int .i64 f2, .int .u64 (W64 f3), .int .u64 (W64 f4), .int .u64 (W64 f5)] #[.int .i64 2, .int .u64 (W64 d1), .int .i64 d2, .int .u64 (W64 d3), .int .u64 (W64 d4), .int .u64 (W64 d5), .int .u64 (W64 f1), .int .i64 f2, .int .u64 (W64 f3), .int .u64 (W64 f4), .int .u64 (W64 f5)] G_30 rfl rfl (by kernel_rfl) rfl (of_decide_eq_true rfl) rfl ?_
  intro w_34 G_36 hU_35
  replace G_18 := hU_35.blk G_18 (by omega)
  replace hB := hU_35.below hB (by omega)
  clear G_30 hU_35
  go_wp2_with (first | (with_reducible refine stop_store ?_) | (with_reducible refine stop_box ?_) | (with_reducible refine stop_alloc ?_) | (with_reducible refine stop_bslice ?_))
  unfold Kept
  refine go_mem (ty := 59) (cs := #[.int .u32 0, .bool false, .int .i64 0]) (fun g => .pointer (some ⟨g, 0, none⟩)) rfl (by kernel_rfl) ?_
  intro g_37 w_38 z_42 l_41 hb_39 G_40
  have n_43 : g_20 < g_37 := Nat.lt_of_lt_of_le G_36.lt l_41
  have n_44 : w.heap.size ≤ g_37 := Nat.le_trans hB.size l_41
  replace G_18 := G_18.to hb_39 G_18.lt
  replace G_36 := G_36.to hb_39 G_36.lt
  replace hB := hB.trans (hb_39.mono hB.size)
  clear hb_39 l_41 z_42
  go_wp2_with (first | (with_reducible refine stop_store ?_) | (with_reducible refine stop_box ?_) | (with_reducible refine stop_alloc ?_) | (with_reducible refine stop_bslice ?_))
  unfold Kept
  refine wpList_st 0 #[.int .u32 (W32 ix), .bool false, .int .i64 0] #[.int .u32 (W32 ix), .bool false, .int .i64 0] G_40 rfl rfl (by kernel_rfl) rfl (of_decide_eq_true rfl) rfl ?_
  intro w_45 G_47 hU_46
  replace G_18 := hU_46.blk G_18 (by omega)
  replace G_36 := hU_46.blk G_36 (by omega)
  replace hB := hU_46.below hB (by omega)
  clear G_40 hU_46
  go_wp2_with (first | (with_reducible refine stop_store ?_) | (with_reducible refine stop_box ?_) | (with_reducible refine stop_alloc ?_) | (with_reducible refine stop_bslice ?_) | ((with_reducible refine wpList_ld 0 [.int .u32 (W32 ix), .bool false, .int .i64 0] G_47 ?_ ?_ Try.underlying59 ?_ ?_ ?_); rfl; rfl; rfl; kernel_rfl) | ((with_reducible refine wpList_ldg 0 [.int .u32 (W32 ix), .bool false, .int .i64 0] G_47 ?_ ?_ Try.underlying59 ?_ ?_ ?_ ?_); rfl; rfl; rfl; kernel_rfl; rfl))
  refine (CB.out _).mono ?_; rintro e w_49 ⟨rfl, hb_50⟩
  replace G_18 := G_18.to hb_50 G_18.lt
  replace G_36 := G_36.to hb_50 G_36.lt
  replace G_47 := G_47.to hb_50 G_47.lt
  replace hB := hB.trans (hb_50.mono hB.size)
  clear hb_50
  go_wp2_with (first | (with_reducible refine stop_store ?_) | (with_reducible refine stop_box ?_) | (with_reducible refine stop_alloc ?_) | (with_reducible refine stop_bslice ?_))
  unfold Kept
  refine go_mem (ty := 59) (cs := #[.int .u32 0, .bool false, .int .i64 0]) (fun g => .pointer (some ⟨g, 0, none⟩)) rfl (by kernel_rfl) ?_
  intro g_51 w_52 z_56 l_55 hb_53 G_54
  have n_57 : g_37 < g_51 := Nat.lt_of_lt_of_le G_47.lt l_55
  have n_58 : w.heap.size ≤ g_51 := Nat.le_trans hB.size l_55
  replace G_18 := G_18.to hb_53 G_18.lt
  replace G_36 := G_36.to hb_53 G_36.lt
  replace G_47 := G_47.to hb_53 G_47.lt
  replace hB := hB.trans (hb_53.mono hB.size)
  clear hb_53 l_55 z_56
  go_wp2_with (first | (with_reducible refine stop_store ?_) | (with_reducible refine stop_box ?_) | (with_reducible refine stop_alloc ?_) | (with_reducible refine stop_bslice ?_))
  unfold Kept
  refine wpList_st 0 #[.int .u32 (W32 (ix + 1#32)), .bool true, .int .i64 1000] #[.int .u32 (W32 (ix + 1#32)), .bool true, .int .i64 1000] G_54 rfl rfl (by kernel_rfl) rfl (of_decide_eq_true rfl) rfl ?_
  intro w_59 G_61 hU_60
  replace G_18 := hU_60.blk G_18 (by omega)
  replace G_36 := hU_60.blk G_36 (by omega)
  replace G_47 := hU_60.blk G_47 (by omega)
  replace hB := hU_60.below hB (by omega)
  clear G_54 hU_60
  go_wp2_with (first | (with_reducible refine stop_store ?_) | (with_reducible refine stop_box ?_) | (with_reducible refine stop_alloc ?_) | (with_reducible refine stop_bslice ?_))
  refine (lives52 _).mono ?_; rintro e w_62 ⟨rfl, hb_63⟩
  replace G_18 := G_18.to hb_63 G_18.lt
  replace G_36 := G_36.to hb_63 G_36.lt
  replace G_47 := G_47.to hb_63 G_47.lt
  replace G_61 := G_61.to hb_63 G_61.lt
  replace hB := hB.trans (hb_63.mono hB.size)
  clear hb_63
  go_wp2_with (first | (with_reducible refine stop_store ?_) | (with_reducible refine stop_box ?_) | (with_reducible refine stop_alloc ?_) | (with_reducible refine stop_bslice ?_) | ((with_reducible refine wpList_ld 0 [.int .i64 1, .int .u64 (W64 d1), .int .i64 d2, .int .u64 (W64 d3), .int .u64 (W64 d4), .int .u64 (W64 d5), .int .u64 (W64 f1), .int .i64 f2, .int .u64 (W64 f3), .int .u64 (W64 f4), .int .u64 (W64 f5)] G_18 ?_ ?_ Try.underlying27 ?_ ?_ ?_); rfl; rfl; rfl; kernel_rfl) | ((with_reducible refine wpList_ldg 0 [.int .i64 1, .int .u64 (W64 d1), .int .i64 d2, .int .u64 (W64 d3), .int .u64 (W64 d4), .int .u64 (W64 d5), .int .u64 (W64 f1), .int .i64 f2, .int .u64 (W64 f3), .int .u64 (W64 f4), .int .u64 (W64 f5)] G_18 ?_ ?_ Try.underlying27 ?_ ?_ ?_ ?_); rfl; rfl; rfl; kernel_rfl; rfl) | ((with_reducible refine wpList_ld 0 [.int .i64 2, .int .u64 (W64 d1), .int .i64 d2, .int .u64 (W64 d3), .int .u64 (W64 d4), .int .u64 (W64 d5), .int .u64 (W64 f1), .int .i64 f2, .int .u64 (W64 f3), .int .u64 (W64 f4), .int .u64 (W64 f5)] G_36 ?_ ?_ Try.underlying27 ?_ ?_ ?_); rfl; rfl; rfl; kernel_rfl) | ((with_reducible refine wpList_ldg 0 [.int .i64 2, .int .u64 (W64 d1), .int .i64 d2, .int .u64 (W64 d3), .int .u64 (W64 d4), .int .u64 (W64 d5), .int .u64 (W64 f1), .int .i64 f2, .int .u64 (W64 f3), .int .u64 (W64 f4), .int .u64 (W64 f5)] G_36 ?_ ?_ Try.underlying27 ?_ ?_ ?_ ?_); rfl; rfl; rfl; kernel_rfl; rfl) | ((with_reducible refine wpList_ld 0 [.int .u32 (W32 ix), .bool false, .int .i64 0] G_47 ?_ ?_ Try.underlying59 ?_ ?_ ?_); rfl; rfl; rfl; kernel_rfl) | ((with_reducible refine wpList_ldg 0 [.int .u32 (W32 ix), .bool false, .int .i64 0] G_47 ?_ ?_ Try.underlying59 ?_ ?_ ?_ ?_); rfl; rfl; rfl; kernel_rfl; rfl) | ((with_reducible refine wpList_ld 0 [.int .u32 (W32 (ix + 1#32)), .bool true, .int .i64 1000] G_61 ?_ ?_ Try.underlying59 ?_ ?_ ?_); rfl; rfl; rfl; kernel_rfl) | ((with_reducible refine wpList_ldg 0 [.int .u32 (W32 (ix + 1#32)), .bool true, .int .i64 1000] G_61 ?_ ?_ Try.underlying59 ?_ ?_ ?_ ?_); rfl; rfl; rfl; kernel_rfl; rfl))
  refine (H1.out _).mono ?_; rintro e w_68 ⟨rfl, hb_69⟩
  replace G_18 := G_18.to hb_69 G_18.lt
  replace G_36 := G_36.to hb_69 G_36.lt
  replace G_47 := G_47.to hb_69 G_47.lt
  replace G_61 := G_61.to hb_69 G_61.lt
  replace hB := hB.trans (hb_69.mono hB.size)
  clear hb_69
  go_wp2_with (first | (with_reducible refine stop_store ?_) | (with_reducible refine stop_box ?_) | (with_reducible refine stop_alloc ?_) | (with_reducible refine stop_bslice ?_) | ((with_reducible refine wpList_ld 0 [.int .i64 2, .int .u64 (W64 d1), .int .i64 d2, .int .u64 (W64 d3), .int .u64 (W64 d4), .int .u64 (W64 d5), .int .u64 (W64 f1), .int .i64 f2, .int .u64 (W64 f3), .int .u64 (W64 f4), .int .u64 (W64 f5)] G_36 ?_ ?_ Try.underlying27 ?_ ?_ ?_); rfl; rfl; rfl; kernel_rfl) | ((with_reducible refine wpList_ldg 0 [.int .i64 2, .int .u64 (W64 d1), .int .i64 d2, .int .u64 (W64 d3), .int .u64 (W64 d4), .int .u64 (W64 d5), .int .u64 (W64 f1), .int .i64 f2, .int .u64 (W64 f3), .int .u64 (W64 f4), .int .u64 (W64 f5)] G_36 ?_ ?_ Try.underlying27 ?_ ?_ ?_ ?_); rfl; rfl; rfl; kernel_rfl; rfl) | ((with_reducible refine wpList_ld 0 [.int .i64 1, .int .u64 (W64 d1), .int .i64 d2, .int .u64 (W64 d3), .int .u64 (W64 d4), .int .u64 (W64 d5), .int .u64 (W64 f1), .int .i64 f2, .int .u64 (W64 f3), .int .u64 (W64 f4), .int .u64 (W64 f5)] G_18 ?_ ?_ Try.underlying27 ?_ ?_ ?_); rfl; rfl; rfl; kernel_rfl) | ((with_reducible refine wpList_ldg 0 [.int .i64 1, .int .u64 (W64 d1), .int .i64 d2, .int .u64 (W64 d3), .int .u64 (W64 d4), .int .u64 (W64 d5), .int .u64 (W64 f1), .int .i64 f2, .int .u64 (W64 f3), .int .u64 (W64 f4), .int .u64 (W64 f5)] G_18 ?_ ?_ Try.underlying27 ?_ ?_ ?_ ?_); rfl; rfl; rfl; kernel_rfl; rfl) | ((with_reducible refine wpList_ld 0 [.int .u32 (W32 (ix + 1#32)), .bool true, .int .i64 1000] G_61 ?_ ?_ Try.underlying59 ?_ ?_ ?_); rfl; rfl; rfl; kernel_rfl) | ((with_reducible refine wpList_ldg 0 [.int .u32 (W32 (ix + 1#32)), .bool true, .int .i64 1000] G_61 ?_ ?_ Try.underlying59 ?_ ?_ ?_ ?_); rfl; rfl; rfl; kernel_rfl; rfl) | ((with_reducible refine wpList_ld 0 [.int .u32 (W32 ix), .bool false, .int .i64 0] G_47 ?_ ?_ Try.underlying59 ?_ ?_ ?_); rfl; rfl; rfl; kernel_rfl) | ((with_reducible refine wpList_ldg 0 [.int .u32 (W32 ix), .bool false, .int .i64 0] G_47 ?_ ?_ Try.underlying59 ?_ ?_ ?_ ?_); rfl; rfl; rfl; kernel_rfl; rfl))
  refine (H2.out _).mono ?_; rintro e w_74 ⟨rfl, hb_75⟩
  replace G_18 := G_18.to hb_75 G_18.lt
  replace G_36 := G_36.to hb_75 G_36.lt
  replace G_47 := G_47.to hb_75 G_47.lt
  replace G_61 := G_61.to hb_75 G_61.lt
  replace hB := hB.trans (hb_75.mono hB.size)
  clear hb_75
  go_wp2_with (first | (with_reducible refine stop_store ?_) | (with_reducible refine stop_box ?_) | (with_reducible refine stop_alloc ?_) | (with_reducible refine stop_bslice ?_) | ((with_reducible refine wpList_ld 0 [.int .i64 1, .int .u64 (W64 d1), .int .i64 d2, .int .u64 (W64 d3), .int .u64 (W64 d4), .int .u64 (W64 d5), .int .u64 (W64 f1), .int .i64 f2, .int .u64 (W64 f3), .int .u64 (W64 f4), .int .u64 (W64 f5)] G_18 ?_ ?_ Try.underlying27 ?_ ?_ ?_); rfl; rfl; rfl; kernel_rfl) | ((with_reducible refine wpList_ldg 0 [.int .i64 1, .int .u64 (W64 d1), .int .i64 d2, .int .u64 (W64 d3), .int .u64 (W64 d4), .int .u64 (W64 d5), .int .u64 (W64 f1), .int .i64 f2, .int .u64 (W64 f3), .int .u64 (W64 f4), .int .u64 (W64 f5)] G_18 ?_ ?_ Try.underlying27 ?_ ?_ ?_ ?_); rfl; rfl; rfl; kernel_rfl; rfl) | ((with_reducible refine wpList_ld 0 [.int .u32 (W32 ix), .bool false, .int .i64 0] G_47 ?_ ?_ Try.underlying59 ?_ ?_ ?_); rfl; rfl; rfl; kernel_rfl) | ((with_reducible refine wpList_ldg 0 [.int .u32 (W32 ix), .bool false, .int .i64 0] G_47 ?_ ?_ Try.underlying59 ?_ ?_ ?_ ?_); rfl; rfl; rfl; kernel_rfl; rfl))
  refine (H3.out _).mono ?_; rintro e w_78 ⟨rfl, hb_79⟩
  replace G_18 := G_18.to hb_79 G_18.lt
  replace G_36 := G_36.to hb_79 G_36.lt
  replace G_47 := G_47.to hb_79 G_47.lt
  replace G_61 := G_61.to hb_79 G_61.lt
  replace hB := hB.trans (hb_79.mono hB.size)
  clear hb_79
  go_wp2_with (first | (with_reducible refine stop_store ?_) | (with_reducible refine stop_box ?_) | (with_reducible refine stop_alloc ?_) | (with_reducible refine stop_bslice ?_) | ((with_reducible refine wpList_ld 0 [.int .i64 2, .int .u64 (W64 d1), .int .i64 d2, .int .u64 (W64 d3), .int .u64 (W64 d4), .int .u64 (W64 d5), .int .u64 (W64 f1), .int .i64 f2, .int .u64 (W64 f3), .int .u64 (W64 f4), .int .u64 (W64 f5)] G_36 ?_ ?_ Try.underlying27 ?_ ?_ ?_); rfl; rfl; rfl; kernel_rfl) | ((with_reducible refine wpList_ldg 0 [.int .i64 2, .int .u64 (W64 d1), .int .i64 d2, .int .u64 (W64 d3), .int .u64 (W64 d4), .int .u64 (W64 d5), .int .u64 (W64 f1), .int .i64 f2, .int .u64 (W64 f3), .int .u64 (W64 f4), .int .u64 (W64 f5)] G_36 ?_ ?_ Try.underlying27 ?_ ?_ ?_ ?_); rfl; rfl; rfl; kernel_rfl; rfl) | ((with_reducible refine wpList_ld 0 [.int .u32 (W32 (ix + 1#32)), .bool true, .int .i64 1000] G_61 ?_ ?_ Try.underlying59 ?_ ?_ ?_); rfl; rfl; rfl; kernel_rfl) | ((with_reducible refine wpList_ldg 0 [.int .u32 (W32 (ix + 1#32)), .bool true, .int .i64 1000] G_61 ?_ ?_ Try.underlying59 ?_ ?_ ?_ ?_); rfl; rfl; rfl; kernel_rfl; rfl))
  refine (H4.out _).mono ?_; rintro e w_82 ⟨rfl, hb_83⟩
  replace G_18 := G_18.to hb_83 G_18.lt
  replace G_36 := G_36.to hb_83 G_36.lt
  replace G_47 := G_47.to hb_83 G_47.lt
  replace G_61 := G_61.to hb_83 G_61.lt
  replace hB := hB.trans (hb_83.mono hB.size)
  clear hb_83
  go_wp2_with (first | (with_reducible refine stop_store ?_) | (with_reducible refine stop_box ?_) | (with_reducible refine stop_alloc ?_) | (with_reducible refine stop_bslice ?_))
  go_returns
  exact ⟨rfl, hB⟩
set_option maxHeartbeats 4000000 in
theorem under_1_true (first second : BitVec 64) (ix : BitVec 32) (w : World) (h0 : first ≠ second) (h1 : ix ≠ 0#32) (h2 : ix ≠ 4294967295#32) :
    Calls Try.prog 8 #[.int .u64 (W64 first), .int .u64 (W64 second), .int .i64 1, .int .u32 (W32 ix), .bool true] w fun e w' => e = .returned (.bool true) ∧ Below w.heap.size w w' := by
  have hk1 : newKeyK ⟨0, nkD first, nk0⟩ second = (⟨1, nkD first, nkD second⟩, 0) := by unfold newKeyK; rw [if_neg (by simp), if_neg (by simp), if_neg (fun h => h0 (by rw [h]; rfl))]
  obtain ⟨⟨d1, d2, d3, d4, d5⟩, hd1⟩ : ∃ z, nkD first = z := ⟨_, rfl⟩
  obtain ⟨⟨f1, f2, f3, f4, f5⟩, hd2⟩ : ∃ z, nkD second = z := ⟨_, rfl⟩
  rw [hd1, hd2] at hk1
  have CD := Lib.hid (show ∀ W, Calls Try.prog 46 #[.int .u64 (W64 first)] W fun e w' => e = .returned (.agg #[.int .u64 (W64 d1), .int .i64 d2, .int .u64 (W64 d3), .int .u64 (W64 d4), .int .u64 (W64 d5)]) ∧ Below W.heap.size W w' from fun W => by
    have := mesh_Derive first W
    have hh : nkA (nkD first) = #[.int .u64 (W64 d1), .int .i64 d2, .int .u64 (W64 d3), .int .u64 (W64 d4), .int .u64 (W64 d5)] := by rw [hd1]; rfl
    unfold nkA nkD at hh
    dsimp only at hh
    rw [hh] at this
    exact this)
  have CN := Lib.hid (show ∀ W, Calls Try.prog 15 #[.agg #[.int .i64 0, .int .u64 (W64 d1), .int .i64 d2, .int .u64 (W64 d3), .int .u64 (W64 d4), .int .u64 (W64 d5), .int .u64 0, .int .i64 0, .int .u64 0, .int .u64 0, .int .u64 0], .int .u64 (W64 second)] W fun e w' => e = .returned (.tuple #[.agg #[.int .i64 1, .int .u64 (W64 d1), .int .i64 d2, .int .u64 (W64 d3), .int .u64 (W64 d4), .int .u64 (W64 d5), .int .u64 (W64 f1), .int .i64 f2, .int .u64 (W64 f3), .int .u64 (W64 f4), .int .u64 (W64 f5)], .int .i64 0]) ∧ Below W.heap.size W w' from fun W => by have := rf_NewKey ⟨0, ⟨d1, d2, d3, d4, d5⟩, nk0⟩ second W; rw [hk1] at this; exact this)
  have CP2 := Lib.hid (show ∀ W, Calls Try.prog 17 #[.agg #[.int .i64 1, .int .u64 (W64 d1), .int .i64 d2, .int .u64 (W64 d3), .int .u64 (W64 d4), .int .u64 (W64 d5), .int .u64 (W64 f1), .int .i64 f2, .int .u64 (W64 f3), .int .u64 (W64 f4), .int .u64 (W64 f5)], .int .i64 2] W fun e w' => e = .returned (.tuple #[.agg #[.int .i64 2, .int .u64 (W64 d1), .int .i64 d2, .int .u64 (W64 d3), .int .u64 (W64 d4), .int .u64 (W64 d5), .int .u64 (W64 f1), .int .i64 f2, .int .u64 (W64 f3), .int .u64 (W64 f4), .int .u64 (W64 f5)], .bool true]) ∧ Below W.heap.size W w' from fun W => rf_Phase ⟨1, ⟨d1, d2, d3, d4, d5⟩, ⟨f1, f2, f3, f4, f5⟩⟩ 2 W)
  have CP3 := Lib.hid (show ∀ W, Calls Try.prog 17 #[.agg #[.int .i64 2, .int .u64 (W64 d1), .int .i64 d2, .int .u64 (W64 d3), .int .u64 (W64 d4), .int .u64 (W64 d5), .int .u64 (W64 f1), .int .i64 f2, .int .u64 (W64 f3), .int .u64 (W64 f4), .int .u64 (W64 f5)], .int .i64 3] W fun e w' => e = .returned (.tuple #[.agg #[.int .i64 0, .int .u64 (W64 f1), .int .i64 f2, .int .u64 (W64 f3), .int .u64 (W64 f4), .int .u64 (W64 f5), .int .u64 0, .int .i64 0, .int .u64 0, .int .u64 0, .int .u64 0], .bool true]) ∧ Below W.heap.size W w' from fun W => rf_Phase ⟨2, ⟨d1, d2, d3, d4, d5⟩, ⟨f1, f2, f3, f4, f5⟩⟩ 3 W)
  have CB := Lib.hid (show ∀ W, Calls Try.prog 38 #[.agg #[.int .u32 (W32 ix), .bool true, .int .i64 0], .int .i64 1000] W fun e w' => e = .returned (.tuple #[.agg #[.int .u32 (W32 ix), .bool true, .int .i64 0], .int .i64 9]) ∧ Below W.heap.size W w' from fun W => rf_Begin ⟨ix, true, 0⟩ 1000 W (show (0 : Int) ≤ 0 ∧ (0 : Int) ≤ 1099511627776 from by decide) (by decide))
  have CE := Lib.hid (show ∀ W, Calls Try.prog 40 #[.agg #[.int .u32 (W32 ix), .bool true, .int .i64 0], .int .i64 1000] W fun e w' => e = .returned (.tuple #[.agg #[.int .u32 (W32 ix), .bool false, .int .i64 1000], .int .i64 0]) ∧ Below W.heap.size W w' from fun W => rf_End ⟨ix, true, 0⟩ 1000 W (show (0 : Int) ≤ 0 ∧ (0 : Int) ≤ 1099511627776 from by decide) (by decide))
  have htv : txK ⟨ix, true, 0⟩ = ix - 1#32 := by unfold txK; rw [if_pos ⟨rfl, h1⟩]
  have htu : txK ⟨ix, false, 1000⟩ = ix := by unfold txK; rw [if_neg (by simp)]
  have r1 : rxK ⟨ix, true, 0⟩ (W32 (txK ⟨ix, false, 1000⟩ % 2#32)) = (txK ⟨ix, false, 1000⟩, true) := rx_of _ _ (.inl htu)
  have r2 : rxK ⟨ix, false, 1000⟩ (W32 (txK ⟨ix, true, 0⟩ % 2#32)) = (txK ⟨ix, true, 0⟩, true) := rx_of _ _ (.inr ⟨h1, htv⟩)
  clear htv htu
  have H1 := Lib.hid (show ∀ W, Calls Try.prog 47 #[.agg #[.int .i64 1, .int .u64 (W64 d1), .int .i64 d2, .int .u64 (W64 d3), .int .u64 (W64 d4), .int .u64 (W64 d5), .int .u64 (W64 f1), .int .i64 f2, .int .u64 (W64 f3), .int .u64 (W64 f4), .int .u64 (W64 f5)], .agg #[.int .i64 2, .int .u64 (W64 d1), .int .i64 d2, .int .u64 (W64 d3), .int .u64 (W64 d4), .int .u64 (W64 d5), .int .u64 (W64 f1), .int .i64 f2, .int .u64 (W64 f3), .int .u64 (W64 f4), .int .u64 (W64 f5)], .agg #[.int .u32 (W32 ix), .bool true, .int .i64 0], .agg #[.int .u32 (W32 ix), .bool false, .int .i64 1000]] W fun e w' => e = .returned (.bool true) ∧ Below W.heap.size W w' from fun W => hears_c ⟨1, ⟨d1, d2, d3, d4, d5⟩, ⟨f1, f2, f3, f4, f5⟩⟩ ⟨2, ⟨d1, d2, d3, d4, d5⟩, ⟨f1, f2, f3, f4, f5⟩⟩ ⟨ix, true, 0⟩ ⟨ix, false, 1000⟩ W (by exact mem1 _ _ _) r1)
  have H2 := Lib.hid (show ∀ W, Calls Try.prog 47 #[.agg #[.int .i64 2, .int .u64 (W64 d1), .int .i64 d2, .int .u64 (W64 d3), .int .u64 (W64 d4), .int .u64 (W64 d5), .int .u64 (W64 f1), .int .i64 f2, .int .u64 (W64 f3), .int .u64 (W64 f4), .int .u64 (W64 f5)], .agg #[.int .i64 1, .int .u64 (W64 d1), .int .i64 d2, .int .u64 (W64 d3), .int .u64 (W64 d4), .int .u64 (W64 d5), .int .u64 (W64 f1), .int .i64 f2, .int .u64 (W64 f3), .int .u64 (W64 f4), .int .u64 (W64 f5)], .agg #[.int .u32 (W32 ix), .bool false, .int .i64 1000], .agg #[.int .u32 (W32 ix), .bool true, .int .i64 0]] W fun e w' => e = .returned (.bool true) ∧ Below W.heap.size W w' from fun W => hears_c ⟨2, ⟨d1, d2, d3, d4, d5⟩, ⟨f1, f2, f3, f4, f5⟩⟩ ⟨1, ⟨d1, d2, d3, d4, d5⟩, ⟨f1, f2, f3, f4, f5⟩⟩ ⟨ix, false, 1000⟩ ⟨ix, true, 0⟩ W (by exact mem1 _ _ _) r2)
  have H3 := Lib.hid (show ∀ W, Calls Try.prog 47 #[.agg #[.int .i64 1, .int .u64 (W64 d1), .int .i64 d2, .int .u64 (W64 d3), .int .u64 (W64 d4), .int .u64 (W64 d5), .int .u64 (W64 f1), .int .i64 f2, .int .u64 (W64 f3), .int .u64 (W64 f4), .int .u64 (W64 f5)], .agg #[.int .i64 1, .int .u64 (W64 d1), .int .i64 d2, .int .u64 (W64 d3), .int .u64 (W64 d4), .int .u64 (W64 d5), .int .u64 (W64 f1), .int .i64 f2, .int .u64 (W64 f3), .int .u64 (W64 f4), .int .u64 (W64 f5)], .agg #[.int .u32 (W32 ix), .bool true, .int .i64 0], .agg #[.int .u32 (W32 ix), .bool true, .int .i64 0]] W fun e w' => e = .returned (.bool true) ∧ Below W.heap.size W w' from fun W => hears_c ⟨1, ⟨d1, d2, d3, d4, d5⟩, ⟨f1, f2, f3, f4, f5⟩⟩ ⟨1, ⟨d1, d2, d3, d4, d5⟩, ⟨f1, f2, f3, f4, f5⟩⟩ ⟨ix, true, 0⟩ ⟨ix, true, 0⟩ W (by exact mem0 _ _) (rx_tx ⟨ix, true, 0⟩))
  have H4 := Lib.hid (show ∀ W, Calls Try.prog 47 #[.agg #[.int .i64 2, .int .u64 (W64 d1), .int .i64 d2, .int .u64 (W64 d3), .int .u64 (W64 d4), .int .u64 (W64 d5), .int .u64 (W64 f1), .int .i64 f2, .int .u64 (W64 f3), .int .u64 (W64 f4), .int .u64 (W64 f5)], .agg #[.int .i64 2, .int .u64 (W64 d1), .int .i64 d2, .int .u64 (W64 d3), .int .u64 (W64 d4), .int .u64 (W64 d5), .int .u64 (W64 f1), .int .i64 f2, .int .u64 (W64 f3), .int .u64 (W64 f4), .int .u64 (W64 f5)], .agg #[.int .u32 (W32 ix), .bool false, .int .i64 1000], .agg #[.int .u32 (W32 ix), .bool false, .int .i64 1000]] W fun e w' => e = .returned (.bool true) ∧ Below W.heap.size W w' from fun W => hears_c ⟨2, ⟨d1, d2, d3, d4, d5⟩, ⟨f1, f2, f3, f4, f5⟩⟩ ⟨2, ⟨d1, d2, d3, d4, d5⟩, ⟨f1, f2, f3, f4, f5⟩⟩ ⟨ix, false, 1000⟩ ⟨ix, false, 1000⟩ W (by exact mem0 _ _) (rx_tx ⟨ix, false, 1000⟩))
  clear r1 r2 hk1 hd1 hd2
  have q0 : ((W64 first : Int) == W64 second) = false := by rw [W64_beq]; simpa using h0
  have q1 : ((W32 ix : Int) == 0) = false := by have this : (W32 ix == W32 0#32) = false := (by rw [W32_beq]; simpa using h1); exact this
  have q2 : ((W32 ix : Int) == 4294967295) = false := by have this : (W32 ix == W32 4294967295#32) = false := (by rw [W32_beq]; simpa using h2); exact this
  clear h0 h1 h2
  go_enter Try.func8, Try.ntmps8
  go_wp2_with (first | (with_reducible refine stop_store ?_) | (with_reducible refine stop_box ?_) | (with_reducible refine stop_alloc ?_) | (with_reducible refine stop_bslice ?_))
  refine (CD.out _).mono ?_; rintro e w_1 ⟨rfl, hb_2⟩
  have hB := hb_2
  clear hb_2
  go_wp2_with (first | (with_reducible refine stop_store ?_) | (with_reducible refine stop_box ?_) | (with_reducible refine stop_alloc ?_) | (with_reducible refine stop_bslice ?_))
  unfold Kept
  refine go_mem (ty := 27) (cs := #[.int .i64 0, .int .u64 0, .int .i64 0, .int .u64 0, .int .u64 0, .int .u64 0, .int .u64 0, .int .i64 0, .int .u64 0, .int .u64 0, .int .u64 0]) (fun g => .pointer (some ⟨g, 0, none⟩)) rfl (by kernel_rfl) ?_
  intro g_3 w_4 z_8 l_7 hb_5 G_6
  have n_9 : w.heap.size ≤ g_3 := Nat.le_trans hB.size l_7
  replace hB := hB.trans (hb_5.mono hB.size)
  clear hb_5 l_7 z_8
  go_wp2_with (first | (with_reducible refine stop_store ?_) | (with_reducible refine stop_box ?_) | (with_reducible refine stop_alloc ?_) | (with_reducible refine stop_bslice ?_))
  unfold Kept
  refine wpList_st 0 #[.int .i64 0, .int .u64 (W64 d1), .int .i64 d2, .int .u64 (W64 d3), .int .u64 (W64 d4), .int .u64 (W64 d5), .int .u64 0, .int .i64 0, .int .u64 0, .int .u64 0, .int .u64 0] #[.int .i64 0, .int .u64 (W64 d1), .int .i64 d2, .int .u64 (W64 d3), .int .u64 (W64 d4), .int .u64 (W64 d5), .int .u64 0, .int .i64 0, .int .u64 0, .int .u64 0, .int .u64 0] G_6 rfl rfl (by kernel_rfl) rfl (of_decide_eq_true rfl) rfl ?_
  intro w_10 G_12 hU_11
  replace hB := hU_11.below hB (by omega)
  clear G_6 hU_11
  go_wp2_with (first | (with_reducible refine stop_store ?_) | (with_reducible refine stop_box ?_) | (with_reducible refine stop_alloc ?_) | (with_reducible refine stop_bslice ?_) | ((with_reducible refine wpList_ld 0 [.int .i64 0, .int .u64 (W64 d1), .int .i64 d2, .int .u64 (W64 d3), .int .u64 (W64 d4), .int .u64 (W64 d5), .int .u64 0, .int .i64 0, .int .u64 0, .int .u64 0, .int .u64 0] G_12 ?_ ?_ Try.underlying27 ?_ ?_ ?_); rfl; rfl; rfl; kernel_rfl) | ((with_reducible refine wpList_ldg 0 [.int .i64 0, .int .u64 (W64 d1), .int .i64 d2, .int .u64 (W64 d3), .int .u64 (W64 d4), .int .u64 (W64 d5), .int .u64 0, .int .i64 0, .int .u64 0, .int .u64 0, .int .u64 0] G_12 ?_ ?_ Try.underlying27 ?_ ?_ ?_ ?_); rfl; rfl; rfl; kernel_rfl; rfl))
  refine (CN.out _).mono ?_; rintro e w_14 ⟨rfl, hb_15⟩
  replace G_12 := G_12.to hb_15 G_12.lt
  replace hB := hB.trans (hb_15.mono hB.size)
  clear hb_15
  go_wp2_with (first | (with_reducible refine stop_store ?_) | (with_reducible refine stop_box ?_) | (with_reducible refine stop_alloc ?_) | (with_reducible refine stop_bslice ?_))
  unfold Kept
  refine wpList_st 0 #[.int .i64 1, .int .u64 (W64 d1), .int .i64 d2, .int .u64 (W64 d3), .int .u64 (W64 d4), .int .u64 (W64 d5), .int .u64 (W64 f1), .int .i64 f2, .int .u64 (W64 f3), .int .u64 (W64 f4), .int .u64 (W64 f5)] #[.int .i64 1, .int .u64 (W64 d1), .int .i64 d2, .int .u64 (W64 d3), .int .u64 (W64 d4), .int .u64 (W64 d5), .int .u64 (W64 f1), .int .i64 f2, .int .u64 (W64 f3), .int .u64 (W64 f4), .int .u64 (W64 f5)] G_12 rfl rfl (by kernel_rfl) rfl (of_decide_eq_true rfl) rfl ?_
  intro w_16 G_18 hU_17
  replace hB := hU_17.below hB (by omega)
  clear G_12 hU_17
  go_wp2_with (first | (with_reducible refine stop_store ?_) | (with_reducible refine stop_box ?_) | (with_reducible refine stop_alloc ?_) | (with_reducible refine stop_bslice ?_) | ((with_reducible refine wpList_ld 0 [.int .i64 1, .int .u64 (W64 d1), .int .i64 d2, .int .u64 (W64 d3), .int .u64 (W64 d4), .int .u64 (W64 d5), .int .u64 (W64 f1), .int .i64 f2, .int .u64 (W64 f3), .int .u64 (W64 f4), .int .u64 (W64 f5)] G_18 ?_ ?_ Try.underlying27 ?_ ?_ ?_); rfl; rfl; rfl; kernel_rfl) | ((with_reducible refine wpList_ldg 0 [.int .i64 1, .int .u64 (W64 d1), .int .i64 d2, .int .u64 (W64 d3), .int .u64 (W64 d4), .int .u64 (W64 d5), .int .u64 (W64 f1), .int .i64 f2, .int .u64 (W64 f3), .int .u64 (W64 f4), .int .u64 (W64 f5)] G_18 ?_ ?_ Try.underlying27 ?_ ?_ ?_ ?_); rfl; rfl; rfl; kernel_rfl; rfl))
  unfold Kept
  refine go_mem (ty := 27) (cs := #[.int .i64 0, .int .u64 0, .int .i64 0, .int .u64 0, .int .u64 0, .int .u64 0, .int .u64 0, .int .i64 0, .int .u64 0, .int .u64 0, .int .u64 0]) (fun g => .pointer (some ⟨g, 0, none⟩)) rfl (by kernel_rfl) ?_
  intro g_20 w_21 z_25 l_24 hb_22 G_23
  have n_26 : g_3 < g_20 := Nat.lt_of_lt_of_le G_18.lt l_24
  have n_27 : w.heap.size ≤ g_20 := Nat.le_trans hB.size l_24
  replace G_18 := G_18.to hb_22 G_18.lt
  replace hB := hB.trans (hb_22.mono hB.size)
  clear hb_22 l_24 z_25
  go_wp2_with (first | (with_reducible refine stop_store ?_) | (with_reducible refine stop_box ?_) | (with_reducible refine stop_alloc ?_) | (with_reducible refine stop_bslice ?_))
  unfold Kept
  refine wpList_st 0 #[.int .i64 1, .int .u64 (W64 d1), .int .i64 d2, .int .u64 (W64 d3), .int .u64 (W64 d4), .int .u64 (W64 d5), .int .u64 (W64 f1), .int .i64 f2, .int .u64 (W64 f3), .int .u64 (W64 f4), .int .u64 (W64 f5)] #[.int .i64 1, .int .u64 (W64 d1), .int .i64 d2, .int .u64 (W64 d3), .int .u64 (W64 d4), .int .u64 (W64 d5), .int .u64 (W64 f1), .int .i64 f2, .int .u64 (W64 f3), .int .u64 (W64 f4), .int .u64 (W64 f5)] G_23 rfl rfl (by kernel_rfl) rfl (of_decide_eq_true rfl) rfl ?_
  intro w_28 G_30 hU_29
  replace G_18 := hU_29.blk G_18 (by omega)
  replace hB := hU_29.below hB (by omega)
  clear G_23 hU_29
  go_wp2_with (first | (with_reducible refine stop_store ?_) | (with_reducible refine stop_box ?_) | (with_reducible refine stop_alloc ?_) | (with_reducible refine stop_bslice ?_) | ((with_reducible refine wpList_ld 0 [.int .i64 1, .int .u64 (W64 d1), .int .i64 d2, .int .u64 (W64 d3), .int .u64 (W64 d4), .int .u64 (W64 d5), .int .u64 (W64 f1), .int .i64 f2, .int .u64 (W64 f3), .int .u64 (W64 f4), .int .u64 (W64 f5)] G_18 ?_ ?_ Try.underlying27 ?_ ?_ ?_); rfl; rfl; rfl; kernel_rfl) | ((with_reducible refine wpList_ldg 0 [.int .i64 1, .int .u64 (W64 d1), .int .i64 d2, .int .u64 (W64 d3), .int .u64 (W64 d4), .int .u64 (W64 d5), .int .u64 (W64 f1), .int .i64 f2, .int .u64 (W64 f3), .int .u64 (W64 f4), .int .u64 (W64 f5)] G_18 ?_ ?_ Try.underlying27 ?_ ?_ ?_ ?_); rfl; rfl; rfl; kernel_rfl; rfl))
  refine (CP2.out _).mono ?_; rintro e w_32 ⟨rfl, hb_33⟩
  replace G_18 := G_18.to hb_33 G_18.lt
  replace G_30 := G_30.to hb_33 G_30.lt
  replace hB := hB.trans (hb_33.mono hB.size)
  clear hb_33
  go_wp2_with (first | (with_reducible refine stop_store ?_) | (with_reducible refine stop_box ?_) | (with_reducible refine stop_alloc ?_) | (with_reducible refine stop_bslice ?_))
  unfold Kept
  refine wpList_st 0 #[.int .i64 2, .int .u64 (W64 d1), .int .i64 d2, .int .u64 (W64 d3), .int .u64 (W64 d4), .int .u64 (W64 d5), .int .u64 (W64 f1), .int .i64 f2, .int .u64 (W64 f3), .int .u64 (W64 f4), .int .u64 (W64 f5)] #[.int .i64 2, .int .u64 (W64 d1), .int .i64 d2, .int .u64 (W64 d3), .int .u64 (W64 d4), .int .u64 (W64 d5), .int .u64 (W64 f1), .int .i64 f2, .int .u64 (W64 f3), .int .u64 (W64 f4), .int .u64 (W64 f5)] G_30 rfl rfl (by kernel_rfl) rfl (of_decide_eq_true rfl) rfl ?_
  intro w_34 G_36 hU_35
  replace G_18 := hU_35.blk G_18 (by omega)
  replace hB := hU_35.below hB (by omega)
  clear G_30 hU_35
  go_wp2_with (first | (with_reducible refine stop_store ?_) | (with_reducible refine stop_box ?_) | (with_reducible refine stop_alloc ?_) | (with_reducible refine stop_bslice ?_))
  unfold Kept
  refine go_mem (ty := 59) (cs := #[.int .u32 0, .bool false, .int .i64 0]) (fun g => .pointer (some ⟨g, 0, none⟩)) rfl (by kernel_rfl) ?_
  intro g_37 w_38 z_42 l_41 hb_39 G_40
  have n_43 : g_20 < g_37 := Nat.lt_of_lt_of_le G_36.lt l_41
  have n_44 : w.heap.size ≤ g_37 := Nat.le_trans hB.size l_41
  replace G_18 := G_18.to hb_39 G_18.lt
  replace G_36 := G_36.to hb_39 G_36.lt
  replace hB := hB.trans (hb_39.mono hB.size)
  clear hb_39 l_41 z_42
  go_wp2_with (first | (with_reducible refine stop_store ?_) | (with_reducible refine stop_box ?_) | (with_reducible refine stop_alloc ?_) | (with_reducible refine stop_bslice ?_))
  unfold Kept
  refine wpList_st 0 #[.int .u32 (W32 ix), .bool true, .int .i64 0] #[.int .u32 (W32 ix), .bool true, .int .i64 0] G_40 rfl rfl (by kernel_rfl) rfl (of_decide_eq_true rfl) rfl ?_
  intro w_45 G_47 hU_46
  replace G_18 := hU_46.blk G_18 (by omega)
  replace G_36 := hU_46.blk G_36 (by omega)
  replace hB := hU_46.below hB (by omega)
  clear G_40 hU_46
  go_wp2_with (first | (with_reducible refine stop_store ?_) | (with_reducible refine stop_box ?_) | (with_reducible refine stop_alloc ?_) | (with_reducible refine stop_bslice ?_) | ((with_reducible refine wpList_ld 0 [.int .u32 (W32 ix), .bool true, .int .i64 0] G_47 ?_ ?_ Try.underlying59 ?_ ?_ ?_); rfl; rfl; rfl; kernel_rfl) | ((with_reducible refine wpList_ldg 0 [.int .u32 (W32 ix), .bool true, .int .i64 0] G_47 ?_ ?_ Try.underlying59 ?_ ?_ ?_ ?_); rfl; rfl; rfl; kernel_rfl; rfl))
  refine (CB.out _).mono ?_; rintro e w_49 ⟨rfl, hb_50⟩
  replace G_18 := G_18.to hb_50 G_18.lt
  replace G_36 := G_36.to hb_50 G_36.lt
  replace G_47 := G_47.to hb_50 G_47.lt
  replace hB := hB.trans (hb_50.mono hB.size)
  clear hb_50
  go_wp2_with (first | (with_reducible refine stop_store ?_) | (with_reducible refine stop_box ?_) | (with_reducible refine stop_alloc ?_) | (with_reducible refine stop_bslice ?_))
  unfold Kept
  refine go_mem (ty := 59) (cs := #[.int .u32 0, .bool false, .int .i64 0]) (fun g => .pointer (some ⟨g, 0, none⟩)) rfl (by kernel_rfl) ?_
  intro g_51 w_52 z_56 l_55 hb_53 G_54
  have n_57 : g_37 < g_51 := Nat.lt_of_lt_of_le G_47.lt l_55
  have n_58 : w.heap.size ≤ g_51 := Nat.le_trans hB.size l_55
  replace G_18 := G_18.to hb_53 G_18.lt
  replace G_36 := G_36.to hb_53 G_36.lt
  replace G_47 := G_47.to hb_53 G_47.lt
  replace hB := hB.trans (hb_53.mono hB.size)
  clear hb_53 l_55 z_56
  go_wp2_with (first | (with_reducible refine stop_store ?_) | (with_reducible refine stop_box ?_) | (with_reducible refine stop_alloc ?_) | (with_reducible refine stop_bslice ?_))
  unfold Kept
  refine wpList_st 0 #[.int .u32 (W32 ix), .bool true, .int .i64 0] #[.int .u32 (W32 ix), .bool true, .int .i64 0] G_54 rfl rfl (by kernel_rfl) rfl (of_decide_eq_true rfl) rfl ?_
  intro w_59 G_61 hU_60
  replace G_18 := hU_60.blk G_18 (by omega)
  replace G_36 := hU_60.blk G_36 (by omega)
  replace G_47 := hU_60.blk G_47 (by omega)
  replace hB := hU_60.below hB (by omega)
  clear G_54 hU_60
  go_wp2_with (first | (with_reducible refine stop_store ?_) | (with_reducible refine stop_box ?_) | (with_reducible refine stop_alloc ?_) | (with_reducible refine stop_bslice ?_) | ((with_reducible refine wpList_ld 0 [.int .u32 (W32 ix), .bool true, .int .i64 0] G_47 ?_ ?_ Try.underlying59 ?_ ?_ ?_); rfl; rfl; rfl; kernel_rfl) | ((with_reducible refine wpList_ldg 0 [.int .u32 (W32 ix), .bool true, .int .i64 0] G_47 ?_ ?_ Try.underlying59 ?_ ?_ ?_ ?_); rfl; rfl; rfl; kernel_rfl; rfl))
  refine (CE.out _).mono ?_; rintro e w_63 ⟨rfl, hb_64⟩
  replace G_18 := G_18.to hb_64 G_18.lt
  replace G_36 := G_36.to hb_64 G_36.lt
  replace G_47 := G_47.to hb_64 G_47.lt
  replace G_61 := G_61.to hb_64 G_61.lt
  replace hB := hB.trans (hb_64.mono hB.size)
  clear hb_64
  go_wp2_with (first | (with_reducible refine stop_store ?_) | (with_reducible refine stop_box ?_) | (with_reducible refine stop_alloc ?_) | (with_reducible refine stop_bslice ?_))
  unfold Kept
  refine wpList_st 0 #[.int .u32 (W32 ix), .bool false, .int .i64 1000] #[.int .u32 (W32 ix), .bool false, .int .i64 1000] G_61 rfl rfl (by kernel_rfl) rfl (of_decide_eq_true rfl) rfl ?_
  intro w_65 G_67 hU_66
  replace G_18 := hU_66.blk G_18 (by omega)
  replace G_36 := hU_66.blk G_36 (by omega)
  replace G_47 := hU_66.blk G_47 (by omega)
  replace hB := hU_66.below hB (by omega)
  clear G_61 hU_66
  go_wp2_with (first | (with_reducible refine stop_store ?_) | (with_reducible refine stop_box ?_) | (with_reducible refine stop_alloc ?_) | (with_reducible refine stop_bslice ?_))
  refine (lives52 _).mono ?_; rintro e w_68 ⟨rfl, hb_69⟩
  replace G_18 := G_18.to hb_69 G_18.lt
  replace G_36 := G_36.to hb_69 G_36.lt
  replace G_47 := G_47.to hb_69 G_47.lt
  replace G_67 := G_67.to hb_69 G_67.lt
  replace hB := hB.trans (hb_69.mono hB.size)
  clear hb_69
  go_wp2_with (first | (with_reducible refine stop_store ?_) | (with_reducible refine stop_box ?_) | (with_reducible refine stop_alloc ?_) | (with_reducible refine stop_bslice ?_) | ((with_reducible refine wpList_ld 0 [.int .i64 1, .int .u64 (W64 d1), .int .i64 d2, .int .u64 (W64 d3), .int .u64 (W64 d4), .int .u64 (W64 d5), .int .u64 (W64 f1), .int .i64 f2, .int .u64 (W64 f3), .int .u64 (W64 f4), .int .u64 (W64 f5)] G_18 ?_ ?_ Try.underlying27 ?_ ?_ ?_); rfl; rfl; rfl; kernel_rfl) | ((with_reducible refine wpList_ldg 0 [.int .i64 1, .int .u64 (W64 d1), .int .i64 d2, .int .u64 (W64 d3), .int .u64 (W64 d4), .int .u64 (W64 d5), .int .u64 (W64 f1), .int .i64 f2, .int .u64 (W64 f3), .int .u64 (W64 f4), .int .u64 (W64 f5)] G_18 ?_ ?_ Try.underlying27 ?_ ?_ ?_ ?_); rfl; rfl; rfl; kernel_rfl; rfl) | ((with_reducible refine wpList_ld 0 [.int .i64 2, .int .u64 (W64 d1), .int .i64 d2, .int .u64 (W64 d3), .int .u64 (W64 d4), .int .u64 (W64 d5), .int .u64 (W64 f1), .int .i64 f2, .int .u64 (W64 f3), .int .u64 (W64 f4), .int .u64 (W64 f5)] G_36 ?_ ?_ Try.underlying27 ?_ ?_ ?_); rfl; rfl; rfl; kernel_rfl) | ((with_reducible refine wpList_ldg 0 [.int .i64 2, .int .u64 (W64 d1), .int .i64 d2, .int .u64 (W64 d3), .int .u64 (W64 d4), .int .u64 (W64 d5), .int .u64 (W64 f1), .int .i64 f2, .int .u64 (W64 f3), .int .u64 (W64 f4), .int .u64 (W64 f5)] G_36 ?_ ?_ Try.underlying27 ?_ ?_ ?_ ?_); rfl; rfl; rfl; kernel_rfl; rfl) | ((with_reducible refine wpList_ld 0 [.int .u32 (W32 ix), .bool true, .int .i64 0] G_47 ?_ ?_ Try.underlying59 ?_ ?_ ?_); rfl; rfl; rfl; kernel_rfl) | ((with_reducible refine wpList_ldg 0 [.int .u32 (W32 ix), .bool true, .int .i64 0] G_47 ?_ ?_ Try.underlying59 ?_ ?_ ?_ ?_); rfl; rfl; rfl; kernel_rfl; rfl) | ((with_reducible refine wpList_ld 0 [.int .u32 (W32 ix), .bool false, .int .i64 1000] G_67 ?_ ?_ Try.underlying59 ?_ ?_ ?_); rfl; rfl; rfl; kernel_rfl) | ((with_reducible refine wpList_ldg 0 [.int .u32 (W32 ix), .bool false, .int .i64 1000] G_67 ?_ ?_ Try.underlying59 ?_ ?_ ?_ ?_); rfl; rfl; rfl; kernel_rfl; rfl))
  refine (H1.out _).mono ?_; rintro e w_74 ⟨rfl, hb_75⟩
  replace G_18 := G_18.to hb_75 G_18.lt
  replace G_36 := G_36.to hb_75 G_36.lt
  replace G_47 := G_47.to hb_75 G_47.lt
  replace G_67 := G_67.to hb_75 G_67.lt
  replace hB := hB.trans (hb_75.mono hB.size)
  clear hb_75
  go_wp2_with (first | (with_reducible refine stop_store ?_) | (with_reducible refine stop_box ?_) | (with_reducible refine stop_alloc ?_) | (with_reducible refine stop_bslice ?_) | ((with_reducible refine wpList_ld 0 [.int .i64 2, .int .u64 (W64 d1), .int .i64 d2, .int .u64 (W64 d3), .int .u64 (W64 d4), .int .u64 (W64 d5), .int .u64 (W64 f1), .int .i64 f2, .int .u64 (W64 f3), .int .u64 (W64 f4), .int .u64 (W64 f5)] G_36 ?_ ?_ Try.underlying27 ?_ ?_ ?_); rfl; rfl; rfl; kernel_rfl) | ((with_reducible refine wpList_ldg 0 [.int .i64 2, .int .u64 (W64 d1), .int .i64 d2, .int .u64 (W64 d3), .int .u64 (W64 d4), .int .u64 (W64 d5), .int .u64 (W64 f1), .int .i64 f2, .int .u64 (W64 f3), .int .u64 (W64 f4), .int .u64 (W64 f5)] G_36 ?_ ?_ Try.underlying27 ?_ ?_ ?_ ?_); rfl; rfl; rfl; kernel_rfl; rfl) | ((with_reducible refine wpList_ld 0 [.int .i64 1, .int .u64 (W64 d1), .int .i64 d2, .int .u64 (W64 d3), .int .u64 (W64 d4), .int .u64 (W64 d5), .int .u64 (W64 f1), .int .i64 f2, .int .u64 (W64 f3), .int .u64 (W64 f4), .int .u64 (W64 f5)] G_18 ?_ ?_ Try.underlying27 ?_ ?_ ?_); rfl; rfl; rfl; kernel_rfl) | ((with_reducible refine wpList_ldg 0 [.int .i64 1, .int .u64 (W64 d1), .int .i64 d2, .int .u64 (W64 d3), .int .u64 (W64 d4), .int .u64 (W64 d5), .int .u64 (W64 f1), .int .i64 f2, .int .u64 (W64 f3), .int .u64 (W64 f4), .int .u64 (W64 f5)] G_18 ?_ ?_ Try.underlying27 ?_ ?_ ?_ ?_); rfl; rfl; rfl; kernel_rfl; rfl) | ((with_reducible refine wpList_ld 0 [.int .u32 (W32 ix), .bool false, .int .i64 1000] G_67 ?_ ?_ Try.underlying59 ?_ ?_ ?_); rfl; rfl; rfl; kernel_rfl) | ((with_reducible refine wpList_ldg 0 [.int .u32 (W32 ix), .bool false, .int .i64 1000] G_67 ?_ ?_ Try.underlying59 ?_ ?_ ?_ ?_); rfl; rfl; rfl; kernel_rfl; rfl) | ((with_reducible refine wpList_ld 0 [.int .u32 (W32 ix), .bool true, .int .i64 0] G_47 ?_ ?_ Try.underlying59 ?_ ?_ ?_); rfl; rfl; rfl; kernel_rfl) | ((with_reducible refine wpList_ldg 0 [.int .u32 (W32 ix), .bool true, .int .i64 0] G_47 ?_ ?_ Try.underlying59 ?_ ?_ ?_ ?_); rfl; rfl; rfl; kernel_rfl; rfl))
  refine (H2.out _).mono ?_; rintro e w_80 ⟨rfl, hb_81⟩
  replace G_18 := G_18.to hb_81 G_18.lt
  replace G_36 := G_36.to hb_81 G_36.lt
  replace G_47 := G_47.to hb_81 G_47.lt
  replace G_67 := G_67.to hb_81 G_67.lt
  replace hB := hB.trans (hb_81.mono hB.size)
  clear hb_81
  go_wp2_with (first | (with_reducible refine stop_store ?_) | (with_reducible refine stop_box ?_) | (with_reducible refine stop_alloc ?_) | (with_reducible refine stop_bslice ?_) | ((with_reducible refine wpList_ld 0 [.int .i64 1, .int .u64 (W64 d1), .int .i64 d2, .int .u64 (W64 d3), .int .u64 (W64 d4), .int .u64 (W64 d5), .int .u64 (W64 f1), .int .i64 f2, .int .u64 (W64 f3), .int .u64 (W64 f4), .int .u64 (W64 f5)] G_18 ?_ ?_ Try.underlying27 ?_ ?_ ?_); rfl; rfl; rfl; kernel_rfl) | ((with_reducible refine wpList_ldg 0 [.int .i64 1, .int .u64 (W64 d1), .int .i64 d2, .int .u64 (W64 d3), .int .u64 (W64 d4), .int .u64 (W64 d5), .int .u64 (W64 f1), .int .i64 f2, .int .u64 (W64 f3), .int .u64 (W64 f4), .int .u64 (W64 f5)] G_18 ?_ ?_ Try.underlying27 ?_ ?_ ?_ ?_); rfl; rfl; rfl; kernel_rfl; rfl) | ((with_reducible refine wpList_ld 0 [.int .u32 (W32 ix), .bool true, .int .i64 0] G_47 ?_ ?_ Try.underlying59 ?_ ?_ ?_); rfl; rfl; rfl; kernel_rfl) | ((with_reducible refine wpList_ldg 0 [.int .u32 (W32 ix), .bool true, .int .i64 0] G_47 ?_ ?_ Try.underlying59 ?_ ?_ ?_ ?_); rfl; rfl; rfl; kernel_rfl; rfl))
  refine (H3.out _).mono ?_; rintro e w_84 ⟨rfl, hb_85⟩
  replace G_18 := G_18.to hb_85 G_18.lt
  replace G_36 := G_36.to hb_85 G_36.lt
  replace G_47 := G_47.to hb_85 G_47.lt
  replace G_67 := G_67.to hb_85 G_67.lt
  replace hB := hB.trans (hb_85.mono hB.size)
  clear hb_85
  go_wp2_with (first | (with_reducible refine stop_store ?_) | (with_reducible refine stop_box ?_) | (with_reducible refine stop_alloc ?_) | (with_reducible refine stop_bslice ?_) | ((with_reducible refine wpList_ld 0 [.int .i64 2, .int .u64 (W64 d1), .int .i64 d2, .int .u64 (W64 d3), .int .u64 (W64 d4), .int .u64 (W64 d5), .int .u64 (W64 f1), .int .i64 f2, .int .u64 (W64 f3), .int .u64 (W64 f4), .int .u64 (W64 f5)] G_36 ?_ ?_ Try.underlying27 ?_ ?_ ?_); rfl; rfl; rfl; kernel_rfl) | ((with_reducible refine wpList_ldg 0 [.int .i64 2, .int .u64 (W64 d1), .int .i64 d2, .int .u64 (W64 d3), .int .u64 (W64 d4), .int .u64 (W64 d5), .int .u64 (W64 f1), .int .i64 f2, .int .u64 (W64 f3), .int .u64 (W64 f4), .int .u64 (W64 f5)] G_36 ?_ ?_ Try.underlying27 ?_ ?_ ?_ ?_); rfl; rfl; rfl; kernel_rfl; rfl) | ((with_reducible refine wpList_ld 0 [.int .u32 (W32 ix), .bool false, .int .i64 1000] G_67 ?_ ?_ Try.underlying59 ?_ ?_ ?_); rfl; rfl; rfl; kernel_rfl) | ((with_reducible refine wpList_ldg 0 [.int .u32 (W32 ix), .bool false, .int .i64 1000] G_67 ?_ ?_ Try.underlying59 ?_ ?_ ?_ ?_); rfl; rfl; rfl; kernel_rfl; rfl))
  refine (H4.out _).mono ?_; rintro e w_88 ⟨rfl, hb_89⟩
  replace G_18 := G_18.to hb_89 G_18.lt
  replace G_36 := G_36.to hb_89 G_36.lt
  replace G_47 := G_47.to hb_89 G_47.lt
  replace G_67 := G_67.to hb_89 G_67.lt
  replace hB := hB.trans (hb_89.mono hB.size)
  clear hb_89
  go_wp2_with (first | (with_reducible refine stop_store ?_) | (with_reducible refine stop_box ?_) | (with_reducible refine stop_alloc ?_) | (with_reducible refine stop_bslice ?_))
  go_returns
  exact ⟨rfl, hB⟩
set_option maxHeartbeats 4000000 in
theorem under_2_false (first second : BitVec 64) (ix : BitVec 32) (w : World) (h0 : first ≠ second) (h1 : ix ≠ 0#32) (h2 : ix ≠ 4294967295#32) :
    Calls Try.prog 8 #[.int .u64 (W64 first), .int .u64 (W64 second), .int .i64 2, .int .u32 (W32 ix), .bool false] w fun e w' => e = .returned (.bool true) ∧ Below w.heap.size w w' := by
  have hk1 : newKeyK ⟨0, nkD first, nk0⟩ second = (⟨1, nkD first, nkD second⟩, 0) := by unfold newKeyK; rw [if_neg (by simp), if_neg (by simp), if_neg (fun h => h0 (by rw [h]; rfl))]
  obtain ⟨⟨d1, d2, d3, d4, d5⟩, hd1⟩ : ∃ z, nkD first = z := ⟨_, rfl⟩
  obtain ⟨⟨f1, f2, f3, f4, f5⟩, hd2⟩ : ∃ z, nkD second = z := ⟨_, rfl⟩
  rw [hd1, hd2] at hk1
  have CD := Lib.hid (show ∀ W, Calls Try.prog 46 #[.int .u64 (W64 first)] W fun e w' => e = .returned (.agg #[.int .u64 (W64 d1), .int .i64 d2, .int .u64 (W64 d3), .int .u64 (W64 d4), .int .u64 (W64 d5)]) ∧ Below W.heap.size W w' from fun W => by
    have := mesh_Derive first W
    have hh : nkA (nkD first) = #[.int .u64 (W64 d1), .int .i64 d2, .int .u64 (W64 d3), .int .u64 (W64 d4), .int .u64 (W64 d5)] := by rw [hd1]; rfl
    unfold nkA nkD at hh
    dsimp only at hh
    rw [hh] at this
    exact this)
  have CN := Lib.hid (show ∀ W, Calls Try.prog 15 #[.agg #[.int .i64 0, .int .u64 (W64 d1), .int .i64 d2, .int .u64 (W64 d3), .int .u64 (W64 d4), .int .u64 (W64 d5), .int .u64 0, .int .i64 0, .int .u64 0, .int .u64 0, .int .u64 0], .int .u64 (W64 second)] W fun e w' => e = .returned (.tuple #[.agg #[.int .i64 1, .int .u64 (W64 d1), .int .i64 d2, .int .u64 (W64 d3), .int .u64 (W64 d4), .int .u64 (W64 d5), .int .u64 (W64 f1), .int .i64 f2, .int .u64 (W64 f3), .int .u64 (W64 f4), .int .u64 (W64 f5)], .int .i64 0]) ∧ Below W.heap.size W w' from fun W => by have := rf_NewKey ⟨0, ⟨d1, d2, d3, d4, d5⟩, nk0⟩ second W; rw [hk1] at this; exact this)
  have CP2 := Lib.hid (show ∀ W, Calls Try.prog 17 #[.agg #[.int .i64 1, .int .u64 (W64 d1), .int .i64 d2, .int .u64 (W64 d3), .int .u64 (W64 d4), .int .u64 (W64 d5), .int .u64 (W64 f1), .int .i64 f2, .int .u64 (W64 f3), .int .u64 (W64 f4), .int .u64 (W64 f5)], .int .i64 2] W fun e w' => e = .returned (.tuple #[.agg #[.int .i64 2, .int .u64 (W64 d1), .int .i64 d2, .int .u64 (W64 d3), .int .u64 (W64 d4), .int .u64 (W64 d5), .int .u64 (W64 f1), .int .i64 f2, .int .u64 (W64 f3), .int .u64 (W64 f4), .int .u64 (W64 f5)], .bool true]) ∧ Below W.heap.size W w' from fun W => rf_Phase ⟨1, ⟨d1, d2, d3, d4, d5⟩, ⟨f1, f2, f3, f4, f5⟩⟩ 2 W)
  have CP3 := Lib.hid (show ∀ W, Calls Try.prog 17 #[.agg #[.int .i64 2, .int .u64 (W64 d1), .int .i64 d2, .int .u64 (W64 d3), .int .u64 (W64 d4), .int .u64 (W64 d5), .int .u64 (W64 f1), .int .i64 f2, .int .u64 (W64 f3), .int .u64 (W64 f4), .int .u64 (W64 f5)], .int .i64 3] W fun e w' => e = .returned (.tuple #[.agg #[.int .i64 0, .int .u64 (W64 f1), .int .i64 f2, .int .u64 (W64 f3), .int .u64 (W64 f4), .int .u64 (W64 f5), .int .u64 0, .int .i64 0, .int .u64 0, .int .u64 0, .int .u64 0], .bool true]) ∧ Below W.heap.size W w' from fun W => rf_Phase ⟨2, ⟨d1, d2, d3, d4, d5⟩, ⟨f1, f2, f3, f4, f5⟩⟩ 3 W)
  have hb : beginK ⟨ix, false, 0⟩ 1000 = (⟨ix + 1#32, true, 1000⟩, 0) := by unfold beginK lastB; rw [if_neg (by simp), if_neg (by simp), if_neg h2]
  have CB := Lib.hid (show ∀ W, Calls Try.prog 38 #[.agg #[.int .u32 (W32 ix), .bool false, .int .i64 0], .int .i64 1000] W fun e w' => e = .returned (.tuple #[.agg #[.int .u32 (W32 (ix + 1#32)), .bool true, .int .i64 1000], .int .i64 0]) ∧ Below W.heap.size W w' from fun W => by have := rf_Begin ⟨ix, false, 0⟩ 1000 W (show (0 : Int) ≤ 0 ∧ (0 : Int) ≤ 1099511627776 from by decide) (by decide); rw [hb] at this; exact this)
  have hnz : ix + 1#32 ≠ 0#32 := fun h => h2 (by have := congrArg BitVec.toNat h; apply BitVec.eq_of_toNat_eq; rw [BitVec.toNat_add] at this; have q := ix.isLt; have e1 : (1#32).toNat = 1 := rfl; have e2 : (0#32).toNat = 0 := rfl; have e3 : (4294967295#32).toNat = 4294967295 := rfl; omega)
  have htv : txK ⟨ix, false, 0⟩ = ix := by unfold txK; rw [if_neg (by simp)]
  have htu : txK ⟨ix + 1#32, true, 1000⟩ = ix := by unfold txK; rw [if_pos ⟨rfl, hnz⟩]; exact BitVec.add_sub_cancel ix 1#32
  have r1 : rxK ⟨ix, false, 0⟩ (W32 (txK ⟨ix + 1#32, true, 1000⟩ % 2#32)) = (txK ⟨ix + 1#32, true, 1000⟩, true) := rx_of _ _ (.inl htu)
  have r2 : rxK ⟨ix + 1#32, true, 1000⟩ (W32 (txK ⟨ix, false, 0⟩ % 2#32)) = (txK ⟨ix, false, 0⟩, true) := rx_of _ _ (.inr ⟨hnz, by rw [htv]; exact (BitVec.add_sub_cancel ix 1#32).symm⟩)
  clear htv htu hnz hb
  have H1 := Lib.hid (show ∀ W, Calls Try.prog 47 #[.agg #[.int .i64 2, .int .u64 (W64 d1), .int .i64 d2, .int .u64 (W64 d3), .int .u64 (W64 d4), .int .u64 (W64 d5), .int .u64 (W64 f1), .int .i64 f2, .int .u64 (W64 f3), .int .u64 (W64 f4), .int .u64 (W64 f5)], .agg #[.int .i64 0, .int .u64 (W64 f1), .int .i64 f2, .int .u64 (W64 f3), .int .u64 (W64 f4), .int .u64 (W64 f5), .int .u64 0, .int .i64 0, .int .u64 0, .int .u64 0, .int .u64 0], .agg #[.int .u32 (W32 ix), .bool false, .int .i64 0], .agg #[.int .u32 (W32 (ix + 1#32)), .bool true, .int .i64 1000]] W fun e w' => e = .returned (.bool true) ∧ Below W.heap.size W w' from fun W => hears_c ⟨2, ⟨d1, d2, d3, d4, d5⟩, ⟨f1, f2, f3, f4, f5⟩⟩ ⟨0, ⟨f1, f2, f3, f4, f5⟩, nk0⟩ ⟨ix, false, 0⟩ ⟨ix + 1#32, true, 1000⟩ W (by exact mem0 _ _) r1)
  have H2 := Lib.hid (show ∀ W, Calls Try.prog 47 #[.agg #[.int .i64 0, .int .u64 (W64 f1), .int .i64 f2, .int .u64 (W64 f3), .int .u64 (W64 f4), .int .u64 (W64 f5), .int .u64 0, .int .i64 0, .int .u64 0, .int .u64 0, .int .u64 0], .agg #[.int .i64 2, .int .u64 (W64 d1), .int .i64 d2, .int .u64 (W64 d3), .int .u64 (W64 d4), .int .u64 (W64 d5), .int .u64 (W64 f1), .int .i64 f2, .int .u64 (W64 f3), .int .u64 (W64 f4), .int .u64 (W64 f5)], .agg #[.int .u32 (W32 (ix + 1#32)), .bool true, .int .i64 1000], .agg #[.int .u32 (W32 ix), .bool false, .int .i64 0]] W fun e w' => e = .returned (.bool true) ∧ Below W.heap.size W w' from fun W => hears_c ⟨0, ⟨f1, f2, f3, f4, f5⟩, nk0⟩ ⟨2, ⟨d1, d2, d3, d4, d5⟩, ⟨f1, f2, f3, f4, f5⟩⟩ ⟨ix + 1#32, true, 1000⟩ ⟨ix, false, 0⟩ W (by exact mem0 _ _) r2)
  have H3 := Lib.hid (show ∀ W, Calls Try.prog 47 #[.agg #[.int .i64 2, .int .u64 (W64 d1), .int .i64 d2, .int .u64 (W64 d3), .int .u64 (W64 d4), .int .u64 (W64 d5), .int .u64 (W64 f1), .int .i64 f2, .int .u64 (W64 f3), .int .u64 (W64 f4), .int .u64 (W64 f5)], .agg #[.int .i64 2, .int .u64 (W64 d1), .int .i64 d2, .int .u64 (W64 d3), .int .u64 (W64 d4), .int .u64 (W64 d5), .int .u64 (W64 f1), .int .i64 f2, .int .u64 (W64 f3), .int .u64 (W64 f4), .int .u64 (W64 f5)], .agg #[.int .u32 (W32 ix), .bool false, .int .i64 0], .agg #[.int .u32 (W32 ix), .bool false, .int .i64 0]] W fun e w' => e = .returned (.bool true) ∧ Below W.heap.size W w' from fun W => hears_c ⟨2, ⟨d1, d2, d3, d4, d5⟩, ⟨f1, f2, f3, f4, f5⟩⟩ ⟨2, ⟨d1, d2, d3, d4, d5⟩, ⟨f1, f2, f3, f4, f5⟩⟩ ⟨ix, false, 0⟩ ⟨ix, false, 0⟩ W (by exact mem0 _ _) (rx_tx ⟨ix, false, 0⟩))
  have H4 := Lib.hid (show ∀ W, Calls Try.prog 47 #[.agg #[.int .i64 0, .int .u64 (W64 f1), .int .i64 f2, .int .u64 (W64 f3), .int .u64 (W64 f4), .int .u64 (W64 f5), .int .u64 0, .int .i64 0, .int .u64 0, .int .u64 0, .int .u64 0], .agg #[.int .i64 0, .int .u64 (W64 f1), .int .i64 f2, .int .u64 (W64 f3), .int .u64 (W64 f4), .int .u64 (W64 f5), .int .u64 0, .int .i64 0, .int .u64 0, .int .u64 0, .int .u64 0], .agg #[.int .u32 (W32 (ix + 1#32)), .bool true, .int .i64 1000], .agg #[.int .u32 (W32 (ix + 1#32)), .bool true, .int .i64 1000]] W fun e w' => e = .returned (.bool true) ∧ Below W.heap.size W w' from fun W => hears_c ⟨0, ⟨f1, f2, f3, f4, f5⟩, nk0⟩ ⟨0, ⟨f1, f2, f3, f4, f5⟩, nk0⟩ ⟨ix + 1#32, true, 1000⟩ ⟨ix + 1#32, true, 1000⟩ W (by exact mem0 _ _) (rx_tx ⟨ix + 1#32, true, 1000⟩))
  clear r1 r2 hk1 hd1 hd2
  have q0 : ((W64 first : Int) == W64 second) = false := by rw [W64_beq]; simpa using h0
  have q1 : ((W32 ix : Int) == 0) = false := by have this : (W32 ix == W32 0#32) = false := (by rw [W32_beq]; simpa using h1); exact this
  have q2 : ((W32 ix : Int) == 4294967295) = false := by have this : (W32 ix == W32 4294967295#32) = false := (by rw [W32_beq]; simpa using h2); exact this
  clear h0 h1 h2
  go_enter Try.func8, Try.ntmps8
  go_wp2_with (first | (with_reducible refine stop_store ?_) | (with_reducible refine stop_box ?_) | (with_reducible refine stop_alloc ?_) | (with_reducible refine stop_bslice ?_))
  refine (CD.out _).mono ?_; rintro e w_1 ⟨rfl, hb_2⟩
  have hB := hb_2
  clear hb_2
  go_wp2_with (first | (with_reducible refine stop_store ?_) | (with_reducible refine stop_box ?_) | (with_reducible refine stop_alloc ?_) | (with_reducible refine stop_bslice ?_))
  unfold Kept
  refine go_mem (ty := 27) (cs := #[.int .i64 0, .int .u64 0, .int .i64 0, .int .u64 0, .int .u64 0, .int .u64 0, .int .u64 0, .int .i64 0, .int .u64 0, .int .u64 0, .int .u64 0]) (fun g => .pointer (some ⟨g, 0, none⟩)) rfl (by kernel_rfl) ?_
  intro g_3 w_4 z_8 l_7 hb_5 G_6
  have n_9 : w.heap.size ≤ g_3 := Nat.le_trans hB.size l_7
  replace hB := hB.trans (hb_5.mono hB.size)
  clear hb_5 l_7 z_8
  go_wp2_with (first | (with_reducible refine stop_store ?_) | (with_reducible refine stop_box ?_) | (with_reducible refine stop_alloc ?_) | (with_reducible refine stop_bslice ?_))
  unfold Kept
  refine wpList_st 0 #[.int .i64 0, .int .u64 (W64 d1), .int .i64 d2, .int .u64 (W64 d3), .int .u64 (W64 d4), .int .u64 (W64 d5), .int .u64 0, .int .i64 0, .int .u64 0, .int .u64 0, .int .u64 0] #[.int .i64 0, .int .u64 (W64 d1), .int .i64 d2, .int .u64 (W64 d3), .int .u64 (W64 d4), .int .u64 (W64 d5), .int .u64 0, .int .i64 0, .int .u64 0, .int .u64 0, .int .u64 0] G_6 rfl rfl (by kernel_rfl) rfl (of_decide_eq_true rfl) rfl ?_
  intro w_10 G_12 hU_11
  replace hB := hU_11.below hB (by omega)
  clear G_6 hU_11
  go_wp2_with (first | (with_reducible refine stop_store ?_) | (with_reducible refine stop_box ?_) | (with_reducible refine stop_alloc ?_) | (with_reducible refine stop_bslice ?_) | ((with_reducible refine wpList_ld 0 [.int .i64 0, .int .u64 (W64 d1), .int .i64 d2, .int .u64 (W64 d3), .int .u64 (W64 d4), .int .u64 (W64 d5), .int .u64 0, .int .i64 0, .int .u64 0, .int .u64 0, .int .u64 0] G_12 ?_ ?_ Try.underlying27 ?_ ?_ ?_); rfl; rfl; rfl; kernel_rfl) | ((with_reducible refine wpList_ldg 0 [.int .i64 0, .int .u64 (W64 d1), .int .i64 d2, .int .u64 (W64 d3), .int .u64 (W64 d4), .int .u64 (W64 d5), .int .u64 0, .int .i64 0, .int .u64 0, .int .u64 0, .int .u64 0] G_12 ?_ ?_ Try.underlying27 ?_ ?_ ?_ ?_); rfl; rfl; rfl; kernel_rfl; rfl))
  refine (CN.out _).mono ?_; rintro e w_14 ⟨rfl, hb_15⟩
  replace G_12 := G_12.to hb_15 G_12.lt
  replace hB := hB.trans (hb_15.mono hB.size)
  clear hb_15
  go_wp2_with (first | (with_reducible refine stop_store ?_) | (with_reducible refine stop_box ?_) | (with_reducible refine stop_alloc ?_) | (with_reducible refine stop_bslice ?_))
  unfold Kept
  refine wpList_st 0 #[.int .i64 1, .int .u64 (W64 d1), .int .i64 d2, .int .u64 (W64 d3), .int .u64 (W64 d4), .int .u64 (W64 d5), .int .u64 (W64 f1), .int .i64 f2, .int .u64 (W64 f3), .int .u64 (W64 f4), .int .u64 (W64 f5)] #[.int .i64 1, .int .u64 (W64 d1), .int .i64 d2, .int .u64 (W64 d3), .int .u64 (W64 d4), .int .u64 (W64 d5), .int .u64 (W64 f1), .int .i64 f2, .int .u64 (W64 f3), .int .u64 (W64 f4), .int .u64 (W64 f5)] G_12 rfl rfl (by kernel_rfl) rfl (of_decide_eq_true rfl) rfl ?_
  intro w_16 G_18 hU_17
  replace hB := hU_17.below hB (by omega)
  clear G_12 hU_17
  go_wp2_with (first | (with_reducible refine stop_store ?_) | (with_reducible refine stop_box ?_) | (with_reducible refine stop_alloc ?_) | (with_reducible refine stop_bslice ?_) | ((with_reducible refine wpList_ld 0 [.int .i64 1, .int .u64 (W64 d1), .int .i64 d2, .int .u64 (W64 d3), .int .u64 (W64 d4), .int .u64 (W64 d5), .int .u64 (W64 f1), .int .i64 f2, .int .u64 (W64 f3), .int .u64 (W64 f4), .int .u64 (W64 f5)] G_18 ?_ ?_ Try.underlying27 ?_ ?_ ?_); rfl; rfl; rfl; kernel_rfl) | ((with_reducible refine wpList_ldg 0 [.int .i64 1, .int .u64 (W64 d1), .int .i64 d2, .int .u64 (W64 d3), .int .u64 (W64 d4), .int .u64 (W64 d5), .int .u64 (W64 f1), .int .i64 f2, .int .u64 (W64 f3), .int .u64 (W64 f4), .int .u64 (W64 f5)] G_18 ?_ ?_ Try.underlying27 ?_ ?_ ?_ ?_); rfl; rfl; rfl; kernel_rfl; rfl))
  refine (CP2.out _).mono ?_; rintro e w_20 ⟨rfl, hb_21⟩
  replace G_18 := G_18.to hb_21 G_18.lt
  replace hB := hB.trans (hb_21.mono hB.size)
  clear hb_21
  go_wp2_with (first | (with_reducible refine stop_store ?_) | (with_reducible refine stop_box ?_) | (with_reducible refine stop_alloc ?_) | (with_reducible refine stop_bslice ?_))
  unfold Kept
  refine wpList_st 0 #[.int .i64 2, .int .u64 (W64 d1), .int .i64 d2, .int .u64 (W64 d3), .int .u64 (W64 d4), .int .u64 (W64 d5), .int .u64 (W64 f1), .int .i64 f2, .int .u64 (W64 f3), .int .u64 (W64 f4), .int .u64 (W64 f5)] #[.int .i64 2, .int .u64 (W64 d1), .int .i64 d2, .int .u64 (W64 d3), .int .u64 (W64 d4), .int .u64 (W64 d5), .int .u64 (W64 f1), .int .i64 f2, .int .u64 (W64 f3), .int .u64 (W64 f4), .int .u64 (W64 f5)] G_18 rfl rfl (by kernel_rfl) rfl (of_decide_eq_true rfl) rfl ?_
  intro w_22 G_24 hU_23
  replace hB := hU_23.below hB (by omega)
  clear G_18 hU_23
  go_wp2_with (first | (with_reducible refine stop_store ?_) | (with_reducible refine stop_box ?_) | (with_reducible refine stop_alloc ?_) | (with_reducible refine stop_bslice ?_) | ((with_reducible refine wpList_ld 0 [.int .i64 2, .int .u64 (W64 d1), .int .i64 d2, .int .u64 (W64 d3), .int .u64 (W64 d4), .int .u64 (W64 d5), .int .u64 (W64 f1), .int .i64 f2, .int .u64 (W64 f3), .int .u64 (W64 f4), .int .u64 (W64 f5)] G_24 ?_ ?_ Try.underlying27 ?_ ?_ ?_); rfl; rfl; rfl; kernel_rfl) | ((with_reducible refine wpList_ldg 0 [.int .i64 2, .int .u64 (W64 d1), .int .i64 d2, .int .u64 (W64 d3), .int .u64 (W64 d4), .int .u64 (W64 d5), .int .u64 (W64 f1), .int .i64 f2, .int .u64 (W64 f3), .int .u64 (W64 f4), .int .u64 (W64 f5)] G_24 ?_ ?_ Try.underlying27 ?_ ?_ ?_ ?_); rfl; rfl; rfl; kernel_rfl; rfl))
  unfold Kept
  refine go_mem (ty := 27) (cs := #[.int .i64 0, .int .u64 0, .int .i64 0, .int .u64 0, .int .u64 0, .int .u64 0, .int .u64 0, .int .i64 0, .int .u64 0, .int .u64 0, .int .u64 0]) (fun g => .pointer (some ⟨g, 0, none⟩)) rfl (by kernel_rfl) ?_
  intro g_26 w_27 z_31 l_30 hb_28 G_29
  have n_32 : g_3 < g_26 := Nat.lt_of_lt_of_le G_24.lt l_30
  have n_33 : w.heap.size ≤ g_26 := Nat.le_trans hB.size l_30
  replace G_24 := G_24.to hb_28 G_24.lt
  replace hB := hB.trans (hb_28.mono hB.size)
  clear hb_28 l_30 z_31
  go_wp2_with (first | (with_reducible refine stop_store ?_) | (with_reducible refine stop_box ?_) | (with_reducible refine stop_alloc ?_) | (with_reducible refine stop_bslice ?_))
  unfold Kept
  refine wpList_st 0 #[.int .i64 2, .int .u64 (W64 d1), .int .i64 d2, .int .u64 (W64 d3), .int .u64 (W64 d4), .int .u64 (W64 d5), .int .u64 (W64 f1), .int .i64 f2, .int .u64 (W64 f3), .int .u64 (W64 f4), .int .u64 (W64 f5)] #[.int .i64 2, .int .u64 (W64 d1), .int .i64 d2, .int .u64 (W64 d3), .int .u64 (W64 d4), .int .u64 (W64 d5), .int .u64 (W64 f1), .int .i64 f2, .int .u64 (W64 f3), .int .u64 (W64 f4), .int .u64 (W64 f5)] G_29 rfl rfl (by kernel_rfl) rfl (of_decide_eq_true rfl) rfl ?_
  intro w_34 G_36 hU_35
  replace G_24 := hU_35.blk G_24 (by omega)
  replace hB := hU_35.below hB (by omega)
  clear G_29 hU_35
  go_wp2_with (first | (with_reducible refine stop_store ?_) | (with_reducible refine stop_box ?_) | (with_reducible refine stop_alloc ?_) | (with_reducible refine stop_bslice ?_) | ((with_reducible refine wpList_ld 0 [.int .i64 2, .int .u64 (W64 d1), .int .i64 d2, .int .u64 (W64 d3), .int .u64 (W64 d4), .int .u64 (W64 d5), .int .u64 (W64 f1), .int .i64 f2, .int .u64 (W64 f3), .int .u64 (W64 f4), .int .u64 (W64 f5)] G_24 ?_ ?_ Try.underlying27 ?_ ?_ ?_); rfl; rfl; rfl; kernel_rfl) | ((with_reducible refine wpList_ldg 0 [.int .i64 2, .int .u64 (W64 d1), .int .i64 d2, .int .u64 (W64 d3), .int .u64 (W64 d4), .int .u64 (W64 d5), .int .u64 (W64 f1), .int .i64 f2, .int .u64 (W64 f3), .int .u64 (W64 f4), .int .u64 (W64 f5)] G_24 ?_ ?_ Try.underlying27 ?_ ?_ ?_ ?_); rfl; rfl; rfl; kernel_rfl; rfl))
  refine (CP3.out _).mono ?_; rintro e w_38 ⟨rfl, hb_39⟩
  replace G_24 := G_24.to hb_39 G_24.lt
  replace G_36 := G_36.to hb_39 G_36.lt
  replace hB := hB.trans (hb_39.mono hB.size)
  clear hb_39
  go_wp2_with (first | (with_reducible refine stop_store ?_) | (with_reducible refine stop_box ?_) | (with_reducible refine stop_alloc ?_) | (with_reducible refine stop_bslice ?_))
  unfold Kept
  refine wpList_st 0 #[.int .i64 0, .int .u64 (W64 f1), .int .i64 f2, .int .u64 (W64 f3), .int .u64 (W64 f4), .int .u64 (W64 f5), .int .u64 0, .int .i64 0, .int .u64 0, .int .u64 0, .int .u64 0] #[.int .i64 0, .int .u64 (W64 f1), .int .i64 f2, .int .u64 (W64 f3), .int .u64 (W64 f4), .int .u64 (W64 f5), .int .u64 0, .int .i64 0, .int .u64 0, .int .u64 0, .int .u64 0] G_36 rfl rfl (by kernel_rfl) rfl (of_decide_eq_true rfl) rfl ?_
  intro w_40 G_42 hU_41
  replace G_24 := hU_41.blk G_24 (by omega)
  replace hB := hU_41.below hB (by omega)
  clear G_36 hU_41
  go_wp2_with (first | (with_reducible refine stop_store ?_) | (with_reducible refine stop_box ?_) | (with_reducible refine stop_alloc ?_) | (with_reducible refine stop_bslice ?_))
  unfold Kept
  refine go_mem (ty := 59) (cs := #[.int .u32 0, .bool false, .int .i64 0]) (fun g => .pointer (some ⟨g, 0, none⟩)) rfl (by kernel_rfl) ?_
  intro g_43 w_44 z_48 l_47 hb_45 G_46
  have n_49 : g_26 < g_43 := Nat.lt_of_lt_of_le G_42.lt l_47
  have n_50 : w.heap.size ≤ g_43 := Nat.le_trans hB.size l_47
  replace G_24 := G_24.to hb_45 G_24.lt
  replace G_42 := G_42.to hb_45 G_42.lt
  replace hB := hB.trans (hb_45.mono hB.size)
  clear hb_45 l_47 z_48
  go_wp2_with (first | (with_reducible refine stop_store ?_) | (with_reducible refine stop_box ?_) | (with_reducible refine stop_alloc ?_) | (with_reducible refine stop_bslice ?_))
  unfold Kept
  refine wpList_st 0 #[.int .u32 (W32 ix), .bool false, .int .i64 0] #[.int .u32 (W32 ix), .bool false, .int .i64 0] G_46 rfl rfl (by kernel_rfl) rfl (of_decide_eq_true rfl) rfl ?_
  intro w_51 G_53 hU_52
  replace G_24 := hU_52.blk G_24 (by omega)
  replace G_42 := hU_52.blk G_42 (by omega)
  replace hB := hU_52.below hB (by omega)
  clear G_46 hU_52
  go_wp2_with (first | (with_reducible refine stop_store ?_) | (with_reducible refine stop_box ?_) | (with_reducible refine stop_alloc ?_) | (with_reducible refine stop_bslice ?_) | ((with_reducible refine wpList_ld 0 [.int .u32 (W32 ix), .bool false, .int .i64 0] G_53 ?_ ?_ Try.underlying59 ?_ ?_ ?_); rfl; rfl; rfl; kernel_rfl) | ((with_reducible refine wpList_ldg 0 [.int .u32 (W32 ix), .bool false, .int .i64 0] G_53 ?_ ?_ Try.underlying59 ?_ ?_ ?_ ?_); rfl; rfl; rfl; kernel_rfl; rfl))
  refine (CB.out _).mono ?_; rintro e w_55 ⟨rfl, hb_56⟩
  replace G_24 := G_24.to hb_56 G_24.lt
  replace G_42 := G_42.to hb_56 G_42.lt
  replace G_53 := G_53.to hb_56 G_53.lt
  replace hB := hB.trans (hb_56.mono hB.size)
  clear hb_56
  go_wp2_with (first | (with_reducible refine stop_store ?_) | (with_reducible refine stop_box ?_) | (with_reducible refine stop_alloc ?_) | (with_reducible refine stop_bslice ?_))
  unfold Kept
  refine go_mem (ty := 59) (cs := #[.int .u32 0, .bool false, .int .i64 0]) (fun g => .pointer (some ⟨g, 0, none⟩)) rfl (by kernel_rfl) ?_
  intro g_57 w_58 z_62 l_61 hb_59 G_60
  have n_63 : g_43 < g_57 := Nat.lt_of_lt_of_le G_53.lt l_61
  have n_64 : w.heap.size ≤ g_57 := Nat.le_trans hB.size l_61
  replace G_24 := G_24.to hb_59 G_24.lt
  replace G_42 := G_42.to hb_59 G_42.lt
  replace G_53 := G_53.to hb_59 G_53.lt
  replace hB := hB.trans (hb_59.mono hB.size)
  clear hb_59 l_61 z_62
  go_wp2_with (first | (with_reducible refine stop_store ?_) | (with_reducible refine stop_box ?_) | (with_reducible refine stop_alloc ?_) | (with_reducible refine stop_bslice ?_))
  unfold Kept
  refine wpList_st 0 #[.int .u32 (W32 (ix + 1#32)), .bool true, .int .i64 1000] #[.int .u32 (W32 (ix + 1#32)), .bool true, .int .i64 1000] G_60 rfl rfl (by kernel_rfl) rfl (of_decide_eq_true rfl) rfl ?_
  intro w_65 G_67 hU_66
  replace G_24 := hU_66.blk G_24 (by omega)
  replace G_42 := hU_66.blk G_42 (by omega)
  replace G_53 := hU_66.blk G_53 (by omega)
  replace hB := hU_66.below hB (by omega)
  clear G_60 hU_66
  go_wp2_with (first | (with_reducible refine stop_store ?_) | (with_reducible refine stop_box ?_) | (with_reducible refine stop_alloc ?_) | (with_reducible refine stop_bslice ?_))
  refine (lives52 _).mono ?_; rintro e w_68 ⟨rfl, hb_69⟩
  replace G_24 := G_24.to hb_69 G_24.lt
  replace G_42 := G_42.to hb_69 G_42.lt
  replace G_53 := G_53.to hb_69 G_53.lt
  replace G_67 := G_67.to hb_69 G_67.lt
  replace hB := hB.trans (hb_69.mono hB.size)
  clear hb_69
  go_wp2_with (first | (with_reducible refine stop_store ?_) | (with_reducible refine stop_box ?_) | (with_reducible refine stop_alloc ?_) | (with_reducible refine stop_bslice ?_) | ((with_reducible refine wpList_ld 0 [.int .i64 2, .int .u64 (W64 d1), .int .i64 d2, .int .u64 (W64 d3), .int .u64 (W64 d4), .int .u64 (W64 d5), .int .u64 (W64 f1), .int .i64 f2, .int .u64 (W64 f3), .int .u64 (W64 f4), .int .u64 (W64 f5)] G_24 ?_ ?_ Try.underlying27 ?_ ?_ ?_); rfl; rfl; rfl; kernel_rfl) | ((with_reducible refine wpList_ldg 0 [.int .i64 2, .int .u64 (W64 d1), .int .i64 d2, .int .u64 (W64 d3), .int .u64 (W64 d4), .int .u64 (W64 d5), .int .u64 (W64 f1), .int .i64 f2, .int .u64 (W64 f3), .int .u64 (W64 f4), .int .u64 (W64 f5)] G_24 ?_ ?_ Try.underlying27 ?_ ?_ ?_ ?_); rfl; rfl; rfl; kernel_rfl; rfl) | ((with_reducible refine wpList_ld 0 [.int .i64 0, .int .u64 (W64 f1), .int .i64 f2, .int .u64 (W64 f3), .int .u64 (W64 f4), .int .u64 (W64 f5), .int .u64 0, .int .i64 0, .int .u64 0, .int .u64 0, .int .u64 0] G_42 ?_ ?_ Try.underlying27 ?_ ?_ ?_); rfl; rfl; rfl; kernel_rfl) | ((with_reducible refine wpList_ldg 0 [.int .i64 0, .int .u64 (W64 f1), .int .i64 f2, .int .u64 (W64 f3), .int .u64 (W64 f4), .int .u64 (W64 f5), .int .u64 0, .int .i64 0, .int .u64 0, .int .u64 0, .int .u64 0] G_42 ?_ ?_ Try.underlying27 ?_ ?_ ?_ ?_); rfl; rfl; rfl; kernel_rfl; rfl) | ((with_reducible refine wpList_ld 0 [.int .u32 (W32 ix), .bool false, .int .i64 0] G_53 ?_ ?_ Try.underlying59 ?_ ?_ ?_); rfl; rfl; rfl; kernel_rfl) | ((with_reducible refine wpList_ldg 0 [.int .u32 (W32 ix), .bool false, .int .i64 0] G_53 ?_ ?_ Try.underlying59 ?_ ?_ ?_ ?_); rfl; rfl; rfl; kernel_rfl; rfl) | ((with_reducible refine wpList_ld 0 [.int .u32 (W32 (ix + 1#32)), .bool true, .int .i64 1000] G_67 ?_ ?_ Try.underlying59 ?_ ?_ ?_); rfl; rfl; rfl; kernel_rfl) | ((with_reducible refine wpList_ldg 0 [.int .u32 (W32 (ix + 1#32)), .bool true, .int .i64 1000] G_67 ?_ ?_ Try.underlying59 ?_ ?_ ?_ ?_); rfl; rfl; rfl; kernel_rfl; rfl))
  refine (H1.out _).mono ?_; rintro e w_74 ⟨rfl, hb_75⟩
  replace G_24 := G_24.to hb_75 G_24.lt
  replace G_42 := G_42.to hb_75 G_42.lt
  replace G_53 := G_53.to hb_75 G_53.lt
  replace G_67 := G_67.to hb_75 G_67.lt
  replace hB := hB.trans (hb_75.mono hB.size)
  clear hb_75
  go_wp2_with (first | (with_reducible refine stop_store ?_) | (with_reducible refine stop_box ?_) | (with_reducible refine stop_alloc ?_) | (with_reducible refine stop_bslice ?_) | ((with_reducible refine wpList_ld 0 [.int .i64 0, .int .u64 (W64 f1), .int .i64 f2, .int .u64 (W64 f3), .int .u64 (W64 f4), .int .u64 (W64 f5), .int .u64 0, .int .i64 0, .int .u64 0, .int .u64 0, .int .u64 0] G_42 ?_ ?_ Try.underlying27 ?_ ?_ ?_); rfl; rfl; rfl; kernel_rfl) | ((with_reducible refine wpList_ldg 0 [.int .i64 0, .int .u64 (W64 f1), .int .i64 f2, .int .u64 (W64 f3), .int .u64 (W64 f4), .int .u64 (W64 f5), .int .u64 0, .int .i64 0, .int .u64 0, .int .u64 0, .int .u64 0] G_42 ?_ ?_ Try.underlying27 ?_ ?_ ?_ ?_); rfl; rfl; rfl; kernel_rfl; rfl) | ((with_reducible refine wpList_ld 0 [.int .i64 2, .int .u64 (W64 d1), .int .i64 d2, .int .u64 (W64 d3), .int .u64 (W64 d4), .int .u64 (W64 d5), .int .u64 (W64 f1), .int .i64 f2, .int .u64 (W64 f3), .int .u64 (W64 f4), .int .u64 (W64 f5)] G_24 ?_ ?_ Try.underlying27 ?_ ?_ ?_); rfl; rfl; rfl; kernel_rfl) | ((with_reducible refine wpList_ldg 0 [.int .i64 2, .int .u64 (W64 d1), .int .i64 d2, .int .u64 (W64 d3), .int .u64 (W64 d4), .int .u64 (W64 d5), .int .u64 (W64 f1), .int .i64 f2, .int .u64 (W64 f3), .int .u64 (W64 f4), .int .u64 (W64 f5)] G_24 ?_ ?_ Try.underlying27 ?_ ?_ ?_ ?_); rfl; rfl; rfl; kernel_rfl; rfl) | ((with_reducible refine wpList_ld 0 [.int .u32 (W32 (ix + 1#32)), .bool true, .int .i64 1000] G_67 ?_ ?_ Try.underlying59 ?_ ?_ ?_); rfl; rfl; rfl; kernel_rfl) | ((with_reducible refine wpList_ldg 0 [.int .u32 (W32 (ix + 1#32)), .bool true, .int .i64 1000] G_67 ?_ ?_ Try.underlying59 ?_ ?_ ?_ ?_); rfl; rfl; rfl; kernel_rfl; rfl) | ((with_reducible refine wpList_ld 0 [.int .u32 (W32 ix), .bool false, .int .i64 0] G_53 ?_ ?_ Try.underlying59 ?_ ?_ ?_); rfl; rfl; rfl; kernel_rfl) | ((with_reducible refine wpList_ldg 0 [.int .u32 (W32 ix), .bool false, .int .i64 0] G_53 ?_ ?_ Try.underlying59 ?_ ?_ ?_ ?_); rfl; rfl; rfl; kernel_rfl; rfl))
  refine (H2.out _).mono ?_; rintro e w_80 ⟨rfl, hb_81⟩
  replace G_24 := G_24.to hb_81 G_24.lt
  replace G_42 := G_42.to hb_81 G_42.lt
  replace G_53 := G_53.to hb_81 G_53.lt
  replace G_67 := G_67.to hb_81 G_67.lt
  replace hB := hB.trans (hb_81.mono hB.size)
  clear hb_81
  go_wp2_with (first | (with_reducible refine stop_store ?_) | (with_reducible refine stop_box ?_) | (with_reducible refine stop_alloc ?_) | (with_reducible refine stop_bslice ?_) | ((with_reducible refine wpList_ld 0 [.int .i64 2, .int .u64 (W64 d1), .int .i64 d2, .int .u64 (W64 d3), .int .u64 (W64 d4), .int .u64 (W64 d5), .int .u64 (W64 f1), .int .i64 f2, .int .u64 (W64 f3), .int .u64 (W64 f4), .int .u64 (W64 f5)] G_24 ?_ ?_ Try.underlying27 ?_ ?_ ?_); rfl; rfl; rfl; kernel_rfl) | ((with_reducible refine wpList_ldg 0 [.int .i64 2, .int .u64 (W64 d1), .int .i64 d2, .int .u64 (W64 d3), .int .u64 (W64 d4), .int .u64 (W64 d5), .int .u64 (W64 f1), .int .i64 f2, .int .u64 (W64 f3), .int .u64 (W64 f4), .int .u64 (W64 f5)] G_24 ?_ ?_ Try.underlying27 ?_ ?_ ?_ ?_); rfl; rfl; rfl; kernel_rfl; rfl) | ((with_reducible refine wpList_ld 0 [.int .u32 (W32 ix), .bool false, .int .i64 0] G_53 ?_ ?_ Try.underlying59 ?_ ?_ ?_); rfl; rfl; rfl; kernel_rfl) | ((with_reducible refine wpList_ldg 0 [.int .u32 (W32 ix), .bool false, .int .i64 0] G_53 ?_ ?_ Try.underlying59 ?_ ?_ ?_ ?_); rfl; rfl; rfl; kernel_rfl; rfl))
  refine (H3.out _).mono ?_; rintro e w_84 ⟨rfl, hb_85⟩
  replace G_24 := G_24.to hb_85 G_24.lt
  replace G_42 := G_42.to hb_85 G_42.lt
  replace G_53 := G_53.to hb_85 G_53.lt
  replace G_67 := G_67.to hb_85 G_67.lt
  replace hB := hB.trans (hb_85.mono hB.size)
  clear hb_85
  go_wp2_with (first | (with_reducible refine stop_store ?_) | (with_reducible refine stop_box ?_) | (with_reducible refine stop_alloc ?_) | (with_reducible refine stop_bslice ?_) | ((with_reducible refine wpList_ld 0 [.int .i64 0, .int .u64 (W64 f1), .int .i64 f2, .int .u64 (W64 f3), .int .u64 (W64 f4), .int .u64 (W64 f5), .int .u64 0, .int .i64 0, .int .u64 0, .int .u64 0, .int .u64 0] G_42 ?_ ?_ Try.underlying27 ?_ ?_ ?_); rfl; rfl; rfl; kernel_rfl) | ((with_reducible refine wpList_ldg 0 [.int .i64 0, .int .u64 (W64 f1), .int .i64 f2, .int .u64 (W64 f3), .int .u64 (W64 f4), .int .u64 (W64 f5), .int .u64 0, .int .i64 0, .int .u64 0, .int .u64 0, .int .u64 0] G_42 ?_ ?_ Try.underlying27 ?_ ?_ ?_ ?_); rfl; rfl; rfl; kernel_rfl; rfl) | ((with_reducible refine wpList_ld 0 [.int .u32 (W32 (ix + 1#32)), .bool true, .int .i64 1000] G_67 ?_ ?_ Try.underlying59 ?_ ?_ ?_); rfl; rfl; rfl; kernel_rfl) | ((with_reducible refine wpList_ldg 0 [.int .u32 (W32 (ix + 1#32)), .bool true, .int .i64 1000] G_67 ?_ ?_ Try.underlying59 ?_ ?_ ?_ ?_); rfl; rfl; rfl; kernel_rfl; rfl))
  refine (H4.out _).mono ?_; rintro e w_88 ⟨rfl, hb_89⟩
  replace G_24 := G_24.to hb_89 G_24.lt
  replace G_42 := G_42.to hb_89 G_42.lt
  replace G_53 := G_53.to hb_89 G_53.lt
  replace G_67 := G_67.to hb_89 G_67.lt
  replace hB := hB.trans (hb_89.mono hB.size)
  clear hb_89
  go_wp2_with (first | (with_reducible refine stop_store ?_) | (with_reducible refine stop_box ?_) | (with_reducible refine stop_alloc ?_) | (with_reducible refine stop_bslice ?_))
  go_returns
  exact ⟨rfl, hB⟩
set_option maxHeartbeats 4000000 in
theorem under_2_true (first second : BitVec 64) (ix : BitVec 32) (w : World) (h0 : first ≠ second) (h1 : ix ≠ 0#32) (h2 : ix ≠ 4294967295#32) :
    Calls Try.prog 8 #[.int .u64 (W64 first), .int .u64 (W64 second), .int .i64 2, .int .u32 (W32 ix), .bool true] w fun e w' => e = .returned (.bool true) ∧ Below w.heap.size w w' := by
  have hk1 : newKeyK ⟨0, nkD first, nk0⟩ second = (⟨1, nkD first, nkD second⟩, 0) := by unfold newKeyK; rw [if_neg (by simp), if_neg (by simp), if_neg (fun h => h0 (by rw [h]; rfl))]
  obtain ⟨⟨d1, d2, d3, d4, d5⟩, hd1⟩ : ∃ z, nkD first = z := ⟨_, rfl⟩
  obtain ⟨⟨f1, f2, f3, f4, f5⟩, hd2⟩ : ∃ z, nkD second = z := ⟨_, rfl⟩
  rw [hd1, hd2] at hk1
  have CD := Lib.hid (show ∀ W, Calls Try.prog 46 #[.int .u64 (W64 first)] W fun e w' => e = .returned (.agg #[.int .u64 (W64 d1), .int .i64 d2, .int .u64 (W64 d3), .int .u64 (W64 d4), .int .u64 (W64 d5)]) ∧ Below W.heap.size W w' from fun W => by
    have := mesh_Derive first W
    have hh : nkA (nkD first) = #[.int .u64 (W64 d1), .int .i64 d2, .int .u64 (W64 d3), .int .u64 (W64 d4), .int .u64 (W64 d5)] := by rw [hd1]; rfl
    unfold nkA nkD at hh
    dsimp only at hh
    rw [hh] at this
    exact this)
  have CN := Lib.hid (show ∀ W, Calls Try.prog 15 #[.agg #[.int .i64 0, .int .u64 (W64 d1), .int .i64 d2, .int .u64 (W64 d3), .int .u64 (W64 d4), .int .u64 (W64 d5), .int .u64 0, .int .i64 0, .int .u64 0, .int .u64 0, .int .u64 0], .int .u64 (W64 second)] W fun e w' => e = .returned (.tuple #[.agg #[.int .i64 1, .int .u64 (W64 d1), .int .i64 d2, .int .u64 (W64 d3), .int .u64 (W64 d4), .int .u64 (W64 d5), .int .u64 (W64 f1), .int .i64 f2, .int .u64 (W64 f3), .int .u64 (W64 f4), .int .u64 (W64 f5)], .int .i64 0]) ∧ Below W.heap.size W w' from fun W => by have := rf_NewKey ⟨0, ⟨d1, d2, d3, d4, d5⟩, nk0⟩ second W; rw [hk1] at this; exact this)
  have CP2 := Lib.hid (show ∀ W, Calls Try.prog 17 #[.agg #[.int .i64 1, .int .u64 (W64 d1), .int .i64 d2, .int .u64 (W64 d3), .int .u64 (W64 d4), .int .u64 (W64 d5), .int .u64 (W64 f1), .int .i64 f2, .int .u64 (W64 f3), .int .u64 (W64 f4), .int .u64 (W64 f5)], .int .i64 2] W fun e w' => e = .returned (.tuple #[.agg #[.int .i64 2, .int .u64 (W64 d1), .int .i64 d2, .int .u64 (W64 d3), .int .u64 (W64 d4), .int .u64 (W64 d5), .int .u64 (W64 f1), .int .i64 f2, .int .u64 (W64 f3), .int .u64 (W64 f4), .int .u64 (W64 f5)], .bool true]) ∧ Below W.heap.size W w' from fun W => rf_Phase ⟨1, ⟨d1, d2, d3, d4, d5⟩, ⟨f1, f2, f3, f4, f5⟩⟩ 2 W)
  have CP3 := Lib.hid (show ∀ W, Calls Try.prog 17 #[.agg #[.int .i64 2, .int .u64 (W64 d1), .int .i64 d2, .int .u64 (W64 d3), .int .u64 (W64 d4), .int .u64 (W64 d5), .int .u64 (W64 f1), .int .i64 f2, .int .u64 (W64 f3), .int .u64 (W64 f4), .int .u64 (W64 f5)], .int .i64 3] W fun e w' => e = .returned (.tuple #[.agg #[.int .i64 0, .int .u64 (W64 f1), .int .i64 f2, .int .u64 (W64 f3), .int .u64 (W64 f4), .int .u64 (W64 f5), .int .u64 0, .int .i64 0, .int .u64 0, .int .u64 0, .int .u64 0], .bool true]) ∧ Below W.heap.size W w' from fun W => rf_Phase ⟨2, ⟨d1, d2, d3, d4, d5⟩, ⟨f1, f2, f3, f4, f5⟩⟩ 3 W)
  have CB := Lib.hid (show ∀ W, Calls Try.prog 38 #[.agg #[.int .u32 (W32 ix), .bool true, .int .i64 0], .int .i64 1000] W fun e w' => e = .returned (.tuple #[.agg #[.int .u32 (W32 ix), .bool true, .int .i64 0], .int .i64 9]) ∧ Below W.heap.size W w' from fun W => rf_Begin ⟨ix, true, 0⟩ 1000 W (show (0 : Int) ≤ 0 ∧ (0 : Int) ≤ 1099511627776 from by decide) (by decide))
  have CE := Lib.hid (show ∀ W, Calls Try.prog 40 #[.agg #[.int .u32 (W32 ix), .bool true, .int .i64 0], .int .i64 1000] W fun e w' => e = .returned (.tuple #[.agg #[.int .u32 (W32 ix), .bool false, .int .i64 1000], .int .i64 0]) ∧ Below W.heap.size W w' from fun W => rf_End ⟨ix, true, 0⟩ 1000 W (show (0 : Int) ≤ 0 ∧ (0 : Int) ≤ 1099511627776 from by decide) (by decide))
  have htv : txK ⟨ix, true, 0⟩ = ix - 1#32 := by unfold txK; rw [if_pos ⟨rfl, h1⟩]
  have htu : txK ⟨ix, false, 1000⟩ = ix := by unfold txK; rw [if_neg (by simp)]
  have r1 : rxK ⟨ix, true, 0⟩ (W32 (txK ⟨ix, false, 1000⟩ % 2#32)) = (txK ⟨ix, false, 1000⟩, true) := rx_of _ _ (.inl htu)
  have r2 : rxK ⟨ix, false, 1000⟩ (W32 (txK ⟨ix, true, 0⟩ % 2#32)) = (txK ⟨ix, true, 0⟩, true) := rx_of _ _ (.inr ⟨h1, htv⟩)
  clear htv htu
  have H1 := Lib.hid (show ∀ W, Calls Try.prog 47 #[.agg #[.int .i64 2, .int .u64 (W64 d1), .int .i64 d2, .int .u64 (W64 d3), .int .u64 (W64 d4), .int .u64 (W64 d5), .int .u64 (W64 f1), .int .i64 f2, .int .u64 (W64 f3), .int .u64 (W64 f4), .int .u64 (W64 f5)], .agg #[.int .i64 0, .int .u64 (W64 f1), .int .i64 f2, .int .u64 (W64 f3), .int .u64 (W64 f4), .int .u64 (W64 f5), .int .u64 0, .int .i64 0, .int .u64 0, .int .u64 0, .int .u64 0], .agg #[.int .u32 (W32 ix), .bool true, .int .i64 0], .agg #[.int .u32 (W32 ix), .bool false, .int .i64 1000]] W fun e w' => e = .returned (.bool true) ∧ Below W.heap.size W w' from fun W => hears_c ⟨2, ⟨d1, d2, d3, d4, d5⟩, ⟨f1, f2, f3, f4, f5⟩⟩ ⟨0, ⟨f1, f2, f3, f4, f5⟩, nk0⟩ ⟨ix, true, 0⟩ ⟨ix, false, 1000⟩ W (by exact mem0 _ _) r1)
  have H2 := Lib.hid (show ∀ W, Calls Try.prog 47 #[.agg #[.int .i64 0, .int .u64 (W64 f1), .int .i64 f2, .int .u64 (W64 f3), .int .u64 (W64 f4), .int .u64 (W64 f5), .int .u64 0, .int .i64 0, .int .u64 0, .int .u64 0, .int .u64 0], .agg #[.int .i64 2, .int .u64 (W64 d1), .int .i64 d2, .int .u64 (W64 d3), .int .u64 (W64 d4), .int .u64 (W64 d5), .int .u64 (W64 f1), .int .i64 f2, .int .u64 (W64 f3), .int .u64 (W64 f4), .int .u64 (W64 f5)], .agg #[.int .u32 (W32 ix), .bool false, .int .i64 1000], .agg #[.int .u32 (W32 ix), .bool true, .int .i64 0]] W fun e w' => e = .returned (.bool true) ∧ Below W.heap.size W w' from fun W => hears_c ⟨0, ⟨f1, f2, f3, f4, f5⟩, nk0⟩ ⟨2, ⟨d1, d2, d3, d4, d5⟩, ⟨f1, f2, f3, f4, f5⟩⟩ ⟨ix, false, 1000⟩ ⟨ix, true, 0⟩ W (by exact mem0 _ _) r2)
  have H3 := Lib.hid (show ∀ W, Calls Try.prog 47 #[.agg #[.int .i64 2, .int .u64 (W64 d1), .int .i64 d2, .int .u64 (W64 d3), .int .u64 (W64 d4), .int .u64 (W64 d5), .int .u64 (W64 f1), .int .i64 f2, .int .u64 (W64 f3), .int .u64 (W64 f4), .int .u64 (W64 f5)], .agg #[.int .i64 2, .int .u64 (W64 d1), .int .i64 d2, .int .u64 (W64 d3), .int .u64 (W64 d4), .int .u64 (W64 d5), .int .u64 (W64 f1), .int .i64 f2, .int .u64 (W64 f3), .int .u64 (W64 f4), .int .u64 (W64 f5)], .agg #[.int .u32 (W32 ix), .bool true, .int .i64 0], .agg #[.int .u32 (W32 ix), .bool true, .int .i64 0]] W fun e w' => e = .returned (.bool true) ∧ Below W.heap.size W w' from fun W => hears_c ⟨2, ⟨d1, d2, d3, d4, d5⟩, ⟨f1, f2, f3, f4, f5⟩⟩ ⟨2, ⟨d1, d2, d3, d4, d5⟩, ⟨f1, f2, f3, f4, f5⟩⟩ ⟨ix, true, 0⟩ ⟨ix, true, 0⟩ W (by exact mem0 _ _) (rx_tx ⟨ix, true, 0⟩))
  have H4 := Lib.hid (show ∀ W, Calls Try.prog 47 #[.agg #[.int .i64 0, .int .u64 (W64 f1), .int .i64 f2, .int .u64 (W64 f3), .int .u64 (W64 f4), .int .u64 (W64 f5), .int .u64 0, .int .i64 0, .int .u64 0, .int .u64 0, .int .u64 0], .agg #[.int .i64 0, .int .u64 (W64 f1), .int .i64 f2, .int .u64 (W64 f3), .int .u64 (W64 f4), .int .u64 (W64 f5), .int .u64 0, .int .i64 0, .int .u64 0, .int .u64 0, .int .u64 0], .agg #[.int .u32 (W32 ix), .bool false, .int .i64 1000], .agg #[.int .u32 (W32 ix), .bool false, .int .i64 1000]] W fun e w' => e = .returned (.bool true) ∧ Below W.heap.size W w' from fun W => hears_c ⟨0, ⟨f1, f2, f3, f4, f5⟩, nk0⟩ ⟨0, ⟨f1, f2, f3, f4, f5⟩, nk0⟩ ⟨ix, false, 1000⟩ ⟨ix, false, 1000⟩ W (by exact mem0 _ _) (rx_tx ⟨ix, false, 1000⟩))
  clear r1 r2 hk1 hd1 hd2
  have q0 : ((W64 first : Int) == W64 second) = false := by rw [W64_beq]; simpa using h0
  have q1 : ((W32 ix : Int) == 0) = false := by have this : (W32 ix == W32 0#32) = false := (by rw [W32_beq]; simpa using h1); exact this
  have q2 : ((W32 ix : Int) == 4294967295) = false := by have this : (W32 ix == W32 4294967295#32) = false := (by rw [W32_beq]; simpa using h2); exact this
  clear h0 h1 h2
  go_enter Try.func8, Try.ntmps8
  go_wp2_with (first | (with_reducible refine stop_store ?_) | (with_reducible refine stop_box ?_) | (with_reducible refine stop_alloc ?_) | (with_reducible refine stop_bslice ?_))
  refine (CD.out _).mono ?_; rintro e w_1 ⟨rfl, hb_2⟩
  have hB := hb_2
  clear hb_2
  go_wp2_with (first | (with_reducible refine stop_store ?_) | (with_reducible refine stop_box ?_) | (with_reducible refine stop_alloc ?_) | (with_reducible refine stop_bslice ?_))
  unfold Kept
  refine go_mem (ty := 27) (cs := #[.int .i64 0, .int .u64 0, .int .i64 0, .int .u64 0, .int .u64 0, .int .u64 0, .int .u64 0, .int .i64 0, .int .u64 0, .int .u64 0, .int .u64 0]) (fun g => .pointer (some ⟨g, 0, none⟩)) rfl (by kernel_rfl) ?_
  intro g_3 w_4 z_8 l_7 hb_5 G_6
  have n_9 : w.heap.size ≤ g_3 := Nat.le_trans hB.size l_7
  replace hB := hB.trans (hb_5.mono hB.size)
  clear hb_5 l_7 z_8
  go_wp2_with (first | (with_reducible refine stop_store ?_) | (with_reducible refine stop_box ?_) | (with_reducible refine stop_alloc ?_) | (with_reducible refine stop_bslice ?_))
  unfold Kept
  refine wpList_st 0 #[.int .i64 0, .int .u64 (W64 d1), .int .i64 d2, .int .u64 (W64 d3), .int .u64 (W64 d4), .int .u64 (W64 d5), .int .u64 0, .int .i64 0, .int .u64 0, .int .u64 0, .int .u64 0] #[.int .i64 0, .int .u64 (W64 d1), .int .i64 d2, .int .u64 (W64 d3), .int .u64 (W64 d4), .int .u64 (W64 d5), .int .u64 0, .int .i64 0, .int .u64 0, .int .u64 0, .int .u64 0] G_6 rfl rfl (by kernel_rfl) rfl (of_decide_eq_true rfl) rfl ?_
  intro w_10 G_12 hU_11
  replace hB := hU_11.below hB (by omega)
  clear G_6 hU_11
  go_wp2_with (first | (with_reducible refine stop_store ?_) | (with_reducible refine stop_box ?_) | (with_reducible refine stop_alloc ?_) | (with_reducible refine stop_bslice ?_) | ((with_reducible refine wpList_ld 0 [.int .i64 0, .int .u64 (W64 d1), .int .i64 d2, .int .u64 (W64 d3), .int .u64 (W64 d4), .int .u64 (W64 d5), .int .u64 0, .int .i64 0, .int .u64 0, .int .u64 0, .int .u64 0] G_12 ?_ ?_ Try.underlying27 ?_ ?_ ?_); rfl; rfl; rfl; kernel_rfl) | ((with_reducible refine wpList_ldg 0 [.int .i64 0, .int .u64 (W64 d1), .int .i64 d2, .int .u64 (W64 d3), .int .u64 (W64 d4), .int .u64 (W64 d5), .int .u64 0, .int .i64 0, .int .u64 0, .int .u64 0, .int .u64 0] G_12 ?_ ?_ Try.underlying27 ?_ ?_ ?_ ?_); rfl; rfl; rfl; kernel_rfl; rfl))
  refine (CN.out _).mono ?_; rintro e w_14 ⟨rfl, hb_15⟩
  replace G_12 := G_12.to hb_15 G_12.lt
  replace hB := hB.trans (hb_15.mono hB.size)
  clear hb_15
  go_wp2_with (first | (with_reducible refine stop_store ?_) | (with_reducible refine stop_box ?_) | (with_reducible refine stop_alloc ?_) | (with_reducible refine stop_bslice ?_))
  unfold Kept
  refine wpList_st 0 #[.int .i64 1, .int .u64 (W64 d1), .int .i64 d2, .int .u64 (W64 d3), .int .u64 (W64 d4), .int .u64 (W64 d5), .int .u64 (W64 f1), .int .i64 f2, .int .u64 (W64 f3), .int .u64 (W64 f4), .int .u64 (W64 f5)] #[.int .i64 1, .int .u64 (W64 d1), .int .i64 d2, .int .u64 (W64 d3), .int .u64 (W64 d4), .int .u64 (W64 d5), .int .u64 (W64 f1), .int .i64 f2, .int .u64 (W64 f3), .int .u64 (W64 f4), .int .u64 (W64 f5)] G_12 rfl rfl (by kernel_rfl) rfl (of_decide_eq_true rfl) rfl ?_
  intro w_16 G_18 hU_17
  replace hB := hU_17.below hB (by omega)
  clear G_12 hU_17
  go_wp2_with (first | (with_reducible refine stop_store ?_) | (with_reducible refine stop_box ?_) | (with_reducible refine stop_alloc ?_) | (with_reducible refine stop_bslice ?_) | ((with_reducible refine wpList_ld 0 [.int .i64 1, .int .u64 (W64 d1), .int .i64 d2, .int .u64 (W64 d3), .int .u64 (W64 d4), .int .u64 (W64 d5), .int .u64 (W64 f1), .int .i64 f2, .int .u64 (W64 f3), .int .u64 (W64 f4), .int .u64 (W64 f5)] G_18 ?_ ?_ Try.underlying27 ?_ ?_ ?_); rfl; rfl; rfl; kernel_rfl) | ((with_reducible refine wpList_ldg 0 [.int .i64 1, .int .u64 (W64 d1), .int .i64 d2, .int .u64 (W64 d3), .int .u64 (W64 d4), .int .u64 (W64 d5), .int .u64 (W64 f1), .int .i64 f2, .int .u64 (W64 f3), .int .u64 (W64 f4), .int .u64 (W64 f5)] G_18 ?_ ?_ Try.underlying27 ?_ ?_ ?_ ?_); rfl; rfl; rfl; kernel_rfl; rfl))
  refine (CP2.out _).mono ?_; rintro e w_20 ⟨rfl, hb_21⟩
  replace G_18 := G_18.to hb_21 G_18.lt
  replace hB := hB.trans (hb_21.mono hB.size)
  clear hb_21
  go_wp2_with (first | (with_reducible refine stop_store ?_) | (with_reducible refine stop_box ?_) | (with_reducible refine stop_alloc ?_) | (with_reducible refine stop_bslice ?_))
  unfold Kept
  refine wpList_st 0 #[.int .i64 2, .int .u64 (W64 d1), .int .i64 d2, .int .u64 (W64 d3), .int .u64 (W64 d4), .int .u64 (W64 d5), .int .u64 (W64 f1), .int .i64 f2, .int .u64 (W64 f3), .int .u64 (W64 f4), .int .u64 (W64 f5)] #[.int .i64 2, .int .u64 (W64 d1), .int .i64 d2, .int .u64 (W64 d3), .int .u64 (W64 d4), .int .u64 (W64 d5), .int .u64 (W64 f1), .int .i64 f2, .int .u64 (W64 f3), .int .u64 (W64 f4), .int .u64 (W64 f5)] G_18 rfl rfl (by kernel_rfl) rfl (of_decide_eq_true rfl) rfl ?_
  intro w_22 G_24 hU_23
  replace hB := hU_23.below hB (by omega)
  clear G_18 hU_23
  go_wp2_with (first | (with_reducible refine stop_store ?_) | (with_reducible refine stop_box ?_) | (with_reducible refine stop_alloc ?_) | (with_reducible refine stop_bslice ?_) | ((with_reducible refine wpList_ld 0 [.int .i64 2, .int .u64 (W64 d1), .int .i64 d2, .int .u64 (W64 d3), .int .u64 (W64 d4), .int .u64 (W64 d5), .int .u64 (W64 f1), .int .i64 f2, .int .u64 (W64 f3), .int .u64 (W64 f4), .int .u64 (W64 f5)] G_24 ?_ ?_ Try.underlying27 ?_ ?_ ?_); rfl; rfl; rfl; kernel_rfl) | ((with_reducible refine wpList_ldg 0 [.int .i64 2, .int .u64 (W64 d1), .int .i64 d2, .int .u64 (W64 d3), .int .u64 (W64 d4), .int .u64 (W64 d5), .int .u64 (W64 f1), .int .i64 f2, .int .u64 (W64 f3), .int .u64 (W64 f4), .int .u64 (W64 f5)] G_24 ?_ ?_ Try.underlying27 ?_ ?_ ?_ ?_); rfl; rfl; rfl; kernel_rfl; rfl))
  unfold Kept
  refine go_mem (ty := 27) (cs := #[.int .i64 0, .int .u64 0, .int .i64 0, .int .u64 0, .int .u64 0, .int .u64 0, .int .u64 0, .int .i64 0, .int .u64 0, .int .u64 0, .int .u64 0]) (fun g => .pointer (some ⟨g, 0, none⟩)) rfl (by kernel_rfl) ?_
  intro g_26 w_27 z_31 l_30 hb_28 G_29
  have n_32 : g_3 < g_26 := Nat.lt_of_lt_of_le G_24.lt l_30
  have n_33 : w.heap.size ≤ g_26 := Nat.le_trans hB.size l_30
  replace G_24 := G_24.to hb_28 G_24.lt
  replace hB := hB.trans (hb_28.mono hB.size)
  clear hb_28 l_30 z_31
  go_wp2_with (first | (with_reducible refine stop_store ?_) | (with_reducible refine stop_box ?_) | (with_reducible refine stop_alloc ?_) | (with_reducible refine stop_bslice ?_))
  unfold Kept
  refine wpList_st 0 #[.int .i64 2, .int .u64 (W64 d1), .int .i64 d2, .int .u64 (W64 d3), .int .u64 (W64 d4), .int .u64 (W64 d5), .int .u64 (W64 f1), .int .i64 f2, .int .u64 (W64 f3), .int .u64 (W64 f4), .int .u64 (W64 f5)] #[.int .i64 2, .int .u64 (W64 d1), .int .i64 d2, .int .u64 (W64 d3), .int .u64 (W64 d4), .int .u64 (W64 d5), .int .u64 (W64 f1), .int .i64 f2, .int .u64 (W64 f3), .int .u64 (W64 f4), .int .u64 (W64 f5)] G_29 rfl rfl (by kernel_rfl) rfl (of_decide_eq_true rfl) rfl ?_
  intro w_34 G_36 hU_35
  replace G_24 := hU_35.blk G_24 (by omega)
  replace hB := hU_35.below hB (by omega)
  clear G_29 hU_35
  go_wp2_with (first | (with_reducible refine stop_store ?_) | (with_reducible refine stop_box ?_) | (with_reducible refine stop_alloc ?_) | (with_reducible refine stop_bslice ?_) | ((with_reducible refine wpList_ld 0 [.int .i64 2, .int .u64 (W64 d1), .int .i64 d2, .int .u64 (W64 d3), .int .u64 (W64 d4), .int .u64 (W64 d5), .int .u64 (W64 f1), .int .i64 f2, .int .u64 (W64 f3), .int .u64 (W64 f4), .int .u64 (W64 f5)] G_24 ?_ ?_ Try.underlying27 ?_ ?_ ?_); rfl; rfl; rfl; kernel_rfl) | ((with_reducible refine wpList_ldg 0 [.int .i64 2, .int .u64 (W64 d1), .int .i64 d2, .int .u64 (W64 d3), .int .u64 (W64 d4), .int .u64 (W64 d5), .int .u64 (W64 f1), .int .i64 f2, .int .u64 (W64 f3), .int .u64 (W64 f4), .int .u64 (W64 f5)] G_24 ?_ ?_ Try.underlying27 ?_ ?_ ?_ ?_); rfl; rfl; rfl; kernel_rfl; rfl))
  refine (CP3.out _).mono ?_; rintro e w_38 ⟨rfl, hb_39⟩
  replace G_24 := G_24.to hb_39 G_24.lt
  replace G_36 := G_36.to hb_39 G_36.lt
  replace hB := hB.trans (hb_39.mono hB.size)
  clear hb_39
  go_wp2_with (first | (with_reducible refine stop_store ?_) | (with_reducible refine stop_box ?_) | (with_reducible refine stop_alloc ?_) | (with_reducible refine stop_bslice ?_))
  unfold Kept
  refine wpList_st 0 #[.int .i64 0, .int .u64 (W64 f1), .int .i64 f2, .int .u64 (W64 f3), .int .u64 (W64 f4), .int .u64 (W64 f5), .int .u64 0, .int .i64 0, .int .u64 0, .int .u64 0, .int .u64 0] #[.int .i64 0, .int .u64 (W64 f1), .int .i64 f2, .int .u64 (W64 f3), .int .u64 (W64 f4), .int .u64 (W64 f5), .int .u64 0, .int .i64 0, .int .u64 0, .int .u64 0, .int .u64 0] G_36 rfl rfl (by kernel_rfl) rfl (of_decide_eq_true rfl) rfl ?_
  intro w_40 G_42 hU_41
  replace G_24 := hU_41.blk G_24 (by omega)
  replace hB := hU_41.below hB (by omega)
  clear G_36 hU_41
  go_wp2_with (first | (with_reducible refine stop_store ?_) | (with_reducible refine stop_box ?_) | (with_reducible refine stop_alloc ?_) | (with_reducible refine stop_bslice ?_))
  unfold Kept
  refine go_mem (ty := 59) (cs := #[.int .u32 0, .bool false, .int .i64 0]) (fun g => .pointer (some ⟨g, 0, none⟩)) rfl (by kernel_rfl) ?_
  intro g_43 w_44 z_48 l_47 hb_45 G_46
  have n_49 : g_26 < g_43 := Nat.lt_of_lt_of_le G_42.lt l_47
  have n_50 : w.heap.size ≤ g_43 := Nat.le_trans hB.size l_47
  replace G_24 := G_24.to hb_45 G_24.lt
  replace G_42 := G_42.to hb_45 G_42.lt
  replace hB := hB.trans (hb_45.mono hB.size)
  clear hb_45 l_47 z_48
  go_wp2_with (first | (with_reducible refine stop_store ?_) | (with_reducible refine stop_box ?_) | (with_reducible refine stop_alloc ?_) | (with_reducible refine stop_bslice ?_))
  unfold Kept
  refine wpList_st 0 #[.int .u32 (W32 ix), .bool true, .int .i64 0] #[.int .u32 (W32 ix), .bool true, .int .i64 0] G_46 rfl rfl (by kernel_rfl) rfl (of_decide_eq_true rfl) rfl ?_
  intro w_51 G_53 hU_52
  replace G_24 := hU_52.blk G_24 (by omega)
  replace G_42 := hU_52.blk G_42 (by omega)
  replace hB := hU_52.below hB (by omega)
  clear G_46 hU_52
  go_wp2_with (first | (with_reducible refine stop_store ?_) | (with_reducible refine stop_box ?_) | (with_reducible refine stop_alloc ?_) | (with_reducible refine stop_bslice ?_) | ((with_reducible refine wpList_ld 0 [.int .u32 (W32 ix), .bool true, .int .i64 0] G_53 ?_ ?_ Try.underlying59 ?_ ?_ ?_); rfl; rfl; rfl; kernel_rfl) | ((with_reducible refine wpList_ldg 0 [.int .u32 (W32 ix), .bool true, .int .i64 0] G_53 ?_ ?_ Try.underlying59 ?_ ?_ ?_ ?_); rfl; rfl; rfl; kernel_rfl; rfl))
  refine (CB.out _).mono ?_; rintro e w_55 ⟨rfl, hb_56⟩
  replace G_24 := G_24.to hb_56 G_24.lt
  replace G_42 := G_42.to hb_56 G_42.lt
  replace G_53 := G_53.to hb_56 G_53.lt
  replace hB := hB.trans (hb_56.mono hB.size)
  clear hb_56
  go_wp2_with (first | (with_reducible refine stop_store ?_) | (with_reducible refine stop_box ?_) | (with_reducible refine stop_alloc ?_) | (with_reducible refine stop_bslice ?_))
  unfold Kept
  refine go_mem (ty := 59) (cs := #[.int .u32 0, .bool false, .int .i64 0]) (fun g => .pointer (some ⟨g, 0, none⟩)) rfl (by kernel_rfl) ?_
  intro g_57 w_58 z_62 l_61 hb_59 G_60
  have n_63 : g_43 < g_57 := Nat.lt_of_lt_of_le G_53.lt l_61
  have n_64 : w.heap.size ≤ g_57 := Nat.le_trans hB.size l_61
  replace G_24 := G_24.to hb_59 G_24.lt
  replace G_42 := G_42.to hb_59 G_42.lt
  replace G_53 := G_53.to hb_59 G_53.lt
  replace hB := hB.trans (hb_59.mono hB.size)
  clear hb_59 l_61 z_62
  go_wp2_with (first | (with_reducible refine stop_store ?_) | (with_reducible refine stop_box ?_) | (with_reducible refine stop_alloc ?_) | (with_reducible refine stop_bslice ?_))
  unfold Kept
  refine wpList_st 0 #[.int .u32 (W32 ix), .bool true, .int .i64 0] #[.int .u32 (W32 ix), .bool true, .int .i64 0] G_60 rfl rfl (by kernel_rfl) rfl (of_decide_eq_true rfl) rfl ?_
  intro w_65 G_67 hU_66
  replace G_24 := hU_66.blk G_24 (by omega)
  replace G_42 := hU_66.blk G_42 (by omega)
  replace G_53 := hU_66.blk G_53 (by omega)
  replace hB := hU_66.below hB (by omega)
  clear G_60 hU_66
  go_wp2_with (first | (with_reducible refine stop_store ?_) | (with_reducible refine stop_box ?_) | (with_reducible refine stop_alloc ?_) | (with_reducible refine stop_bslice ?_) | ((with_reducible refine wpList_ld 0 [.int .u32 (W32 ix), .bool true, .int .i64 0] G_53 ?_ ?_ Try.underlying59 ?_ ?_ ?_); rfl; rfl; rfl; kernel_rfl) | ((with_reducible refine wpList_ldg 0 [.int .u32 (W32 ix), .bool true, .int .i64 0] G_53 ?_ ?_ Try.underlying59 ?_ ?_ ?_ ?_); rfl; rfl; rfl; kernel_rfl; rfl))
  refine (CE.out _).mono ?_; rintro e w_69 ⟨rfl, hb_70⟩
  replace G_24 := G_24.to hb_70 G_24.lt
  replace G_42 := G_42.to hb_70 G_42.lt
  replace G_53 := G_53.to hb_70 G_53.lt
  replace G_67 := G_67.to hb_70 G_67.lt
  replace hB := hB.trans (hb_70.mono hB.size)
  clear hb_70
  go_wp2_with (first | (with_reducible refine stop_store ?_) | (with_reducible refine stop_box ?_) | (with_reducible refine stop_alloc ?_) | (with_reducible refine stop_bslice ?_))
  unfold Kept
  refine wpList_st 0 #[.int .u32 (W32 ix), .bool false, .int .i64 1000] #[.int .u32 (W32 ix), .bool false, .int .i64 1000] G_67 rfl rfl (by kernel_rfl) rfl (of_decide_eq_true rfl) rfl ?_
  intro w_71 G_73 hU_72
  replace G_24 := hU_72.blk G_24 (by omega)
  replace G_42 := hU_72.blk G_42 (by omega)
  replace G_53 := hU_72.blk G_53 (by omega)
  replace hB := hU_72.below hB (by omega)
  clear G_67 hU_72
  go_wp2_with (first | (with_reducible refine stop_store ?_) | (with_reducible refine stop_box ?_) | (with_reducible refine stop_alloc ?_) | (with_reducible refine stop_bslice ?_))
  refine (lives52 _).mono ?_; rintro e w_74 ⟨rfl, hb_75⟩
  replace G_24 := G_24.to hb_75 G_24.lt
  replace G_42 := G_42.to hb_75 G_42.lt
  replace G_53 := G_53.to hb_75 G_53.lt
  replace G_73 := G_73.to hb_75 G_73.lt
  replace hB := hB.trans (hb_75.mono hB.size)
  clear hb_75
  go_wp2_with (first | (with_reducible refine stop_store ?_) | (with_reducible refine stop_box ?_) | (with_reducible refine stop_alloc ?_) | (with_reducible refine stop_bslice ?_) | ((with_reducible refine wpList_ld 0 [.int .i64 2, .int .u64 (W64 d1), .int .i64 d2, .int .u64 (W64 d3), .int .u64 (W64 d4), .int .u64 (W64 d5), .int .u64 (W64 f1), .int .i64 f2, .int .u64 (W64 f3), .int .u64 (W64 f4), .int .u64 (W64 f5)] G_24 ?_ ?_ Try.underlying27 ?_ ?_ ?_); rfl; rfl; rfl; kernel_rfl) | ((with_reducible refine wpList_ldg 0 [.int .i64 2, .int .u64 (W64 d1), .int .i64 d2, .int .u64 (W64 d3), .int .u64 (W64 d4), .int .u64 (W64 d5), .int .u64 (W64 f1), .int .i64 f2, .int .u64 (W64 f3), .int .u64 (W64 f4), .int .u64 (W64 f5)] G_24 ?_ ?_ Try.underlying27 ?_ ?_ ?_ ?_); rfl; rfl; rfl; kernel_rfl; rfl) | ((with_reducible refine wpList_ld 0 [.int .i64 0, .int .u64 (W64 f1), .int .i64 f2, .int .u64 (W64 f3), .int .u64 (W64 f4), .int .u64 (W64 f5), .int .u64 0, .int .i64 0, .int .u64 0, .int .u64 0, .int .u64 0] G_42 ?_ ?_ Try.underlying27 ?_ ?_ ?_); rfl; rfl; rfl; kernel_rfl) | ((with_reducible refine wpList_ldg 0 [.int .i64 0, .int .u64 (W64 f1), .int .i64 f2, .int .u64 (W64 f3), .int .u64 (W64 f4), .int .u64 (W64 f5), .int .u64 0, .int .i64 0, .int .u64 0, .int .u64 0, .int .u64 0] G_42 ?_ ?_ Try.underlying27 ?_ ?_ ?_ ?_); rfl; rfl; rfl; kernel_rfl; rfl) | ((with_reducible refine wpList_ld 0 [.int .u32 (W32 ix), .bool true, .int .i64 0] G_53 ?_ ?_ Try.underlying59 ?_ ?_ ?_); rfl; rfl; rfl; kernel_rfl) | ((with_reducible refine wpList_ldg 0 [.int .u32 (W32 ix), .bool true, .int .i64 0] G_53 ?_ ?_ Try.underlying59 ?_ ?_ ?_ ?_); rfl; rfl; rfl; kernel_rfl; rfl) | ((with_reducible refine wpList_ld 0 [.int .u32 (W32 ix), .bool false, .int .i64 1000] G_73 ?_ ?_ Try.underlying59 ?_ ?_ ?_); rfl; rfl; rfl; kernel_rfl) | ((with_reducible refine wpList_ldg 0 [.int .u32 (W32 ix), .bool false, .int .i64 1000] G_73 ?_ ?_ Try.underlying59 ?_ ?_ ?_ ?_); rfl; rfl; rfl; kernel_rfl; rfl))
  refine (H1.out _).mono ?_; rintro e w_80 ⟨rfl, hb_81⟩
  replace G_24 := G_24.to hb_81 G_24.lt
  replace G_42 := G_42.to hb_81 G_42.lt
  replace G_53 := G_53.to hb_81 G_53.lt
  replace G_73 := G_73.to hb_81 G_73.lt
  replace hB := hB.trans (hb_81.mono hB.size)
  clear hb_81
  go_wp2_with (first | (with_reducible refine stop_store ?_) | (with_reducible refine stop_box ?_) | (with_reducible refine stop_alloc ?_) | (with_reducible refine stop_bslice ?_) | ((with_reducible refine wpList_ld 0 [.int .i64 0, .int .u64 (W64 f1), .int .i64 f2, .int .u64 (W64 f3), .int .u64 (W64 f4), .int .u64 (W64 f5), .int .u64 0, .int .i64 0, .int .u64 0, .int .u64 0, .int .u64 0] G_42 ?_ ?_ Try.underlying27 ?_ ?_ ?_); rfl; rfl; rfl; kernel_rfl) | ((with_reducible refine wpList_ldg 0 [.int .i64 0, .int .u64 (W64 f1), .int .i64 f2, .int .u64 (W64 f3), .int .u64 (W64 f4), .int .u64 (W64 f5), .int .u64 0, .int .i64 0, .int .u64 0, .int .u64 0, .int .u64 0] G_42 ?_ ?_ Try.underlying27 ?_ ?_ ?_ ?_); rfl; rfl; rfl; kernel_rfl; rfl) | ((with_reducible refine wpList_ld 0 [.int .i64 2, .int .u64 (W64 d1), .int .i64 d2, .int .u64 (W64 d3), .int .u64 (W64 d4), .int .u64 (W64 d5), .int .u64 (W64 f1), .int .i64 f2, .int .u64 (W64 f3), .int .u64 (W64 f4), .int .u64 (W64 f5)] G_24 ?_ ?_ Try.underlying27 ?_ ?_ ?_); rfl; rfl; rfl; kernel_rfl) | ((with_reducible refine wpList_ldg 0 [.int .i64 2, .int .u64 (W64 d1), .int .i64 d2, .int .u64 (W64 d3), .int .u64 (W64 d4), .int .u64 (W64 d5), .int .u64 (W64 f1), .int .i64 f2, .int .u64 (W64 f3), .int .u64 (W64 f4), .int .u64 (W64 f5)] G_24 ?_ ?_ Try.underlying27 ?_ ?_ ?_ ?_); rfl; rfl; rfl; kernel_rfl; rfl) | ((with_reducible refine wpList_ld 0 [.int .u32 (W32 ix), .bool false, .int .i64 1000] G_73 ?_ ?_ Try.underlying59 ?_ ?_ ?_); rfl; rfl; rfl; kernel_rfl) | ((with_reducible refine wpList_ldg 0 [.int .u32 (W32 ix), .bool false, .int .i64 1000] G_73 ?_ ?_ Try.underlying59 ?_ ?_ ?_ ?_); rfl; rfl; rfl; kernel_rfl; rfl) | ((with_reducible refine wpList_ld 0 [.int .u32 (W32 ix), .bool true, .int .i64 0] G_53 ?_ ?_ Try.underlying59 ?_ ?_ ?_); rfl; rfl; rfl; kernel_rfl) | ((with_reducible refine wpList_ldg 0 [.int .u32 (W32 ix), .bool true, .int .i64 0] G_53 ?_ ?_ Try.underlying59 ?_ ?_ ?_ ?_); rfl; rfl; rfl; kernel_rfl; rfl))
  refine (H2.out _).mono ?_; rintro e w_86 ⟨rfl, hb_87⟩
  replace G_24 := G_24.to hb_87 G_24.lt
  replace G_42 := G_42.to hb_87 G_42.lt
  replace G_53 := G_53.to hb_87 G_53.lt
  replace G_73 := G_73.to hb_87 G_73.lt
  replace hB := hB.trans (hb_87.mono hB.size)
  clear hb_87
  go_wp2_with (first | (with_reducible refine stop_store ?_) | (with_reducible refine stop_box ?_) | (with_reducible refine stop_alloc ?_) | (with_reducible refine stop_bslice ?_) | ((with_reducible refine wpList_ld 0 [.int .i64 2, .int .u64 (W64 d1), .int .i64 d2, .int .u64 (W64 d3), .int .u64 (W64 d4), .int .u64 (W64 d5), .int .u64 (W64 f1), .int .i64 f2, .int .u64 (W64 f3), .int .u64 (W64 f4), .int .u64 (W64 f5)] G_24 ?_ ?_ Try.underlying27 ?_ ?_ ?_); rfl; rfl; rfl; kernel_rfl) | ((with_reducible refine wpList_ldg 0 [.int .i64 2, .int .u64 (W64 d1), .int .i64 d2, .int .u64 (W64 d3), .int .u64 (W64 d4), .int .u64 (W64 d5), .int .u64 (W64 f1), .int .i64 f2, .int .u64 (W64 f3), .int .u64 (W64 f4), .int .u64 (W64 f5)] G_24 ?_ ?_ Try.underlying27 ?_ ?_ ?_ ?_); rfl; rfl; rfl; kernel_rfl; rfl) | ((with_reducible refine wpList_ld 0 [.int .u32 (W32 ix), .bool true, .int .i64 0] G_53 ?_ ?_ Try.underlying59 ?_ ?_ ?_); rfl; rfl; rfl; kernel_rfl) | ((with_reducible refine wpList_ldg 0 [.int .u32 (W32 ix), .bool true, .int .i64 0] G_53 ?_ ?_ Try.underlying59 ?_ ?_ ?_ ?_); rfl; rfl; rfl; kernel_rfl; rfl))
  refine (H3.out _).mono ?_; rintro e w_90 ⟨rfl, hb_91⟩
  replace G_24 := G_24.to hb_91 G_24.lt
  replace G_42 := G_42.to hb_91 G_42.lt
  replace G_53 := G_53.to hb_91 G_53.lt
  replace G_73 := G_73.to hb_91 G_73.lt
  replace hB := hB.trans (hb_91.mono hB.size)
  clear hb_91
  go_wp2_with (first | (with_reducible refine stop_store ?_) | (with_reducible refine stop_box ?_) | (with_reducible refine stop_alloc ?_) | (with_reducible refine stop_bslice ?_) | ((with_reducible refine wpList_ld 0 [.int .i64 0, .int .u64 (W64 f1), .int .i64 f2, .int .u64 (W64 f3), .int .u64 (W64 f4), .int .u64 (W64 f5), .int .u64 0, .int .i64 0, .int .u64 0, .int .u64 0, .int .u64 0] G_42 ?_ ?_ Try.underlying27 ?_ ?_ ?_); rfl; rfl; rfl; kernel_rfl) | ((with_reducible refine wpList_ldg 0 [.int .i64 0, .int .u64 (W64 f1), .int .i64 f2, .int .u64 (W64 f3), .int .u64 (W64 f4), .int .u64 (W64 f5), .int .u64 0, .int .i64 0, .int .u64 0, .int .u64 0, .int .u64 0] G_42 ?_ ?_ Try.underlying27 ?_ ?_ ?_ ?_); rfl; rfl; rfl; kernel_rfl; rfl) | ((with_reducible refine wpList_ld 0 [.int .u32 (W32 ix), .bool false, .int .i64 1000] G_73 ?_ ?_ Try.underlying59 ?_ ?_ ?_); rfl; rfl; rfl; kernel_rfl) | ((with_reducible refine wpList_ldg 0 [.int .u32 (W32 ix), .bool false, .int .i64 1000] G_73 ?_ ?_ Try.underlying59 ?_ ?_ ?_ ?_); rfl; rfl; rfl; kernel_rfl; rfl))
  refine (H4.out _).mono ?_; rintro e w_94 ⟨rfl, hb_95⟩
  replace G_24 := G_24.to hb_95 G_24.lt
  replace G_42 := G_42.to hb_95 G_42.lt
  replace G_53 := G_53.to hb_95 G_53.lt
  replace G_73 := G_73.to hb_95 G_73.lt
  replace hB := hB.trans (hb_95.mono hB.size)
  clear hb_95
  go_wp2_with (first | (with_reducible refine stop_store ?_) | (with_reducible refine stop_box ?_) | (with_reducible refine stop_alloc ?_) | (with_reducible refine stop_bslice ?_))
  go_returns
  exact ⟨rfl, hB⟩
set_option maxHeartbeats 4000000 in
theorem under_g1 (first second : BitVec 64) (ph : Int) (ix : BitVec 32) (up : Bool) (w : World) (h0 : first = second) :
    Calls Try.prog 8 #[.int .u64 (W64 first), .int .u64 (W64 second), .int .i64 ph, .int .u32 (W32 ix), .bool up] w fun e w' => e = .returned (.bool true) ∧ Below w.heap.size w w' := by
  have q0 : ((W64 first : Int) == W64 second) = true := by rw [W64_beq]; simpa using h0
  clear h0
  go_enter Try.func8, Try.ntmps8
  go_wp2_with (first | (with_reducible refine stop_store ?_) | (with_reducible refine stop_box ?_) | (with_reducible refine stop_alloc ?_) | (with_reducible refine stop_bslice ?_))
  refine (lives52 _).mono ?_; rintro e w_1 ⟨rfl, hb_2⟩
  have hB := hb_2
  clear hb_2
  go_wp2_with (first | (with_reducible refine stop_store ?_) | (with_reducible refine stop_box ?_) | (with_reducible refine stop_alloc ?_) | (with_reducible refine stop_bslice ?_))
  go_returns
  exact ⟨rfl, hB⟩
set_option maxHeartbeats 4000000 in
theorem under_g2 (first second : BitVec 64) (ph : Int) (ix : BitVec 32) (up : Bool) (w : World) (h0 : first ≠ second) (p0 : ph < 0) :
    Calls Try.prog 8 #[.int .u64 (W64 first), .int .u64 (W64 second), .int .i64 ph, .int .u32 (W32 ix), .bool up] w fun e w' => e = .returned (.bool true) ∧ Below w.heap.size w w' := by
  have q0 : ((W64 first : Int) == W64 second) = false := by rw [W64_beq]; simpa using h0
  clear h0
  have q1 : decide (ph < 0) = true := by simp; omega
  go_enter Try.func8, Try.ntmps8
  go_wp2_with (first | (with_reducible refine stop_store ?_) | (with_reducible refine stop_box ?_) | (with_reducible refine stop_alloc ?_) | (with_reducible refine stop_bslice ?_))
  refine (lives52 _).mono ?_; rintro e w_1 ⟨rfl, hb_2⟩
  have hB := hb_2
  clear hb_2
  go_wp2_with (first | (with_reducible refine stop_store ?_) | (with_reducible refine stop_box ?_) | (with_reducible refine stop_alloc ?_) | (with_reducible refine stop_bslice ?_))
  go_returns
  exact ⟨rfl, hB⟩
set_option maxHeartbeats 4000000 in
theorem under_g3 (first second : BitVec 64) (ph : Int) (ix : BitVec 32) (up : Bool) (w : World) (h0 : first ≠ second) (p0 : 2 < ph) :
    Calls Try.prog 8 #[.int .u64 (W64 first), .int .u64 (W64 second), .int .i64 ph, .int .u32 (W32 ix), .bool up] w fun e w' => e = .returned (.bool true) ∧ Below w.heap.size w w' := by
  have q0 : ((W64 first : Int) == W64 second) = false := by rw [W64_beq]; simpa using h0
  clear h0
  have q1 : decide (ph < 0) = false := by simp; omega
  have q2 : decide (2 < ph) = true := by simp; omega
  go_enter Try.func8, Try.ntmps8
  go_wp2_with (first | (with_reducible refine stop_store ?_) | (with_reducible refine stop_box ?_) | (with_reducible refine stop_alloc ?_) | (with_reducible refine stop_bslice ?_))
  refine (lives52 _).mono ?_; rintro e w_1 ⟨rfl, hb_2⟩
  have hB := hb_2
  clear hb_2
  go_wp2_with (first | (with_reducible refine stop_store ?_) | (with_reducible refine stop_box ?_) | (with_reducible refine stop_alloc ?_) | (with_reducible refine stop_bslice ?_))
  go_returns
  exact ⟨rfl, hB⟩
set_option maxHeartbeats 4000000 in
theorem under_g4 (first second : BitVec 64) (ph : Int) (ix : BitVec 32) (up : Bool) (w : World) (h0 : first ≠ second) (p0 : 0 ≤ ph) (p1 : ph ≤ 2) (h1 : ix = 0#32) :
    Calls Try.prog 8 #[.int .u64 (W64 first), .int .u64 (W64 second), .int .i64 ph, .int .u32 (W32 ix), .bool up] w fun e w' => e = .returned (.bool true) ∧ Below w.heap.size w w' := by
  have q0 : ((W64 first : Int) == W64 second) = false := by rw [W64_beq]; simpa using h0
  clear h0
  have q1 : decide (ph < 0) = false := by simp; omega
  have q2 : decide (2 < ph) = false := by simp; omega
  have q3 : ((W32 ix : Int) == 0) = true := by rw [h1]; rfl
  clear h1
  go_enter Try.func8, Try.ntmps8
  go_wp2_with (first | (with_reducible refine stop_store ?_) | (with_reducible refine stop_box ?_) | (with_reducible refine stop_alloc ?_) | (with_reducible refine stop_bslice ?_))
  refine (lives52 _).mono ?_; rintro e w_1 ⟨rfl, hb_2⟩
  have hB := hb_2
  clear hb_2
  go_wp2_with (first | (with_reducible refine stop_store ?_) | (with_reducible refine stop_box ?_) | (with_reducible refine stop_alloc ?_) | (with_reducible refine stop_bslice ?_))
  go_returns
  exact ⟨rfl, hB⟩
set_option maxHeartbeats 4000000 in
theorem under_g5 (first second : BitVec 64) (ph : Int) (ix : BitVec 32) (up : Bool) (w : World) (h0 : first ≠ second) (p0 : 0 ≤ ph) (p1 : ph ≤ 2) (h1 : ix ≠ 0#32) (h2 : ix = 4294967295#32) :
    Calls Try.prog 8 #[.int .u64 (W64 first), .int .u64 (W64 second), .int .i64 ph, .int .u32 (W32 ix), .bool up] w fun e w' => e = .returned (.bool true) ∧ Below w.heap.size w w' := by
  have q0 : ((W64 first : Int) == W64 second) = false := by rw [W64_beq]; simpa using h0
  clear h0
  have q1 : decide (ph < 0) = false := by simp; omega
  have q2 : decide (2 < ph) = false := by simp; omega
  have q3 : ((W32 ix : Int) == 0) = false := by have this : (W32 ix == W32 0#32) = false := (by rw [W32_beq]; simpa using h1); exact this
  clear h1
  have q4 : ((W32 ix : Int) == 4294967295) = true := by rw [h2]; rfl
  clear h2
  go_enter Try.func8, Try.ntmps8
  go_wp2_with (first | (with_reducible refine stop_store ?_) | (with_reducible refine stop_box ?_) | (with_reducible refine stop_alloc ?_) | (with_reducible refine stop_bslice ?_))
  refine (lives52 _).mono ?_; rintro e w_1 ⟨rfl, hb_2⟩
  have hB := hb_2
  clear hb_2
  go_wp2_with (first | (with_reducible refine stop_store ?_) | (with_reducible refine stop_box ?_) | (with_reducible refine stop_alloc ?_) | (with_reducible refine stop_bslice ?_))
  go_returns
  exact ⟨rfl, hB⟩
theorem law_RefreshUnderstood (first second : BitVec 64) (ph : Int) (wph : (Lit.int .i64 ph).wf = true) (ix : BitVec 32) (up : Bool) (w : World) :
    Calls Try.prog 8 #[.int .u64 (W64 first), .int .u64 (W64 second), .int .i64 ph, .int .u32 (W32 ix), .bool up] w fun e w' => e = .returned (.bool true) ∧ Below w.heap.size w w' := by
  by_cases h0 : first = second
  · exact under_g1 first second ph ix up w h0
  by_cases p0 : ph < 0
  · exact under_g2 first second ph ix up w h0 p0
  by_cases p1 : 2 < ph
  · exact under_g3 first second ph ix up w h0 p1
  by_cases h1 : ix = 0#32
  · exact under_g4 first second ph ix up w h0 (by omega) (by omega) h1
  by_cases h2 : ix = 4294967295#32
  · exact under_g5 first second ph ix up w h0 (by omega) (by omega) h1 h2
  rcases (by omega : ph = 0 ∨ ph = 1 ∨ ph = 2) with rfl | rfl | rfl <;> cases up
  · exact under_0_false first second ix w h0 h1 h2
  · exact under_0_true first second ix w h0 h1 h2
  · exact under_1_false first second ix w h0 h1 h2
  · exact under_1_true first second ix w h0 h1 h2
  · exact under_2_false first second ix w h0 h1 h2
  · exact under_2_true first second ix w h0 h1 h2
end Go.Proofs.Ytmehemojopfihaa
