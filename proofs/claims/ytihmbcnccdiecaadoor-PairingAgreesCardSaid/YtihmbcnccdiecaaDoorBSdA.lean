/- Part of the proofs of the laws of pairing. -/
import Derived.Test.YtihmbcnccdiecaaDoorA2
namespace Go.Proofs.YtihmbcnccdiecaaDoor
set_option maxRecDepth 100000
open Go.ChangeShapes Go.WideShapes Go.ChangeAt Go.RowKit
set_option linter.unusedVariables false
set_option linter.unusedSimpArgs false
theorem sd_first (g : Nat) (S : Sd) (v u : Value)  (w : World) (HG : Blk w g SideT (sdL S v u).toArray) (r : Bool) (hr : S.first = r) :
  Calls Tryd.prog 41 #[.pointer (some ⟨g, 0, none⟩)] w (fun e w' => e = .returned (.bool r) ∧ Below w.heap.size w w') := by
 have HR := Lib.hid hr
 clear hr
 go_enter Tryd.func41, Tryd.ntmps41
 have hB := Below.refl w.heap.size w
 have ld_1 := HG.c 0 (.int .i64 S.p.cfg.role)
 go_wp2_with (with_reducible refine so ?_)
 go_returns
 have er : r = (S.p.cfg.role == 0) := by rw [← HR.out]; first | (simp [Sd.first]; done) | (simp only [Sd.first]; simp []; done) | ((simp [Sd.first]) <;> rfl)
 rw [er]
 exact ⟨rfl, hB⟩
theorem sd_own (g : Nat) (S : Sd) (v u : Value)  (w : World) (HG : Blk w g SideT (sdL S v u).toArray) (r : BitVec 32) (hr : S.own = r) :
  Calls Tryd.prog 67 #[.pointer (some ⟨g, 0, none⟩)] w (fun e w' => e = .returned (.int .u32 (W32 r)) ∧ Below w.heap.size w w') := by
 have HR := Lib.hid hr
 clear hr
 go_enter Tryd.func67, Tryd.ntmps67
 have hB := Below.refl w.heap.size w
 have ld_1 := HG.c 14 (.int .u32 (W32 S.p.cfg.secret))
 go_wp2_with (with_reducible refine so ?_)
 refine (gr_Public S.p.cfg.secret _).mono ?_; rintro e w_2 ⟨rfl, hb_3⟩
 clear ld_1
 replace HG := HG.to hb_3 HG.lt
 replace hB := hB.trans (hb_3.mono hB.size)
 clear hb_3
 go_wp2_with (with_reducible refine so ?_)
 go_returns
 have er : r = (pubK S.p.cfg.secret) := by rw [← HR.out]; first | (simp [Sd.own]; done) | (simp only [Sd.own]; simp []; done) | ((simp [Sd.own]) <;> rfl)
 rw [er]
 exact ⟨rfl, hB⟩
theorem sd_passkey (g : Nat) (S : Sd) (v u : Value)  (w : World) (HG : Blk w g SideT (sdL S v u).toArray) (r : Bool) (hr : S.pass = r) :
  Calls Tryd.prog 54 #[.pointer (some ⟨g, 0, none⟩)] w (fun e w' => e = .returned (.bool r) ∧ Below w.heap.size w w') := by
 have HR := Lib.hid hr
 clear hr
 go_enter Tryd.func54, Tryd.ntmps54
 have hB := Below.refl w.heap.size w
 by_cases hc_1 : (S.p.method : Int) = 3
 ·
  obtain ⟨ec_1, ec_1n, kc_1⟩ := fT hc_1; clear hc_1
  have ld_2 := HG.c 21 (.int .i64 S.p.method)
  go_wp2_with (with_reducible refine so ?_)
  go_returns
  have q0 := kc_1.out
  have er : r = true := by rw [← HR.out]; first | (simp [Sd.pass, isPass, q0]; done) | (simp only [Sd.pass, isPass]; simp [q0]; done) | ((simp [Sd.pass, isPass, q0]) <;> rfl)
  rw [er]
  exact ⟨rfl, hB⟩
 obtain ⟨ec_1, ec_1n, kc_1⟩ := fF hc_1; clear hc_1
 by_cases hc_3 : (S.p.method : Int) = 4
 ·
  obtain ⟨ec_3, ec_3n, kc_3⟩ := fT hc_3; clear hc_3
  have ld_4 := HG.c 21 (.int .i64 S.p.method)
  go_wp2_with (with_reducible refine so ?_)
  go_returns
  have q0 := kc_1.out
  have q1 := kc_3.out
  have er : r = true := by rw [← HR.out]; first | (simp [Sd.pass, isPass, q0, q1]; done) | (simp only [Sd.pass, isPass]; simp [q0, q1]; done) | ((simp [Sd.pass, isPass, q0, q1]) <;> rfl)
  rw [er]
  exact ⟨rfl, hB⟩
 obtain ⟨ec_3, ec_3n, kc_3⟩ := fF hc_3; clear hc_3
 have ld_5 := HG.c 21 (.int .i64 S.p.method)
 go_wp2_with (with_reducible refine so ?_)
 go_returns
 have q0 := kc_1.out
 have q1 := kc_3.out
 have er : r = (S.p.method == 5) := by rw [← HR.out]; first | (simp [Sd.pass, isPass, q0, q1]; done) | (simp only [Sd.pass, isPass]; simp [q0, q1]; done) | ((simp [Sd.pass, isPass, q0, q1]) <;> rfl)
 rw [er]
 exact ⟨rfl, hB⟩
theorem sd_shows (g : Nat) (S : Sd) (v u : Value)  (w : World) (HG : Blk w g SideT (sdL S v u).toArray) (r : Bool) (hr : S.shows = r) :
  Calls Tryd.prog 93 #[.pointer (some ⟨g, 0, none⟩)] w (fun e w' => e = .returned (.bool r) ∧ Below w.heap.size w w') := by
 have HR := Lib.hid hr
 clear hr
 go_enter Tryd.func93, Tryd.ntmps93
 have hB := Below.refl w.heap.size w
 go_wp2_with (with_reducible refine so ?_)
 refine (sd_first _ _ _ _  _ HG S.first rfl).mono ?_; rintro e w_1 ⟨rfl, hb_2⟩
 replace HG := HG.to hb_2 HG.lt
 replace hB := hB.trans (hb_2.mono hB.size)
 clear hb_2
 rcases hc_3 : S.first with _ | _
 ·
  skip
  go_wp2_with (with_reducible refine so ?_)
  refine (sd_first _ _ _ _  _ HG S.first rfl).mono ?_; rintro e w_4 ⟨rfl, hb_5⟩
  replace HG := HG.to hb_5 HG.lt
  replace hB := hB.trans (hb_5.mono hB.size)
  clear hb_5
  have ld_6 := HG.c 21 (.int .i64 S.p.method)
  go_wp2_with (with_reducible refine so ?_)
  go_returns
  have er : r = (S.p.method == 4) := by rw [← HR.out]; first | (simp [Sd.shows, hc_3]; done) | (simp only [Sd.shows, hc_3]; simp [hc_3]; done) | ((simp [Sd.shows, hc_3]) <;> rfl)
  rw [er]
  exact ⟨rfl, hB⟩
 skip
 by_cases hc_7 : (S.p.method : Int) = 3
 ·
  obtain ⟨ec_7, ec_7n, kc_7⟩ := fT hc_7; clear hc_7
  have ld_8 := HG.c 21 (.int .i64 S.p.method)
  go_wp2_with (with_reducible refine so ?_)
  go_returns
  have q1 := kc_7.out
  have er : r = true := by rw [← HR.out]; first | (simp [Sd.shows, hc_3, q1]; done) | (simp only [Sd.shows, hc_3]; simp [hc_3, q1]; done) | ((simp [Sd.shows, hc_3, q1]) <;> rfl)
  rw [er]
  exact ⟨rfl, hB⟩
 obtain ⟨ec_7, ec_7n, kc_7⟩ := fF hc_7; clear hc_7
 have ld_9 := HG.c 21 (.int .i64 S.p.method)
 go_wp2_with (with_reducible refine so ?_)
 refine (sd_first _ _ _ _  _ HG S.first rfl).mono ?_; rintro e w_10 ⟨rfl, hb_11⟩
 clear ld_9
 replace HG := HG.to hb_11 HG.lt
 replace hB := hB.trans (hb_11.mono hB.size)
 clear hb_11
 go_wp2_with (with_reducible refine so ?_)
 go_returns
 have q1 := kc_7.out
 have er : r = false := by rw [← HR.out]; first | (simp [Sd.shows, hc_3, q1]; done) | (simp only [Sd.shows, hc_3]; simp [hc_3, q1]; done) | ((simp [Sd.shows, hc_3, q1]) <;> rfl)
 rw [er]
 exact ⟨rfl, hB⟩
theorem sd_byRole_uint64 (g : Nat) (S : Sd) (v u : Value) (a b : BitVec 64) (w : World) (HG : Blk w g SideT (sdL S v u).toArray) (r : BitVec 64) (hr : byR S a b = r) :
  Calls Tryd.prog 78 #[.pointer (some ⟨g, 0, none⟩), .int .u64 (W64 a), .int .u64 (W64 b)] w (fun e w' => e = .returned (.int .u64 (W64 r)) ∧ Below w.heap.size w w') := by
 have HR := Lib.hid hr
 clear hr
 go_enter Tryd.func78, Tryd.ntmps78
 have hB := Below.refl w.heap.size w
 go_wp2_with (with_reducible refine so ?_)
 refine (sd_first _ _ _ _  _ HG S.first rfl).mono ?_; rintro e w_1 ⟨rfl, hb_2⟩
 replace HG := HG.to hb_2 HG.lt
 replace hB := hB.trans (hb_2.mono hB.size)
 clear hb_2
 rcases hc_3 : S.first with _ | _
 ·
  skip
  go_wp2_with (with_reducible refine so ?_)
  go_returns
  have er : r = b := by rw [← HR.out]; first | (simp [byR, hc_3]; done) | (simp only [byR, hc_3]; simp [hc_3]; done) | ((simp [byR, hc_3]) <;> rfl)
  rw [er]
  exact ⟨rfl, hB⟩
 skip
 go_wp2_with (with_reducible refine so ?_)
 go_returns
 have er : r = a := by rw [← HR.out]; first | (simp [byR, hc_3]; done) | (simp only [byR, hc_3]; simp [hc_3]; done) | ((simp [byR, hc_3]) <;> rfl)
 rw [er]
 exact ⟨rfl, hB⟩
theorem sd_byRole_uint32 (g : Nat) (S : Sd) (v u : Value) (a b : BitVec 32) (w : World) (HG : Blk w g SideT (sdL S v u).toArray) (r : BitVec 32) (hr : byR S a b = r) :
  Calls Tryd.prog 96 #[.pointer (some ⟨g, 0, none⟩), .int .u32 (W32 a), .int .u32 (W32 b)] w (fun e w' => e = .returned (.int .u32 (W32 r)) ∧ Below w.heap.size w w') := by
 have HR := Lib.hid hr
 clear hr
 go_enter Tryd.func96, Tryd.ntmps96
 have hB := Below.refl w.heap.size w
 go_wp2_with (with_reducible refine so ?_)
 refine (sd_first _ _ _ _  _ HG S.first rfl).mono ?_; rintro e w_1 ⟨rfl, hb_2⟩
 replace HG := HG.to hb_2 HG.lt
 replace hB := hB.trans (hb_2.mono hB.size)
 clear hb_2
 rcases hc_3 : S.first with _ | _
 ·
  skip
  go_wp2_with (with_reducible refine so ?_)
  go_returns
  have er : r = b := by rw [← HR.out]; first | (simp [byR, hc_3]; done) | (simp only [byR, hc_3]; simp [hc_3]; done) | ((simp [byR, hc_3]) <;> rfl)
  rw [er]
  exact ⟨rfl, hB⟩
 skip
 go_wp2_with (with_reducible refine so ?_)
 go_returns
 have er : r = a := by rw [← HR.out]; first | (simp [byR, hc_3]; done) | (simp only [byR, hc_3]; simp [hc_3]; done) | ((simp [byR, hc_3]) <;> rfl)
 rw [er]
 exact ⟨rfl, hB⟩
theorem sd_byRole_bool (g : Nat) (S : Sd) (v u : Value) (a b : Bool) (w : World) (HG : Blk w g SideT (sdL S v u).toArray) (r : Bool) (hr : byR S a b = r) :
  Calls Tryd.prog 83 #[.pointer (some ⟨g, 0, none⟩), .bool a, .bool b] w (fun e w' => e = .returned (.bool r) ∧ Below w.heap.size w w') := by
 have HR := Lib.hid hr
 clear hr
 go_enter Tryd.func83, Tryd.ntmps83
 have hB := Below.refl w.heap.size w
 go_wp2_with (with_reducible refine so ?_)
 refine (sd_first _ _ _ _  _ HG S.first rfl).mono ?_; rintro e w_1 ⟨rfl, hb_2⟩
 replace HG := HG.to hb_2 HG.lt
 replace hB := hB.trans (hb_2.mono hB.size)
 clear hb_2
 rcases hc_3 : S.first with _ | _
 ·
  skip
  go_wp2_with (with_reducible refine so ?_)
  go_returns
  have er : r = b := by rw [← HR.out]; first | (simp [byR, hc_3]; done) | (simp only [byR, hc_3]; simp [hc_3]; done) | ((simp [byR, hc_3]) <;> rfl)
  rw [er]
  exact ⟨rfl, hB⟩
 skip
 go_wp2_with (with_reducible refine so ?_)
 go_returns
 have er : r = a := by rw [← HR.out]; first | (simp [byR, hc_3]; done) | (simp only [byR, hc_3]; simp [hc_3]; done) | ((simp [byR, hc_3]) <;> rfl)
 rw [er]
 exact ⟨rfl, hB⟩
theorem sd_byRole_adr (g : Nat) (S : Sd) (v u : Value) (a b : Adr) (w : World) (HG : Blk w g SideT (sdL S v u).toArray) (r : Adr) (hr : byR S a b = r) :
  Calls Tryd.prog 79 #[.pointer (some ⟨g, 0, none⟩), .agg (adrL a).toArray, .agg (adrL b).toArray] w (fun e w' => e = .returned (.agg (adrL r).toArray) ∧ Below w.heap.size w w') := by
 have HR := Lib.hid hr
 clear hr
 go_enter Tryd.func79, Tryd.ntmps79
 have hB := Below.refl w.heap.size w
 go_wp2_with (with_reducible refine so ?_)
 refine go_mem (ty := 26) (cs := #[.int .i64 a.kind, .int .u64 (W64 a.bits)]) (fun g => .pointer (some ⟨g, 0, none⟩)) rfl (by kernel_rfl) ?_
 intro g_1 w_2 z_6 l_5 hb_3 G_4
 have n_7 : g < g_1 := Nat.lt_of_lt_of_le HG.lt l_5
 have n_8 : w.heap.size ≤ g_1 := Nat.le_trans hB.size l_5
 replace HG := HG.to hb_3 HG.lt
 replace hB := hB.trans (hb_3.mono hB.size)
 clear hb_3 l_5 z_6
 go_wp2_with (with_reducible refine so ?_)
 refine go_mem (ty := 26) (cs := #[.int .i64 b.kind, .int .u64 (W64 b.bits)]) (fun g => .pointer (some ⟨g, 0, none⟩)) rfl (by kernel_rfl) ?_
 intro g_9 w_10 z_14 l_13 hb_11 G_12
 have n_15 : g_1 < g_9 := Nat.lt_of_lt_of_le G_4.lt l_13
 have n_16 : w.heap.size ≤ g_9 := Nat.le_trans hB.size l_13
 replace HG := HG.to hb_11 HG.lt
 replace G_4 := G_4.to hb_11 G_4.lt
 replace hB := hB.trans (hb_11.mono hB.size)
 clear hb_11 l_13 z_14
 go_wp2_with (with_reducible refine so ?_)
 refine go_mem (ty := 26) (cs := #[.int .i64 0, .int .u64 0]) (fun g => .pointer (some ⟨g, 0, none⟩)) rfl (by kernel_rfl) ?_
 intro g_17 w_18 z_22 l_21 hb_19 G_20
 have n_23 : g_9 < g_17 := Nat.lt_of_lt_of_le G_12.lt l_21
 have n_24 : w.heap.size ≤ g_17 := Nat.le_trans hB.size l_21
 replace HG := HG.to hb_19 HG.lt
 replace G_4 := G_4.to hb_19 G_4.lt
 replace G_12 := G_12.to hb_19 G_12.lt
 replace hB := hB.trans (hb_19.mono hB.size)
 clear hb_19 l_21 z_22
 go_wp2_with (with_reducible refine so ?_)
 refine (sd_first _ _ _ _  _ HG S.first rfl).mono ?_; rintro e w_25 ⟨rfl, hb_26⟩
 replace HG := HG.to hb_26 HG.lt
 replace G_4 := G_4.to hb_26 G_4.lt
 replace G_12 := G_12.to hb_26 G_12.lt
 replace G_20 := G_20.to hb_26 G_20.lt
 replace hB := hB.trans (hb_26.mono hB.size)
 clear hb_26
 rcases hc_27 : S.first with _ | _
 ·
  skip
  go_wp2_with (first | (with_reducible refine so ?_) | (with_reducible refine ld 0 (adrL b) G_12 Tryd.underlying26 ?_))
  refine sv #[.int .i64 b.kind, .int .u64 (W64 b.bits)] G_20 ?_
  intro w_29 G_31 hU_30
  replace HG := hU_30.blk HG (by omega)
  replace G_4 := hU_30.blk G_4 (by omega)
  replace G_12 := hU_30.blk G_12 (by omega)
  replace hB := hU_30.below hB (by omega)
  clear G_20 hU_30
  go_wp2_with (with_reducible refine so ?_)
  refine bodyPost_ret (results_cell rfl rfl (load_blk G_31 Tryd.underlying26 rfl (by kernel_rfl))) rfl ?_
  have er : r = b := by rw [← HR.out]; first | (simp [byR, hc_27]; done) | (simp only [byR, hc_27]; simp [hc_27]; done) | ((simp [byR, hc_27]) <;> rfl)
  rw [er]
  exact ⟨rfl, hB⟩
 skip
 go_wp2_with (first | (with_reducible refine so ?_) | (with_reducible refine ld 0 (adrL a) G_4 Tryd.underlying26 ?_))
 refine sv #[.int .i64 a.kind, .int .u64 (W64 a.bits)] G_20 ?_
 intro w_33 G_35 hU_34
 replace HG := hU_34.blk HG (by omega)
 replace G_4 := hU_34.blk G_4 (by omega)
 replace G_12 := hU_34.blk G_12 (by omega)
 replace hB := hU_34.below hB (by omega)
 clear G_20 hU_34
 go_wp2_with (with_reducible refine so ?_)
 refine bodyPost_ret (results_cell rfl rfl (load_blk G_35 Tryd.underlying26 rfl (by kernel_rfl))) rfl ?_
 have er : r = a := by rw [← HR.out]; first | (simp [byR, hc_27]; done) | (simp only [byR, hc_27]; simp [hc_27]; done) | ((simp [byR, hc_27]) <;> rfl)
 rw [er]
 exact ⟨rfl, hB⟩
theorem sd_extra (g : Nat) (S : Sd) (v u : Value) (has : Bool) (oob : BitVec 64) (w : World) (HG : Blk w g SideT (sdL S v u).toArray) (r : BitVec 64) (hr : S.extra has oob = r) :
  Calls Tryd.prog 97 #[.pointer (some ⟨g, 0, none⟩), .bool has, .int .u64 (W64 oob)] w (fun e w' => e = .returned (.int .u64 (W64 r)) ∧ Below w.heap.size w w') := by
 have HR := Lib.hid hr
 clear hr
 go_enter Tryd.func97, Tryd.ntmps97
 have hB := Below.refl w.heap.size w
 go_wp2_with (with_reducible refine so ?_)
 refine (sd_passkey _ _ _ _  _ HG (isPass S.p.method) rfl).mono ?_; rintro e w_1 ⟨rfl, hb_2⟩
 replace HG := HG.to hb_2 HG.lt
 replace hB := hB.trans (hb_2.mono hB.size)
 clear hb_2
 rcases hc_3 : isPass S.p.method with _ | _
 ·
  skip
  by_cases hc_4 : (S.p.method : Int) = 6
  ·
   obtain ⟨ec_4, ec_4n, kc_4⟩ := fT hc_4; clear hc_4
   cases has
   case false =>
    skip
    have ld_6 := HG.c 21 (.int .i64 S.p.method)
    go_wp2_with (with_reducible refine so ?_)
    go_returns
    have q1 := kc_4.out
    have er : r = 0#64 := by rw [← HR.out]; first | (simp [Sd.extra, Sd.pass, hc_3, q1]; done) | (simp only [Sd.extra, Sd.pass, hc_3]; simp [hc_3, q1]; done) | ((simp [Sd.extra, Sd.pass, hc_3, q1]) <;> rfl)
    rw [er]
    exact ⟨rfl, hB⟩
   case true =>
    skip
    have ld_7 := HG.c 21 (.int .i64 S.p.method)
    go_wp2_with (with_reducible refine so ?_)
    go_returns
    have q1 := kc_4.out
    have er : r = oob := by rw [← HR.out]; first | (simp [Sd.extra, Sd.pass, hc_3, q1]; done) | (simp only [Sd.extra, Sd.pass, hc_3]; simp [hc_3, q1]; done) | ((simp [Sd.extra, Sd.pass, hc_3, q1]) <;> rfl)
    rw [er]
    exact ⟨rfl, hB⟩
  obtain ⟨ec_4, ec_4n, kc_4⟩ := fF hc_4; clear hc_4
  have ld_8 := HG.c 21 (.int .i64 S.p.method)
  go_wp2_with (with_reducible refine so ?_)
  go_returns
  have q1 := kc_4.out
  have er : r = 0#64 := by rw [← HR.out]; first | (simp [Sd.extra, Sd.pass, hc_3, q1]; done) | (simp only [Sd.extra, Sd.pass, hc_3]; simp [hc_3, q1]; done) | ((simp [Sd.extra, Sd.pass, hc_3, q1]) <;> rfl)
  rw [er]
  exact ⟨rfl, hB⟩
 skip
 have ld_9 := HG.c 46 (.int .i64 S.p.passkey)
 go_wp2_with (with_reducible refine so ?_)
 go_returns
 have er : r = (BitVec.ofInt 64 S.p.passkey) := by rw [← HR.out]; first | (simp [Sd.extra, Sd.pass, hc_3]; done) | (simp only [Sd.extra, Sd.pass, hc_3]; simp [hc_3]; done) | ((simp [Sd.extra, Sd.pass, hc_3]) <;> rfl)
 rw [er]
 exact ⟨rfl, hB⟩
end Go.Proofs.YtihmbcnccdiecaaDoor
