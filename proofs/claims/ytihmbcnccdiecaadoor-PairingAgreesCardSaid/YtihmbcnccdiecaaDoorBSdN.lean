/- Part of the proofs of the laws of pairing. -/
import Derived.Test.YtihmbcnccdiecaaDoorA2
import Derived.Test.YtihmbcnccdiecaaDoorBLowB
import Derived.Test.YtihmbcnccdiecaaDoorBLowC
import Derived.Test.YtihmbcnccdiecaaDoorBSdA
import Derived.Test.YtihmbcnccdiecaaDoorBSdB
import Derived.Test.YtihmbcnccdiecaaDoorBSdC
import Derived.Test.YtihmbcnccdiecaaDoorBSdD
import Derived.Test.YtihmbcnccdiecaaDoorBSdE
import Derived.Test.YtihmbcnccdiecaaDoorBSdF
import Derived.Test.YtihmbcnccdiecaaDoorBSdG
namespace Go.Proofs.YtihmbcnccdiecaaDoor
set_option maxRecDepth 100000
open Go.ChangeShapes Go.WideShapes Go.ChangeAt Go.RowKit
set_option linter.unusedVariables false
set_option linter.unusedSimpArgs false
theorem secK_id (i : Idn) : secK ⟨8, ⟨0, false, false, false, false, false⟩, 0#32, 0#64, i, 0⟩ = idnK i := by simp [secK, usedK, sec0, feat0, idn0, adr0]
theorem sm_CheckId (i : Idn) (w : World) (HL : Laid w) : Calls Tryd.prog 23 #[.agg (secL ⟨8, ⟨0, false, false, false, false, false⟩, 0#32, 0#64, i, 0⟩).toArray] w fun e w' => e = .returned (.int .i64 (idnK i)) ∧ Below w.heap.size w w' := by
  have h := sm_Check ⟨8, ⟨0, false, false, false, false, false⟩, 0#32, 0#64, i, 0⟩ w HL
  rw [secK_id] at h
  exact h
set_option maxHeartbeats 4000000 in
theorem pa_New (c : Cfg) (w : World) (HL : Laid w) :
  Calls Tryd.prog 8 #[.agg (cfgL c).toArray] w (fun e w' => e = .returned (.tuple #[.agg (prL (newP c).1).toArray, .int .i64 (newP c).2]) ∧ Below w.heap.size w w') := by
 obtain ⟨r, hr⟩ : ∃ r, newP c = r := ⟨_, rfl⟩
 rw [hr]
 have HR := Lib.hid hr
 clear hr
 have HZ := HL.lt
 go_enter Tryd.func8, Tryd.ntmps8
 have hB := Below.refl w.heap.size w
 go_wp2_with (with_reducible refine sb ?_)
 refine go_mem (ty := 34) (cs := (cfgL c).toArray) (fun g => .pointer (some ⟨g, 0, none⟩)) rfl (by kernel_rfl) ?_
 intro g_1 w_2 z_6 l_5 hb_3 G_4
 have n_7 : w.heap.size ≤ g_1 := Nat.le_trans hB.size l_5
 replace HL := Laid.to HL hb_3
 replace hB := hB.trans (hb_3.mono hB.size)
 clear hb_3 l_5 z_6
 go_wp2_with (with_reducible refine sb ?_)
 refine go_mem (ty := 37) (cs := (prL pr0).toArray) (fun g => .pointer (some ⟨g, 0, none⟩)) rfl (by kernel_rfl) ?_
 intro g_8 w_9 z_13 l_12 hb_10 G_11
 have n_14 : g_1 < g_8 := Nat.lt_of_lt_of_le G_4.lt l_12
 have n_15 : w.heap.size ≤ g_8 := Nat.le_trans hB.size l_12
 replace G_4 := G_4.to hb_10 G_4.lt
 replace HL := Laid.to HL hb_10
 replace hB := hB.trans (hb_10.mono hB.size)
 clear hb_10 l_12 z_13
 by_cases hc_16 : (c.role : Int) = 0
 ·
  obtain ⟨ec_16, ec_16n, kc_16⟩ := fT hc_16; clear hc_16
  have ld_17 := G_4.c 0 (.int .i64 c.role)
  go_wp2_with (with_reducible refine sb ?_)
  clear ld_17
  have hst : Stable fun W => Below w.heap.size w W ∧ Blk W g_1 34 (cfgL c).toArray ∧ Blk W g_8 37 (prL pr0).toArray ∧ Laid W := stable_and (stable_below _ _ (Nat.le_refl _)) (stable_and (stable_blk _ _ _) (stable_and (stable_blk _ _ _) (stable_laid)))
  refine wp_region_v _ 12 hst ⟨hB.drew, G_4, G_11, (HL.to (Below.refl _ _).drew)⟩ ?_
  clear hB G_4 G_11 HL
  refine wpU_p 0 hst ?_
  refine wpU_l 1 1 (featL c.feat) (fun W hS => hS.2.1) Tryd.underlying23 hst ?_
  refine wpU_p 3 hst ?_
  refine wpU_l 4 7 [.int .i64 c.own.kind, .int .u64 (W64 c.own.bits)] (fun W hS => hS.2.1) Tryd.underlying26 hst ?_
  refine wpU_p 6 hst ?_
  refine wpU_l 7 9 [.int .i64 c.peer.kind, .int .u64 (W64 c.peer.bits)] (fun W hS => hS.2.1) Tryd.underlying26 hst ?_
  refine wpU_p 11 hst ?_
  refine wpU_take (v := ?_) 2 hst (fun _ h => h) rfl ?_ ?_; rotate_left; (intro W hS K hK; clear hS; go_simp; refine (me_Check c.feat _).mono ?_; rintro e w9 ⟨rfl, hb⟩; refine CallPost.mk ?_; exact hK.out _ (hb)); simp only [nrm]
  refine wpU_take (v := ?_) 5 hst (fun _ h => h) rfl ?_ ?_; rotate_left; (intro W hS K hK; go_simp; refine (ad_Check c.own _ hS.2.2.2).mono ?_; rintro e w9 ⟨rfl, hb⟩; refine CallPost.mk ?_; exact hK.out _ (hb)); simp only [nrm]
  refine wpU_take (v := ?_) 8 hst (fun _ h => h) rfl ?_ ?_; rotate_left; (intro W hS K hK; go_simp; refine (ad_Check c.peer _ hS.2.2.2).mono ?_; rintro e w9 ⟨rfl, hb⟩; refine CallPost.mk ?_; exact hK.out _ (hb)); simp only [nrm]
  refine wpV_new 9 hst rfl ?_; intro W hS K hK
  have l3_9_g_1 : g_1 < W.heap.size := hS.2.1.lt
  have l3_9_g_8 : g_8 < W.heap.size := hS.2.2.1.lt
  have n3_9a : w.heap.size ≤ W.heap.size := hS.1.size
  clear hS
  go_simp
  refine hK.out (fun W' => Blk W' W.heap.size 38 #[.int .i64 (featK_ c.feat), .int .i64 (adrK c.own), .int .i64 (adrK c.peer)]) _ _ (stable_blk _ _ _) ((Below.refl _ _).alloc (Nat.le_refl _) _) (Blk.new _ _ _) (fun hst => ?_)
  clear hK K
  try simp only [nrm]
  generalize W.heap.size = g3_9 at hst l3_9_g_1 l3_9_g_8 n3_9a ⊢
  clear W
  refine wpU_p 10 hst ?_
  refine wpU_done (fun w_18 hS => ?_)
  obtain ⟨⟨hB, G_4, G_11, HL⟩, G3_9⟩ := hS
  clear hst
  go_wp2_with (with_reducible refine sb ?_)
  refine wp_loop_rounds 4 ?_
  rw [rounds_succ]
  by_cases hc_19 : (featK_ c.feat : Int) = 0
  ·
   obtain ⟨ec_19, ec_19n, kc_19⟩ := fT hc_19; clear hc_19
   have ld_20 := G3_9.c 0 (.int .i64 (featK_ c.feat))
   go_wp2_with (with_reducible refine sb ?_)
   clear ld_20
   rw [rounds_succ]
   by_cases hc_21 : (adrK c.own : Int) = 0
   ·
    obtain ⟨ec_21, ec_21n, kc_21⟩ := fT hc_21; clear hc_21
    have ld_22 := G3_9.c 1 (.int .i64 (adrK c.own))
    go_wp2_with (with_reducible refine sb ?_)
    clear ld_22
    rw [rounds_succ]
    by_cases hc_23 : (adrK c.peer : Int) = 0
    ·
     obtain ⟨ec_23, ec_23n, kc_23⟩ := fT hc_23; clear hc_23
     have ld_24 := G3_9.c 2 (.int .i64 (adrK c.peer))
     go_wp2_with (with_reducible refine sb ?_)
     clear ld_24
     rw [rounds_succ]
     by_cases hc_25 : c.secret < 1#32
     ·
      have ec_25 : decide ((W32 c.secret : Int) < 1) = true := decide_eq_true (show W32 c.secret < W32 (1#32) by rw [W32_lt]; exact hc_25)
      have ec_25n : decide ((1 : Int) ≤ W32 c.secret) = false := decide_eq_false (fun hh => absurd (show W32 (1#32) ≤ W32 c.secret from hh) (by rw [W32_le]; exact BitVec.not_le.2 hc_25))
      have kc_25 := Lib.hid hc_25
      clear hc_25
      have ld_26 := G_4.c 14 (.int .u32 (W32 c.secret))
      go_wp2_with (with_reducible refine sb ?_)
      unfold Kept
      refine wpList_bld [] (prL pr0).toArray (by first | rfl | (simp only [List.map_toArray, List.map_cons, List.map_nil]; done) | (simp only [List.map_toArray, List.map_cons, List.map_nil]; rfl)) (by kernel_rfl) ?_
      clear ld_26
      go_wp2_with (with_reducible refine sb ?_)
      refine sv (prL pr0).toArray G_11 ?_
      intro w_27 G_29 hU_28
      replace G_4 := hU_28.blk G_4 (by omega)
      replace G3_9 := hU_28.blk G3_9 (by omega)
      replace HL := Laid.upd HL hU_28 (by omega)
      replace hB := hU_28.below hB (by omega)
      clear G_11 hU_28
      go_wp2_with (with_reducible refine sb ?_)
      refine bodyPost_ret (results_ct rfl rfl (load_blk G_29 Tryd.underlying37 rfl (by kernel_rfl))) rfl ?_
      have q0 := kc_16.out
      have q1 := kc_19.out
      have q2 := kc_21.out
      have q3 := kc_23.out
      have q4 := kc_25.out
      have er : r = (pr0, 5) := by rw [← HR.out]; (unfold newP; rw [if_neg (fun hh => hh.1 q0), if_neg (fun hh => hh q1), if_neg (fun hh => hh q2), if_neg (fun hh => hh q3), if_pos (.inl q4)]; all_goals rfl)
      rw [er]
      exact ⟨rfl, hB⟩
     have ec_25 : decide ((W32 c.secret : Int) < 1) = false := decide_eq_false (fun hh => hc_25 (by have h2 : W32 c.secret < W32 (1#32) := hh; rw [W32_lt] at h2; exact h2))
     have ec_25n : decide ((1 : Int) ≤ W32 c.secret) = true := decide_eq_true (show W32 (1#32) ≤ W32 c.secret by rw [W32_le]; exact BitVec.not_lt.1 hc_25)
     have kc_25 := Lib.hid hc_25
     clear hc_25
     by_cases hc_30 : 2147483645#32 < c.secret
     ·
      have ec_30 : decide ((2147483645 : Int) < W32 c.secret) = true := decide_eq_true (show W32 (2147483645#32) < W32 c.secret by rw [W32_lt]; exact hc_30)
      have ec_30n : decide ((W32 c.secret : Int) ≤ 2147483645) = false := decide_eq_false (fun hh => absurd (show W32 c.secret ≤ W32 (2147483645#32) from hh) (by rw [W32_le]; exact BitVec.not_le.2 hc_30))
      have kc_30 := Lib.hid hc_30
      clear hc_30
      have ld_31 := G_4.c 14 (.int .u32 (W32 c.secret))
      go_wp2_with (with_reducible refine sb ?_)
      unfold Kept
      refine wpList_bld [] (prL pr0).toArray (by first | rfl | (simp only [List.map_toArray, List.map_cons, List.map_nil]; done) | (simp only [List.map_toArray, List.map_cons, List.map_nil]; rfl)) (by kernel_rfl) ?_
      clear ld_31
      go_wp2_with (with_reducible refine sb ?_)
      refine sv (prL pr0).toArray G_11 ?_
      intro w_32 G_34 hU_33
      replace G_4 := hU_33.blk G_4 (by omega)
      replace G3_9 := hU_33.blk G3_9 (by omega)
      replace HL := Laid.upd HL hU_33 (by omega)
      replace hB := hU_33.below hB (by omega)
      clear G_11 hU_33
      go_wp2_with (with_reducible refine sb ?_)
      refine bodyPost_ret (results_ct rfl rfl (load_blk G_34 Tryd.underlying37 rfl (by kernel_rfl))) rfl ?_
      have q0 := kc_16.out
      have q1 := kc_19.out
      have q2 := kc_21.out
      have q3 := kc_23.out
      have q4 := kc_25.out
      have q5 := kc_30.out
      have er : r = (pr0, 5) := by rw [← HR.out]; (unfold newP; rw [if_neg (fun hh => hh.1 q0), if_neg (fun hh => hh q1), if_neg (fun hh => hh q2), if_neg (fun hh => hh q3), if_pos (.inr q5)]; all_goals rfl)
      rw [er]
      exact ⟨rfl, hB⟩
     have ec_30 : decide ((2147483645 : Int) < W32 c.secret) = false := decide_eq_false (fun hh => hc_30 (by have h2 : W32 (2147483645#32) < W32 c.secret := hh; rw [W32_lt] at h2; exact h2))
     have ec_30n : decide ((W32 c.secret : Int) ≤ 2147483645) = true := decide_eq_true (show W32 c.secret ≤ W32 (2147483645#32) by rw [W32_le]; exact BitVec.not_lt.1 hc_30)
     have kc_30 := Lib.hid hc_30
     clear hc_30
     have ld_35 := G_4.c 14 (.int .u32 (W32 c.secret))
     go_wp2_with (with_reducible refine sb ?_)
     refine (gr_Public c.secret _).mono ?_; rintro e w_36 ⟨rfl, hb_37⟩
     clear ld_35
     replace G_4 := G_4.to hb_37 G_4.lt
     replace G_11 := G_11.to hb_37 G_11.lt
     replace G3_9 := G3_9.to hb_37 G3_9.lt
     replace HL := Laid.to HL hb_37
     replace hB := hB.trans (hb_37.mono hB.size)
     clear hb_37
     go_wp2_with (with_reducible refine sb ?_)
     refine (gr_Valid ((pubK c.secret)) _).mono ?_; rintro e w_38 ⟨rfl, hb_39⟩
     replace G_4 := G_4.to hb_39 G_4.lt
     replace G_11 := G_11.to hb_39 G_11.lt
     replace G3_9 := G3_9.to hb_39 G3_9.lt
     replace HL := Laid.to HL hb_39
     replace hB := hB.trans (hb_39.mono hB.size)
     clear hb_39
     rcases hc_40 : validK ((pubK c.secret)) with _ | _
     ·
      skip
      go_wp2_with (with_reducible refine sb ?_)
      unfold Kept
      refine wpList_bld [] (prL pr0).toArray (by first | rfl | (simp only [List.map_toArray, List.map_cons, List.map_nil]; done) | (simp only [List.map_toArray, List.map_cons, List.map_nil]; rfl)) (by kernel_rfl) ?_
      go_wp2_with (with_reducible refine sb ?_)
      refine sv (prL pr0).toArray G_11 ?_
      intro w_41 G_43 hU_42
      replace G_4 := hU_42.blk G_4 (by omega)
      replace G3_9 := hU_42.blk G3_9 (by omega)
      replace HL := Laid.upd HL hU_42 (by omega)
      replace hB := hU_42.below hB (by omega)
      clear G_11 hU_42
      go_wp2_with (with_reducible refine sb ?_)
      refine bodyPost_ret (results_ct rfl rfl (load_blk G_43 Tryd.underlying37 rfl (by kernel_rfl))) rfl ?_
      have q0 := kc_16.out
      have q1 := kc_19.out
      have q2 := kc_21.out
      have q3 := kc_23.out
      have q4 := kc_25.out
      have q5 := kc_30.out
      have er : r = (pr0, 1) := by rw [← HR.out]; (unfold newP; rw [if_neg (fun hh => hh.1 q0), if_neg (fun hh => hh q1), if_neg (fun hh => hh q2), if_neg (fun hh => hh q3), if_neg (fun hh => hh.elim q4 q5), if_pos hc_40]; all_goals rfl)
      rw [er]
      exact ⟨rfl, hB⟩
     skip
     rcases hc_44 : c.feat.sid with _ | _
     ·
      skip
      have ld_45 := G_4.c 5 (.bool c.feat.sid)
      go_wp2_with (first | (with_reducible refine sb ?_) | (with_reducible refine ld 0 (cfgL c) G_4 Tryd.underlying34 ?_))
      unfold Kept
      refine wpList_bld [(0, .agg (cfgL c).toArray), (13, .int .i64 (-1))] (prL { pr0 with cfg := c, passkey := -1 }).toArray (by first | rfl | (simp only [List.map_toArray, List.map_cons, List.map_nil]; done) | (simp only [List.map_toArray, List.map_cons, List.map_nil]; rfl)) (by kernel_rfl) ?_
      clear ld_45
      go_wp2_with (with_reducible refine sb ?_)
      refine sv #[.int .i64 (({ pr0 with cfg := c, passkey := -1 }).cfg.role), .int .i64 (({ pr0 with cfg := c, passkey := -1 }).cfg.feat.io), .bool (({ pr0 with cfg := c, passkey := -1 }).cfg.feat.oob), .bool (({ pr0 with cfg := c, passkey := -1 }).cfg.feat.bond), .bool (({ pr0 with cfg := c, passkey := -1 }).cfg.feat.mitm), .bool (({ pr0 with cfg := c, passkey := -1 }).cfg.feat.sid), .bool (({ pr0 with cfg := c, passkey := -1 }).cfg.feat.tid), .int .i64 (({ pr0 with cfg := c, passkey := -1 }).cfg.own.kind), .int .u64 (W64 ({ pr0 with cfg := c, passkey := -1 }).cfg.own.bits), .int .i64 (({ pr0 with cfg := c, passkey := -1 }).cfg.peer.kind), .int .u64 (W64 ({ pr0 with cfg := c, passkey := -1 }).cfg.peer.bits), .int .i64 (({ pr0 with cfg := c, passkey := -1 }).cfg.idn.adr.kind), .int .u64 (W64 ({ pr0 with cfg := c, passkey := -1 }).cfg.idn.adr.bits), .int .u64 (W64 ({ pr0 with cfg := c, passkey := -1 }).cfg.idn.irk), .int .u32 (W32 ({ pr0 with cfg := c, passkey := -1 }).cfg.secret), .int .u64 (W64 ({ pr0 with cfg := c, passkey := -1 }).cfg.seed), .int .u64 (W64 ({ pr0 with cfg := c, passkey := -1 }).cfg.mine), .int .u64 (W64 ({ pr0 with cfg := c, passkey := -1 }).cfg.oob.value), .int .u64 (W64 ({ pr0 with cfg := c, passkey := -1 }).cfg.oob.random), .int .i64 (({ pr0 with cfg := c, passkey := -1 }).phase), .int .i64 (({ pr0 with cfg := c, passkey := -1 }).since), .int .i64 (({ pr0 with cfg := c, passkey := -1 }).method), .int .i64 (({ pr0 with cfg := c, passkey := -1 }).peer.io), .bool (({ pr0 with cfg := c, passkey := -1 }).peer.oob), .bool (({ pr0 with cfg := c, passkey := -1 }).peer.bond), .bool (({ pr0 with cfg := c, passkey := -1 }).peer.mitm), .bool (({ pr0 with cfg := c, passkey := -1 }).peer.sid), .bool (({ pr0 with cfg := c, passkey := -1 }).peer.tid), .int .i64 (({ pr0 with cfg := c, passkey := -1 }).req.io), .bool (({ pr0 with cfg := c, passkey := -1 }).req.oob), .bool (({ pr0 with cfg := c, passkey := -1 }).req.bond), .bool (({ pr0 with cfg := c, passkey := -1 }).req.mitm), .bool (({ pr0 with cfg := c, passkey := -1 }).req.sid), .bool (({ pr0 with cfg := c, passkey := -1 }).req.tid), .int .i64 (({ pr0 with cfg := c, passkey := -1 }).res.io), .bool (({ pr0 with cfg := c, passkey := -1 }).res.oob), .bool (({ pr0 with cfg := c, passkey := -1 }).res.bond), .bool (({ pr0 with cfg := c, passkey := -1 }).res.mitm), .bool (({ pr0 with cfg := c, passkey := -1 }).res.sid), .bool (({ pr0 with cfg := c, passkey := -1 }).res.tid), .int .u32 (W32 ({ pr0 with cfg := c, passkey := -1 }).peerKey), .int .u32 (W32 ({ pr0 with cfg := c, passkey := -1 }).shared), .int .u64 (W64 ({ pr0 with cfg := c, passkey := -1 }).nonce), .int .u64 (W64 ({ pr0 with cfg := c, passkey := -1 }).other), .int .u64 (W64 ({ pr0 with cfg := c, passkey := -1 }).commit), .bool (({ pr0 with cfg := c, passkey := -1 }).have_), .int .i64 (({ pr0 with cfg := c, passkey := -1 }).passkey), .int .i64 (({ pr0 with cfg := c, passkey := -1 }).round), .bool (({ pr0 with cfg := c, passkey := -1 }).agreed), .int .u64 (W64 ({ pr0 with cfg := c, passkey := -1 }).checkIn), .bool (({ pr0 with cfg := c, passkey := -1 }).haveIn), .bool (({ pr0 with cfg := c, passkey := -1 }).crypt), .int .u64 (W64 ({ pr0 with cfg := c, passkey := -1 }).ltk), .int .i64 (({ pr0 with cfg := c, passkey := -1 }).idn.adr.kind), .int .u64 (W64 ({ pr0 with cfg := c, passkey := -1 }).idn.adr.bits), .int .u64 (W64 ({ pr0 with cfg := c, passkey := -1 }).idn.irk), .int .i64 (({ pr0 with cfg := c, passkey := -1 }).drawn), .int .i64 (({ pr0 with cfg := c, passkey := -1 }).reason)] G_11 ?_
      intro w_47 G_49 hU_48
      replace G_4 := hU_48.blk G_4 (by omega)
      replace G3_9 := hU_48.blk G3_9 (by omega)
      replace HL := Laid.upd HL hU_48 (by omega)
      replace hB := hU_48.below hB (by omega)
      clear G_11 hU_48
      go_wp2_with (with_reducible refine sb ?_)
      refine bodyPost_ret (results_ct rfl rfl (load_blk G_49 Tryd.underlying37 rfl (by kernel_rfl))) rfl ?_
      have q0 := kc_16.out
      have q1 := kc_19.out
      have q2 := kc_21.out
      have q3 := kc_23.out
      have q4 := kc_25.out
      have q5 := kc_30.out
      have er : r = (({ pr0 with cfg := c, passkey := -1 }), 0) := by rw [← HR.out]; (unfold newP; rw [if_neg (fun hh => hh.1 q0), if_neg (fun hh => hh q1), if_neg (fun hh => hh q2), if_neg (fun hh => hh q3), if_neg (fun hh => hh.elim q4 q5), if_neg (by rw [hc_40]; decide), if_neg (fun hh => absurd (Eq.trans (Eq.symm hc_44) hh.1) (by decide))]; all_goals rfl)
      rw [er]
      exact ⟨rfl, hB⟩
     skip
     have ld_50 := G_4.c 5 (.bool c.feat.sid)
     go_wp2_with (first | (with_reducible refine sb ?_) | (with_reducible refine ld 11 [.int .i64 c.idn.adr.kind, .int .u64 (W64 c.idn.adr.bits), .int .u64 (W64 c.idn.irk)] G_4 Tryd.underlying29 ?_))
     unfold Kept
     refine wpList_bld [(0, .int .i64 8), (4, .agg (idnL c.idn).toArray)] (secL ⟨8, ⟨0, false, false, false, false, false⟩, 0#32, 0#64, c.idn, 0⟩).toArray (by first | rfl | (simp only [List.map_toArray, List.map_cons, List.map_nil]; done) | (simp only [List.map_toArray, List.map_cons, List.map_nil]; rfl)) (by kernel_rfl) ?_
     clear ld_50
     go_wp2_with (with_reducible refine sb ?_)
     refine (sm_CheckId c.idn _ HL).mono ?_; rintro e w_52 ⟨rfl, hb_53⟩
     replace G_4 := G_4.to hb_53 G_4.lt
     replace G_11 := G_11.to hb_53 G_11.lt
     replace G3_9 := G3_9.to hb_53 G3_9.lt
     replace HL := Laid.to HL hb_53
     replace hB := hB.trans (hb_53.mono hB.size)
     clear hb_53
     by_cases hc_54 : (idnK c.idn : Int) = 0
     ·
      obtain ⟨ec_54, ec_54n, kc_54⟩ := fT hc_54; clear hc_54
      go_wp2_with (first | (with_reducible refine sb ?_) | (with_reducible refine ld 0 (cfgL c) G_4 Tryd.underlying34 ?_))
      unfold Kept
      refine wpList_bld [(0, .agg (cfgL c).toArray), (13, .int .i64 (-1))] (prL { pr0 with cfg := c, passkey := -1 }).toArray (by first | rfl | (simp only [List.map_toArray, List.map_cons, List.map_nil]; done) | (simp only [List.map_toArray, List.map_cons, List.map_nil]; rfl)) (by kernel_rfl) ?_
      go_wp2_with (with_reducible refine sb ?_)
      refine sv #[.int .i64 (({ pr0 with cfg := c, passkey := -1 }).cfg.role), .int .i64 (({ pr0 with cfg := c, passkey := -1 }).cfg.feat.io), .bool (({ pr0 with cfg := c, passkey := -1 }).cfg.feat.oob), .bool (({ pr0 with cfg := c, passkey := -1 }).cfg.feat.bond), .bool (({ pr0 with cfg := c, passkey := -1 }).cfg.feat.mitm), .bool (({ pr0 with cfg := c, passkey := -1 }).cfg.feat.sid), .bool (({ pr0 with cfg := c, passkey := -1 }).cfg.feat.tid), .int .i64 (({ pr0 with cfg := c, passkey := -1 }).cfg.own.kind), .int .u64 (W64 ({ pr0 with cfg := c, passkey := -1 }).cfg.own.bits), .int .i64 (({ pr0 with cfg := c, passkey := -1 }).cfg.peer.kind), .int .u64 (W64 ({ pr0 with cfg := c, passkey := -1 }).cfg.peer.bits), .int .i64 (({ pr0 with cfg := c, passkey := -1 }).cfg.idn.adr.kind), .int .u64 (W64 ({ pr0 with cfg := c, passkey := -1 }).cfg.idn.adr.bits), .int .u64 (W64 ({ pr0 with cfg := c, passkey := -1 }).cfg.idn.irk), .int .u32 (W32 ({ pr0 with cfg := c, passkey := -1 }).cfg.secret), .int .u64 (W64 ({ pr0 with cfg := c, passkey := -1 }).cfg.seed), .int .u64 (W64 ({ pr0 with cfg := c, passkey := -1 }).cfg.mine), .int .u64 (W64 ({ pr0 with cfg := c, passkey := -1 }).cfg.oob.value), .int .u64 (W64 ({ pr0 with cfg := c, passkey := -1 }).cfg.oob.random), .int .i64 (({ pr0 with cfg := c, passkey := -1 }).phase), .int .i64 (({ pr0 with cfg := c, passkey := -1 }).since), .int .i64 (({ pr0 with cfg := c, passkey := -1 }).method), .int .i64 (({ pr0 with cfg := c, passkey := -1 }).peer.io), .bool (({ pr0 with cfg := c, passkey := -1 }).peer.oob), .bool (({ pr0 with cfg := c, passkey := -1 }).peer.bond), .bool (({ pr0 with cfg := c, passkey := -1 }).peer.mitm), .bool (({ pr0 with cfg := c, passkey := -1 }).peer.sid), .bool (({ pr0 with cfg := c, passkey := -1 }).peer.tid), .int .i64 (({ pr0 with cfg := c, passkey := -1 }).req.io), .bool (({ pr0 with cfg := c, passkey := -1 }).req.oob), .bool (({ pr0 with cfg := c, passkey := -1 }).req.bond), .bool (({ pr0 with cfg := c, passkey := -1 }).req.mitm), .bool (({ pr0 with cfg := c, passkey := -1 }).req.sid), .bool (({ pr0 with cfg := c, passkey := -1 }).req.tid), .int .i64 (({ pr0 with cfg := c, passkey := -1 }).res.io), .bool (({ pr0 with cfg := c, passkey := -1 }).res.oob), .bool (({ pr0 with cfg := c, passkey := -1 }).res.bond), .bool (({ pr0 with cfg := c, passkey := -1 }).res.mitm), .bool (({ pr0 with cfg := c, passkey := -1 }).res.sid), .bool (({ pr0 with cfg := c, passkey := -1 }).res.tid), .int .u32 (W32 ({ pr0 with cfg := c, passkey := -1 }).peerKey), .int .u32 (W32 ({ pr0 with cfg := c, passkey := -1 }).shared), .int .u64 (W64 ({ pr0 with cfg := c, passkey := -1 }).nonce), .int .u64 (W64 ({ pr0 with cfg := c, passkey := -1 }).other), .int .u64 (W64 ({ pr0 with cfg := c, passkey := -1 }).commit), .bool (({ pr0 with cfg := c, passkey := -1 }).have_), .int .i64 (({ pr0 with cfg := c, passkey := -1 }).passkey), .int .i64 (({ pr0 with cfg := c, passkey := -1 }).round), .bool (({ pr0 with cfg := c, passkey := -1 }).agreed), .int .u64 (W64 ({ pr0 with cfg := c, passkey := -1 }).checkIn), .bool (({ pr0 with cfg := c, passkey := -1 }).haveIn), .bool (({ pr0 with cfg := c, passkey := -1 }).crypt), .int .u64 (W64 ({ pr0 with cfg := c, passkey := -1 }).ltk), .int .i64 (({ pr0 with cfg := c, passkey := -1 }).idn.adr.kind), .int .u64 (W64 ({ pr0 with cfg := c, passkey := -1 }).idn.adr.bits), .int .u64 (W64 ({ pr0 with cfg := c, passkey := -1 }).idn.irk), .int .i64 (({ pr0 with cfg := c, passkey := -1 }).drawn), .int .i64 (({ pr0 with cfg := c, passkey := -1 }).reason)] G_11 ?_
      intro w_56 G_58 hU_57
      replace G_4 := hU_57.blk G_4 (by omega)
      replace G3_9 := hU_57.blk G3_9 (by omega)
      replace HL := Laid.upd HL hU_57 (by omega)
      replace hB := hU_57.below hB (by omega)
      clear G_11 hU_57
      go_wp2_with (with_reducible refine sb ?_)
      refine bodyPost_ret (results_ct rfl rfl (load_blk G_58 Tryd.underlying37 rfl (by kernel_rfl))) rfl ?_
      have q0 := kc_16.out
      have q1 := kc_19.out
      have q2 := kc_21.out
      have q3 := kc_23.out
      have q4 := kc_25.out
      have q5 := kc_30.out
      have q8 := kc_54.out
      have er : r = (({ pr0 with cfg := c, passkey := -1 }), 0) := by rw [← HR.out]; (unfold newP; rw [if_neg (fun hh => hh.1 q0), if_neg (fun hh => hh q1), if_neg (fun hh => hh q2), if_neg (fun hh => hh q3), if_neg (fun hh => hh.elim q4 q5), if_neg (by rw [hc_40]; decide), if_neg (fun hh => hh.2 q8)]; all_goals rfl)
      rw [er]
      exact ⟨rfl, hB⟩
     obtain ⟨ec_54, ec_54n, kc_54⟩ := fF hc_54; clear hc_54
     go_wp2_with (with_reducible refine sb ?_)
     unfold Kept
     refine wpList_bld [] (prL pr0).toArray (by first | rfl | (simp only [List.map_toArray, List.map_cons, List.map_nil]; done) | (simp only [List.map_toArray, List.map_cons, List.map_nil]; rfl)) (by kernel_rfl) ?_
     go_wp2_with (with_reducible refine sb ?_)
     refine sv (prL pr0).toArray G_11 ?_
     intro w_59 G_61 hU_60
     replace G_4 := hU_60.blk G_4 (by omega)
     replace G3_9 := hU_60.blk G3_9 (by omega)
     replace HL := Laid.upd HL hU_60 (by omega)
     replace hB := hU_60.below hB (by omega)
     clear G_11 hU_60
     go_wp2_with (with_reducible refine sb ?_)
     refine bodyPost_ret (results_ct rfl rfl (load_blk G_61 Tryd.underlying37 rfl (by kernel_rfl))) rfl ?_
     have q0 := kc_16.out
     have q1 := kc_19.out
     have q2 := kc_21.out
     have q3 := kc_23.out
     have q4 := kc_25.out
     have q5 := kc_30.out
     have q8 := kc_54.out
     have er : r = (pr0, idnK c.idn) := by rw [← HR.out]; (unfold newP; rw [if_neg (fun hh => hh.1 q0), if_neg (fun hh => hh q1), if_neg (fun hh => hh q2), if_neg (fun hh => hh q3), if_neg (fun hh => hh.elim q4 q5), if_neg (by rw [hc_40]; decide), if_pos ⟨hc_44, q8⟩]; all_goals rfl)
     rw [er]
     exact ⟨rfl, hB⟩
    obtain ⟨ec_23, ec_23n, kc_23⟩ := fF hc_23; clear hc_23
    have ld_62 := G3_9.c 2 (.int .i64 (adrK c.peer))
    go_wp2_with (with_reducible refine sb ?_)
    unfold Kept
    refine wpList_bld [] (prL pr0).toArray (by first | rfl | (simp only [List.map_toArray, List.map_cons, List.map_nil]; done) | (simp only [List.map_toArray, List.map_cons, List.map_nil]; rfl)) (by kernel_rfl) ?_
    clear ld_62
    go_wp2_with (with_reducible refine sb ?_)
    refine sv (prL pr0).toArray G_11 ?_
    intro w_63 G_65 hU_64
    replace G_4 := hU_64.blk G_4 (by omega)
    replace G3_9 := hU_64.blk G3_9 (by omega)
    replace HL := Laid.upd HL hU_64 (by omega)
    replace hB := hU_64.below hB (by omega)
    clear G_11 hU_64
    go_wp2_with (with_reducible refine sb ?_)
    refine bodyPost_ret (results_ct rfl rfl (load_blk G_65 Tryd.underlying37 rfl (by kernel_rfl))) rfl ?_
    have q0 := kc_16.out
    have q1 := kc_19.out
    have q2 := kc_21.out
    have q3 := kc_23.out
    have er : r = (pr0, adrK c.peer) := by rw [← HR.out]; (unfold newP; rw [if_neg (fun hh => hh.1 q0), if_neg (fun hh => hh q1), if_neg (fun hh => hh q2), if_pos q3]; all_goals rfl)
    rw [er]
    exact ⟨rfl, hB⟩
   obtain ⟨ec_21, ec_21n, kc_21⟩ := fF hc_21; clear hc_21
   have ld_66 := G3_9.c 1 (.int .i64 (adrK c.own))
   go_wp2_with (with_reducible refine sb ?_)
   unfold Kept
   refine wpList_bld [] (prL pr0).toArray (by first | rfl | (simp only [List.map_toArray, List.map_cons, List.map_nil]; done) | (simp only [List.map_toArray, List.map_cons, List.map_nil]; rfl)) (by kernel_rfl) ?_
   clear ld_66
   go_wp2_with (with_reducible refine sb ?_)
   refine sv (prL pr0).toArray G_11 ?_
   intro w_67 G_69 hU_68
   replace G_4 := hU_68.blk G_4 (by omega)
   replace G3_9 := hU_68.blk G3_9 (by omega)
   replace HL := Laid.upd HL hU_68 (by omega)
   replace hB := hU_68.below hB (by omega)
   clear G_11 hU_68
   go_wp2_with (with_reducible refine sb ?_)
   refine bodyPost_ret (results_ct rfl rfl (load_blk G_69 Tryd.underlying37 rfl (by kernel_rfl))) rfl ?_
   have q0 := kc_16.out
   have q1 := kc_19.out
   have q2 := kc_21.out
   have er : r = (pr0, adrK c.own) := by rw [← HR.out]; (unfold newP; rw [if_neg (fun hh => hh.1 q0), if_neg (fun hh => hh q1), if_pos q2]; all_goals rfl)
   rw [er]
   exact ⟨rfl, hB⟩
  obtain ⟨ec_19, ec_19n, kc_19⟩ := fF hc_19; clear hc_19
  have ld_70 := G3_9.c 0 (.int .i64 (featK_ c.feat))
  go_wp2_with (with_reducible refine sb ?_)
  unfold Kept
  refine wpList_bld [] (prL pr0).toArray (by first | rfl | (simp only [List.map_toArray, List.map_cons, List.map_nil]; done) | (simp only [List.map_toArray, List.map_cons, List.map_nil]; rfl)) (by kernel_rfl) ?_
  clear ld_70
  go_wp2_with (with_reducible refine sb ?_)
  refine sv (prL pr0).toArray G_11 ?_
  intro w_71 G_73 hU_72
  replace G_4 := hU_72.blk G_4 (by omega)
  replace G3_9 := hU_72.blk G3_9 (by omega)
  replace HL := Laid.upd HL hU_72 (by omega)
  replace hB := hU_72.below hB (by omega)
  clear G_11 hU_72
  go_wp2_with (with_reducible refine sb ?_)
  refine bodyPost_ret (results_ct rfl rfl (load_blk G_73 Tryd.underlying37 rfl (by kernel_rfl))) rfl ?_
  have q0 := kc_16.out
  have q1 := kc_19.out
  have er : r = (pr0, featK_ c.feat) := by rw [← HR.out]; (unfold newP; rw [if_neg (fun hh => hh.1 q0), if_pos q1]; all_goals rfl)
  rw [er]
  exact ⟨rfl, hB⟩
 obtain ⟨ec_16, ec_16n, kc_16⟩ := fF hc_16; clear hc_16
 by_cases hc_74 : (c.role : Int) = 1
 ·
  obtain ⟨ec_74, ec_74n, kc_74⟩ := fT hc_74; clear hc_74
  have ld_75 := G_4.c 0 (.int .i64 c.role)
  go_wp2_with (with_reducible refine sb ?_)
  clear ld_75
  have hst : Stable fun W => Below w.heap.size w W ∧ Blk W g_1 34 (cfgL c).toArray ∧ Blk W g_8 37 (prL pr0).toArray ∧ Laid W := stable_and (stable_below _ _ (Nat.le_refl _)) (stable_and (stable_blk _ _ _) (stable_and (stable_blk _ _ _) (stable_laid)))
  refine wp_region_v _ 12 hst ⟨hB.drew, G_4, G_11, (HL.to (Below.refl _ _).drew)⟩ ?_
  clear hB G_4 G_11 HL
  refine wpU_p 0 hst ?_
  refine wpU_l 1 1 (featL c.feat) (fun W hS => hS.2.1) Tryd.underlying23 hst ?_
  refine wpU_p 3 hst ?_
  refine wpU_l 4 7 [.int .i64 c.own.kind, .int .u64 (W64 c.own.bits)] (fun W hS => hS.2.1) Tryd.underlying26 hst ?_
  refine wpU_p 6 hst ?_
  refine wpU_l 7 9 [.int .i64 c.peer.kind, .int .u64 (W64 c.peer.bits)] (fun W hS => hS.2.1) Tryd.underlying26 hst ?_
  refine wpU_p 11 hst ?_
  refine wpU_take (v := ?_) 2 hst (fun _ h => h) rfl ?_ ?_; rotate_left; (intro W hS K hK; clear hS; go_simp; refine (me_Check c.feat _).mono ?_; rintro e w9 ⟨rfl, hb⟩; refine CallPost.mk ?_; exact hK.out _ (hb)); simp only [nrm]
  refine wpU_take (v := ?_) 5 hst (fun _ h => h) rfl ?_ ?_; rotate_left; (intro W hS K hK; go_simp; refine (ad_Check c.own _ hS.2.2.2).mono ?_; rintro e w9 ⟨rfl, hb⟩; refine CallPost.mk ?_; exact hK.out _ (hb)); simp only [nrm]
  refine wpU_take (v := ?_) 8 hst (fun _ h => h) rfl ?_ ?_; rotate_left; (intro W hS K hK; go_simp; refine (ad_Check c.peer _ hS.2.2.2).mono ?_; rintro e w9 ⟨rfl, hb⟩; refine CallPost.mk ?_; exact hK.out _ (hb)); simp only [nrm]
  refine wpV_new 9 hst rfl ?_; intro W hS K hK
  have l3_9_g_1 : g_1 < W.heap.size := hS.2.1.lt
  have l3_9_g_8 : g_8 < W.heap.size := hS.2.2.1.lt
  have n3_9a : w.heap.size ≤ W.heap.size := hS.1.size
  clear hS
  go_simp
  refine hK.out (fun W' => Blk W' W.heap.size 38 #[.int .i64 (featK_ c.feat), .int .i64 (adrK c.own), .int .i64 (adrK c.peer)]) _ _ (stable_blk _ _ _) ((Below.refl _ _).alloc (Nat.le_refl _) _) (Blk.new _ _ _) (fun hst => ?_)
  clear hK K
  try simp only [nrm]
  generalize W.heap.size = g3_9 at hst l3_9_g_1 l3_9_g_8 n3_9a ⊢
  clear W
  refine wpU_p 10 hst ?_
  refine wpU_done (fun w_76 hS => ?_)
  obtain ⟨⟨hB, G_4, G_11, HL⟩, G3_9⟩ := hS
  clear hst
  go_wp2_with (with_reducible refine sb ?_)
  refine wp_loop_rounds 4 ?_
  rw [rounds_succ]
  by_cases hc_77 : (featK_ c.feat : Int) = 0
  ·
   obtain ⟨ec_77, ec_77n, kc_77⟩ := fT hc_77; clear hc_77
   have ld_78 := G3_9.c 0 (.int .i64 (featK_ c.feat))
   go_wp2_with (with_reducible refine sb ?_)
   clear ld_78
   rw [rounds_succ]
   by_cases hc_79 : (adrK c.own : Int) = 0
   ·
    obtain ⟨ec_79, ec_79n, kc_79⟩ := fT hc_79; clear hc_79
    have ld_80 := G3_9.c 1 (.int .i64 (adrK c.own))
    go_wp2_with (with_reducible refine sb ?_)
    clear ld_80
    rw [rounds_succ]
    by_cases hc_81 : (adrK c.peer : Int) = 0
    ·
     obtain ⟨ec_81, ec_81n, kc_81⟩ := fT hc_81; clear hc_81
     have ld_82 := G3_9.c 2 (.int .i64 (adrK c.peer))
     go_wp2_with (with_reducible refine sb ?_)
     clear ld_82
     rw [rounds_succ]
     by_cases hc_83 : c.secret < 1#32
     ·
      have ec_83 : decide ((W32 c.secret : Int) < 1) = true := decide_eq_true (show W32 c.secret < W32 (1#32) by rw [W32_lt]; exact hc_83)
      have ec_83n : decide ((1 : Int) ≤ W32 c.secret) = false := decide_eq_false (fun hh => absurd (show W32 (1#32) ≤ W32 c.secret from hh) (by rw [W32_le]; exact BitVec.not_le.2 hc_83))
      have kc_83 := Lib.hid hc_83
      clear hc_83
      have ld_84 := G_4.c 14 (.int .u32 (W32 c.secret))
      go_wp2_with (with_reducible refine sb ?_)
      unfold Kept
      refine wpList_bld [] (prL pr0).toArray (by first | rfl | (simp only [List.map_toArray, List.map_cons, List.map_nil]; done) | (simp only [List.map_toArray, List.map_cons, List.map_nil]; rfl)) (by kernel_rfl) ?_
      clear ld_84
      go_wp2_with (with_reducible refine sb ?_)
      refine sv (prL pr0).toArray G_11 ?_
      intro w_85 G_87 hU_86
      replace G_4 := hU_86.blk G_4 (by omega)
      replace G3_9 := hU_86.blk G3_9 (by omega)
      replace HL := Laid.upd HL hU_86 (by omega)
      replace hB := hU_86.below hB (by omega)
      clear G_11 hU_86
      go_wp2_with (with_reducible refine sb ?_)
      refine bodyPost_ret (results_ct rfl rfl (load_blk G_87 Tryd.underlying37 rfl (by kernel_rfl))) rfl ?_
      have q0 := kc_16.out
      have q1 := kc_74.out
      have q2 := kc_77.out
      have q3 := kc_79.out
      have q4 := kc_81.out
      have q5 := kc_83.out
      have er : r = (pr0, 5) := by rw [← HR.out]; (unfold newP; rw [if_neg (fun hh => hh.2 q1), if_neg (fun hh => hh q2), if_neg (fun hh => hh q3), if_neg (fun hh => hh q4), if_pos (.inl q5)]; all_goals rfl)
      rw [er]
      exact ⟨rfl, hB⟩
     have ec_83 : decide ((W32 c.secret : Int) < 1) = false := decide_eq_false (fun hh => hc_83 (by have h2 : W32 c.secret < W32 (1#32) := hh; rw [W32_lt] at h2; exact h2))
     have ec_83n : decide ((1 : Int) ≤ W32 c.secret) = true := decide_eq_true (show W32 (1#32) ≤ W32 c.secret by rw [W32_le]; exact BitVec.not_lt.1 hc_83)
     have kc_83 := Lib.hid hc_83
     clear hc_83
     by_cases hc_88 : 2147483645#32 < c.secret
     ·
      have ec_88 : decide ((2147483645 : Int) < W32 c.secret) = true := decide_eq_true (show W32 (2147483645#32) < W32 c.secret by rw [W32_lt]; exact hc_88)
      have ec_88n : decide ((W32 c.secret : Int) ≤ 2147483645) = false := decide_eq_false (fun hh => absurd (show W32 c.secret ≤ W32 (2147483645#32) from hh) (by rw [W32_le]; exact BitVec.not_le.2 hc_88))
      have kc_88 := Lib.hid hc_88
      clear hc_88
      have ld_89 := G_4.c 14 (.int .u32 (W32 c.secret))
      go_wp2_with (with_reducible refine sb ?_)
      unfold Kept
      refine wpList_bld [] (prL pr0).toArray (by first | rfl | (simp only [List.map_toArray, List.map_cons, List.map_nil]; done) | (simp only [List.map_toArray, List.map_cons, List.map_nil]; rfl)) (by kernel_rfl) ?_
      clear ld_89
      go_wp2_with (with_reducible refine sb ?_)
      refine sv (prL pr0).toArray G_11 ?_
      intro w_90 G_92 hU_91
      replace G_4 := hU_91.blk G_4 (by omega)
      replace G3_9 := hU_91.blk G3_9 (by omega)
      replace HL := Laid.upd HL hU_91 (by omega)
      replace hB := hU_91.below hB (by omega)
      clear G_11 hU_91
      go_wp2_with (with_reducible refine sb ?_)
      refine bodyPost_ret (results_ct rfl rfl (load_blk G_92 Tryd.underlying37 rfl (by kernel_rfl))) rfl ?_
      have q0 := kc_16.out
      have q1 := kc_74.out
      have q2 := kc_77.out
      have q3 := kc_79.out
      have q4 := kc_81.out
      have q5 := kc_83.out
      have q6 := kc_88.out
      have er : r = (pr0, 5) := by rw [← HR.out]; (unfold newP; rw [if_neg (fun hh => hh.2 q1), if_neg (fun hh => hh q2), if_neg (fun hh => hh q3), if_neg (fun hh => hh q4), if_pos (.inr q6)]; all_goals rfl)
      rw [er]
      exact ⟨rfl, hB⟩
     have ec_88 : decide ((2147483645 : Int) < W32 c.secret) = false := decide_eq_false (fun hh => hc_88 (by have h2 : W32 (2147483645#32) < W32 c.secret := hh; rw [W32_lt] at h2; exact h2))
     have ec_88n : decide ((W32 c.secret : Int) ≤ 2147483645) = true := decide_eq_true (show W32 c.secret ≤ W32 (2147483645#32) by rw [W32_le]; exact BitVec.not_lt.1 hc_88)
     have kc_88 := Lib.hid hc_88
     clear hc_88
     have ld_93 := G_4.c 14 (.int .u32 (W32 c.secret))
     go_wp2_with (with_reducible refine sb ?_)
     refine (gr_Public c.secret _).mono ?_; rintro e w_94 ⟨rfl, hb_95⟩
     clear ld_93
     replace G_4 := G_4.to hb_95 G_4.lt
     replace G_11 := G_11.to hb_95 G_11.lt
     replace G3_9 := G3_9.to hb_95 G3_9.lt
     replace HL := Laid.to HL hb_95
     replace hB := hB.trans (hb_95.mono hB.size)
     clear hb_95
     go_wp2_with (with_reducible refine sb ?_)
     refine (gr_Valid ((pubK c.secret)) _).mono ?_; rintro e w_96 ⟨rfl, hb_97⟩
     replace G_4 := G_4.to hb_97 G_4.lt
     replace G_11 := G_11.to hb_97 G_11.lt
     replace G3_9 := G3_9.to hb_97 G3_9.lt
     replace HL := Laid.to HL hb_97
     replace hB := hB.trans (hb_97.mono hB.size)
     clear hb_97
     rcases hc_98 : validK ((pubK c.secret)) with _ | _
     ·
      skip
      go_wp2_with (with_reducible refine sb ?_)
      unfold Kept
      refine wpList_bld [] (prL pr0).toArray (by first | rfl | (simp only [List.map_toArray, List.map_cons, List.map_nil]; done) | (simp only [List.map_toArray, List.map_cons, List.map_nil]; rfl)) (by kernel_rfl) ?_
      go_wp2_with (with_reducible refine sb ?_)
      refine sv (prL pr0).toArray G_11 ?_
      intro w_99 G_101 hU_100
      replace G_4 := hU_100.blk G_4 (by omega)
      replace G3_9 := hU_100.blk G3_9 (by omega)
      replace HL := Laid.upd HL hU_100 (by omega)
      replace hB := hU_100.below hB (by omega)
      clear G_11 hU_100
      go_wp2_with (with_reducible refine sb ?_)
      refine bodyPost_ret (results_ct rfl rfl (load_blk G_101 Tryd.underlying37 rfl (by kernel_rfl))) rfl ?_
      have q0 := kc_16.out
      have q1 := kc_74.out
      have q2 := kc_77.out
      have q3 := kc_79.out
      have q4 := kc_81.out
      have q5 := kc_83.out
      have q6 := kc_88.out
      have er : r = (pr0, 1) := by rw [← HR.out]; (unfold newP; rw [if_neg (fun hh => hh.2 q1), if_neg (fun hh => hh q2), if_neg (fun hh => hh q3), if_neg (fun hh => hh q4), if_neg (fun hh => hh.elim q5 q6), if_pos hc_98]; all_goals rfl)
      rw [er]
      exact ⟨rfl, hB⟩
     skip
     rcases hc_102 : c.feat.sid with _ | _
     ·
      skip
      have ld_103 := G_4.c 5 (.bool c.feat.sid)
      go_wp2_with (first | (with_reducible refine sb ?_) | (with_reducible refine ld 0 (cfgL c) G_4 Tryd.underlying34 ?_))
      unfold Kept
      refine wpList_bld [(0, .agg (cfgL c).toArray), (13, .int .i64 (-1))] (prL { pr0 with cfg := c, passkey := -1 }).toArray (by first | rfl | (simp only [List.map_toArray, List.map_cons, List.map_nil]; done) | (simp only [List.map_toArray, List.map_cons, List.map_nil]; rfl)) (by kernel_rfl) ?_
      clear ld_103
      go_wp2_with (with_reducible refine sb ?_)
      refine sv #[.int .i64 (({ pr0 with cfg := c, passkey := -1 }).cfg.role), .int .i64 (({ pr0 with cfg := c, passkey := -1 }).cfg.feat.io), .bool (({ pr0 with cfg := c, passkey := -1 }).cfg.feat.oob), .bool (({ pr0 with cfg := c, passkey := -1 }).cfg.feat.bond), .bool (({ pr0 with cfg := c, passkey := -1 }).cfg.feat.mitm), .bool (({ pr0 with cfg := c, passkey := -1 }).cfg.feat.sid), .bool (({ pr0 with cfg := c, passkey := -1 }).cfg.feat.tid), .int .i64 (({ pr0 with cfg := c, passkey := -1 }).cfg.own.kind), .int .u64 (W64 ({ pr0 with cfg := c, passkey := -1 }).cfg.own.bits), .int .i64 (({ pr0 with cfg := c, passkey := -1 }).cfg.peer.kind), .int .u64 (W64 ({ pr0 with cfg := c, passkey := -1 }).cfg.peer.bits), .int .i64 (({ pr0 with cfg := c, passkey := -1 }).cfg.idn.adr.kind), .int .u64 (W64 ({ pr0 with cfg := c, passkey := -1 }).cfg.idn.adr.bits), .int .u64 (W64 ({ pr0 with cfg := c, passkey := -1 }).cfg.idn.irk), .int .u32 (W32 ({ pr0 with cfg := c, passkey := -1 }).cfg.secret), .int .u64 (W64 ({ pr0 with cfg := c, passkey := -1 }).cfg.seed), .int .u64 (W64 ({ pr0 with cfg := c, passkey := -1 }).cfg.mine), .int .u64 (W64 ({ pr0 with cfg := c, passkey := -1 }).cfg.oob.value), .int .u64 (W64 ({ pr0 with cfg := c, passkey := -1 }).cfg.oob.random), .int .i64 (({ pr0 with cfg := c, passkey := -1 }).phase), .int .i64 (({ pr0 with cfg := c, passkey := -1 }).since), .int .i64 (({ pr0 with cfg := c, passkey := -1 }).method), .int .i64 (({ pr0 with cfg := c, passkey := -1 }).peer.io), .bool (({ pr0 with cfg := c, passkey := -1 }).peer.oob), .bool (({ pr0 with cfg := c, passkey := -1 }).peer.bond), .bool (({ pr0 with cfg := c, passkey := -1 }).peer.mitm), .bool (({ pr0 with cfg := c, passkey := -1 }).peer.sid), .bool (({ pr0 with cfg := c, passkey := -1 }).peer.tid), .int .i64 (({ pr0 with cfg := c, passkey := -1 }).req.io), .bool (({ pr0 with cfg := c, passkey := -1 }).req.oob), .bool (({ pr0 with cfg := c, passkey := -1 }).req.bond), .bool (({ pr0 with cfg := c, passkey := -1 }).req.mitm), .bool (({ pr0 with cfg := c, passkey := -1 }).req.sid), .bool (({ pr0 with cfg := c, passkey := -1 }).req.tid), .int .i64 (({ pr0 with cfg := c, passkey := -1 }).res.io), .bool (({ pr0 with cfg := c, passkey := -1 }).res.oob), .bool (({ pr0 with cfg := c, passkey := -1 }).res.bond), .bool (({ pr0 with cfg := c, passkey := -1 }).res.mitm), .bool (({ pr0 with cfg := c, passkey := -1 }).res.sid), .bool (({ pr0 with cfg := c, passkey := -1 }).res.tid), .int .u32 (W32 ({ pr0 with cfg := c, passkey := -1 }).peerKey), .int .u32 (W32 ({ pr0 with cfg := c, passkey := -1 }).shared), .int .u64 (W64 ({ pr0 with cfg := c, passkey := -1 }).nonce), .int .u64 (W64 ({ pr0 with cfg := c, passkey := -1 }).other), .int .u64 (W64 ({ pr0 with cfg := c, passkey := -1 }).commit), .bool (({ pr0 with cfg := c, passkey := -1 }).have_), .int .i64 (({ pr0 with cfg := c, passkey := -1 }).passkey), .int .i64 (({ pr0 with cfg := c, passkey := -1 }).round), .bool (({ pr0 with cfg := c, passkey := -1 }).agreed), .int .u64 (W64 ({ pr0 with cfg := c, passkey := -1 }).checkIn), .bool (({ pr0 with cfg := c, passkey := -1 }).haveIn), .bool (({ pr0 with cfg := c, passkey := -1 }).crypt), .int .u64 (W64 ({ pr0 with cfg := c, passkey := -1 }).ltk), .int .i64 (({ pr0 with cfg := c, passkey := -1 }).idn.adr.kind), .int .u64 (W64 ({ pr0 with cfg := c, passkey := -1 }).idn.adr.bits), .int .u64 (W64 ({ pr0 with cfg := c, passkey := -1 }).idn.irk), .int .i64 (({ pr0 with cfg := c, passkey := -1 }).drawn), .int .i64 (({ pr0 with cfg := c, passkey := -1 }).reason)] G_11 ?_
      intro w_105 G_107 hU_106
      replace G_4 := hU_106.blk G_4 (by omega)
      replace G3_9 := hU_106.blk G3_9 (by omega)
      replace HL := Laid.upd HL hU_106 (by omega)
      replace hB := hU_106.below hB (by omega)
      clear G_11 hU_106
      go_wp2_with (with_reducible refine sb ?_)
      refine bodyPost_ret (results_ct rfl rfl (load_blk G_107 Tryd.underlying37 rfl (by kernel_rfl))) rfl ?_
      have q0 := kc_16.out
      have q1 := kc_74.out
      have q2 := kc_77.out
      have q3 := kc_79.out
      have q4 := kc_81.out
      have q5 := kc_83.out
      have q6 := kc_88.out
      have er : r = (({ pr0 with cfg := c, passkey := -1 }), 0) := by rw [← HR.out]; (unfold newP; rw [if_neg (fun hh => hh.2 q1), if_neg (fun hh => hh q2), if_neg (fun hh => hh q3), if_neg (fun hh => hh q4), if_neg (fun hh => hh.elim q5 q6), if_neg (by rw [hc_98]; decide), if_neg (fun hh => absurd (Eq.trans (Eq.symm hc_102) hh.1) (by decide))]; all_goals rfl)
      rw [er]
      exact ⟨rfl, hB⟩
     skip
     have ld_108 := G_4.c 5 (.bool c.feat.sid)
     go_wp2_with (first | (with_reducible refine sb ?_) | (with_reducible refine ld 11 [.int .i64 c.idn.adr.kind, .int .u64 (W64 c.idn.adr.bits), .int .u64 (W64 c.idn.irk)] G_4 Tryd.underlying29 ?_))
     unfold Kept
     refine wpList_bld [(0, .int .i64 8), (4, .agg (idnL c.idn).toArray)] (secL ⟨8, ⟨0, false, false, false, false, false⟩, 0#32, 0#64, c.idn, 0⟩).toArray (by first | rfl | (simp only [List.map_toArray, List.map_cons, List.map_nil]; done) | (simp only [List.map_toArray, List.map_cons, List.map_nil]; rfl)) (by kernel_rfl) ?_
     clear ld_108
     go_wp2_with (with_reducible refine sb ?_)
     refine (sm_CheckId c.idn _ HL).mono ?_; rintro e w_110 ⟨rfl, hb_111⟩
     replace G_4 := G_4.to hb_111 G_4.lt
     replace G_11 := G_11.to hb_111 G_11.lt
     replace G3_9 := G3_9.to hb_111 G3_9.lt
     replace HL := Laid.to HL hb_111
     replace hB := hB.trans (hb_111.mono hB.size)
     clear hb_111
     by_cases hc_112 : (idnK c.idn : Int) = 0
     ·
      obtain ⟨ec_112, ec_112n, kc_112⟩ := fT hc_112; clear hc_112
      go_wp2_with (first | (with_reducible refine sb ?_) | (with_reducible refine ld 0 (cfgL c) G_4 Tryd.underlying34 ?_))
      unfold Kept
      refine wpList_bld [(0, .agg (cfgL c).toArray), (13, .int .i64 (-1))] (prL { pr0 with cfg := c, passkey := -1 }).toArray (by first | rfl | (simp only [List.map_toArray, List.map_cons, List.map_nil]; done) | (simp only [List.map_toArray, List.map_cons, List.map_nil]; rfl)) (by kernel_rfl) ?_
      go_wp2_with (with_reducible refine sb ?_)
      refine sv #[.int .i64 (({ pr0 with cfg := c, passkey := -1 }).cfg.role), .int .i64 (({ pr0 with cfg := c, passkey := -1 }).cfg.feat.io), .bool (({ pr0 with cfg := c, passkey := -1 }).cfg.feat.oob), .bool (({ pr0 with cfg := c, passkey := -1 }).cfg.feat.bond), .bool (({ pr0 with cfg := c, passkey := -1 }).cfg.feat.mitm), .bool (({ pr0 with cfg := c, passkey := -1 }).cfg.feat.sid), .bool (({ pr0 with cfg := c, passkey := -1 }).cfg.feat.tid), .int .i64 (({ pr0 with cfg := c, passkey := -1 }).cfg.own.kind), .int .u64 (W64 ({ pr0 with cfg := c, passkey := -1 }).cfg.own.bits), .int .i64 (({ pr0 with cfg := c, passkey := -1 }).cfg.peer.kind), .int .u64 (W64 ({ pr0 with cfg := c, passkey := -1 }).cfg.peer.bits), .int .i64 (({ pr0 with cfg := c, passkey := -1 }).cfg.idn.adr.kind), .int .u64 (W64 ({ pr0 with cfg := c, passkey := -1 }).cfg.idn.adr.bits), .int .u64 (W64 ({ pr0 with cfg := c, passkey := -1 }).cfg.idn.irk), .int .u32 (W32 ({ pr0 with cfg := c, passkey := -1 }).cfg.secret), .int .u64 (W64 ({ pr0 with cfg := c, passkey := -1 }).cfg.seed), .int .u64 (W64 ({ pr0 with cfg := c, passkey := -1 }).cfg.mine), .int .u64 (W64 ({ pr0 with cfg := c, passkey := -1 }).cfg.oob.value), .int .u64 (W64 ({ pr0 with cfg := c, passkey := -1 }).cfg.oob.random), .int .i64 (({ pr0 with cfg := c, passkey := -1 }).phase), .int .i64 (({ pr0 with cfg := c, passkey := -1 }).since), .int .i64 (({ pr0 with cfg := c, passkey := -1 }).method), .int .i64 (({ pr0 with cfg := c, passkey := -1 }).peer.io), .bool (({ pr0 with cfg := c, passkey := -1 }).peer.oob), .bool (({ pr0 with cfg := c, passkey := -1 }).peer.bond), .bool (({ pr0 with cfg := c, passkey := -1 }).peer.mitm), .bool (({ pr0 with cfg := c, passkey := -1 }).peer.sid), .bool (({ pr0 with cfg := c, passkey := -1 }).peer.tid), .int .i64 (({ pr0 with cfg := c, passkey := -1 }).req.io), .bool (({ pr0 with cfg := c, passkey := -1 }).req.oob), .bool (({ pr0 with cfg := c, passkey := -1 }).req.bond), .bool (({ pr0 with cfg := c, passkey := -1 }).req.mitm), .bool (({ pr0 with cfg := c, passkey := -1 }).req.sid), .bool (({ pr0 with cfg := c, passkey := -1 }).req.tid), .int .i64 (({ pr0 with cfg := c, passkey := -1 }).res.io), .bool (({ pr0 with cfg := c, passkey := -1 }).res.oob), .bool (({ pr0 with cfg := c, passkey := -1 }).res.bond), .bool (({ pr0 with cfg := c, passkey := -1 }).res.mitm), .bool (({ pr0 with cfg := c, passkey := -1 }).res.sid), .bool (({ pr0 with cfg := c, passkey := -1 }).res.tid), .int .u32 (W32 ({ pr0 with cfg := c, passkey := -1 }).peerKey), .int .u32 (W32 ({ pr0 with cfg := c, passkey := -1 }).shared), .int .u64 (W64 ({ pr0 with cfg := c, passkey := -1 }).nonce), .int .u64 (W64 ({ pr0 with cfg := c, passkey := -1 }).other), .int .u64 (W64 ({ pr0 with cfg := c, passkey := -1 }).commit), .bool (({ pr0 with cfg := c, passkey := -1 }).have_), .int .i64 (({ pr0 with cfg := c, passkey := -1 }).passkey), .int .i64 (({ pr0 with cfg := c, passkey := -1 }).round), .bool (({ pr0 with cfg := c, passkey := -1 }).agreed), .int .u64 (W64 ({ pr0 with cfg := c, passkey := -1 }).checkIn), .bool (({ pr0 with cfg := c, passkey := -1 }).haveIn), .bool (({ pr0 with cfg := c, passkey := -1 }).crypt), .int .u64 (W64 ({ pr0 with cfg := c, passkey := -1 }).ltk), .int .i64 (({ pr0 with cfg := c, passkey := -1 }).idn.adr.kind), .int .u64 (W64 ({ pr0 with cfg := c, passkey := -1 }).idn.adr.bits), .int .u64 (W64 ({ pr0 with cfg := c, passkey := -1 }).idn.irk), .int .i64 (({ pr0 with cfg := c, passkey := -1 }).drawn), .int .i64 (({ pr0 with cfg := c, passkey := -1 }).reason)] G_11 ?_
      intro w_114 G_116 hU_115
      replace G_4 := hU_115.blk G_4 (by omega)
      replace G3_9 := hU_115.blk G3_9 (by omega)
      replace HL := Laid.upd HL hU_115 (by omega)
      replace hB := hU_115.below hB (by omega)
      clear G_11 hU_115
      go_wp2_with (with_reducible refine sb ?_)
      refine bodyPost_ret (results_ct rfl rfl (load_blk G_116 Tryd.underlying37 rfl (by kernel_rfl))) rfl ?_
      have q0 := kc_16.out
      have q1 := kc_74.out
      have q2 := kc_77.out
      have q3 := kc_79.out
      have q4 := kc_81.out
      have q5 := kc_83.out
      have q6 := kc_88.out
      have q9 := kc_112.out
      have er : r = (({ pr0 with cfg := c, passkey := -1 }), 0) := by rw [← HR.out]; (unfold newP; rw [if_neg (fun hh => hh.2 q1), if_neg (fun hh => hh q2), if_neg (fun hh => hh q3), if_neg (fun hh => hh q4), if_neg (fun hh => hh.elim q5 q6), if_neg (by rw [hc_98]; decide), if_neg (fun hh => hh.2 q9)]; all_goals rfl)
      rw [er]
      exact ⟨rfl, hB⟩
     obtain ⟨ec_112, ec_112n, kc_112⟩ := fF hc_112; clear hc_112
     go_wp2_with (with_reducible refine sb ?_)
     unfold Kept
     refine wpList_bld [] (prL pr0).toArray (by first | rfl | (simp only [List.map_toArray, List.map_cons, List.map_nil]; done) | (simp only [List.map_toArray, List.map_cons, List.map_nil]; rfl)) (by kernel_rfl) ?_
     go_wp2_with (with_reducible refine sb ?_)
     refine sv (prL pr0).toArray G_11 ?_
     intro w_117 G_119 hU_118
     replace G_4 := hU_118.blk G_4 (by omega)
     replace G3_9 := hU_118.blk G3_9 (by omega)
     replace HL := Laid.upd HL hU_118 (by omega)
     replace hB := hU_118.below hB (by omega)
     clear G_11 hU_118
     go_wp2_with (with_reducible refine sb ?_)
     refine bodyPost_ret (results_ct rfl rfl (load_blk G_119 Tryd.underlying37 rfl (by kernel_rfl))) rfl ?_
     have q0 := kc_16.out
     have q1 := kc_74.out
     have q2 := kc_77.out
     have q3 := kc_79.out
     have q4 := kc_81.out
     have q5 := kc_83.out
     have q6 := kc_88.out
     have q9 := kc_112.out
     have er : r = (pr0, idnK c.idn) := by rw [← HR.out]; (unfold newP; rw [if_neg (fun hh => hh.2 q1), if_neg (fun hh => hh q2), if_neg (fun hh => hh q3), if_neg (fun hh => hh q4), if_neg (fun hh => hh.elim q5 q6), if_neg (by rw [hc_98]; decide), if_pos ⟨hc_102, q9⟩]; all_goals rfl)
     rw [er]
     exact ⟨rfl, hB⟩
    obtain ⟨ec_81, ec_81n, kc_81⟩ := fF hc_81; clear hc_81
    have ld_120 := G3_9.c 2 (.int .i64 (adrK c.peer))
    go_wp2_with (with_reducible refine sb ?_)
    unfold Kept
    refine wpList_bld [] (prL pr0).toArray (by first | rfl | (simp only [List.map_toArray, List.map_cons, List.map_nil]; done) | (simp only [List.map_toArray, List.map_cons, List.map_nil]; rfl)) (by kernel_rfl) ?_
    clear ld_120
    go_wp2_with (with_reducible refine sb ?_)
    refine sv (prL pr0).toArray G_11 ?_
    intro w_121 G_123 hU_122
    replace G_4 := hU_122.blk G_4 (by omega)
    replace G3_9 := hU_122.blk G3_9 (by omega)
    replace HL := Laid.upd HL hU_122 (by omega)
    replace hB := hU_122.below hB (by omega)
    clear G_11 hU_122
    go_wp2_with (with_reducible refine sb ?_)
    refine bodyPost_ret (results_ct rfl rfl (load_blk G_123 Tryd.underlying37 rfl (by kernel_rfl))) rfl ?_
    have q0 := kc_16.out
    have q1 := kc_74.out
    have q2 := kc_77.out
    have q3 := kc_79.out
    have q4 := kc_81.out
    have er : r = (pr0, adrK c.peer) := by rw [← HR.out]; (unfold newP; rw [if_neg (fun hh => hh.2 q1), if_neg (fun hh => hh q2), if_neg (fun hh => hh q3), if_pos q4]; all_goals rfl)
    rw [er]
    exact ⟨rfl, hB⟩
   obtain ⟨ec_79, ec_79n, kc_79⟩ := fF hc_79; clear hc_79
   have ld_124 := G3_9.c 1 (.int .i64 (adrK c.own))
   go_wp2_with (with_reducible refine sb ?_)
   unfold Kept
   refine wpList_bld [] (prL pr0).toArray (by first | rfl | (simp only [List.map_toArray, List.map_cons, List.map_nil]; done) | (simp only [List.map_toArray, List.map_cons, List.map_nil]; rfl)) (by kernel_rfl) ?_
   clear ld_124
   go_wp2_with (with_reducible refine sb ?_)
   refine sv (prL pr0).toArray G_11 ?_
   intro w_125 G_127 hU_126
   replace G_4 := hU_126.blk G_4 (by omega)
   replace G3_9 := hU_126.blk G3_9 (by omega)
   replace HL := Laid.upd HL hU_126 (by omega)
   replace hB := hU_126.below hB (by omega)
   clear G_11 hU_126
   go_wp2_with (with_reducible refine sb ?_)
   refine bodyPost_ret (results_ct rfl rfl (load_blk G_127 Tryd.underlying37 rfl (by kernel_rfl))) rfl ?_
   have q0 := kc_16.out
   have q1 := kc_74.out
   have q2 := kc_77.out
   have q3 := kc_79.out
   have er : r = (pr0, adrK c.own) := by rw [← HR.out]; (unfold newP; rw [if_neg (fun hh => hh.2 q1), if_neg (fun hh => hh q2), if_pos q3]; all_goals rfl)
   rw [er]
   exact ⟨rfl, hB⟩
  obtain ⟨ec_77, ec_77n, kc_77⟩ := fF hc_77; clear hc_77
  have ld_128 := G3_9.c 0 (.int .i64 (featK_ c.feat))
  go_wp2_with (with_reducible refine sb ?_)
  unfold Kept
  refine wpList_bld [] (prL pr0).toArray (by first | rfl | (simp only [List.map_toArray, List.map_cons, List.map_nil]; done) | (simp only [List.map_toArray, List.map_cons, List.map_nil]; rfl)) (by kernel_rfl) ?_
  clear ld_128
  go_wp2_with (with_reducible refine sb ?_)
  refine sv (prL pr0).toArray G_11 ?_
  intro w_129 G_131 hU_130
  replace G_4 := hU_130.blk G_4 (by omega)
  replace G3_9 := hU_130.blk G3_9 (by omega)
  replace HL := Laid.upd HL hU_130 (by omega)
  replace hB := hU_130.below hB (by omega)
  clear G_11 hU_130
  go_wp2_with (with_reducible refine sb ?_)
  refine bodyPost_ret (results_ct rfl rfl (load_blk G_131 Tryd.underlying37 rfl (by kernel_rfl))) rfl ?_
  have q0 := kc_16.out
  have q1 := kc_74.out
  have q2 := kc_77.out
  have er : r = (pr0, featK_ c.feat) := by rw [← HR.out]; (unfold newP; rw [if_neg (fun hh => hh.2 q1), if_pos q2]; all_goals rfl)
  rw [er]
  exact ⟨rfl, hB⟩
 obtain ⟨ec_74, ec_74n, kc_74⟩ := fF hc_74; clear hc_74
 have ld_132 := G_4.c 0 (.int .i64 c.role)
 go_wp2_with (with_reducible refine sb ?_)
 unfold Kept
 refine wpList_bld [] (prL pr0).toArray (by first | rfl | (simp only [List.map_toArray, List.map_cons, List.map_nil]; done) | (simp only [List.map_toArray, List.map_cons, List.map_nil]; rfl)) (by kernel_rfl) ?_
 clear ld_132
 go_wp2_with (with_reducible refine sb ?_)
 refine sv (prL pr0).toArray G_11 ?_
 intro w_133 G_135 hU_134
 replace G_4 := hU_134.blk G_4 (by omega)
 replace HL := Laid.upd HL hU_134 (by omega)
 replace hB := hU_134.below hB (by omega)
 clear G_11 hU_134
 go_wp2_with (with_reducible refine sb ?_)
 refine bodyPost_ret (results_ct rfl rfl (load_blk G_135 Tryd.underlying37 rfl (by kernel_rfl))) rfl ?_
 have q0 := kc_16.out
 have q1 := kc_74.out
 have er : r = (pr0, 5) := by rw [← HR.out]; (unfold newP; rw [if_pos ⟨q0, q1⟩]; all_goals rfl)
 rw [er]
 exact ⟨rfl, hB⟩
end Go.Proofs.YtihmbcnccdiecaaDoor
