/- Part of the proofs of the laws of pairing. -/
import Derived.Test.YtihmbcnccdiecaaGreatDoorA2
import Derived.Test.YtihmbcnccdiecaaGreatDoorBLowB
import Derived.Test.YtihmbcnccdiecaaGreatDoorBLowC
import Derived.Test.YtihmbcnccdiecaaGreatDoorBRfA
import Derived.Test.YtihmbcnccdiecaaGreatDoorBSdA
import Derived.Test.YtihmbcnccdiecaaGreatDoorBSdB
import Derived.Test.YtihmbcnccdiecaaGreatDoorBSdC
import Derived.Test.YtihmbcnccdiecaaGreatDoorBSdD
import Derived.Test.YtihmbcnccdiecaaGreatDoorBSdE
import Derived.Test.YtihmbcnccdiecaaGreatDoorBSdF
import Derived.Test.YtihmbcnccdiecaaGreatDoorBSdG
import Derived.Test.YtihmbcnccdiecaaGreatDoorBSdN
namespace Go.Proofs.YtihmbcnccdiecaaGreatDoor
set_option maxRecDepth 100000
open Go.ChangeShapes Go.WideShapes Go.ChangeAt Go.RowKit
set_option linter.unusedVariables false
set_option linter.unusedSimpArgs false
set_option maxHeartbeats 4000000 in
theorem ra_New (c : Cfg) (w : World) :
  Calls Tryz.prog 6 #[.agg (cfgL c).toArray] w (fun e w' => e = .returned (.tuple #[.agg (prL (newP c).1).toArray, .int .i64 (newP c).2]) ∧ Below w.heap.size w w') := by
 obtain ⟨r, hr⟩ : ∃ r, newP c = r := ⟨_, rfl⟩
 rw [hr]
 have HR := Lib.hid hr
 clear hr
 go_enter Tryz.func6, Tryz.ntmps6
 have hB := Below.refl w.heap.size w
 go_wp2_with (with_reducible refine sb ?_)
 refine go_mem (ty := 34) (cs := (cfgL c).toArray) (fun g => .pointer (some ⟨g, 0, none⟩)) rfl (by kernel_rfl) ?_
 intro g_1 w_2 z_6 l_5 hb_3 G_4
 have n_7 : w.heap.size ≤ g_1 := Nat.le_trans hB.size l_5
 replace hB := hB.trans (hb_3.mono hB.size)
 clear hb_3 l_5 z_6
 go_wp2_with (with_reducible refine sb ?_)
 refine go_mem (ty := 37) (cs := (prL pr0).toArray) (fun g => .pointer (some ⟨g, 0, none⟩)) rfl (by kernel_rfl) ?_
 intro g_8 w_9 z_13 l_12 hb_10 G_11
 have n_14 : g_1 < g_8 := Nat.lt_of_lt_of_le G_4.lt l_12
 have n_15 : w.heap.size ≤ g_8 := Nat.le_trans hB.size l_12
 replace G_4 := G_4.to hb_10 G_4.lt
 replace hB := hB.trans (hb_10.mono hB.size)
 clear hb_10 l_12 z_13
 by_cases hc_16 : (c.role : Int) = 0
 ·
  obtain ⟨ec_16, ec_16n, kc_16⟩ := fT hc_16; clear hc_16
  have ld_17 := G_4.c 0 (.int .i64 c.role)
  go_wp2_with (first | (with_reducible refine sb ?_) | ((with_reducible refine wpList_ld 1 [.int .i64 c.feat.io, .bool c.feat.oob, .bool c.feat.bond, .bool c.feat.mitm, .bool c.feat.sid, .bool c.feat.tid] G_4 ?_ ?_ Tryz.underlying23 ?_ ?_ ?_); rfl; rfl; rfl; kernel_rfl))
  refine (rme_Check c.feat _).mono ?_; rintro e w_19 ⟨rfl, hb_20⟩
  clear ld_17
  replace G_4 := G_4.to hb_20 G_4.lt
  replace G_11 := G_11.to hb_20 G_11.lt
  replace hB := hB.trans (hb_20.mono hB.size)
  clear hb_20
  by_cases hc_21 : (featK_ c.feat : Int) = 0
  ·
   obtain ⟨ec_21, ec_21n, kc_21⟩ := fT hc_21; clear hc_21
   go_wp2_with (first | (with_reducible refine sb ?_) | ((with_reducible refine wpList_ld 7 [.int .i64 c.own.kind, .int .u64 (W64 c.own.bits)] G_4 ?_ ?_ Tryz.underlying26 ?_ ?_ ?_); rfl; rfl; rfl; kernel_rfl))
   refine (rad_Check c.own _).mono ?_; rintro e w_23 ⟨rfl, hb_24⟩
   replace G_4 := G_4.to hb_24 G_4.lt
   replace G_11 := G_11.to hb_24 G_11.lt
   replace hB := hB.trans (hb_24.mono hB.size)
   clear hb_24
   by_cases hc_25 : (adrK c.own : Int) = 0
   ·
    obtain ⟨ec_25, ec_25n, kc_25⟩ := fT hc_25; clear hc_25
    go_wp2_with (first | (with_reducible refine sb ?_) | ((with_reducible refine wpList_ld 9 [.int .i64 c.peer.kind, .int .u64 (W64 c.peer.bits)] G_4 ?_ ?_ Tryz.underlying26 ?_ ?_ ?_); rfl; rfl; rfl; kernel_rfl))
    refine (rad_Check c.peer _).mono ?_; rintro e w_27 ⟨rfl, hb_28⟩
    replace G_4 := G_4.to hb_28 G_4.lt
    replace G_11 := G_11.to hb_28 G_11.lt
    replace hB := hB.trans (hb_28.mono hB.size)
    clear hb_28
    by_cases hc_29 : (adrK c.peer : Int) = 0
    ·
     obtain ⟨ec_29, ec_29n, kc_29⟩ := fT hc_29; clear hc_29
     by_cases hc_30 : c.secret < 1#32
     ·
      have ec_30 : decide ((W32 c.secret : Int) < 1) = true := decide_eq_true (show W32 c.secret < W32 (1#32) by rw [W32_lt]; exact hc_30)
      have ec_30n : decide ((1 : Int) ≤ W32 c.secret) = false := decide_eq_false (fun hh => absurd (show W32 (1#32) ≤ W32 c.secret from hh) (by rw [W32_le]; exact BitVec.not_le.2 hc_30))
      have kc_30 := Lib.hid hc_30
      clear hc_30
      have ld_31 := G_4.c 14 (.int .u32 (W32 c.secret))
      go_wp2_with (with_reducible refine sb ?_)
      unfold Kept
      refine wpList_bld [] (prL pr0).toArray (by first | rfl | (simp only [List.map_toArray, List.map_cons, List.map_nil]; done) | (simp only [List.map_toArray, List.map_cons, List.map_nil]; rfl)) (by kernel_rfl) ?_
      clear ld_31
      go_wp2_with (with_reducible refine sb ?_)
      refine sv (prL pr0).toArray G_11 ?_
      intro w_32 G_34 hU_33
      replace G_4 := hU_33.blk G_4 (by omega)
      replace hB := hU_33.below hB (by omega)
      clear G_11 hU_33
      go_wp2_with (with_reducible refine sb ?_)
      refine bodyPost_ret (results_ct rfl rfl (load_blk G_34 Tryz.underlying37 rfl (by kernel_rfl))) rfl ?_
      have q0 := kc_16.out
      have q1 := kc_21.out
      have q2 := kc_25.out
      have q3 := kc_29.out
      have q4 := kc_30.out
      have er : r = (pr0, 5) := by rw [← HR.out]; (unfold newP; rw [if_neg (fun hh => hh.1 q0), if_neg (fun hh => hh q1), if_neg (fun hh => hh q2), if_neg (fun hh => hh q3), if_pos (.inl q4)]; all_goals rfl)
      rw [er]
      exact ⟨rfl, hB⟩
     have ec_30 : decide ((W32 c.secret : Int) < 1) = false := decide_eq_false (fun hh => hc_30 (by have h2 : W32 c.secret < W32 (1#32) := hh; rw [W32_lt] at h2; exact h2))
     have ec_30n : decide ((1 : Int) ≤ W32 c.secret) = true := decide_eq_true (show W32 (1#32) ≤ W32 c.secret by rw [W32_le]; exact BitVec.not_lt.1 hc_30)
     have kc_30 := Lib.hid hc_30
     clear hc_30
     by_cases hc_35 : 2147483645#32 < c.secret
     ·
      have ec_35 : decide ((2147483645 : Int) < W32 c.secret) = true := decide_eq_true (show W32 (2147483645#32) < W32 c.secret by rw [W32_lt]; exact hc_35)
      have ec_35n : decide ((W32 c.secret : Int) ≤ 2147483645) = false := decide_eq_false (fun hh => absurd (show W32 c.secret ≤ W32 (2147483645#32) from hh) (by rw [W32_le]; exact BitVec.not_le.2 hc_35))
      have kc_35 := Lib.hid hc_35
      clear hc_35
      have ld_36 := G_4.c 14 (.int .u32 (W32 c.secret))
      go_wp2_with (with_reducible refine sb ?_)
      unfold Kept
      refine wpList_bld [] (prL pr0).toArray (by first | rfl | (simp only [List.map_toArray, List.map_cons, List.map_nil]; done) | (simp only [List.map_toArray, List.map_cons, List.map_nil]; rfl)) (by kernel_rfl) ?_
      clear ld_36
      go_wp2_with (with_reducible refine sb ?_)
      refine sv (prL pr0).toArray G_11 ?_
      intro w_37 G_39 hU_38
      replace G_4 := hU_38.blk G_4 (by omega)
      replace hB := hU_38.below hB (by omega)
      clear G_11 hU_38
      go_wp2_with (with_reducible refine sb ?_)
      refine bodyPost_ret (results_ct rfl rfl (load_blk G_39 Tryz.underlying37 rfl (by kernel_rfl))) rfl ?_
      have q0 := kc_16.out
      have q1 := kc_21.out
      have q2 := kc_25.out
      have q3 := kc_29.out
      have q4 := kc_30.out
      have q5 := kc_35.out
      have er : r = (pr0, 5) := by rw [← HR.out]; (unfold newP; rw [if_neg (fun hh => hh.1 q0), if_neg (fun hh => hh q1), if_neg (fun hh => hh q2), if_neg (fun hh => hh q3), if_pos (.inr q5)]; all_goals rfl)
      rw [er]
      exact ⟨rfl, hB⟩
     have ec_35 : decide ((2147483645 : Int) < W32 c.secret) = false := decide_eq_false (fun hh => hc_35 (by have h2 : W32 (2147483645#32) < W32 c.secret := hh; rw [W32_lt] at h2; exact h2))
     have ec_35n : decide ((W32 c.secret : Int) ≤ 2147483645) = true := decide_eq_true (show W32 c.secret ≤ W32 (2147483645#32) by rw [W32_le]; exact BitVec.not_lt.1 hc_35)
     have kc_35 := Lib.hid hc_35
     clear hc_35
     have ld_40 := G_4.c 14 (.int .u32 (W32 c.secret))
     go_wp2_with (with_reducible refine sb ?_)
     refine (rgr_Public c.secret _).mono ?_; rintro e w_41 ⟨rfl, hb_42⟩
     clear ld_40
     replace G_4 := G_4.to hb_42 G_4.lt
     replace G_11 := G_11.to hb_42 G_11.lt
     replace hB := hB.trans (hb_42.mono hB.size)
     clear hb_42
     go_wp2_with (with_reducible refine sb ?_)
     refine (rgr_Valid ((pubK c.secret)) _).mono ?_; rintro e w_43 ⟨rfl, hb_44⟩
     replace G_4 := G_4.to hb_44 G_4.lt
     replace G_11 := G_11.to hb_44 G_11.lt
     replace hB := hB.trans (hb_44.mono hB.size)
     clear hb_44
     rcases hc_45 : validK ((pubK c.secret)) with _ | _
     ·
      skip
      go_wp2_with (with_reducible refine sb ?_)
      unfold Kept
      refine wpList_bld [] (prL pr0).toArray (by first | rfl | (simp only [List.map_toArray, List.map_cons, List.map_nil]; done) | (simp only [List.map_toArray, List.map_cons, List.map_nil]; rfl)) (by kernel_rfl) ?_
      go_wp2_with (with_reducible refine sb ?_)
      refine sv (prL pr0).toArray G_11 ?_
      intro w_46 G_48 hU_47
      replace G_4 := hU_47.blk G_4 (by omega)
      replace hB := hU_47.below hB (by omega)
      clear G_11 hU_47
      go_wp2_with (with_reducible refine sb ?_)
      refine bodyPost_ret (results_ct rfl rfl (load_blk G_48 Tryz.underlying37 rfl (by kernel_rfl))) rfl ?_
      have q0 := kc_16.out
      have q1 := kc_21.out
      have q2 := kc_25.out
      have q3 := kc_29.out
      have q4 := kc_30.out
      have q5 := kc_35.out
      have er : r = (pr0, 1) := by rw [← HR.out]; (unfold newP; rw [if_neg (fun hh => hh.1 q0), if_neg (fun hh => hh q1), if_neg (fun hh => hh q2), if_neg (fun hh => hh q3), if_neg (fun hh => hh.elim q4 q5), if_pos hc_45]; all_goals rfl)
      rw [er]
      exact ⟨rfl, hB⟩
     skip
     rcases hc_49 : c.feat.sid with _ | _
     ·
      skip
      have ld_50 := G_4.c 5 (.bool c.feat.sid)
      go_wp2_with (first | (with_reducible refine sb ?_) | ((with_reducible refine wpList_ld 0 (cfgL c) G_4 ?_ ?_ Tryz.underlying34 ?_ ?_ ?_); rfl; rfl; rfl; kernel_rfl))
      unfold Kept
      refine wpList_bld [(0, .agg (cfgL c).toArray), (13, .int .i64 (-1))] (prL { pr0 with cfg := c, passkey := -1 }).toArray (by first | rfl | (simp only [List.map_toArray, List.map_cons, List.map_nil]; done) | (simp only [List.map_toArray, List.map_cons, List.map_nil]; rfl)) (by kernel_rfl) ?_
      clear ld_50
      go_wp2_with (with_reducible refine sb ?_)
      refine sv #[.int .i64 (({ pr0 with cfg := c, passkey := -1 }).cfg.role), .int .i64 (({ pr0 with cfg := c, passkey := -1 }).cfg.feat.io), .bool (({ pr0 with cfg := c, passkey := -1 }).cfg.feat.oob), .bool (({ pr0 with cfg := c, passkey := -1 }).cfg.feat.bond), .bool (({ pr0 with cfg := c, passkey := -1 }).cfg.feat.mitm), .bool (({ pr0 with cfg := c, passkey := -1 }).cfg.feat.sid), .bool (({ pr0 with cfg := c, passkey := -1 }).cfg.feat.tid), .int .i64 (({ pr0 with cfg := c, passkey := -1 }).cfg.own.kind), .int .u64 (W64 ({ pr0 with cfg := c, passkey := -1 }).cfg.own.bits), .int .i64 (({ pr0 with cfg := c, passkey := -1 }).cfg.peer.kind), .int .u64 (W64 ({ pr0 with cfg := c, passkey := -1 }).cfg.peer.bits), .int .i64 (({ pr0 with cfg := c, passkey := -1 }).cfg.idn.adr.kind), .int .u64 (W64 ({ pr0 with cfg := c, passkey := -1 }).cfg.idn.adr.bits), .int .u64 (W64 ({ pr0 with cfg := c, passkey := -1 }).cfg.idn.irk), .int .u32 (W32 ({ pr0 with cfg := c, passkey := -1 }).cfg.secret), .int .u64 (W64 ({ pr0 with cfg := c, passkey := -1 }).cfg.seed), .int .u64 (W64 ({ pr0 with cfg := c, passkey := -1 }).cfg.mine), .int .u64 (W64 ({ pr0 with cfg := c, passkey := -1 }).cfg.oob.value), .int .u64 (W64 ({ pr0 with cfg := c, passkey := -1 }).cfg.oob.random), .int .i64 (({ pr0 with cfg := c, passkey := -1 }).phase), .int .i64 (({ pr0 with cfg := c, passkey := -1 }).since), .int .i64 (({ pr0 with cfg := c, passkey := -1 }).method), .int .i64 (({ pr0 with cfg := c, passkey := -1 }).peer.io), .bool (({ pr0 with cfg := c, passkey := -1 }).peer.oob), .bool (({ pr0 with cfg := c, passkey := -1 }).peer.bond), .bool (({ pr0 with cfg := c, passkey := -1 }).peer.mitm), .bool (({ pr0 with cfg := c, passkey := -1 }).peer.sid), .bool (({ pr0 with cfg := c, passkey := -1 }).peer.tid), .int .i64 (({ pr0 with cfg := c, passkey := -1 }).req.io), .bool (({ pr0 with cfg := c, passkey := -1 }).req.oob), .bool (({ pr0 with cfg := c, passkey := -1 }).req.bond), .bool (({ pr0 with cfg := c, passkey := -1 }).req.mitm), .bool (({ pr0 with cfg := c, passkey := -1 }).req.sid), .bool (({ pr0 with cfg := c, passkey := -1 }).req.tid), .int .i64 (({ pr0 with cfg := c, passkey := -1 }).res.io), .bool (({ pr0 with cfg := c, passkey := -1 }).res.oob), .bool (({ pr0 with cfg := c, passkey := -1 }).res.bond), .bool (({ pr0 with cfg := c, passkey := -1 }).res.mitm), .bool (({ pr0 with cfg := c, passkey := -1 }).res.sid), .bool (({ pr0 with cfg := c, passkey := -1 }).res.tid), .int .u32 (W32 ({ pr0 with cfg := c, passkey := -1 }).peerKey), .int .u32 (W32 ({ pr0 with cfg := c, passkey := -1 }).shared), .int .u64 (W64 ({ pr0 with cfg := c, passkey := -1 }).nonce), .int .u64 (W64 ({ pr0 with cfg := c, passkey := -1 }).other), .int .u64 (W64 ({ pr0 with cfg := c, passkey := -1 }).commit), .bool (({ pr0 with cfg := c, passkey := -1 }).have_), .int .i64 (({ pr0 with cfg := c, passkey := -1 }).passkey), .int .i64 (({ pr0 with cfg := c, passkey := -1 }).round), .bool (({ pr0 with cfg := c, passkey := -1 }).agreed), .int .u64 (W64 ({ pr0 with cfg := c, passkey := -1 }).checkIn), .bool (({ pr0 with cfg := c, passkey := -1 }).haveIn), .bool (({ pr0 with cfg := c, passkey := -1 }).crypt), .int .u64 (W64 ({ pr0 with cfg := c, passkey := -1 }).ltk), .int .i64 (({ pr0 with cfg := c, passkey := -1 }).idn.adr.kind), .int .u64 (W64 ({ pr0 with cfg := c, passkey := -1 }).idn.adr.bits), .int .u64 (W64 ({ pr0 with cfg := c, passkey := -1 }).idn.irk), .int .i64 (({ pr0 with cfg := c, passkey := -1 }).drawn), .int .i64 (({ pr0 with cfg := c, passkey := -1 }).reason)] G_11 ?_
      intro w_52 G_54 hU_53
      replace G_4 := hU_53.blk G_4 (by omega)
      replace hB := hU_53.below hB (by omega)
      clear G_11 hU_53
      go_wp2_with (with_reducible refine sb ?_)
      refine bodyPost_ret (results_ct rfl rfl (load_blk G_54 Tryz.underlying37 rfl (by kernel_rfl))) rfl ?_
      have q0 := kc_16.out
      have q1 := kc_21.out
      have q2 := kc_25.out
      have q3 := kc_29.out
      have q4 := kc_30.out
      have q5 := kc_35.out
      have er : r = (({ pr0 with cfg := c, passkey := -1 }), 0) := by rw [← HR.out]; (unfold newP; rw [if_neg (fun hh => hh.1 q0), if_neg (fun hh => hh q1), if_neg (fun hh => hh q2), if_neg (fun hh => hh q3), if_neg (fun hh => hh.elim q4 q5), if_neg (by rw [hc_45]; decide), if_neg (fun hh => absurd (Eq.trans (Eq.symm hc_49) hh.1) (by decide))]; all_goals rfl)
      rw [er]
      exact ⟨rfl, hB⟩
     skip
     have ld_55 := G_4.c 5 (.bool c.feat.sid)
     go_wp2_with (first | (with_reducible refine sb ?_) | ((with_reducible refine wpList_ld 11 [.int .i64 c.idn.adr.kind, .int .u64 (W64 c.idn.adr.bits), .int .u64 (W64 c.idn.irk)] G_4 ?_ ?_ Tryz.underlying29 ?_ ?_ ?_); rfl; rfl; rfl; kernel_rfl))
     refine (rsm_Id c.idn _).mono ?_; rintro e w_57 ⟨rfl, hb_58⟩
     clear ld_55
     replace G_4 := G_4.to hb_58 G_4.lt
     replace G_11 := G_11.to hb_58 G_11.lt
     replace hB := hB.trans (hb_58.mono hB.size)
     clear hb_58
     by_cases hc_59 : (idnK c.idn : Int) = 0
     ·
      obtain ⟨ec_59, ec_59n, kc_59⟩ := fT hc_59; clear hc_59
      go_wp2_with (first | (with_reducible refine sb ?_) | ((with_reducible refine wpList_ld 0 (cfgL c) G_4 ?_ ?_ Tryz.underlying34 ?_ ?_ ?_); rfl; rfl; rfl; kernel_rfl))
      unfold Kept
      refine wpList_bld [(0, .agg (cfgL c).toArray), (13, .int .i64 (-1))] (prL { pr0 with cfg := c, passkey := -1 }).toArray (by first | rfl | (simp only [List.map_toArray, List.map_cons, List.map_nil]; done) | (simp only [List.map_toArray, List.map_cons, List.map_nil]; rfl)) (by kernel_rfl) ?_
      go_wp2_with (with_reducible refine sb ?_)
      refine sv #[.int .i64 (({ pr0 with cfg := c, passkey := -1 }).cfg.role), .int .i64 (({ pr0 with cfg := c, passkey := -1 }).cfg.feat.io), .bool (({ pr0 with cfg := c, passkey := -1 }).cfg.feat.oob), .bool (({ pr0 with cfg := c, passkey := -1 }).cfg.feat.bond), .bool (({ pr0 with cfg := c, passkey := -1 }).cfg.feat.mitm), .bool (({ pr0 with cfg := c, passkey := -1 }).cfg.feat.sid), .bool (({ pr0 with cfg := c, passkey := -1 }).cfg.feat.tid), .int .i64 (({ pr0 with cfg := c, passkey := -1 }).cfg.own.kind), .int .u64 (W64 ({ pr0 with cfg := c, passkey := -1 }).cfg.own.bits), .int .i64 (({ pr0 with cfg := c, passkey := -1 }).cfg.peer.kind), .int .u64 (W64 ({ pr0 with cfg := c, passkey := -1 }).cfg.peer.bits), .int .i64 (({ pr0 with cfg := c, passkey := -1 }).cfg.idn.adr.kind), .int .u64 (W64 ({ pr0 with cfg := c, passkey := -1 }).cfg.idn.adr.bits), .int .u64 (W64 ({ pr0 with cfg := c, passkey := -1 }).cfg.idn.irk), .int .u32 (W32 ({ pr0 with cfg := c, passkey := -1 }).cfg.secret), .int .u64 (W64 ({ pr0 with cfg := c, passkey := -1 }).cfg.seed), .int .u64 (W64 ({ pr0 with cfg := c, passkey := -1 }).cfg.mine), .int .u64 (W64 ({ pr0 with cfg := c, passkey := -1 }).cfg.oob.value), .int .u64 (W64 ({ pr0 with cfg := c, passkey := -1 }).cfg.oob.random), .int .i64 (({ pr0 with cfg := c, passkey := -1 }).phase), .int .i64 (({ pr0 with cfg := c, passkey := -1 }).since), .int .i64 (({ pr0 with cfg := c, passkey := -1 }).method), .int .i64 (({ pr0 with cfg := c, passkey := -1 }).peer.io), .bool (({ pr0 with cfg := c, passkey := -1 }).peer.oob), .bool (({ pr0 with cfg := c, passkey := -1 }).peer.bond), .bool (({ pr0 with cfg := c, passkey := -1 }).peer.mitm), .bool (({ pr0 with cfg := c, passkey := -1 }).peer.sid), .bool (({ pr0 with cfg := c, passkey := -1 }).peer.tid), .int .i64 (({ pr0 with cfg := c, passkey := -1 }).req.io), .bool (({ pr0 with cfg := c, passkey := -1 }).req.oob), .bool (({ pr0 with cfg := c, passkey := -1 }).req.bond), .bool (({ pr0 with cfg := c, passkey := -1 }).req.mitm), .bool (({ pr0 with cfg := c, passkey := -1 }).req.sid), .bool (({ pr0 with cfg := c, passkey := -1 }).req.tid), .int .i64 (({ pr0 with cfg := c, passkey := -1 }).res.io), .bool (({ pr0 with cfg := c, passkey := -1 }).res.oob), .bool (({ pr0 with cfg := c, passkey := -1 }).res.bond), .bool (({ pr0 with cfg := c, passkey := -1 }).res.mitm), .bool (({ pr0 with cfg := c, passkey := -1 }).res.sid), .bool (({ pr0 with cfg := c, passkey := -1 }).res.tid), .int .u32 (W32 ({ pr0 with cfg := c, passkey := -1 }).peerKey), .int .u32 (W32 ({ pr0 with cfg := c, passkey := -1 }).shared), .int .u64 (W64 ({ pr0 with cfg := c, passkey := -1 }).nonce), .int .u64 (W64 ({ pr0 with cfg := c, passkey := -1 }).other), .int .u64 (W64 ({ pr0 with cfg := c, passkey := -1 }).commit), .bool (({ pr0 with cfg := c, passkey := -1 }).have_), .int .i64 (({ pr0 with cfg := c, passkey := -1 }).passkey), .int .i64 (({ pr0 with cfg := c, passkey := -1 }).round), .bool (({ pr0 with cfg := c, passkey := -1 }).agreed), .int .u64 (W64 ({ pr0 with cfg := c, passkey := -1 }).checkIn), .bool (({ pr0 with cfg := c, passkey := -1 }).haveIn), .bool (({ pr0 with cfg := c, passkey := -1 }).crypt), .int .u64 (W64 ({ pr0 with cfg := c, passkey := -1 }).ltk), .int .i64 (({ pr0 with cfg := c, passkey := -1 }).idn.adr.kind), .int .u64 (W64 ({ pr0 with cfg := c, passkey := -1 }).idn.adr.bits), .int .u64 (W64 ({ pr0 with cfg := c, passkey := -1 }).idn.irk), .int .i64 (({ pr0 with cfg := c, passkey := -1 }).drawn), .int .i64 (({ pr0 with cfg := c, passkey := -1 }).reason)] G_11 ?_
      intro w_61 G_63 hU_62
      replace G_4 := hU_62.blk G_4 (by omega)
      replace hB := hU_62.below hB (by omega)
      clear G_11 hU_62
      go_wp2_with (with_reducible refine sb ?_)
      refine bodyPost_ret (results_ct rfl rfl (load_blk G_63 Tryz.underlying37 rfl (by kernel_rfl))) rfl ?_
      have q0 := kc_16.out
      have q1 := kc_21.out
      have q2 := kc_25.out
      have q3 := kc_29.out
      have q4 := kc_30.out
      have q5 := kc_35.out
      have q8 := kc_59.out
      have er : r = (({ pr0 with cfg := c, passkey := -1 }), 0) := by rw [← HR.out]; (unfold newP; rw [if_neg (fun hh => hh.1 q0), if_neg (fun hh => hh q1), if_neg (fun hh => hh q2), if_neg (fun hh => hh q3), if_neg (fun hh => hh.elim q4 q5), if_neg (by rw [hc_45]; decide), if_neg (fun hh => hh.2 q8)]; all_goals rfl)
      rw [er]
      exact ⟨rfl, hB⟩
     obtain ⟨ec_59, ec_59n, kc_59⟩ := fF hc_59; clear hc_59
     go_wp2_with (with_reducible refine sb ?_)
     unfold Kept
     refine wpList_bld [] (prL pr0).toArray (by first | rfl | (simp only [List.map_toArray, List.map_cons, List.map_nil]; done) | (simp only [List.map_toArray, List.map_cons, List.map_nil]; rfl)) (by kernel_rfl) ?_
     go_wp2_with (with_reducible refine sb ?_)
     refine sv (prL pr0).toArray G_11 ?_
     intro w_64 G_66 hU_65
     replace G_4 := hU_65.blk G_4 (by omega)
     replace hB := hU_65.below hB (by omega)
     clear G_11 hU_65
     go_wp2_with (with_reducible refine sb ?_)
     refine bodyPost_ret (results_ct rfl rfl (load_blk G_66 Tryz.underlying37 rfl (by kernel_rfl))) rfl ?_
     have q0 := kc_16.out
     have q1 := kc_21.out
     have q2 := kc_25.out
     have q3 := kc_29.out
     have q4 := kc_30.out
     have q5 := kc_35.out
     have q8 := kc_59.out
     have er : r = (pr0, idnK c.idn) := by rw [← HR.out]; (unfold newP; rw [if_neg (fun hh => hh.1 q0), if_neg (fun hh => hh q1), if_neg (fun hh => hh q2), if_neg (fun hh => hh q3), if_neg (fun hh => hh.elim q4 q5), if_neg (by rw [hc_45]; decide), if_pos ⟨hc_49, q8⟩]; all_goals rfl)
     rw [er]
     exact ⟨rfl, hB⟩
    obtain ⟨ec_29, ec_29n, kc_29⟩ := fF hc_29; clear hc_29
    go_wp2_with (with_reducible refine sb ?_)
    unfold Kept
    refine wpList_bld [] (prL pr0).toArray (by first | rfl | (simp only [List.map_toArray, List.map_cons, List.map_nil]; done) | (simp only [List.map_toArray, List.map_cons, List.map_nil]; rfl)) (by kernel_rfl) ?_
    go_wp2_with (with_reducible refine sb ?_)
    refine sv (prL pr0).toArray G_11 ?_
    intro w_67 G_69 hU_68
    replace G_4 := hU_68.blk G_4 (by omega)
    replace hB := hU_68.below hB (by omega)
    clear G_11 hU_68
    go_wp2_with (with_reducible refine sb ?_)
    refine bodyPost_ret (results_ct rfl rfl (load_blk G_69 Tryz.underlying37 rfl (by kernel_rfl))) rfl ?_
    have q0 := kc_16.out
    have q1 := kc_21.out
    have q2 := kc_25.out
    have q3 := kc_29.out
    have er : r = (pr0, adrK c.peer) := by rw [← HR.out]; (unfold newP; rw [if_neg (fun hh => hh.1 q0), if_neg (fun hh => hh q1), if_neg (fun hh => hh q2), if_pos q3]; all_goals rfl)
    rw [er]
    exact ⟨rfl, hB⟩
   obtain ⟨ec_25, ec_25n, kc_25⟩ := fF hc_25; clear hc_25
   go_wp2_with (with_reducible refine sb ?_)
   unfold Kept
   refine wpList_bld [] (prL pr0).toArray (by first | rfl | (simp only [List.map_toArray, List.map_cons, List.map_nil]; done) | (simp only [List.map_toArray, List.map_cons, List.map_nil]; rfl)) (by kernel_rfl) ?_
   go_wp2_with (with_reducible refine sb ?_)
   refine sv (prL pr0).toArray G_11 ?_
   intro w_70 G_72 hU_71
   replace G_4 := hU_71.blk G_4 (by omega)
   replace hB := hU_71.below hB (by omega)
   clear G_11 hU_71
   go_wp2_with (with_reducible refine sb ?_)
   refine bodyPost_ret (results_ct rfl rfl (load_blk G_72 Tryz.underlying37 rfl (by kernel_rfl))) rfl ?_
   have q0 := kc_16.out
   have q1 := kc_21.out
   have q2 := kc_25.out
   have er : r = (pr0, adrK c.own) := by rw [← HR.out]; (unfold newP; rw [if_neg (fun hh => hh.1 q0), if_neg (fun hh => hh q1), if_pos q2]; all_goals rfl)
   rw [er]
   exact ⟨rfl, hB⟩
  obtain ⟨ec_21, ec_21n, kc_21⟩ := fF hc_21; clear hc_21
  go_wp2_with (with_reducible refine sb ?_)
  unfold Kept
  refine wpList_bld [] (prL pr0).toArray (by first | rfl | (simp only [List.map_toArray, List.map_cons, List.map_nil]; done) | (simp only [List.map_toArray, List.map_cons, List.map_nil]; rfl)) (by kernel_rfl) ?_
  go_wp2_with (with_reducible refine sb ?_)
  refine sv (prL pr0).toArray G_11 ?_
  intro w_73 G_75 hU_74
  replace G_4 := hU_74.blk G_4 (by omega)
  replace hB := hU_74.below hB (by omega)
  clear G_11 hU_74
  go_wp2_with (with_reducible refine sb ?_)
  refine bodyPost_ret (results_ct rfl rfl (load_blk G_75 Tryz.underlying37 rfl (by kernel_rfl))) rfl ?_
  have q0 := kc_16.out
  have q1 := kc_21.out
  have er : r = (pr0, featK_ c.feat) := by rw [← HR.out]; (unfold newP; rw [if_neg (fun hh => hh.1 q0), if_pos q1]; all_goals rfl)
  rw [er]
  exact ⟨rfl, hB⟩
 obtain ⟨ec_16, ec_16n, kc_16⟩ := fF hc_16; clear hc_16
 by_cases hc_76 : (c.role : Int) = 1
 ·
  obtain ⟨ec_76, ec_76n, kc_76⟩ := fT hc_76; clear hc_76
  have ld_77 := G_4.c 0 (.int .i64 c.role)
  go_wp2_with (first | (with_reducible refine sb ?_) | ((with_reducible refine wpList_ld 1 [.int .i64 c.feat.io, .bool c.feat.oob, .bool c.feat.bond, .bool c.feat.mitm, .bool c.feat.sid, .bool c.feat.tid] G_4 ?_ ?_ Tryz.underlying23 ?_ ?_ ?_); rfl; rfl; rfl; kernel_rfl))
  refine (rme_Check c.feat _).mono ?_; rintro e w_79 ⟨rfl, hb_80⟩
  clear ld_77
  replace G_4 := G_4.to hb_80 G_4.lt
  replace G_11 := G_11.to hb_80 G_11.lt
  replace hB := hB.trans (hb_80.mono hB.size)
  clear hb_80
  by_cases hc_81 : (featK_ c.feat : Int) = 0
  ·
   obtain ⟨ec_81, ec_81n, kc_81⟩ := fT hc_81; clear hc_81
   go_wp2_with (first | (with_reducible refine sb ?_) | ((with_reducible refine wpList_ld 7 [.int .i64 c.own.kind, .int .u64 (W64 c.own.bits)] G_4 ?_ ?_ Tryz.underlying26 ?_ ?_ ?_); rfl; rfl; rfl; kernel_rfl))
   refine (rad_Check c.own _).mono ?_; rintro e w_83 ⟨rfl, hb_84⟩
   replace G_4 := G_4.to hb_84 G_4.lt
   replace G_11 := G_11.to hb_84 G_11.lt
   replace hB := hB.trans (hb_84.mono hB.size)
   clear hb_84
   by_cases hc_85 : (adrK c.own : Int) = 0
   ·
    obtain ⟨ec_85, ec_85n, kc_85⟩ := fT hc_85; clear hc_85
    go_wp2_with (first | (with_reducible refine sb ?_) | ((with_reducible refine wpList_ld 9 [.int .i64 c.peer.kind, .int .u64 (W64 c.peer.bits)] G_4 ?_ ?_ Tryz.underlying26 ?_ ?_ ?_); rfl; rfl; rfl; kernel_rfl))
    refine (rad_Check c.peer _).mono ?_; rintro e w_87 ⟨rfl, hb_88⟩
    replace G_4 := G_4.to hb_88 G_4.lt
    replace G_11 := G_11.to hb_88 G_11.lt
    replace hB := hB.trans (hb_88.mono hB.size)
    clear hb_88
    by_cases hc_89 : (adrK c.peer : Int) = 0
    ·
     obtain ⟨ec_89, ec_89n, kc_89⟩ := fT hc_89; clear hc_89
     by_cases hc_90 : c.secret < 1#32
     ·
      have ec_90 : decide ((W32 c.secret : Int) < 1) = true := decide_eq_true (show W32 c.secret < W32 (1#32) by rw [W32_lt]; exact hc_90)
      have ec_90n : decide ((1 : Int) ≤ W32 c.secret) = false := decide_eq_false (fun hh => absurd (show W32 (1#32) ≤ W32 c.secret from hh) (by rw [W32_le]; exact BitVec.not_le.2 hc_90))
      have kc_90 := Lib.hid hc_90
      clear hc_90
      have ld_91 := G_4.c 14 (.int .u32 (W32 c.secret))
      go_wp2_with (with_reducible refine sb ?_)
      unfold Kept
      refine wpList_bld [] (prL pr0).toArray (by first | rfl | (simp only [List.map_toArray, List.map_cons, List.map_nil]; done) | (simp only [List.map_toArray, List.map_cons, List.map_nil]; rfl)) (by kernel_rfl) ?_
      clear ld_91
      go_wp2_with (with_reducible refine sb ?_)
      refine sv (prL pr0).toArray G_11 ?_
      intro w_92 G_94 hU_93
      replace G_4 := hU_93.blk G_4 (by omega)
      replace hB := hU_93.below hB (by omega)
      clear G_11 hU_93
      go_wp2_with (with_reducible refine sb ?_)
      refine bodyPost_ret (results_ct rfl rfl (load_blk G_94 Tryz.underlying37 rfl (by kernel_rfl))) rfl ?_
      have q0 := kc_16.out
      have q1 := kc_76.out
      have q2 := kc_81.out
      have q3 := kc_85.out
      have q4 := kc_89.out
      have q5 := kc_90.out
      have er : r = (pr0, 5) := by rw [← HR.out]; (unfold newP; rw [if_neg (fun hh => hh.2 q1), if_neg (fun hh => hh q2), if_neg (fun hh => hh q3), if_neg (fun hh => hh q4), if_pos (.inl q5)]; all_goals rfl)
      rw [er]
      exact ⟨rfl, hB⟩
     have ec_90 : decide ((W32 c.secret : Int) < 1) = false := decide_eq_false (fun hh => hc_90 (by have h2 : W32 c.secret < W32 (1#32) := hh; rw [W32_lt] at h2; exact h2))
     have ec_90n : decide ((1 : Int) ≤ W32 c.secret) = true := decide_eq_true (show W32 (1#32) ≤ W32 c.secret by rw [W32_le]; exact BitVec.not_lt.1 hc_90)
     have kc_90 := Lib.hid hc_90
     clear hc_90
     by_cases hc_95 : 2147483645#32 < c.secret
     ·
      have ec_95 : decide ((2147483645 : Int) < W32 c.secret) = true := decide_eq_true (show W32 (2147483645#32) < W32 c.secret by rw [W32_lt]; exact hc_95)
      have ec_95n : decide ((W32 c.secret : Int) ≤ 2147483645) = false := decide_eq_false (fun hh => absurd (show W32 c.secret ≤ W32 (2147483645#32) from hh) (by rw [W32_le]; exact BitVec.not_le.2 hc_95))
      have kc_95 := Lib.hid hc_95
      clear hc_95
      have ld_96 := G_4.c 14 (.int .u32 (W32 c.secret))
      go_wp2_with (with_reducible refine sb ?_)
      unfold Kept
      refine wpList_bld [] (prL pr0).toArray (by first | rfl | (simp only [List.map_toArray, List.map_cons, List.map_nil]; done) | (simp only [List.map_toArray, List.map_cons, List.map_nil]; rfl)) (by kernel_rfl) ?_
      clear ld_96
      go_wp2_with (with_reducible refine sb ?_)
      refine sv (prL pr0).toArray G_11 ?_
      intro w_97 G_99 hU_98
      replace G_4 := hU_98.blk G_4 (by omega)
      replace hB := hU_98.below hB (by omega)
      clear G_11 hU_98
      go_wp2_with (with_reducible refine sb ?_)
      refine bodyPost_ret (results_ct rfl rfl (load_blk G_99 Tryz.underlying37 rfl (by kernel_rfl))) rfl ?_
      have q0 := kc_16.out
      have q1 := kc_76.out
      have q2 := kc_81.out
      have q3 := kc_85.out
      have q4 := kc_89.out
      have q5 := kc_90.out
      have q6 := kc_95.out
      have er : r = (pr0, 5) := by rw [← HR.out]; (unfold newP; rw [if_neg (fun hh => hh.2 q1), if_neg (fun hh => hh q2), if_neg (fun hh => hh q3), if_neg (fun hh => hh q4), if_pos (.inr q6)]; all_goals rfl)
      rw [er]
      exact ⟨rfl, hB⟩
     have ec_95 : decide ((2147483645 : Int) < W32 c.secret) = false := decide_eq_false (fun hh => hc_95 (by have h2 : W32 (2147483645#32) < W32 c.secret := hh; rw [W32_lt] at h2; exact h2))
     have ec_95n : decide ((W32 c.secret : Int) ≤ 2147483645) = true := decide_eq_true (show W32 c.secret ≤ W32 (2147483645#32) by rw [W32_le]; exact BitVec.not_lt.1 hc_95)
     have kc_95 := Lib.hid hc_95
     clear hc_95
     have ld_100 := G_4.c 14 (.int .u32 (W32 c.secret))
     go_wp2_with (with_reducible refine sb ?_)
     refine (rgr_Public c.secret _).mono ?_; rintro e w_101 ⟨rfl, hb_102⟩
     clear ld_100
     replace G_4 := G_4.to hb_102 G_4.lt
     replace G_11 := G_11.to hb_102 G_11.lt
     replace hB := hB.trans (hb_102.mono hB.size)
     clear hb_102
     go_wp2_with (with_reducible refine sb ?_)
     refine (rgr_Valid ((pubK c.secret)) _).mono ?_; rintro e w_103 ⟨rfl, hb_104⟩
     replace G_4 := G_4.to hb_104 G_4.lt
     replace G_11 := G_11.to hb_104 G_11.lt
     replace hB := hB.trans (hb_104.mono hB.size)
     clear hb_104
     rcases hc_105 : validK ((pubK c.secret)) with _ | _
     ·
      skip
      go_wp2_with (with_reducible refine sb ?_)
      unfold Kept
      refine wpList_bld [] (prL pr0).toArray (by first | rfl | (simp only [List.map_toArray, List.map_cons, List.map_nil]; done) | (simp only [List.map_toArray, List.map_cons, List.map_nil]; rfl)) (by kernel_rfl) ?_
      go_wp2_with (with_reducible refine sb ?_)
      refine sv (prL pr0).toArray G_11 ?_
      intro w_106 G_108 hU_107
      replace G_4 := hU_107.blk G_4 (by omega)
      replace hB := hU_107.below hB (by omega)
      clear G_11 hU_107
      go_wp2_with (with_reducible refine sb ?_)
      refine bodyPost_ret (results_ct rfl rfl (load_blk G_108 Tryz.underlying37 rfl (by kernel_rfl))) rfl ?_
      have q0 := kc_16.out
      have q1 := kc_76.out
      have q2 := kc_81.out
      have q3 := kc_85.out
      have q4 := kc_89.out
      have q5 := kc_90.out
      have q6 := kc_95.out
      have er : r = (pr0, 1) := by rw [← HR.out]; (unfold newP; rw [if_neg (fun hh => hh.2 q1), if_neg (fun hh => hh q2), if_neg (fun hh => hh q3), if_neg (fun hh => hh q4), if_neg (fun hh => hh.elim q5 q6), if_pos hc_105]; all_goals rfl)
      rw [er]
      exact ⟨rfl, hB⟩
     skip
     rcases hc_109 : c.feat.sid with _ | _
     ·
      skip
      have ld_110 := G_4.c 5 (.bool c.feat.sid)
      go_wp2_with (first | (with_reducible refine sb ?_) | ((with_reducible refine wpList_ld 0 (cfgL c) G_4 ?_ ?_ Tryz.underlying34 ?_ ?_ ?_); rfl; rfl; rfl; kernel_rfl))
      unfold Kept
      refine wpList_bld [(0, .agg (cfgL c).toArray), (13, .int .i64 (-1))] (prL { pr0 with cfg := c, passkey := -1 }).toArray (by first | rfl | (simp only [List.map_toArray, List.map_cons, List.map_nil]; done) | (simp only [List.map_toArray, List.map_cons, List.map_nil]; rfl)) (by kernel_rfl) ?_
      clear ld_110
      go_wp2_with (with_reducible refine sb ?_)
      refine sv #[.int .i64 (({ pr0 with cfg := c, passkey := -1 }).cfg.role), .int .i64 (({ pr0 with cfg := c, passkey := -1 }).cfg.feat.io), .bool (({ pr0 with cfg := c, passkey := -1 }).cfg.feat.oob), .bool (({ pr0 with cfg := c, passkey := -1 }).cfg.feat.bond), .bool (({ pr0 with cfg := c, passkey := -1 }).cfg.feat.mitm), .bool (({ pr0 with cfg := c, passkey := -1 }).cfg.feat.sid), .bool (({ pr0 with cfg := c, passkey := -1 }).cfg.feat.tid), .int .i64 (({ pr0 with cfg := c, passkey := -1 }).cfg.own.kind), .int .u64 (W64 ({ pr0 with cfg := c, passkey := -1 }).cfg.own.bits), .int .i64 (({ pr0 with cfg := c, passkey := -1 }).cfg.peer.kind), .int .u64 (W64 ({ pr0 with cfg := c, passkey := -1 }).cfg.peer.bits), .int .i64 (({ pr0 with cfg := c, passkey := -1 }).cfg.idn.adr.kind), .int .u64 (W64 ({ pr0 with cfg := c, passkey := -1 }).cfg.idn.adr.bits), .int .u64 (W64 ({ pr0 with cfg := c, passkey := -1 }).cfg.idn.irk), .int .u32 (W32 ({ pr0 with cfg := c, passkey := -1 }).cfg.secret), .int .u64 (W64 ({ pr0 with cfg := c, passkey := -1 }).cfg.seed), .int .u64 (W64 ({ pr0 with cfg := c, passkey := -1 }).cfg.mine), .int .u64 (W64 ({ pr0 with cfg := c, passkey := -1 }).cfg.oob.value), .int .u64 (W64 ({ pr0 with cfg := c, passkey := -1 }).cfg.oob.random), .int .i64 (({ pr0 with cfg := c, passkey := -1 }).phase), .int .i64 (({ pr0 with cfg := c, passkey := -1 }).since), .int .i64 (({ pr0 with cfg := c, passkey := -1 }).method), .int .i64 (({ pr0 with cfg := c, passkey := -1 }).peer.io), .bool (({ pr0 with cfg := c, passkey := -1 }).peer.oob), .bool (({ pr0 with cfg := c, passkey := -1 }).peer.bond), .bool (({ pr0 with cfg := c, passkey := -1 }).peer.mitm), .bool (({ pr0 with cfg := c, passkey := -1 }).peer.sid), .bool (({ pr0 with cfg := c, passkey := -1 }).peer.tid), .int .i64 (({ pr0 with cfg := c, passkey := -1 }).req.io), .bool (({ pr0 with cfg := c, passkey := -1 }).req.oob), .bool (({ pr0 with cfg := c, passkey := -1 }).req.bond), .bool (({ pr0 with cfg := c, passkey := -1 }).req.mitm), .bool (({ pr0 with cfg := c, passkey := -1 }).req.sid), .bool (({ pr0 with cfg := c, passkey := -1 }).req.tid), .int .i64 (({ pr0 with cfg := c, passkey := -1 }).res.io), .bool (({ pr0 with cfg := c, passkey := -1 }).res.oob), .bool (({ pr0 with cfg := c, passkey := -1 }).res.bond), .bool (({ pr0 with cfg := c, passkey := -1 }).res.mitm), .bool (({ pr0 with cfg := c, passkey := -1 }).res.sid), .bool (({ pr0 with cfg := c, passkey := -1 }).res.tid), .int .u32 (W32 ({ pr0 with cfg := c, passkey := -1 }).peerKey), .int .u32 (W32 ({ pr0 with cfg := c, passkey := -1 }).shared), .int .u64 (W64 ({ pr0 with cfg := c, passkey := -1 }).nonce), .int .u64 (W64 ({ pr0 with cfg := c, passkey := -1 }).other), .int .u64 (W64 ({ pr0 with cfg := c, passkey := -1 }).commit), .bool (({ pr0 with cfg := c, passkey := -1 }).have_), .int .i64 (({ pr0 with cfg := c, passkey := -1 }).passkey), .int .i64 (({ pr0 with cfg := c, passkey := -1 }).round), .bool (({ pr0 with cfg := c, passkey := -1 }).agreed), .int .u64 (W64 ({ pr0 with cfg := c, passkey := -1 }).checkIn), .bool (({ pr0 with cfg := c, passkey := -1 }).haveIn), .bool (({ pr0 with cfg := c, passkey := -1 }).crypt), .int .u64 (W64 ({ pr0 with cfg := c, passkey := -1 }).ltk), .int .i64 (({ pr0 with cfg := c, passkey := -1 }).idn.adr.kind), .int .u64 (W64 ({ pr0 with cfg := c, passkey := -1 }).idn.adr.bits), .int .u64 (W64 ({ pr0 with cfg := c, passkey := -1 }).idn.irk), .int .i64 (({ pr0 with cfg := c, passkey := -1 }).drawn), .int .i64 (({ pr0 with cfg := c, passkey := -1 }).reason)] G_11 ?_
      intro w_112 G_114 hU_113
      replace G_4 := hU_113.blk G_4 (by omega)
      replace hB := hU_113.below hB (by omega)
      clear G_11 hU_113
      go_wp2_with (with_reducible refine sb ?_)
      refine bodyPost_ret (results_ct rfl rfl (load_blk G_114 Tryz.underlying37 rfl (by kernel_rfl))) rfl ?_
      have q0 := kc_16.out
      have q1 := kc_76.out
      have q2 := kc_81.out
      have q3 := kc_85.out
      have q4 := kc_89.out
      have q5 := kc_90.out
      have q6 := kc_95.out
      have er : r = (({ pr0 with cfg := c, passkey := -1 }), 0) := by rw [← HR.out]; (unfold newP; rw [if_neg (fun hh => hh.2 q1), if_neg (fun hh => hh q2), if_neg (fun hh => hh q3), if_neg (fun hh => hh q4), if_neg (fun hh => hh.elim q5 q6), if_neg (by rw [hc_105]; decide), if_neg (fun hh => absurd (Eq.trans (Eq.symm hc_109) hh.1) (by decide))]; all_goals rfl)
      rw [er]
      exact ⟨rfl, hB⟩
     skip
     have ld_115 := G_4.c 5 (.bool c.feat.sid)
     go_wp2_with (first | (with_reducible refine sb ?_) | ((with_reducible refine wpList_ld 11 [.int .i64 c.idn.adr.kind, .int .u64 (W64 c.idn.adr.bits), .int .u64 (W64 c.idn.irk)] G_4 ?_ ?_ Tryz.underlying29 ?_ ?_ ?_); rfl; rfl; rfl; kernel_rfl))
     refine (rsm_Id c.idn _).mono ?_; rintro e w_117 ⟨rfl, hb_118⟩
     clear ld_115
     replace G_4 := G_4.to hb_118 G_4.lt
     replace G_11 := G_11.to hb_118 G_11.lt
     replace hB := hB.trans (hb_118.mono hB.size)
     clear hb_118
     by_cases hc_119 : (idnK c.idn : Int) = 0
     ·
      obtain ⟨ec_119, ec_119n, kc_119⟩ := fT hc_119; clear hc_119
      go_wp2_with (first | (with_reducible refine sb ?_) | ((with_reducible refine wpList_ld 0 (cfgL c) G_4 ?_ ?_ Tryz.underlying34 ?_ ?_ ?_); rfl; rfl; rfl; kernel_rfl))
      unfold Kept
      refine wpList_bld [(0, .agg (cfgL c).toArray), (13, .int .i64 (-1))] (prL { pr0 with cfg := c, passkey := -1 }).toArray (by first | rfl | (simp only [List.map_toArray, List.map_cons, List.map_nil]; done) | (simp only [List.map_toArray, List.map_cons, List.map_nil]; rfl)) (by kernel_rfl) ?_
      go_wp2_with (with_reducible refine sb ?_)
      refine sv #[.int .i64 (({ pr0 with cfg := c, passkey := -1 }).cfg.role), .int .i64 (({ pr0 with cfg := c, passkey := -1 }).cfg.feat.io), .bool (({ pr0 with cfg := c, passkey := -1 }).cfg.feat.oob), .bool (({ pr0 with cfg := c, passkey := -1 }).cfg.feat.bond), .bool (({ pr0 with cfg := c, passkey := -1 }).cfg.feat.mitm), .bool (({ pr0 with cfg := c, passkey := -1 }).cfg.feat.sid), .bool (({ pr0 with cfg := c, passkey := -1 }).cfg.feat.tid), .int .i64 (({ pr0 with cfg := c, passkey := -1 }).cfg.own.kind), .int .u64 (W64 ({ pr0 with cfg := c, passkey := -1 }).cfg.own.bits), .int .i64 (({ pr0 with cfg := c, passkey := -1 }).cfg.peer.kind), .int .u64 (W64 ({ pr0 with cfg := c, passkey := -1 }).cfg.peer.bits), .int .i64 (({ pr0 with cfg := c, passkey := -1 }).cfg.idn.adr.kind), .int .u64 (W64 ({ pr0 with cfg := c, passkey := -1 }).cfg.idn.adr.bits), .int .u64 (W64 ({ pr0 with cfg := c, passkey := -1 }).cfg.idn.irk), .int .u32 (W32 ({ pr0 with cfg := c, passkey := -1 }).cfg.secret), .int .u64 (W64 ({ pr0 with cfg := c, passkey := -1 }).cfg.seed), .int .u64 (W64 ({ pr0 with cfg := c, passkey := -1 }).cfg.mine), .int .u64 (W64 ({ pr0 with cfg := c, passkey := -1 }).cfg.oob.value), .int .u64 (W64 ({ pr0 with cfg := c, passkey := -1 }).cfg.oob.random), .int .i64 (({ pr0 with cfg := c, passkey := -1 }).phase), .int .i64 (({ pr0 with cfg := c, passkey := -1 }).since), .int .i64 (({ pr0 with cfg := c, passkey := -1 }).method), .int .i64 (({ pr0 with cfg := c, passkey := -1 }).peer.io), .bool (({ pr0 with cfg := c, passkey := -1 }).peer.oob), .bool (({ pr0 with cfg := c, passkey := -1 }).peer.bond), .bool (({ pr0 with cfg := c, passkey := -1 }).peer.mitm), .bool (({ pr0 with cfg := c, passkey := -1 }).peer.sid), .bool (({ pr0 with cfg := c, passkey := -1 }).peer.tid), .int .i64 (({ pr0 with cfg := c, passkey := -1 }).req.io), .bool (({ pr0 with cfg := c, passkey := -1 }).req.oob), .bool (({ pr0 with cfg := c, passkey := -1 }).req.bond), .bool (({ pr0 with cfg := c, passkey := -1 }).req.mitm), .bool (({ pr0 with cfg := c, passkey := -1 }).req.sid), .bool (({ pr0 with cfg := c, passkey := -1 }).req.tid), .int .i64 (({ pr0 with cfg := c, passkey := -1 }).res.io), .bool (({ pr0 with cfg := c, passkey := -1 }).res.oob), .bool (({ pr0 with cfg := c, passkey := -1 }).res.bond), .bool (({ pr0 with cfg := c, passkey := -1 }).res.mitm), .bool (({ pr0 with cfg := c, passkey := -1 }).res.sid), .bool (({ pr0 with cfg := c, passkey := -1 }).res.tid), .int .u32 (W32 ({ pr0 with cfg := c, passkey := -1 }).peerKey), .int .u32 (W32 ({ pr0 with cfg := c, passkey := -1 }).shared), .int .u64 (W64 ({ pr0 with cfg := c, passkey := -1 }).nonce), .int .u64 (W64 ({ pr0 with cfg := c, passkey := -1 }).other), .int .u64 (W64 ({ pr0 with cfg := c, passkey := -1 }).commit), .bool (({ pr0 with cfg := c, passkey := -1 }).have_), .int .i64 (({ pr0 with cfg := c, passkey := -1 }).passkey), .int .i64 (({ pr0 with cfg := c, passkey := -1 }).round), .bool (({ pr0 with cfg := c, passkey := -1 }).agreed), .int .u64 (W64 ({ pr0 with cfg := c, passkey := -1 }).checkIn), .bool (({ pr0 with cfg := c, passkey := -1 }).haveIn), .bool (({ pr0 with cfg := c, passkey := -1 }).crypt), .int .u64 (W64 ({ pr0 with cfg := c, passkey := -1 }).ltk), .int .i64 (({ pr0 with cfg := c, passkey := -1 }).idn.adr.kind), .int .u64 (W64 ({ pr0 with cfg := c, passkey := -1 }).idn.adr.bits), .int .u64 (W64 ({ pr0 with cfg := c, passkey := -1 }).idn.irk), .int .i64 (({ pr0 with cfg := c, passkey := -1 }).drawn), .int .i64 (({ pr0 with cfg := c, passkey := -1 }).reason)] G_11 ?_
      intro w_121 G_123 hU_122
      replace G_4 := hU_122.blk G_4 (by omega)
      replace hB := hU_122.below hB (by omega)
      clear G_11 hU_122
      go_wp2_with (with_reducible refine sb ?_)
      refine bodyPost_ret (results_ct rfl rfl (load_blk G_123 Tryz.underlying37 rfl (by kernel_rfl))) rfl ?_
      have q0 := kc_16.out
      have q1 := kc_76.out
      have q2 := kc_81.out
      have q3 := kc_85.out
      have q4 := kc_89.out
      have q5 := kc_90.out
      have q6 := kc_95.out
      have q9 := kc_119.out
      have er : r = (({ pr0 with cfg := c, passkey := -1 }), 0) := by rw [← HR.out]; (unfold newP; rw [if_neg (fun hh => hh.2 q1), if_neg (fun hh => hh q2), if_neg (fun hh => hh q3), if_neg (fun hh => hh q4), if_neg (fun hh => hh.elim q5 q6), if_neg (by rw [hc_105]; decide), if_neg (fun hh => hh.2 q9)]; all_goals rfl)
      rw [er]
      exact ⟨rfl, hB⟩
     obtain ⟨ec_119, ec_119n, kc_119⟩ := fF hc_119; clear hc_119
     go_wp2_with (with_reducible refine sb ?_)
     unfold Kept
     refine wpList_bld [] (prL pr0).toArray (by first | rfl | (simp only [List.map_toArray, List.map_cons, List.map_nil]; done) | (simp only [List.map_toArray, List.map_cons, List.map_nil]; rfl)) (by kernel_rfl) ?_
     go_wp2_with (with_reducible refine sb ?_)
     refine sv (prL pr0).toArray G_11 ?_
     intro w_124 G_126 hU_125
     replace G_4 := hU_125.blk G_4 (by omega)
     replace hB := hU_125.below hB (by omega)
     clear G_11 hU_125
     go_wp2_with (with_reducible refine sb ?_)
     refine bodyPost_ret (results_ct rfl rfl (load_blk G_126 Tryz.underlying37 rfl (by kernel_rfl))) rfl ?_
     have q0 := kc_16.out
     have q1 := kc_76.out
     have q2 := kc_81.out
     have q3 := kc_85.out
     have q4 := kc_89.out
     have q5 := kc_90.out
     have q6 := kc_95.out
     have q9 := kc_119.out
     have er : r = (pr0, idnK c.idn) := by rw [← HR.out]; (unfold newP; rw [if_neg (fun hh => hh.2 q1), if_neg (fun hh => hh q2), if_neg (fun hh => hh q3), if_neg (fun hh => hh q4), if_neg (fun hh => hh.elim q5 q6), if_neg (by rw [hc_105]; decide), if_pos ⟨hc_109, q9⟩]; all_goals rfl)
     rw [er]
     exact ⟨rfl, hB⟩
    obtain ⟨ec_89, ec_89n, kc_89⟩ := fF hc_89; clear hc_89
    go_wp2_with (with_reducible refine sb ?_)
    unfold Kept
    refine wpList_bld [] (prL pr0).toArray (by first | rfl | (simp only [List.map_toArray, List.map_cons, List.map_nil]; done) | (simp only [List.map_toArray, List.map_cons, List.map_nil]; rfl)) (by kernel_rfl) ?_
    go_wp2_with (with_reducible refine sb ?_)
    refine sv (prL pr0).toArray G_11 ?_
    intro w_127 G_129 hU_128
    replace G_4 := hU_128.blk G_4 (by omega)
    replace hB := hU_128.below hB (by omega)
    clear G_11 hU_128
    go_wp2_with (with_reducible refine sb ?_)
    refine bodyPost_ret (results_ct rfl rfl (load_blk G_129 Tryz.underlying37 rfl (by kernel_rfl))) rfl ?_
    have q0 := kc_16.out
    have q1 := kc_76.out
    have q2 := kc_81.out
    have q3 := kc_85.out
    have q4 := kc_89.out
    have er : r = (pr0, adrK c.peer) := by rw [← HR.out]; (unfold newP; rw [if_neg (fun hh => hh.2 q1), if_neg (fun hh => hh q2), if_neg (fun hh => hh q3), if_pos q4]; all_goals rfl)
    rw [er]
    exact ⟨rfl, hB⟩
   obtain ⟨ec_85, ec_85n, kc_85⟩ := fF hc_85; clear hc_85
   go_wp2_with (with_reducible refine sb ?_)
   unfold Kept
   refine wpList_bld [] (prL pr0).toArray (by first | rfl | (simp only [List.map_toArray, List.map_cons, List.map_nil]; done) | (simp only [List.map_toArray, List.map_cons, List.map_nil]; rfl)) (by kernel_rfl) ?_
   go_wp2_with (with_reducible refine sb ?_)
   refine sv (prL pr0).toArray G_11 ?_
   intro w_130 G_132 hU_131
   replace G_4 := hU_131.blk G_4 (by omega)
   replace hB := hU_131.below hB (by omega)
   clear G_11 hU_131
   go_wp2_with (with_reducible refine sb ?_)
   refine bodyPost_ret (results_ct rfl rfl (load_blk G_132 Tryz.underlying37 rfl (by kernel_rfl))) rfl ?_
   have q0 := kc_16.out
   have q1 := kc_76.out
   have q2 := kc_81.out
   have q3 := kc_85.out
   have er : r = (pr0, adrK c.own) := by rw [← HR.out]; (unfold newP; rw [if_neg (fun hh => hh.2 q1), if_neg (fun hh => hh q2), if_pos q3]; all_goals rfl)
   rw [er]
   exact ⟨rfl, hB⟩
  obtain ⟨ec_81, ec_81n, kc_81⟩ := fF hc_81; clear hc_81
  go_wp2_with (with_reducible refine sb ?_)
  unfold Kept
  refine wpList_bld [] (prL pr0).toArray (by first | rfl | (simp only [List.map_toArray, List.map_cons, List.map_nil]; done) | (simp only [List.map_toArray, List.map_cons, List.map_nil]; rfl)) (by kernel_rfl) ?_
  go_wp2_with (with_reducible refine sb ?_)
  refine sv (prL pr0).toArray G_11 ?_
  intro w_133 G_135 hU_134
  replace G_4 := hU_134.blk G_4 (by omega)
  replace hB := hU_134.below hB (by omega)
  clear G_11 hU_134
  go_wp2_with (with_reducible refine sb ?_)
  refine bodyPost_ret (results_ct rfl rfl (load_blk G_135 Tryz.underlying37 rfl (by kernel_rfl))) rfl ?_
  have q0 := kc_16.out
  have q1 := kc_76.out
  have q2 := kc_81.out
  have er : r = (pr0, featK_ c.feat) := by rw [← HR.out]; (unfold newP; rw [if_neg (fun hh => hh.2 q1), if_pos q2]; all_goals rfl)
  rw [er]
  exact ⟨rfl, hB⟩
 obtain ⟨ec_76, ec_76n, kc_76⟩ := fF hc_76; clear hc_76
 have ld_136 := G_4.c 0 (.int .i64 c.role)
 go_wp2_with (with_reducible refine sb ?_)
 unfold Kept
 refine wpList_bld [] (prL pr0).toArray (by first | rfl | (simp only [List.map_toArray, List.map_cons, List.map_nil]; done) | (simp only [List.map_toArray, List.map_cons, List.map_nil]; rfl)) (by kernel_rfl) ?_
 clear ld_136
 go_wp2_with (with_reducible refine sb ?_)
 refine sv (prL pr0).toArray G_11 ?_
 intro w_137 G_139 hU_138
 replace G_4 := hU_138.blk G_4 (by omega)
 replace hB := hU_138.below hB (by omega)
 clear G_11 hU_138
 go_wp2_with (with_reducible refine sb ?_)
 refine bodyPost_ret (results_ct rfl rfl (load_blk G_139 Tryz.underlying37 rfl (by kernel_rfl))) rfl ?_
 have q0 := kc_16.out
 have q1 := kc_76.out
 have er : r = (pr0, 5) := by rw [← HR.out]; (unfold newP; rw [if_pos ⟨q0, q1⟩]; all_goals rfl)
 rw [er]
 exact ⟨rfl, hB⟩
end Go.Proofs.YtihmbcnccdiecaaGreatDoor
