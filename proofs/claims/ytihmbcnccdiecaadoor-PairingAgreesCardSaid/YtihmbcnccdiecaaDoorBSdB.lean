/- Part of the proofs of the laws of pairing. -/
import Derived.Test.YtihmbcnccdiecaaDoorA2
import Derived.Test.YtihmbcnccdiecaaDoorBLowB
import Derived.Test.YtihmbcnccdiecaaDoorBSdA
namespace Go.Proofs.YtihmbcnccdiecaaDoor
set_option maxRecDepth 100000
open Go.ChangeShapes Go.WideShapes Go.ChangeAt Go.RowKit
set_option linter.unusedVariables false
set_option linter.unusedSimpArgs false
theorem i64_and1 (n : Int) : bits .and .i64 n 1 = n % 2 := by
  have h1 : (BitVec.ofInt 64 1).toNat = 2 ^ 1 - 1 := by decide
  have key : (BitVec.ofInt 64 n &&& BitVec.ofInt 64 1).toNat = (n % ((2 ^ 64 : Nat) : Int)).toNat % 2 ^ 1 := by
    rw [BitVec.toNat_and, BitVec.toNat_ofInt, h1, Nat.and_two_pow_sub_one_eq_mod]
  show IntKind.i64.wrap ((BitVec.ofInt 64 n &&& BitVec.ofInt 64 1).toNat : Nat) = n % 2
  rw [key, IntKind.wrap_i64]
  omega
theorem conf_CheckV (sh : BitVec 32) (n r : BitVec 64) (f : Feat) (a b : Adr) (w : World) : Calls Tryd.prog 35 #[.int .u32 (W32 sh), .int .u64 (W64 n), .int .u64 (W64 r), .agg (featL f).toArray, .agg (adrL a).toArray, .agg (adrL b).toArray] w fun e w' => e = .returned (.int .u64 (W64 (checkV sh n r f a b))) ∧ Below w.heap.size w w' :=
  conf_Check sh n r f.io f.oob f.bond f.mitm f.sid f.tid a.kind a.bits b.kind b.bits w
theorem conf_LongTermV (sh : BitVec 32) (na nb : BitVec 64) (a b : Adr) (w : World) : Calls Tryd.prog 77 #[.int .u32 (W32 sh), .int .u64 (W64 na), .int .u64 (W64 nb), .agg (adrL a).toArray, .agg (adrL b).toArray] w fun e w' => e = .returned (.int .u64 (W64 (ltkV sh na nb a b))) ∧ Below w.heap.size w w' :=
  conf_LongTerm sh na nb a.kind a.bits b.kind b.bits w
theorem sd_z (g : Nat) (S : Sd) (v u : Value)  (w : World) (HG : Blk w g SideT (sdL S v u).toArray) (h0 : 0 ≤ S.p.round) (h1 : S.p.round ≤ 64) (r : BitVec 8) (hr : S.z = r) :
  Calls Tryd.prog 82 #[.pointer (some ⟨g, 0, none⟩)] w (fun e w' => e = .returned (.int .u8 (W8 r)) ∧ Below w.heap.size w w') := by
 have HR := Lib.hid hr
 clear hr
 have e1 := i64_and1 (S.p.passkey / 2 ^ S.p.round.toNat)
 go_enter Tryd.func82, Tryd.ntmps82
 have hB := Below.refl w.heap.size w
 go_wp2_with (with_reducible refine so ?_)
 refine (sd_passkey _ _ _ _  _ HG (isPass S.p.method) rfl).mono ?_; rintro e w_1 ⟨rfl, hb_2⟩
 replace HG := HG.to hb_2 HG.lt
 replace hB := hB.trans (hb_2.mono hB.size)
 clear hb_2
 rcases hc_3 : isPass S.p.method with _ | _
 ·
  skip
  go_wp2_with (with_reducible refine so ?_)
  go_returns
  have er : r = 0#8 := by rw [← HR.out]; first | (simp [Sd.z, Sd.pass, hc_3]; done) | (simp only [Sd.z, Sd.pass, hc_3]; simp [hc_3]; done) | ((simp [Sd.z, Sd.pass, hc_3]) <;> rfl)
  rw [er]
  exact ⟨rfl, hB⟩
 skip
 go_wp2_with (with_reducible refine so ?_)
 have hst : Stable fun W => Below w.heap.size w W ∧ Blk W g 109 (sdL S v u).toArray := stable_and (stable_below _ _ (Nat.le_refl _)) (stable_blk _ _ _)
 refine wp_region_v _ 15 hst ⟨hB.drew, HG⟩ ?_
 clear hB HG
 refine wpU_p 0 hst ?_
 refine wpU_p 1 hst ?_
 refine wpU_p 2 hst ?_
 refine wpU_p 3 hst ?_
 refine wpU_c 4 (.int .i64 S.p.passkey) hst (fun W hS => hS.2.cell 46) ?_
 refine wpU_p 5 hst ?_
 refine wpU_p 6 hst ?_
 refine wpU_p 7 hst ?_
 refine wpU_p 8 hst ?_
 refine wpU_c 9 (.int .i64 S.p.round) hst (fun W hS => hS.2.cell 47) ?_
 refine wpU_p 10 hst ?_
 refine wpU_p 11 hst ?_
 refine wpU_p 12 hst ?_
 refine wpU_p 13 hst ?_
 refine wpU_p 14 hst ?_
 refine wpU_done (fun w_4 hS => ?_)
 obtain ⟨hB, HG⟩ := hS
 clear hst
 go_wp2_with (with_reducible refine so ?_)
 go_returns
 have er : r = (128#8 + BitVec.ofInt 8 (S.p.passkey / 2 ^ S.p.round.toNat % 2)) := by rw [← HR.out]; first | (simp [Sd.z, Sd.pass, hc_3]; done) | (simp only [Sd.z, Sd.pass, hc_3]; simp [hc_3]; done) | ((simp [Sd.z, Sd.pass, hc_3]) <;> rfl)
 rw [er]
 exact ⟨rfl, hB⟩
theorem sd_opens (g : Nat) (S : Sd) (v u : Value) (x : BitVec 64) (w : World) (HG : Blk w g SideT (sdL S v u).toArray) (h0 : 0 ≤ S.p.round) (h1 : S.p.round ≤ 64) (r : Bool) (hr : S.opens x = r) :
  Calls Tryd.prog 104 #[.pointer (some ⟨g, 0, none⟩), .int .u64 (W64 x)] w (fun e w' => e = .returned (.bool r) ∧ Below w.heap.size w w') := by
 have HR := Lib.hid hr
 clear hr
 go_enter Tryd.func104, Tryd.ntmps104
 have hB := Below.refl w.heap.size w
 go_wp2_with (with_reducible refine so ?_)
 have hst : Stable fun W => Below w.heap.size w W ∧ Blk W g 109 (sdL S v u).toArray := stable_and (stable_below _ _ (Nat.le_refl _)) (stable_blk _ _ _)
 refine wp_region_v _ 18 hst ⟨hB.drew, HG⟩ ?_
 clear hB HG
 refine wpU_p 0 hst ?_
 refine wpU_p 1 hst ?_
 refine wpU_p 2 hst ?_
 refine wpU_p 3 hst ?_
 refine wpU_c 4 (.int .u32 (W32 S.p.peerKey)) hst (fun W hS => hS.2.cell 40) ?_
 refine wpU_p 5 hst ?_
 refine wpU_p 7 hst ?_
 refine wpU_p 8 hst ?_
 refine wpU_p 11 hst ?_
 refine wpU_p 12 hst ?_
 refine wpU_p 13 hst ?_
 refine wpU_p 14 hst ?_
 refine wpU_c 15 (.int .u64 (W64 S.p.commit)) hst (fun W hS => hS.2.cell 44) ?_
 refine wpU_take (v := ?_) 6 hst (fun _ h => h) rfl ?_ ?_; rotate_left; (intro W hS K hK; go_simp; refine (sd_own _ _ _ _  _ hS.2 (pubK S.p.cfg.secret) rfl).mono ?_; rintro e w9 ⟨rfl, hb⟩; refine CallPost.mk ?_; exact hK.out _ (hb)); simp only [nrm]
 refine wpU_take (v := ?_) 9 hst (fun _ h => h) rfl ?_ ?_; rotate_left; (intro W hS K hK; go_simp; refine (sd_z _ _ _ _  _ hS.2 h0 h1 (Sd.z S) rfl).mono ?_; rintro e w9 ⟨rfl, hb⟩; refine CallPost.mk ?_; exact hK.out _ (hb)); simp only [nrm]
 refine wpU_take (v := ?_) 10 hst (fun _ h => h) rfl ?_ ?_; rotate_left; (intro W hS K hK; clear hS; go_simp; refine (conf_Commit S.p.peerKey ((pubK S.p.cfg.secret)) x ((Sd.z S)) _).mono ?_; rintro e w9 ⟨rfl, hb⟩; refine CallPost.mk ?_; exact hK.out _ (hb)); simp only [nrm]
 refine wpU_p 16 hst ?_
 refine wpU_p 17 hst ?_
 refine wpU_done (fun w_1 hS => ?_)
 obtain ⟨hB, HG⟩ := hS
 clear hst
 go_wp2_with (with_reducible refine so ?_)
 go_returns
 have er : r = (W64 (commitK S.p.peerKey (pubK S.p.cfg.secret) x S.z) == W64 S.p.commit) := by rw [← HR.out]; rw [W64_beq]; rfl
 rw [er]
 exact ⟨rfl, hB⟩
theorem sd_check (g : Nat) (S : Sd) (v u : Value)  (w : World) (HG : Blk w g SideT (sdL S v u).toArray) (r : BitVec 64) (hr : S.check = r) :
  Calls Tryd.prog 80 #[.pointer (some ⟨g, 0, none⟩)] w (fun e w' => e = .returned (.int .u64 (W64 r)) ∧ Below w.heap.size w w') := by
 have HR := Lib.hid hr
 clear hr
 go_enter Tryd.func80, Tryd.ntmps80
 have hB := Below.refl w.heap.size w
 go_wp2_with (first | (with_reducible refine so ?_) | (with_reducible refine ld 0 (cfgL S.p.cfg) HG Tryd.underlying34 ?_))
 refine go_mem (ty := 34) (cs := (cfgL cfg0).toArray) (fun g => .pointer (some ⟨g, 0, none⟩)) rfl (by kernel_rfl) ?_
 intro g_2 w_3 z_7 l_6 hb_4 G_5
 have n_8 : g < g_2 := Nat.lt_of_lt_of_le HG.lt l_6
 have n_9 : w.heap.size ≤ g_2 := Nat.le_trans hB.size l_6
 replace HG := HG.to hb_4 HG.lt
 replace hB := hB.trans (hb_4.mono hB.size)
 clear hb_4 l_6 z_7
 go_wp2_with (with_reducible refine so ?_)
 refine sv (cfgL S.p.cfg).toArray G_5 ?_
 intro w_10 G_12 hU_11
 replace HG := hU_11.blk HG (by omega)
 replace hB := hU_11.below hB (by omega)
 clear G_5 hU_11
 go_wp2_with (with_reducible refine so ?_)
 have hst : Stable fun W => Below w.heap.size w W ∧ Blk W g 109 (sdL S v u).toArray ∧ Blk W g_2 34 (cfgL S.p.cfg).toArray := stable_and (stable_below _ _ (Nat.le_refl _)) (stable_and (stable_blk _ _ _) (stable_blk _ _ _))
 refine wp_region_v _ 26 hst ⟨hB.drew, HG, G_12⟩ ?_
 clear hB HG G_12
 refine wpU_p 0 hst ?_
 refine wpU_p 1 hst ?_
 refine wpU_p 2 hst ?_
 refine wpU_p 3 hst ?_
 refine wpU_c 4 (.int .u32 (W32 S.p.shared)) hst (fun W hS => hS.2.1.cell 41) ?_
 refine wpU_p 5 hst ?_
 refine wpU_p 6 hst ?_
 refine wpU_p 7 hst ?_
 refine wpU_p 8 hst ?_
 refine wpU_c 9 (.int .u64 (W64 S.p.nonce)) hst (fun W hS => hS.2.1.cell 42) ?_
 refine wpU_p 10 hst ?_
 refine wpU_p 11 hst ?_
 refine wpU_p 12 hst ?_
 refine wpU_take (v := ?_) 13 hst (fun _ h => h) rfl ?_ ?_; rotate_left; (intro W hS K hK; have ld : W.cell? ⟨g_2, 2, none⟩ = some (.bool S.p.cfg.feat.oob) := hS.2.2.cell 2; clear hS; go_simp; exact hK.out _ (Below.refl _ _)); simp only [nrm]
 refine wpU_p 14 hst ?_
 refine wpU_p 15 hst ?_
 refine wpU_c 16 (.int .u64 (W64 S.p.cfg.oob.random)) hst (fun W hS => hS.2.2.cell 18) ?_
 refine wpU_p 18 hst ?_
 refine wpU_l 19 1 (featL S.p.cfg.feat) (fun W hS => hS.2.2) Tryd.underlying23 hst ?_
 refine wpU_p 20 hst ?_
 refine wpU_l 21 7 [.int .i64 S.p.cfg.own.kind, .int .u64 (W64 S.p.cfg.own.bits)] (fun W hS => hS.2.2) Tryd.underlying26 hst ?_
 refine wpU_p 22 hst ?_
 refine wpU_l 23 9 [.int .i64 S.p.cfg.peer.kind, .int .u64 (W64 S.p.cfg.peer.bits)] (fun W hS => hS.2.2) Tryd.underlying26 hst ?_
 refine wpU_take (v := ?_) 17 hst (fun _ h => h) rfl ?_ ?_; rotate_left; (intro W hS K hK; go_simp; refine (sd_extra _ _ _ _ S.p.cfg.feat.oob S.p.cfg.oob.random _ hS.2.1 (Sd.extra S S.p.cfg.feat.oob S.p.cfg.oob.random) rfl).mono ?_; rintro e w9 ⟨rfl, hb⟩; refine CallPost.mk ?_; exact hK.out _ (hb)); simp only [nrm]
 refine wpU_take (v := ?_) 24 hst (fun _ h => h) rfl ?_ ?_; rotate_left; (intro W hS K hK; clear hS; go_simp; refine (conf_CheckV S.p.shared S.p.nonce ((Sd.extra S S.p.cfg.feat.oob S.p.cfg.oob.random)) S.p.cfg.feat S.p.cfg.own S.p.cfg.peer _).mono ?_; rintro e w9 ⟨rfl, hb⟩; refine CallPost.mk ?_; exact hK.out _ (hb)); simp only [nrm]
 refine wpU_p 25 hst ?_
 refine wpU_done (fun w_13 hS => ?_)
 obtain ⟨hB, HG, G_12⟩ := hS
 clear hst
 go_wp2_with (with_reducible refine so ?_)
 go_returns
 have er : r = (checkV S.p.shared S.p.nonce ((Sd.extra S S.p.cfg.feat.oob S.p.cfg.oob.random)) S.p.cfg.feat S.p.cfg.own S.p.cfg.peer) := by rw [← HR.out]; rfl
 rw [er]
 exact ⟨rfl, hB⟩
theorem sd_otherCheck (g : Nat) (S : Sd) (v u : Value)  (w : World) (HG : Blk w g SideT (sdL S v u).toArray) (r : BitVec 64) (hr : S.otherCheck = r) :
  Calls Tryd.prog 76 #[.pointer (some ⟨g, 0, none⟩)] w (fun e w' => e = .returned (.int .u64 (W64 r)) ∧ Below w.heap.size w w') := by
 have HR := Lib.hid hr
 clear hr
 go_enter Tryd.func76, Tryd.ntmps76
 have hB := Below.refl w.heap.size w
 go_wp2_with (first | (with_reducible refine so ?_) | (with_reducible refine ld 0 (cfgL S.p.cfg) HG Tryd.underlying34 ?_))
 refine go_mem (ty := 34) (cs := (cfgL cfg0).toArray) (fun g => .pointer (some ⟨g, 0, none⟩)) rfl (by kernel_rfl) ?_
 intro g_2 w_3 z_7 l_6 hb_4 G_5
 have n_8 : g < g_2 := Nat.lt_of_lt_of_le HG.lt l_6
 have n_9 : w.heap.size ≤ g_2 := Nat.le_trans hB.size l_6
 replace HG := HG.to hb_4 HG.lt
 replace hB := hB.trans (hb_4.mono hB.size)
 clear hb_4 l_6 z_7
 go_wp2_with (with_reducible refine so ?_)
 refine sv (cfgL S.p.cfg).toArray G_5 ?_
 intro w_10 G_12 hU_11
 replace HG := hU_11.blk HG (by omega)
 replace hB := hU_11.below hB (by omega)
 clear G_5 hU_11
 go_wp2_with (with_reducible refine so ?_)
 have hst : Stable fun W => Below w.heap.size w W ∧ Blk W g 109 (sdL S v u).toArray ∧ Blk W g_2 34 (cfgL S.p.cfg).toArray := stable_and (stable_below _ _ (Nat.le_refl _)) (stable_and (stable_blk _ _ _) (stable_blk _ _ _))
 refine wp_region_v _ 31 hst ⟨hB.drew, HG, G_12⟩ ?_
 clear hB HG G_12
 refine wpU_p 0 hst ?_
 refine wpU_p 1 hst ?_
 refine wpU_p 2 hst ?_
 refine wpU_p 3 hst ?_
 refine wpU_c 4 (.int .u32 (W32 S.p.shared)) hst (fun W hS => hS.2.1.cell 41) ?_
 refine wpU_p 5 hst ?_
 refine wpU_p 6 hst ?_
 refine wpU_p 7 hst ?_
 refine wpU_p 8 hst ?_
 refine wpU_c 9 (.int .u64 (W64 S.p.other)) hst (fun W hS => hS.2.1.cell 43) ?_
 refine wpU_p 10 hst ?_
 refine wpU_p 11 hst ?_
 refine wpU_p 12 hst ?_
 refine wpU_p 13 hst ?_
 refine wpU_p 14 hst ?_
 refine wpU_p 15 hst ?_
 refine wpU_take (v := ?_) 16 hst (fun _ h => h) rfl ?_ ?_; rotate_left; (intro W hS K hK; have ld : W.cell? ⟨g, 23, none⟩ = some (.bool S.p.peer.oob) := hS.2.1.cell 23; clear hS; go_simp; exact hK.out _ (Below.refl _ _)); simp only [nrm]
 refine wpU_p 17 hst ?_
 refine wpU_c 18 (.int .u64 (W64 S.p.cfg.mine)) hst (fun W hS => hS.2.2.cell 16) ?_
 refine wpU_p 20 hst ?_
 refine wpU_p 21 hst ?_
 refine wpU_p 22 hst ?_
 refine wpU_p 23 hst ?_
 refine wpU_l 24 22 (featL S.p.peer) (fun W hS => hS.2.1) Tryd.underlying23 hst ?_
 refine wpU_p 25 hst ?_
 refine wpU_l 26 9 [.int .i64 S.p.cfg.peer.kind, .int .u64 (W64 S.p.cfg.peer.bits)] (fun W hS => hS.2.2) Tryd.underlying26 hst ?_
 refine wpU_p 27 hst ?_
 refine wpU_l 28 7 [.int .i64 S.p.cfg.own.kind, .int .u64 (W64 S.p.cfg.own.bits)] (fun W hS => hS.2.2) Tryd.underlying26 hst ?_
 refine wpU_take (v := ?_) 19 hst (fun _ h => h) rfl ?_ ?_; rotate_left; (intro W hS K hK; go_simp; refine (sd_extra _ _ _ _ S.p.peer.oob S.p.cfg.mine _ hS.2.1 (Sd.extra S S.p.peer.oob S.p.cfg.mine) rfl).mono ?_; rintro e w9 ⟨rfl, hb⟩; refine CallPost.mk ?_; exact hK.out _ (hb)); simp only [nrm]
 refine wpU_take (v := ?_) 29 hst (fun _ h => h) rfl ?_ ?_; rotate_left; (intro W hS K hK; clear hS; go_simp; refine (conf_CheckV S.p.shared S.p.other ((Sd.extra S S.p.peer.oob S.p.cfg.mine)) S.p.peer S.p.cfg.peer S.p.cfg.own _).mono ?_; rintro e w9 ⟨rfl, hb⟩; refine CallPost.mk ?_; exact hK.out _ (hb)); simp only [nrm]
 refine wpU_p 30 hst ?_
 refine wpU_done (fun w_13 hS => ?_)
 obtain ⟨hB, HG, G_12⟩ := hS
 clear hst
 go_wp2_with (with_reducible refine so ?_)
 go_returns
 have er : r = (checkV S.p.shared S.p.other ((Sd.extra S S.p.peer.oob S.p.cfg.mine)) S.p.peer S.p.cfg.peer S.p.cfg.own) := by rw [← HR.out]; rfl
 rw [er]
 exact ⟨rfl, hB⟩
theorem sd_distributes (g : Nat) (S : Sd) (v u : Value)  (w : World) (HG : Blk w g SideT (sdL S v u).toArray) (r : Bool × Bool) (hr : S.dist = r) :
  Calls Tryd.prog 57 #[.pointer (some ⟨g, 0, none⟩)] w (fun e w' => e = .returned (.tuple #[.bool r.1, .bool r.2]) ∧ Below w.heap.size w w') := by
 have HR := Lib.hid hr
 clear hr
 go_enter Tryd.func57, Tryd.ntmps57
 have hB := Below.refl w.heap.size w
 go_wp2_with (with_reducible refine so ?_)
 have hst : Stable fun W => Below w.heap.size w W ∧ Blk W g 109 (sdL S v u).toArray := stable_and (stable_below _ _ (Nat.le_refl _)) (stable_blk _ _ _)
 refine wp_region_v _ 16 hst ⟨hB.drew, HG⟩ ?_
 clear hB HG
 refine wpU_p 0 hst ?_
 refine wpU_p 1 hst ?_
 refine wpU_p 2 hst ?_
 refine wpU_p 3 hst ?_
 refine wpU_l 4 28 (featL S.p.req) (fun W hS => hS.2) Tryd.underlying23 hst ?_
 refine wpU_p 5 hst ?_
 refine wpU_p 6 hst ?_
 refine wpU_p 7 hst ?_
 refine wpU_p 8 hst ?_
 refine wpU_l 9 34 (featL S.p.res) (fun W hS => hS.2) Tryd.underlying23 hst ?_
 refine wpU_take (v := ?_) 10 hst (fun _ h => h) rfl ?_ ?_; rotate_left; (intro W hS K hK; clear hS; go_simp; refine (me_Identities S.p.req S.p.res _).mono ?_; rintro e w9 ⟨rfl, hb⟩; refine CallPost.mk ?_; exact hK.out _ (hb)); simp only [nrm]
 refine wpU_p 11 hst ?_
 refine wpU_p 12 hst ?_
 refine wpU_p 13 hst ?_
 refine wpU_p 14 hst ?_
 refine wpU_p 15 hst ?_
 refine wpU_done (fun w_1 hS => ?_)
 obtain ⟨hB, HG⟩ := hS
 clear hst
 go_wp2_with (with_reducible refine so ?_)
 refine (sd_byRole_bool _ _ _ _ ((identsK S.p.req S.p.res).1) ((identsK S.p.req S.p.res).2) _ HG (byR S ((identsK S.p.req S.p.res).1) ((identsK S.p.req S.p.res).2)) rfl).mono ?_; rintro e w_2 ⟨rfl, hb_3⟩
 replace HG := HG.to hb_3 HG.lt
 replace hB := hB.trans (hb_3.mono hB.size)
 clear hb_3
 go_wp2_with (with_reducible refine so ?_)
 refine (sd_byRole_bool _ _ _ _ ((identsK S.p.req S.p.res).2) ((identsK S.p.req S.p.res).1) _ HG (byR S ((identsK S.p.req S.p.res).2) ((identsK S.p.req S.p.res).1)) rfl).mono ?_; rintro e w_4 ⟨rfl, hb_5⟩
 replace HG := HG.to hb_5 HG.lt
 replace hB := hB.trans (hb_5.mono hB.size)
 clear hb_5
 go_wp2_with (with_reducible refine so ?_)
 go_returns
 have er : r = (byR S (identsK S.p.req S.p.res).1 (identsK S.p.req S.p.res).2, byR S (identsK S.p.req S.p.res).2 (identsK S.p.req S.p.res).1) := by rw [← HR.out]; rfl
 rw [er]
 exact ⟨rfl, hB⟩
end Go.Proofs.YtihmbcnccdiecaaDoor
