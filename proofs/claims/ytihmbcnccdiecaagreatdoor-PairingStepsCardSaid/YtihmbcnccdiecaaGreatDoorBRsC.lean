/- Part of the proofs of the laws of pairing. -/
import Derived.Test.YtihmbcnccdiecaaGreatDoorBRsG
import Derived.Test.YtihmbcnccdiecaaGreatDoorBSdE
namespace Go.Proofs.YtihmbcnccdiecaaGreatDoor
set_option maxRecDepth 100000
set_option linter.unusedVariables false
set_option linter.unusedSimpArgs false
open Go.ChangeShapes Go.WideShapes Go.ChangeAt Go.RowKit
theorem LQ (x : BitVec 64) : 0 ≤ W64 (x % 1000000#64) ∧ W64 (x % 1000000#64) ≤ 999999 := by
  have h : (x % 1000000#64).toNat < 1000000 := by rw [BitVec.toNat_umod]; exact Nat.mod_lt _ (by decide)
  unfold W64
  omega
theorem J9 {m : Int} {P : Prop} (h : aU m = false) : aU m = true → P := fun k => absurd (h.symm.trans k) (by decide)
set_option maxHeartbeats 2000000 in
theorem rO (base : Nat) (p : Pr) (d : Sec) (now : Int) (bx : List Bk) (w : World) (HM : Mem w w base [] [] (.slice none 0 0) (.slice none 0 0) bx) :
  Calls Tryz.prog 115 #[.agg (prL p).toArray, .agg (aI d).toArray, .int .i64 now] w (fun e w' => gJ w w' base (dB p d now) bx e) := by
 go_enter Tryz.func115, Tryz.ntmps115
 go_wp2_with with_reducible refine sy ?_
 refine HM.nw (ty := 37) (cs := (prL p).toArray) ?_; clear HM; intro Z a0 HM
 go_wp2_with with_reducible refine sy ?_
 refine HM.nw (ty := 43) (cs := (aI d).toArray) ?_; clear HM; intro a1 a2 HM
 go_wp2_with with_reducible refine sy ?_
 refine HM.nw (ty := 106) (cs := (stL fY (.slice none 0 0) (.slice none 0 0)).toArray) ?_; clear HM; intro a3 a4 HM
 go_wp2_with first | with_reducible refine sy ?_ | with_reducible refine lw HM.b2 U37 ?_
 refine bt HM.to (fW p now _ HM.laid) ?_; clear HM; intro a5 HM
 go_wp2_with with_reducible refine sy ?_
 refine HM.nw (ty := 106) (cs := (stL fY (.slice none 0 0) (.slice none 0 0)).toArray) ?_; clear HM; intro a6 a7 HM
 go_wp2_with with_reducible refine sy ?_
 refine yv HM.b0 HM.s0 ?_; clear HM; intro a8 HM
 go_wp2_with first | with_reducible refine sy ?_ | with_reducible refine ld 1 [.int .i64 d.feat.io, .bool d.feat.oob, .bool d.feat.bond, .bool d.feat.mitm, .bool d.feat.sid, .bool d.feat.tid] HM.b2 U23 ?_
 refine yp 22 (stL ((aC p now).put_peer d.feat) (.slice none 0 0) (.slice none 0 0)).toArray HM.b0 HM.s0 ?_; clear HM; intro a9 HM
 go_wp2_with first | with_reducible refine sy ?_ | with_reducible refine lw HM.b3 U37 ?_
 refine bt HM.to (cB p _ (aP p) rfl) ?_; clear HM; intro b4 HM
 rcases b5 : (aP p) with _ | _
 ·
  go_wp2_with first | with_reducible refine sy ?_ | with_reducible refine ld 1 [.int .i64 d.feat.io, .bool d.feat.oob, .bool d.feat.bond, .bool d.feat.mitm, .bool d.feat.sid, .bool d.feat.tid] HM.b2 U23 ?_
  refine yp 28 (stL (((aC p now).put_peer d.feat).put_req d.feat) (.slice none 0 0) (.slice none 0 0)).toArray HM.b0 HM.s0 ?_; clear HM; intro b6 HM
  go_wp2_with first | with_reducible refine sy ?_ | with_reducible refine ld 1 [.int .i64 p.cfg.feat.io, .bool p.cfg.feat.oob, .bool p.cfg.feat.bond, .bool p.cfg.feat.mitm, .bool p.cfg.feat.sid, .bool p.cfg.feat.tid] HM.b3 U23 ?_
  refine yp 34 (stL ((((aC p now).put_peer d.feat).put_req d.feat).put_res p.cfg.feat) (.slice none 0 0) (.slice none 0 0)).toArray HM.b0 HM.s0 ?_; clear HM; intro b7 HM
  go_wp2_with first | with_reducible refine sy ?_ | with_reducible refine ld 28 [.int .i64 d.feat.io, .bool d.feat.oob, .bool d.feat.bond, .bool d.feat.mitm, .bool d.feat.sid, .bool d.feat.tid] HM.b0 U23 ?_ | with_reducible refine ld 34 [.int .i64 p.cfg.feat.io, .bool p.cfg.feat.oob, .bool p.cfg.feat.bond, .bool p.cfg.feat.mitm, .bool p.cfg.feat.sid, .bool p.cfg.feat.tid] HM.b0 U23 ?_
  refine bt HM.to (tC d.feat p.cfg.feat _) ?_; clear HM; intro b8 HM
  rcases b9 : (cC d.feat p.cfg.feat) with _ | _
  ·
   go_wp2_with first | with_reducible refine sy ?_ | with_reducible refine lw HM.b3 U37 ?_
   refine bs HM (bY _ p 3 now _ _ HM.here) ?_; clear HM; intro c0 c4 c5 c6 c7 HM
   go_wp2_with with_reducible refine sy ?_
   refine yv HM.b1 HM.s1 ?_; clear HM; intro c8 HM
   go_wp2_with with_reducible refine sy ?_
   refine rc1 HM.b1 aQ ?_
   exact stE (by unfold dB; exact es8) HM.drop.drop.drop.drop
  go_wp2_with first | with_reducible refine sy ?_ | with_reducible refine ld 28 [.int .i64 d.feat.io, .bool d.feat.oob, .bool d.feat.bond, .bool d.feat.mitm, .bool d.feat.sid, .bool d.feat.tid] HM.b0 U23 ?_ | with_reducible refine ld 34 [.int .i64 p.cfg.feat.io, .bool p.cfg.feat.oob, .bool p.cfg.feat.bond, .bool p.cfg.feat.mitm, .bool p.cfg.feat.sid, .bool p.cfg.feat.tid] HM.b0 U23 ?_
  refine bt HM.to (mP d.feat p.cfg.feat _) ?_; clear HM; intro c9 HM
  go_wp2_with with_reducible refine sy ?_
  refine yk 21 (stL (((((aC p now).put_peer d.feat).put_req d.feat).put_res p.cfg.feat).put_method ((bC d.feat p.cfg.feat).1)) (.slice none 0 0) (.slice none 0 0)).toArray HM.b0 HM.s0 ?_; clear HM; intro d0 HM
  go_wp2_with with_reducible refine sy ?_
  refine yk 19 (stL ((((((aC p now).put_peer d.feat).put_req d.feat).put_res p.cfg.feat).put_method ((bC d.feat p.cfg.feat).1)).put_phase 2) (.slice none 0 0) (.slice none 0 0)).toArray HM.b0 HM.s0 ?_; clear HM; intro d1 HM
  go_wp2_with first | with_reducible refine sy ?_ | with_reducible refine lw HM.b3 U37 ?_
  refine bt HM.to (cB p _ (aP p) rfl) ?_; clear HM; intro d2 HM
  go_wp2_with first | with_reducible refine sy ?_ | with_reducible refine ld 1 [.int .i64 p.cfg.feat.io, .bool p.cfg.feat.oob, .bool p.cfg.feat.bond, .bool p.cfg.feat.mitm, .bool p.cfg.feat.sid, .bool p.cfg.feat.tid] HM.b3 U23 ?_
  refine bF (ty := 43) (cs := #[.int .i64 2, .int .i64 p.cfg.feat.io, .bool p.cfg.feat.oob, .bool p.cfg.feat.bond, .bool p.cfg.feat.mitm, .bool p.cfg.feat.sid, .bool p.cfg.feat.tid, .int .u32 0, .int .u64 0, .int .i64 0, .int .u64 0, .int .u64 0, .int .i64 0]) (fun g => .slice (some ⟨g, 0, none⟩) 1 1) rfl (by kernel_rfl) ?_
  intro J d3 L q z C
  replace HM := HM.alloc q z C
  clear z q L C
  go_wp2_with with_reducible refine sy ?_
  replace HM := Mem.oneS ⟨2, ⟨p.cfg.feat.io, p.cfg.feat.oob, p.cfg.feat.bond, p.cfg.feat.mitm, p.cfg.feat.sid, p.cfg.feat.tid⟩, 0#32, 0#64, ⟨⟨0, 0#64⟩, 0#64⟩, 0⟩ HM
  go_wp2_with with_reducible refine sy ?_
  refine yk 58 (stL (((((((aC p now).put_peer d.feat).put_req d.feat).put_res p.cfg.feat).put_method ((bC d.feat p.cfg.feat).1)).put_phase 2).put_out ([(⟨2, ⟨p.cfg.feat.io, p.cfg.feat.oob, p.cfg.feat.bond, p.cfg.feat.mitm, p.cfg.feat.sid, p.cfg.feat.tid⟩, 0#32, 0#64, ⟨⟨0, 0#64⟩, 0#64⟩, 0⟩ : Sec)])) (.slice (some ⟨J, 0, none⟩) 1 1) (.slice none 0 0)).toArray HM.b0 HM.s0 ?_; clear HM; intro d4 HM
  go_wp2_with first | with_reducible refine sy ?_ | with_reducible refine lw HM.b0 aQ ?_
  refine yv HM.b1 HM.s1 ?_; clear HM; intro d5 HM
  go_wp2_with with_reducible refine sy ?_
  refine rc1 HM.b1 aQ ?_
  exact stE (by unfold dB; exact es8) HM.drop.drop.drop.drop
 go_wp2_with first | with_reducible refine sy ?_ | with_reducible refine ld 1 [.int .i64 d.feat.io, .bool d.feat.oob, .bool d.feat.bond, .bool d.feat.mitm, .bool d.feat.sid, .bool d.feat.tid] HM.b2 U23 ?_
 refine yp 34 (stL (((aC p now).put_peer d.feat).put_res d.feat) (.slice none 0 0) (.slice none 0 0)).toArray HM.b0 HM.s0 ?_; clear HM; intro d6 HM
 go_wp2_with first | with_reducible refine sy ?_ | with_reducible refine ld 28 [.int .i64 p.req.io, .bool p.req.oob, .bool p.req.bond, .bool p.req.mitm, .bool p.req.sid, .bool p.req.tid] HM.b0 U23 ?_ | with_reducible refine ld 34 [.int .i64 d.feat.io, .bool d.feat.oob, .bool d.feat.bond, .bool d.feat.mitm, .bool d.feat.sid, .bool d.feat.tid] HM.b0 U23 ?_
 refine bt HM.to (tC p.req d.feat _) ?_; clear HM; intro d7 HM
 rcases d8 : (cC p.req d.feat) with _ | _
 ·
  go_wp2_with first | with_reducible refine sy ?_ | with_reducible refine lw HM.b3 U37 ?_
  refine bs HM (bY _ p 3 now _ _ HM.here) ?_; clear HM; intro d9 e0 e1 e2 e3 HM
  go_wp2_with with_reducible refine sy ?_
  refine yv HM.b1 HM.s1 ?_; clear HM; intro e4 HM
  go_wp2_with with_reducible refine sy ?_
  refine rc1 HM.b1 aQ ?_
  exact stE (by unfold dB; exact es8) HM.drop.drop.drop.drop
 go_wp2_with first | with_reducible refine sy ?_ | with_reducible refine ld 28 [.int .i64 p.req.io, .bool p.req.oob, .bool p.req.bond, .bool p.req.mitm, .bool p.req.sid, .bool p.req.tid] HM.b0 U23 ?_ | with_reducible refine ld 34 [.int .i64 d.feat.io, .bool d.feat.oob, .bool d.feat.bond, .bool d.feat.mitm, .bool d.feat.sid, .bool d.feat.tid] HM.b0 U23 ?_
 refine bt HM.to (mP p.req d.feat _) ?_; clear HM; intro e5 HM
 go_wp2_with with_reducible refine sy ?_
 refine yk 21 (stL ((((aC p now).put_peer d.feat).put_res d.feat).put_method ((bC p.req d.feat).1)) (.slice none 0 0) (.slice none 0 0)).toArray HM.b0 HM.s0 ?_; clear HM; intro e6 HM
 go_wp2_with with_reducible refine sy ?_
 refine yk 19 (stL (((((aC p now).put_peer d.feat).put_res d.feat).put_method ((bC p.req d.feat).1)).put_phase 2) (.slice none 0 0) (.slice none 0 0)).toArray HM.b0 HM.s0 ?_; clear HM; intro e7 HM
 go_wp2_with first | with_reducible refine sy ?_ | with_reducible refine lw HM.b3 U37 ?_
 refine bt HM.to (cB p _ (aP p) rfl) ?_; clear HM; intro e8 HM
 go_wp2_with first | with_reducible refine sy ?_ | with_reducible refine lw HM.b3 U37 ?_
 refine bt HM.to (nJ p _ (cJ p.cfg.secret) rfl) ?_; clear HM; intro e9 HM
 go_wp2_with with_reducible refine sy ?_
 refine bF (ty := 43) (cs := #[.int .i64 12, .int .i64 0, .bool false, .bool false, .bool false, .bool false, .bool false, .int .u32 (W32 (cJ p.cfg.secret)), .int .u64 0, .int .i64 0, .int .u64 0, .int .u64 0, .int .i64 0]) (fun g => .slice (some ⟨g, 0, none⟩) 1 1) rfl (by kernel_rfl) ?_
 intro O f0 U D F I
 replace HM := HM.alloc D F I
 clear F D U I
 go_wp2_with with_reducible refine sy ?_
 replace HM := Mem.oneS ⟨12, ⟨0, false, false, false, false, false⟩, (cJ p.cfg.secret), 0#64, ⟨⟨0, 0#64⟩, 0#64⟩, 0⟩ HM
 go_wp2_with with_reducible refine sy ?_
 refine yk 58 (stL ((((((aC p now).put_peer d.feat).put_res d.feat).put_method ((bC p.req d.feat).1)).put_phase 2).put_out ([(⟨12, ⟨0, false, false, false, false, false⟩, (cJ p.cfg.secret), 0#64, ⟨⟨0, 0#64⟩, 0#64⟩, 0⟩ : Sec)])) (.slice (some ⟨O, 0, none⟩) 1 1) (.slice none 0 0)).toArray HM.b0 HM.s0 ?_; clear HM; intro f1 HM
 go_wp2_with first | with_reducible refine sy ?_ | with_reducible refine lw HM.b0 aQ ?_
 refine yv HM.b1 HM.s1 ?_; clear HM; intro f2 HM
 go_wp2_with with_reducible refine sy ?_
 refine rc1 HM.b1 aQ ?_
 exact stE (by unfold dB; exact es8) HM.drop.drop.drop.drop
end Go.Proofs.YtihmbcnccdiecaaGreatDoor
