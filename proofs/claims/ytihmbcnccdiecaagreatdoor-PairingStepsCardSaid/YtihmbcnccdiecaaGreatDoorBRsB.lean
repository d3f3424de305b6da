/- Part of the proofs of the laws of pairing. -/
import Derived.Test.YtihmbcnccdiecaaGreatDoorBRs9
import Derived.Test.YtihmbcnccdiecaaGreatDoorBRsA
namespace Go.Proofs.YtihmbcnccdiecaaGreatDoor
set_option maxRecDepth 100000
set_option linter.unusedVariables false
set_option linter.unusedSimpArgs false
open Go.ChangeShapes Go.WideShapes Go.ChangeAt Go.RowKit
set_option maxHeartbeats 2000000 in
theorem fW (p : Pr) (now : Int) (w : World) (HL : bW w) :
  Calls Tryz.prog 93 #[.agg (prL p).toArray, .int .i64 now] w (fun e w' => e = .returned (.agg (stL (aC p now) (.slice none 0 0) (.slice none 0 0)).toArray) ∧ Below w.heap.size w w') := by
 have HM := Mem.start HL
 obtain ⟨base, hb⟩ : ∃ b, w.heap.size = b := ⟨_, rfl⟩
 rw [hb] at HM
 have hbs := Lib.hid hb
 clear hb HL
 go_enter Tryz.func93, Tryz.ntmps93
 go_wp2_with with_reducible refine sy ?_
 refine HM.nw (ty := 37) (cs := (prL p).toArray) ?_; clear HM; intro q z HM
 go_wp2_with with_reducible refine sy ?_
 refine HM.nw (ty := 106) (cs := (stL fY (.slice none 0 0) (.slice none 0 0)).toArray) ?_; clear HM; intro C D HM
 go_wp2_with with_reducible refine sy ?_
 refine yk 20 (prL (p.put_since now)).toArray HM.b1 HM.s1 ?_; clear HM; intro F HM
 go_wp2_with first | with_reducible refine sy ?_ | with_reducible refine lw HM.b1 U37 ?_
 unfold bA
 refine aN [(0, .agg (prL (p.put_since now)).toArray)] (stL (mkS ((p.put_since now)) [] []) (.slice none 0 0) (.slice none 0 0)).toArray (by simp only [List.map_toArray, List.map_cons, List.map_nil]; rfl) (by kernel_rfl) ?_
 go_wp2_with with_reducible refine sy ?_
 refine yv HM.b0 HM.s0 ?_; clear HM; intro I HM
 go_wp2_with with_reducible refine sy ?_
 refine rc1 HM.b0 aQ ?_
 exact ⟨rfl, by rw [hbs.out]; exact HM.below⟩
set_option maxHeartbeats 2000000 in
theorem bY (base : Nat) (p : Pr) (reason now : Int) (bx : List Bk) (w : World) (HM : Mem w w base [] [] (.slice none 0 0) (.slice none 0 0) bx) :
  Calls Tryz.prog 67 #[.agg (prL p).toArray, .int .i64 reason, .int .i64 now] w (fun e w' => gJ w w' base (cE p reason now) bx e) := by
 go_enter Tryz.func67, Tryz.ntmps67
 go_wp2_with with_reducible refine sy ?_
 refine HM.nw (ty := 37) (cs := (prL p).toArray) ?_; clear HM; intro Z a0 HM
 go_wp2_with with_reducible refine sy ?_
 refine HM.nw (ty := 106) (cs := (stL fY (.slice none 0 0) (.slice none 0 0)).toArray) ?_; clear HM; intro a1 a2 HM
 go_wp2_with with_reducible refine sy ?_
 refine yk 19 (prL (p.put_phase 8)).toArray HM.b1 HM.s1 ?_; clear HM; intro a3 HM
 go_wp2_with with_reducible refine sy ?_
 refine yk 20 (prL ((p.put_phase 8).put_since now)).toArray HM.b1 HM.s1 ?_; clear HM; intro a4 HM
 go_wp2_with with_reducible refine sy ?_
 refine yk 57 (prL (((p.put_phase 8).put_since now).put_reason reason)).toArray HM.b1 HM.s1 ?_; clear HM; intro a5 HM
 go_wp2_with first | with_reducible refine sy ?_ | with_reducible refine lw HM.b1 U37 ?_
 refine bF (ty := 43) (cs := #[.int .i64 5, .int .i64 0, .bool false, .bool false, .bool false, .bool false, .bool false, .int .u32 0, .int .u64 0, .int .i64 0, .int .u64 0, .int .u64 0, .int .i64 reason]) (fun g => .slice (some ⟨g, 0, none⟩) 1 1) rfl (by kernel_rfl) ?_
 intro q a6 O z C D
 replace HM := HM.alloc z C D
 clear C z O D
 go_wp2_with with_reducible refine sy ?_
 refine bF (ty := 80) (cs := #[.int .i64 4, .int .i64 0, .int .u64 0, .bool false, .int .i64 0, .int .u64 0, .int .u64 0, .int .i64 reason]) (fun g => .slice (some ⟨g, 0, none⟩) 1 1) rfl (by kernel_rfl) ?_
 intro F a7 U I J L
 replace HM := HM.alloc I J L
 clear J I U L
 go_wp2_with with_reducible refine sy ?_
 unfold bA
 replace HM := Mem.oneE (e := ⟨4, 0, 0#64, false, ⟨⟨0, 0#64⟩, 0#64⟩, reason⟩) HM
 replace HM := Mem.oneS ⟨5, ⟨0, false, false, false, false, false⟩, 0#32, 0#64, ⟨⟨0, 0#64⟩, 0#64⟩, reason⟩ HM
 refine aN [(0, .agg (prL (((p.put_phase 8).put_since now).put_reason reason)).toArray), (1, .slice (some ⟨q, 0, none⟩) 1 1), (2, .slice (some ⟨F, 0, none⟩) 1 1)] (stL (mkS ((((p.put_phase 8).put_since now).put_reason reason)) [(⟨5, ⟨0, false, false, false, false, false⟩, 0#32, 0#64, ⟨⟨0, 0#64⟩, 0#64⟩, reason⟩ : Sec)] [(⟨4, 0, 0#64, false, ⟨⟨0, 0#64⟩, 0#64⟩, reason⟩ : Evt)]) (.slice (some ⟨q, 0, none⟩) 1 1) (.slice (some ⟨F, 0, none⟩) 1 1)).toArray (by simp only [List.map_toArray, List.map_cons, List.map_nil]; rfl) (by kernel_rfl) ?_
 go_wp2_with with_reducible refine sy ?_
 refine yv HM.b0 HM.s0 ?_; clear HM; intro a8 HM
 go_wp2_with with_reducible refine sy ?_
 refine rc1 HM.b0 aQ ?_
 exact stE rfl HM.drop.drop
set_option maxHeartbeats 2000000 in
theorem jJ (base : Nat) (S : Stp) (A1 : Option Addr) (c1 : Nat) (A2 : Option Addr) (c2 : Nat) (kind : Int) (x : BitVec 64) (bx : List Bk) (w : World) (HM : Mem w w base S.out S.ev (.slice A1 S.out.length c1) (.slice A2 S.ev.length c2) bx) (ls : S.out.length ≤ 1000) :
  Calls Tryz.prog 123 #[.agg (stL S (.slice A1 S.out.length c1) (.slice A2 S.ev.length c2)).toArray, .int .i64 kind, .int .u64 (W64 x)] w (fun e w' => gJ w w' base (dQ S kind x) bx e) := by
 go_enter Tryz.func123, Tryz.ntmps123
 go_wp2_with with_reducible refine sy ?_
 refine HM.nw (ty := 106) (cs := (stL S (.slice A1 S.out.length c1) (.slice A2 S.ev.length c2)).toArray) ?_; clear HM; intro U Z HM
 go_wp2_with with_reducible refine sy ?_
 refine HM.nw (ty := 106) (cs := (stL fY (.slice none 0 0) (.slice none 0 0)).toArray) ?_; clear HM; intro a0 a1 HM
 have D := HM.b1.c 58 (.slice A1 S.out.length c1)
 go_wp2_with with_reducible refine sy ?_
 refine bF (ty := 43) (cs := #[.int .i64 kind, .int .i64 0, .bool false, .bool false, .bool false, .bool false, .bool false, .int .u32 0, .int .u64 (W64 x), .int .i64 0, .int .u64 0, .int .u64 0, .int .i64 0]) (fun g => .slice (some ⟨g, 0, none⟩) 1 1) rfl (by kernel_rfl) ?_
 intro a2 a3 F q z C
 clear D
 replace HM := HM.alloc q z C
 clear z q F C
 go_wp2_with with_reducible refine sy ?_
 unfold bA
 refine hH ⟨kind, ⟨0, false, false, false, false, false⟩, 0#32, x, ⟨⟨0, 0#64⟩, 0#64⟩, 0⟩ HM rfl rfl HM.b0 ln9 (fun a4 a5 HN => ?_)
 replace HM := HN
 clear HN
 obtain ⟨I, J, L, O, rfl⟩ := HM.vn
 go_wp2_with with_reducible refine sy ?_
 refine yk 58 (stL (S.put_out ((sn S.out ⟨kind, ⟨0, false, false, false, false, false⟩, 0#32, x, ⟨⟨0, 0#64⟩, 0#64⟩, 0⟩))) (.slice I J L) (.slice A2 S.ev.length c2)).toArray HM.b2 HM.s2 ?_; clear HM; intro a6 HM
 go_wp2_with first | with_reducible refine sy ?_ | with_reducible refine lw HM.b2 aQ ?_
 refine yv HM.b1 HM.s1 ?_; clear HM; intro a7 HM
 go_wp2_with with_reducible refine sy ?_
 refine rc1 HM.b1 aQ ?_
 obtain rfl := O.out
 exact stE rfl HM.drop.drop.drop
set_option maxHeartbeats 2000000 in
theorem oO (base : Nat) (S : Stp) (A1 : Option Addr) (c1 : Nat) (A2 : Option Addr) (c2 : Nat) (kind n : Int) (bx : List Bk) (w : World) (HM : Mem w w base S.out S.ev (.slice A1 S.out.length c1) (.slice A2 S.ev.length c2) bx) (le : S.ev.length ≤ 1000) :
  Calls Tryz.prog 163 #[.agg (stL S (.slice A1 S.out.length c1) (.slice A2 S.ev.length c2)).toArray, .int .i64 kind, .int .i64 n] w (fun e w' => gJ w w' base (eR S kind n) bx e) := by
 go_enter Tryz.func163, Tryz.ntmps163
 go_wp2_with with_reducible refine sy ?_
 refine HM.nw (ty := 106) (cs := (stL S (.slice A1 S.out.length c1) (.slice A2 S.ev.length c2)).toArray) ?_; clear HM; intro U Z HM
 go_wp2_with with_reducible refine sy ?_
 refine HM.nw (ty := 106) (cs := (stL fY (.slice none 0 0) (.slice none 0 0)).toArray) ?_; clear HM; intro a0 a1 HM
 have D := HM.b1.c 59 (.slice A2 S.ev.length c2)
 go_wp2_with with_reducible refine sy ?_
 refine bF (ty := 80) (cs := #[.int .i64 kind, .int .i64 n, .int .u64 0, .bool false, .int .i64 0, .int .u64 0, .int .u64 0, .int .i64 0]) (fun g => .slice (some ⟨g, 0, none⟩) 1 1) rfl (by kernel_rfl) ?_
 intro a2 a3 F q z C
 clear D
 replace HM := HM.alloc q z C
 clear z q F C
 go_wp2_with with_reducible refine sy ?_
 unfold bA
 refine gY ⟨kind, n, 0#64, false, ⟨⟨0, 0#64⟩, 0#64⟩, 0⟩ HM rfl rfl HM.b0 ln9 (fun a4 a5 HN => ?_)
 replace HM := HN
 clear HN
 obtain ⟨I, J, L, O, rfl⟩ := HM.un
 go_wp2_with with_reducible refine sy ?_
 refine yk 59 (stL (S.put_ev ((sn S.ev ⟨kind, n, 0#64, false, ⟨⟨0, 0#64⟩, 0#64⟩, 0⟩))) (.slice A1 S.out.length c1) (.slice I J L)).toArray HM.b2 HM.s2 ?_; clear HM; intro a6 HM
 go_wp2_with first | with_reducible refine sy ?_ | with_reducible refine lw HM.b2 aQ ?_
 refine yv HM.b1 HM.s1 ?_; clear HM; intro a7 HM
 go_wp2_with with_reducible refine sy ?_
 refine rc1 HM.b1 aQ ?_
 obtain rfl := O.out
 exact stE rfl HM.drop.drop.drop
set_option maxHeartbeats 2000000 in
theorem DB (base : Nat) (S : Stp) (A1 : Option Addr) (c1 : Nat) (A2 : Option Addr) (c2 : Nat) (bx : List Bk) (w : World) (HM : Mem w w base S.out S.ev (.slice A1 S.out.length c1) (.slice A2 S.ev.length c2) bx) :
  Calls Tryz.prog 146 #[.agg (stL S (.slice A1 S.out.length c1) (.slice A2 S.ev.length c2)).toArray] w (fun e w' => LK w w' base (eX S) (.int .u64 (W64 (kW S))) bx e) := by
 go_enter Tryz.func146, Tryz.ntmps146
 go_wp2_with with_reducible refine sy ?_
 refine HM.nw (ty := 106) (cs := (stL S (.slice A1 S.out.length c1) (.slice A2 S.ev.length c2)).toArray) ?_; clear HM; intro D F HM
 go_wp2_with with_reducible refine sy ?_
 refine HM.nw (ty := 106) (cs := (stL fY (.slice none 0 0) (.slice none 0 0)).toArray) ?_; clear HM; intro I J HM
 have q := HM.b1.c 15 (.int .u64 (W64 S.p.cfg.seed))
 have z := HM.b1.c 56 (.int .i64 S.p.drawn)
 go_wp2_with with_reducible refine sy ?_
 refine bt HM.to (BX S.p.cfg.seed S.p.drawn _) ?_; clear HM; intro L HM; clear q z
 have C := HM.b1.c 56 (.int .i64 S.p.drawn)
 go_wp2_with with_reducible refine sy ?_
 refine yk 56 (stL (S.put_drawn ((F2 S.p.drawn))) (.slice A1 S.out.length c1) (.slice A2 S.ev.length c2)).toArray HM.b1 HM.s1 ?_; clear HM; intro O HM; clear C
 go_wp2_with first | with_reducible refine sy ?_ | with_reducible refine lw HM.b1 aQ ?_
 refine yv HM.b0 HM.s0 ?_; clear HM; intro U HM
 go_wp2_with with_reducible refine sy ?_
 refine rc2 HM.b0 aQ ?_
 exact ⟨_, _, _, _, rfl, HM.drop.drop⟩
set_option maxHeartbeats 2000000 in
theorem qF (base : Nat) (S : Stp) (A1 : Option Addr) (c1 : Nat) (A2 : Option Addr) (c2 : Nat) (bx : List Bk) (w : World) (HM : Mem w w base S.out S.ev (.slice A1 S.out.length c1) (.slice A2 S.ev.length c2) bx) :
  Calls Tryz.prog 122 #[.agg (stL S (.slice A1 S.out.length c1) (.slice A2 S.ev.length c2)).toArray] w (fun e w' => gJ w w' base (cK S) bx e) := by
 go_enter Tryz.func122, Tryz.ntmps122
 go_wp2_with with_reducible refine sy ?_
 refine HM.nw (ty := 106) (cs := (stL S (.slice A1 S.out.length c1) (.slice A2 S.ev.length c2)).toArray) ?_; clear HM; intro I J HM
 go_wp2_with with_reducible refine sy ?_
 refine HM.nw (ty := 106) (cs := (stL fY (.slice none 0 0) (.slice none 0 0)).toArray) ?_; clear HM; intro L O HM
 go_wp2_with first | with_reducible refine sy ?_ | with_reducible refine lw HM.b1 aQ ?_
 refine (DB _ S _ _ _ _ _ _ HM.here).mono ?_; rintro e U ⟨z, C, D, F, rfl, q⟩
 replace HM := HM.trans q; clear q
 go_wp2_with with_reducible refine sy ?_
 refine yv HM.b1 HM.s1 ?_; clear HM; intro Z HM
 go_wp2_with with_reducible refine sy ?_
 refine yk 42 (stL ((eX S).put_nonce (kW S)) (.slice z ((eX S).out.length) C) (.slice D ((eX S).ev.length) F)).toArray HM.b1 HM.s1 ?_; clear HM; intro a0 HM
 go_wp2_with first | with_reducible refine sy ?_ | with_reducible refine lw HM.b1 aQ ?_
 refine yv HM.b0 HM.s0 ?_; clear HM; intro a1 HM
 go_wp2_with with_reducible refine sy ?_
 refine rc1 HM.b0 aQ ?_
 exact stE rfl HM.drop.drop
end Go.Proofs.YtihmbcnccdiecaaGreatDoor
