/- Part of the proofs of the laws of pairing. -/
import Derived.Test.YtihmbcnccdiecaaDoorA2
import Derived.Test.YtihmbcnccdiecaaDoorBLowB
import Derived.Test.YtihmbcnccdiecaaDoorBSdA
import Derived.Test.YtihmbcnccdiecaaDoorBSdB
namespace Go.Proofs.YtihmbcnccdiecaaDoor
set_option maxRecDepth 100000
open Go.ChangeShapes Go.WideShapes Go.ChangeAt Go.RowKit
set_option linter.unusedVariables false
set_option linter.unusedSimpArgs false
theorem len_snoc {α : Type} (l : List α) (x : α) : (l ++ [x]).length = l.length + 1 := by simp
theorem len9 {p : Prop} (h : p := by (first | assumption | omega | (decide) | (simp only [Sd.accept, Sd.setP, Sd.send, Sd.tell, Sd.fresh, Sd.draw, Sd.random, Sd.commit, Sd.keyed, Sd.end_, Sd.fail, Sd.idleS, Sd.featS, Sd.put_phase, Sd.put_since, Sd.put_method, Sd.put_peer, Sd.put_req, Sd.put_res, Sd.put_peerKey, Sd.put_shared, Sd.put_nonce, Sd.put_other, Sd.put_commit, Sd.put_have_, Sd.put_passkey, Sd.put_round, Sd.put_agreed, Sd.put_checkIn, Sd.put_haveIn, Sd.put_crypt, Sd.put_ltk, Sd.put_idn, Sd.put_drawn, Sd.put_reason, Sd.put_p, len_snoc, List.length_nil, List.length_cons]; first | done | omega))) : p := h
theorem sd_accept (base g : Nat) (S : Sd)  (v u : Value) (bx : List Bk) (w : World) (HM : Mem w w base S.sent S.told v u ((g, SideT, (sdL S v u).toArray) :: bx)) :
  Calls Tryd.prog 42 #[.pointer (some ⟨g, 0, none⟩)] w (fun e w' => e = .returned (.tuple #[]) ∧ SideR w w' base g S.accept bx) := by
 go_enter Tryd.func42, Tryd.ntmps42
 have ld_1 := HM.b0.c 116 (.int .i64 S.now)
 go_wp2_with (with_reducible refine so ?_)
 refine sx 20 (.int .i64 S.now) (sdL (S.put_since S.now) v u).toArray HM.b0 ?_
 intro w_2 G_4 hU_3
 clear ld_1
 replace HM := HM.s0 hU_3 G_4
 clear hU_3 G_4
 go_wp2_with (with_reducible refine so ?_)
 go_end0
 exact ⟨rfl, v, u, HM⟩
theorem sd_send (base g : Nat) (S : Sd) (d : Sec) (v u : Value) (bx : List Bk) (w : World) (HM : Mem w w base S.sent S.told v u ((g, SideT, (sdL S v u).toArray) :: bx)) (ls : S.sent.length ≤ 1000) :
  Calls Tryd.prog 43 #[.pointer (some ⟨g, 0, none⟩), .agg (secL d).toArray] w (fun e w' => e = .returned (.tuple #[]) ∧ SideR w w' base g (S.send d) bx) := by
 go_enter Tryd.func43, Tryd.ntmps43
 go_wp2_with (with_reducible refine sa ?_)
 refine HM.nw1 (ty := 43) (cs := (secL d).toArray) ?_; clear HM; intro g_1 w_2 HM
 go_wp2_with (with_reducible refine sa ?_)
 try simp only [nrm]
 refine wp_region_y 11 (fun w_7 hW => ?_)
 replace HM := HM.drew; rw [← hW] at HM; clear hW
 refine wpAny_pure (v := ?_) 0 rfl ?_ ?_; rotate_left; (intro W K hK; go_simp; exact hK.out); simp only [nrm]
 refine wpAny_pure (v := ?_) 1 rfl ?_ ?_; rotate_left; (intro W K hK; go_simp; exact hK.out); simp only [nrm]
 refine wpAny_pure (v := ?_) 2 rfl ?_ ?_; rotate_left; (intro W K hK; go_simp; exact hK.out); simp only [nrm]
 refine wpAny_pure (v := ?_) 3 rfl ?_ ?_; rotate_left; (intro W K hK; go_simp; exact hK.out); simp only [nrm]
 refine wpAny_two 4 5 rfl rfl (fun K hK => ?_) (fun K hK => ?_)
 ·
  have ld : w_7.cell? ⟨g, 117, none⟩ = some (v) := HM.b0.cell 117
  go_simp; refine hK.out _ _ ?_; clear hK K ld; try simp only [nrm]
  refine wpAny_one 5 rfl (fun K hK => ?_)
  rw [if_pos (show Region.wanted _ _ = true from rfl)]
  refine calm_wp (calm_load (v := .agg #[.int .i64 d.kind, .int .i64 d.feat.io, .bool d.feat.oob, .bool d.feat.bond, .bool d.feat.mitm, .bool d.feat.sid, .bool d.feat.tid, .int .u32 (W32 d.pub), .int .u64 (W64 d.value), .int .i64 d.idn.adr.kind, .int .u64 (W64 d.idn.adr.bits), .int .u64 (W64 d.idn.irk), .int .i64 d.reason]) rfl rfl (load_part HM.b1 0 [.int .i64 d.kind, .int .i64 d.feat.io, .bool d.feat.oob, .bool d.feat.bond, .bool d.feat.mitm, .bool d.feat.sid, .bool d.feat.tid, .int .u32 (W32 d.pub), .int .u64 (W64 d.value), .int .i64 d.idn.adr.kind, .int .u64 (W64 d.idn.adr.bits), .int .u64 (W64 d.idn.irk), .int .i64 d.reason] rfl Tryd.underlying43 rfl (by kernel_rfl)) ?_)
  refine hK.out _ _ ?_; clear hK K; try simp only [nrm]
  refine wpAny_one 6 rfl (fun K hK => ?_)
  have HN : Mem w (w_7.alloc (.cells #[.int .i64 d.kind, .int .i64 d.feat.io, .bool d.feat.oob, .bool d.feat.bond, .bool d.feat.mitm, .bool d.feat.sid, .bool d.feat.tid, .int .u32 (W32 d.pub), .int .u64 (W64 d.value), .int .i64 d.idn.adr.kind, .int .u64 (W64 d.idn.adr.bits), .int .u64 (W64 d.idn.irk), .int .i64 d.reason] 43)) base S.sent S.told v u ((g, 109, (sdL S v u).toArray) :: (w_7.heap.size, 43, (secL d).toArray) :: (g_1, 43, (secL d).toArray) :: bx) := HM.alloc1 (Nat.le_refl _) ((Below.refl _ _).alloc (Nat.le_refl _) _) (Blk.new w_7 43 #[.int .i64 d.kind, .int .i64 d.feat.io, .bool d.feat.oob, .bool d.feat.bond, .bool d.feat.mitm, .bool d.feat.sid, .bool d.feat.tid, .int .u32 (W32 d.pub), .int .u64 (W64 d.value), .int .i64 d.idn.adr.kind, .int .u64 (W64 d.idn.adr.bits), .int .u64 (W64 d.idn.irk), .int .i64 d.reason])
  go_simp; refine hK.out _ _ ?_; clear hK K; try simp only [nrm]
  replace HM := HN; clear HN; generalize w_7.heap.size = g_8 at HM ⊢; obtain ⟨w_9, hW⟩ : ∃ W, w_7.alloc (.cells #[.int .i64 d.kind, .int .i64 d.feat.io, .bool d.feat.oob, .bool d.feat.bond, .bool d.feat.mitm, .bool d.feat.sid, .bool d.feat.tid, .int .u32 (W32 d.pub), .int .u64 (W64 d.value), .int .i64 d.idn.adr.kind, .int .u64 (W64 d.idn.adr.bits), .int .u64 (W64 d.idn.irk), .int .i64 d.reason] 43) = W := ⟨_, rfl⟩; rw [hW] at HM; first | rw [hW] | (unfold World.alloc at hW; rw [hW]); clear hW
  refine wpAny_seq 7 ?_
  dsimp only [List.drop]
  go_wp2_with (with_reducible refine sa ?_)
  unfold Kept
  refine wpList_app_sec d HM rfl rfl HM.b1 len9 (fun v_10 w_11 HN => ?_)
  replace HM := HN
  clear HN
  go_wp2_with (with_reducible refine sa ?_)
  unfold Kept
  refine wpList_st1 117 (v_10) (sdL S v_10 u).toArray HM.b0 rfl rfl HM.vc (by kernel_rfl) HM.v1 (of_decide_eq_true rfl) (by kernel_rfl) ?_
  intro w_12 G_14 hU_13
  replace HM := HM.s0 hU_13 G_14
  clear hU_13 G_14
  go_wp2_with (with_reducible refine sa ?_)
  go_end0
  exact ⟨rfl, v_10, u, HM.drop1.drop1⟩
 rw [if_pos (show Region.wanted _ _ = true from rfl)]
 refine calm_wp (calm_load (v := .agg #[.int .i64 d.kind, .int .i64 d.feat.io, .bool d.feat.oob, .bool d.feat.bond, .bool d.feat.mitm, .bool d.feat.sid, .bool d.feat.tid, .int .u32 (W32 d.pub), .int .u64 (W64 d.value), .int .i64 d.idn.adr.kind, .int .u64 (W64 d.idn.adr.bits), .int .u64 (W64 d.idn.irk), .int .i64 d.reason]) rfl rfl (load_part HM.b1 0 [.int .i64 d.kind, .int .i64 d.feat.io, .bool d.feat.oob, .bool d.feat.bond, .bool d.feat.mitm, .bool d.feat.sid, .bool d.feat.tid, .int .u32 (W32 d.pub), .int .u64 (W64 d.value), .int .i64 d.idn.adr.kind, .int .u64 (W64 d.idn.adr.bits), .int .u64 (W64 d.idn.irk), .int .i64 d.reason] rfl Tryd.underlying43 rfl (by kernel_rfl)) ?_)
 refine hK.out _ _ ?_; clear hK K; try simp only [nrm]
 refine wpAny_two 4 6 rfl rfl (fun K hK => ?_) (fun K hK => ?_)
 ·
  have ld : w_7.cell? ⟨g, 117, none⟩ = some (v) := HM.b0.cell 117
  go_simp; refine hK.out _ _ ?_; clear hK K ld; try simp only [nrm]
  refine wpAny_one 6 rfl (fun K hK => ?_)
  have HN : Mem w (w_7.alloc (.cells #[.int .i64 d.kind, .int .i64 d.feat.io, .bool d.feat.oob, .bool d.feat.bond, .bool d.feat.mitm, .bool d.feat.sid, .bool d.feat.tid, .int .u32 (W32 d.pub), .int .u64 (W64 d.value), .int .i64 d.idn.adr.kind, .int .u64 (W64 d.idn.adr.bits), .int .u64 (W64 d.idn.irk), .int .i64 d.reason] 43)) base S.sent S.told v u ((g, 109, (sdL S v u).toArray) :: (w_7.heap.size, 43, (secL d).toArray) :: (g_1, 43, (secL d).toArray) :: bx) := HM.alloc1 (Nat.le_refl _) ((Below.refl _ _).alloc (Nat.le_refl _) _) (Blk.new w_7 43 #[.int .i64 d.kind, .int .i64 d.feat.io, .bool d.feat.oob, .bool d.feat.bond, .bool d.feat.mitm, .bool d.feat.sid, .bool d.feat.tid, .int .u32 (W32 d.pub), .int .u64 (W64 d.value), .int .i64 d.idn.adr.kind, .int .u64 (W64 d.idn.adr.bits), .int .u64 (W64 d.idn.irk), .int .i64 d.reason])
  go_simp; refine hK.out _ _ ?_; clear hK K; try simp only [nrm]
  replace HM := HN; clear HN; generalize w_7.heap.size = g_15 at HM ⊢; obtain ⟨w_16, hW⟩ : ∃ W, w_7.alloc (.cells #[.int .i64 d.kind, .int .i64 d.feat.io, .bool d.feat.oob, .bool d.feat.bond, .bool d.feat.mitm, .bool d.feat.sid, .bool d.feat.tid, .int .u32 (W32 d.pub), .int .u64 (W64 d.value), .int .i64 d.idn.adr.kind, .int .u64 (W64 d.idn.adr.bits), .int .u64 (W64 d.idn.irk), .int .i64 d.reason] 43) = W := ⟨_, rfl⟩; rw [hW] at HM; first | rw [hW] | (unfold World.alloc at hW; rw [hW]); clear hW
  refine wpAny_seq 7 ?_
  dsimp only [List.drop]
  go_wp2_with (with_reducible refine sa ?_)
  unfold Kept
  refine wpList_app_sec d HM rfl rfl HM.b1 len9 (fun v_17 w_18 HN => ?_)
  replace HM := HN
  clear HN
  go_wp2_with (with_reducible refine sa ?_)
  unfold Kept
  refine wpList_st1 117 (v_17) (sdL S v_17 u).toArray HM.b0 rfl rfl HM.vc (by kernel_rfl) HM.v1 (of_decide_eq_true rfl) (by kernel_rfl) ?_
  intro w_19 G_21 hU_20
  replace HM := HM.s0 hU_20 G_21
  clear hU_20 G_21
  go_wp2_with (with_reducible refine sa ?_)
  go_end0
  exact ⟨rfl, v_17, u, HM.drop1.drop1⟩
 have HN : Mem w (w_7.alloc (.cells #[.int .i64 d.kind, .int .i64 d.feat.io, .bool d.feat.oob, .bool d.feat.bond, .bool d.feat.mitm, .bool d.feat.sid, .bool d.feat.tid, .int .u32 (W32 d.pub), .int .u64 (W64 d.value), .int .i64 d.idn.adr.kind, .int .u64 (W64 d.idn.adr.bits), .int .u64 (W64 d.idn.irk), .int .i64 d.reason] 43)) base S.sent S.told v u ((g, 109, (sdL S v u).toArray) :: (w_7.heap.size, 43, (secL d).toArray) :: (g_1, 43, (secL d).toArray) :: bx) := HM.alloc1 (Nat.le_refl _) ((Below.refl _ _).alloc (Nat.le_refl _) _) (Blk.new w_7 43 #[.int .i64 d.kind, .int .i64 d.feat.io, .bool d.feat.oob, .bool d.feat.bond, .bool d.feat.mitm, .bool d.feat.sid, .bool d.feat.tid, .int .u32 (W32 d.pub), .int .u64 (W64 d.value), .int .i64 d.idn.adr.kind, .int .u64 (W64 d.idn.adr.bits), .int .u64 (W64 d.idn.irk), .int .i64 d.reason])
 go_simp; refine hK.out _ _ ?_; clear hK K; try simp only [nrm]
 replace HM := HN; clear HN; generalize w_7.heap.size = g_22 at HM ⊢; obtain ⟨w_23, hW⟩ : ∃ W, w_7.alloc (.cells #[.int .i64 d.kind, .int .i64 d.feat.io, .bool d.feat.oob, .bool d.feat.bond, .bool d.feat.mitm, .bool d.feat.sid, .bool d.feat.tid, .int .u32 (W32 d.pub), .int .u64 (W64 d.value), .int .i64 d.idn.adr.kind, .int .u64 (W64 d.idn.adr.bits), .int .u64 (W64 d.idn.irk), .int .i64 d.reason] 43) = W := ⟨_, rfl⟩; rw [hW] at HM; first | rw [hW] | (unfold World.alloc at hW; rw [hW]); clear hW
 refine wpAny_one 4 rfl (fun K hK => ?_)
 have ld : w_23.cell? ⟨g, 117, none⟩ = some (v) := HM.b0.cell 117
 go_simp; refine hK.out _ _ ?_; clear hK K ld; try simp only [nrm]
 refine wpAny_seq 7 ?_
 dsimp only [List.drop]
 go_wp2_with (with_reducible refine sa ?_)
 unfold Kept
 refine wpList_app_sec d HM rfl rfl HM.b1 len9 (fun v_24 w_25 HN => ?_)
 replace HM := HN
 clear HN
 go_wp2_with (with_reducible refine sa ?_)
 unfold Kept
 refine wpList_st1 117 (v_24) (sdL S v_24 u).toArray HM.b0 rfl rfl HM.vc (by kernel_rfl) HM.v1 (of_decide_eq_true rfl) (by kernel_rfl) ?_
 intro w_26 G_28 hU_27
 replace HM := HM.s0 hU_27 G_28
 clear hU_27 G_28
 go_wp2_with (with_reducible refine sa ?_)
 go_end0
 exact ⟨rfl, v_24, u, HM.drop1.drop1⟩
theorem sd_tell (base g : Nat) (S : Sd) (d : Evt) (v u : Value) (bx : List Bk) (w : World) (HM : Mem w w base S.sent S.told v u ((g, SideT, (sdL S v u).toArray) :: bx)) (lt : S.told.length ≤ 1000) :
  Calls Tryd.prog 84 #[.pointer (some ⟨g, 0, none⟩), .agg (evtL d).toArray] w (fun e w' => e = .returned (.tuple #[]) ∧ SideR w w' base g (S.tell d) bx) := by
 go_enter Tryd.func84, Tryd.ntmps84
 go_wp2_with (with_reducible refine sa ?_)
 refine HM.nw1 (ty := 63) (cs := (evtL d).toArray) ?_; clear HM; intro g_1 w_2 HM
 go_wp2_with (with_reducible refine sa ?_)
 try simp only [nrm]
 refine wp_region_y 11 (fun w_7 hW => ?_)
 replace HM := HM.drew; rw [← hW] at HM; clear hW
 refine wpAny_pure (v := ?_) 0 rfl ?_ ?_; rotate_left; (intro W K hK; go_simp; exact hK.out); simp only [nrm]
 refine wpAny_pure (v := ?_) 1 rfl ?_ ?_; rotate_left; (intro W K hK; go_simp; exact hK.out); simp only [nrm]
 refine wpAny_pure (v := ?_) 2 rfl ?_ ?_; rotate_left; (intro W K hK; go_simp; exact hK.out); simp only [nrm]
 refine wpAny_pure (v := ?_) 3 rfl ?_ ?_; rotate_left; (intro W K hK; go_simp; exact hK.out); simp only [nrm]
 refine wpAny_two 4 5 rfl rfl (fun K hK => ?_) (fun K hK => ?_)
 ·
  have ld : w_7.cell? ⟨g, 118, none⟩ = some (u) := HM.b0.cell 118
  go_simp; refine hK.out _ _ ?_; clear hK K ld; try simp only [nrm]
  refine wpAny_one 5 rfl (fun K hK => ?_)
  rw [if_pos (show Region.wanted _ _ = true from rfl)]
  refine calm_wp (calm_load (v := .agg #[.int .i64 d.kind, .int .i64 d.number, .int .u64 (W64 d.key), .bool d.strong, .int .i64 d.idn.adr.kind, .int .u64 (W64 d.idn.adr.bits), .int .u64 (W64 d.idn.irk), .int .i64 d.reason]) rfl rfl (load_part HM.b1 0 [.int .i64 d.kind, .int .i64 d.number, .int .u64 (W64 d.key), .bool d.strong, .int .i64 d.idn.adr.kind, .int .u64 (W64 d.idn.adr.bits), .int .u64 (W64 d.idn.irk), .int .i64 d.reason] rfl Tryd.underlying63 rfl (by kernel_rfl)) ?_)
  refine hK.out _ _ ?_; clear hK K; try simp only [nrm]
  refine wpAny_one 6 rfl (fun K hK => ?_)
  have HN : Mem w (w_7.alloc (.cells #[.int .i64 d.kind, .int .i64 d.number, .int .u64 (W64 d.key), .bool d.strong, .int .i64 d.idn.adr.kind, .int .u64 (W64 d.idn.adr.bits), .int .u64 (W64 d.idn.irk), .int .i64 d.reason] 63)) base S.sent S.told v u ((g, 109, (sdL S v u).toArray) :: (w_7.heap.size, 63, (evtL d).toArray) :: (g_1, 63, (evtL d).toArray) :: bx) := HM.alloc1 (Nat.le_refl _) ((Below.refl _ _).alloc (Nat.le_refl _) _) (Blk.new w_7 63 #[.int .i64 d.kind, .int .i64 d.number, .int .u64 (W64 d.key), .bool d.strong, .int .i64 d.idn.adr.kind, .int .u64 (W64 d.idn.adr.bits), .int .u64 (W64 d.idn.irk), .int .i64 d.reason])
  go_simp; refine hK.out _ _ ?_; clear hK K; try simp only [nrm]
  replace HM := HN; clear HN; generalize w_7.heap.size = g_8 at HM ⊢; obtain ⟨w_9, hW⟩ : ∃ W, w_7.alloc (.cells #[.int .i64 d.kind, .int .i64 d.number, .int .u64 (W64 d.key), .bool d.strong, .int .i64 d.idn.adr.kind, .int .u64 (W64 d.idn.adr.bits), .int .u64 (W64 d.idn.irk), .int .i64 d.reason] 63) = W := ⟨_, rfl⟩; rw [hW] at HM; first | rw [hW] | (unfold World.alloc at hW; rw [hW]); clear hW
  refine wpAny_seq 7 ?_
  dsimp only [List.drop]
  go_wp2_with (with_reducible refine sa ?_)
  unfold Kept
  refine wpList_app_evt d HM rfl rfl HM.b1 len9 (fun v_10 w_11 HN => ?_)
  replace HM := HN
  clear HN
  go_wp2_with (with_reducible refine sa ?_)
  unfold Kept
  refine wpList_st1 118 (v_10) (sdL S v v_10).toArray HM.b0 rfl rfl HM.uc (by kernel_rfl) HM.u1 (of_decide_eq_true rfl) (by kernel_rfl) ?_
  intro w_12 G_14 hU_13
  replace HM := HM.s0 hU_13 G_14
  clear hU_13 G_14
  go_wp2_with (with_reducible refine sa ?_)
  go_end0
  exact ⟨rfl, v, v_10, HM.drop1.drop1⟩
 rw [if_pos (show Region.wanted _ _ = true from rfl)]
 refine calm_wp (calm_load (v := .agg #[.int .i64 d.kind, .int .i64 d.number, .int .u64 (W64 d.key), .bool d.strong, .int .i64 d.idn.adr.kind, .int .u64 (W64 d.idn.adr.bits), .int .u64 (W64 d.idn.irk), .int .i64 d.reason]) rfl rfl (load_part HM.b1 0 [.int .i64 d.kind, .int .i64 d.number, .int .u64 (W64 d.key), .bool d.strong, .int .i64 d.idn.adr.kind, .int .u64 (W64 d.idn.adr.bits), .int .u64 (W64 d.idn.irk), .int .i64 d.reason] rfl Tryd.underlying63 rfl (by kernel_rfl)) ?_)
 refine hK.out _ _ ?_; clear hK K; try simp only [nrm]
 refine wpAny_two 4 6 rfl rfl (fun K hK => ?_) (fun K hK => ?_)
 ·
  have ld : w_7.cell? ⟨g, 118, none⟩ = some (u) := HM.b0.cell 118
  go_simp; refine hK.out _ _ ?_; clear hK K ld; try simp only [nrm]
  refine wpAny_one 6 rfl (fun K hK => ?_)
  have HN : Mem w (w_7.alloc (.cells #[.int .i64 d.kind, .int .i64 d.number, .int .u64 (W64 d.key), .bool d.strong, .int .i64 d.idn.adr.kind, .int .u64 (W64 d.idn.adr.bits), .int .u64 (W64 d.idn.irk), .int .i64 d.reason] 63)) base S.sent S.told v u ((g, 109, (sdL S v u).toArray) :: (w_7.heap.size, 63, (evtL d).toArray) :: (g_1, 63, (evtL d).toArray) :: bx) := HM.alloc1 (Nat.le_refl _) ((Below.refl _ _).alloc (Nat.le_refl _) _) (Blk.new w_7 63 #[.int .i64 d.kind, .int .i64 d.number, .int .u64 (W64 d.key), .bool d.strong, .int .i64 d.idn.adr.kind, .int .u64 (W64 d.idn.adr.bits), .int .u64 (W64 d.idn.irk), .int .i64 d.reason])
  go_simp; refine hK.out _ _ ?_; clear hK K; try simp only [nrm]
  replace HM := HN; clear HN; generalize w_7.heap.size = g_15 at HM ⊢; obtain ⟨w_16, hW⟩ : ∃ W, w_7.alloc (.cells #[.int .i64 d.kind, .int .i64 d.number, .int .u64 (W64 d.key), .bool d.strong, .int .i64 d.idn.adr.kind, .int .u64 (W64 d.idn.adr.bits), .int .u64 (W64 d.idn.irk), .int .i64 d.reason] 63) = W := ⟨_, rfl⟩; rw [hW] at HM; first | rw [hW] | (unfold World.alloc at hW; rw [hW]); clear hW
  refine wpAny_seq 7 ?_
  dsimp only [List.drop]
  go_wp2_with (with_reducible refine sa ?_)
  unfold Kept
  refine wpList_app_evt d HM rfl rfl HM.b1 len9 (fun v_17 w_18 HN => ?_)
  replace HM := HN
  clear HN
  go_wp2_with (with_reducible refine sa ?_)
  unfold Kept
  refine wpList_st1 118 (v_17) (sdL S v v_17).toArray HM.b0 rfl rfl HM.uc (by kernel_rfl) HM.u1 (of_decide_eq_true rfl) (by kernel_rfl) ?_
  intro w_19 G_21 hU_20
  replace HM := HM.s0 hU_20 G_21
  clear hU_20 G_21
  go_wp2_with (with_reducible refine sa ?_)
  go_end0
  exact ⟨rfl, v, v_17, HM.drop1.drop1⟩
 have HN : Mem w (w_7.alloc (.cells #[.int .i64 d.kind, .int .i64 d.number, .int .u64 (W64 d.key), .bool d.strong, .int .i64 d.idn.adr.kind, .int .u64 (W64 d.idn.adr.bits), .int .u64 (W64 d.idn.irk), .int .i64 d.reason] 63)) base S.sent S.told v u ((g, 109, (sdL S v u).toArray) :: (w_7.heap.size, 63, (evtL d).toArray) :: (g_1, 63, (evtL d).toArray) :: bx) := HM.alloc1 (Nat.le_refl _) ((Below.refl _ _).alloc (Nat.le_refl _) _) (Blk.new w_7 63 #[.int .i64 d.kind, .int .i64 d.number, .int .u64 (W64 d.key), .bool d.strong, .int .i64 d.idn.adr.kind, .int .u64 (W64 d.idn.adr.bits), .int .u64 (W64 d.idn.irk), .int .i64 d.reason])
 go_simp; refine hK.out _ _ ?_; clear hK K; try simp only [nrm]
 replace HM := HN; clear HN; generalize w_7.heap.size = g_22 at HM ⊢; obtain ⟨w_23, hW⟩ : ∃ W, w_7.alloc (.cells #[.int .i64 d.kind, .int .i64 d.number, .int .u64 (W64 d.key), .bool d.strong, .int .i64 d.idn.adr.kind, .int .u64 (W64 d.idn.adr.bits), .int .u64 (W64 d.idn.irk), .int .i64 d.reason] 63) = W := ⟨_, rfl⟩; rw [hW] at HM; first | rw [hW] | (unfold World.alloc at hW; rw [hW]); clear hW
 refine wpAny_one 4 rfl (fun K hK => ?_)
 have ld : w_23.cell? ⟨g, 118, none⟩ = some (u) := HM.b0.cell 118
 go_simp; refine hK.out _ _ ?_; clear hK K ld; try simp only [nrm]
 refine wpAny_seq 7 ?_
 dsimp only [List.drop]
 go_wp2_with (with_reducible refine sa ?_)
 unfold Kept
 refine wpList_app_evt d HM rfl rfl HM.b1 len9 (fun v_24 w_25 HN => ?_)
 replace HM := HN
 clear HN
 go_wp2_with (with_reducible refine sa ?_)
 unfold Kept
 refine wpList_st1 118 (v_24) (sdL S v v_24).toArray HM.b0 rfl rfl HM.uc (by kernel_rfl) HM.u1 (of_decide_eq_true rfl) (by kernel_rfl) ?_
 intro w_26 G_28 hU_27
 replace HM := HM.s0 hU_27 G_28
 clear hU_27 G_28
 go_wp2_with (with_reducible refine sa ?_)
 go_end0
 exact ⟨rfl, v, v_24, HM.drop1.drop1⟩
theorem sd_end (base g : Nat) (S : Sd) (r : Int) (v u : Value) (bx : List Bk) (w : World) (HM : Mem w w base S.sent S.told v u ((g, SideT, (sdL S v u).toArray) :: bx)) :
  Calls Tryd.prog 52 #[.pointer (some ⟨g, 0, none⟩), .int .i64 r] w (fun e w' => e = .returned (.tuple #[]) ∧ SideR w w' base g (S.end_ r) bx) := by
 go_enter Tryd.func52, Tryd.ntmps52
 go_wp2_with (first | (with_reducible refine so ?_) | (with_reducible refine ld 58 (prL S.was) HM.b0 Tryd.underlying37 ?_))
 refine sw 0 (prL (S.put_p S.was).p).toArray (sdL (S.put_p S.was) v u).toArray HM.b0 ?_
 intro w_2 G_4 hU_3
 replace HM := HM.s0 hU_3 G_4
 clear hU_3 G_4
 have ld_5 := HM.b0.c 116 (.int .i64 S.now)
 go_wp2_with (with_reducible refine so ?_)
 refine sx 19 (.int .i64 8) (sdL ((S.put_p S.was).put_phase 8) v u).toArray HM.b0 ?_
 intro w_6 G_8 hU_7
 clear ld_5
 replace HM := HM.s0 hU_7 G_8
 clear hU_7 G_8
 go_wp2_with (with_reducible refine so ?_)
 refine sx 20 (.int .i64 S.now) (sdL (((S.put_p S.was).put_phase 8).put_since S.now) v u).toArray HM.b0 ?_
 intro w_9 G_11 hU_10
 replace HM := HM.s0 hU_10 G_11
 clear hU_10 G_11
 go_wp2_with (with_reducible refine so ?_)
 refine sx 57 (.int .i64 r) (sdL ((((S.put_p S.was).put_phase 8).put_since S.now).put_reason r) v u).toArray HM.b0 ?_
 intro w_12 G_14 hU_13
 replace HM := HM.s0 hU_13 G_14
 clear hU_13 G_14
 go_wp2_with (with_reducible refine so ?_)
 refine sx 117 (.slice none 0 0) (sdL ((((S.put_p S.was).put_phase 8).put_since S.now).put_reason r) (.slice none 0 0) u).toArray HM.b0 ?_
 intro w_15 G_17 hU_16
 replace HM := HM.s0 hU_16 G_17
 clear hU_16 G_17
 replace HM := HM.nilS
 go_wp2_with (with_reducible refine so ?_)
 refine go_mem (ty := 63) (cs := #[.int .i64 4, .int .i64 0, .int .u64 0, .bool false, .int .i64 0, .int .u64 0, .int .u64 0, .int .i64 r]) (fun g => .slice (some ⟨g, 0, none⟩) 1 1) rfl (by kernel_rfl) ?_
 intro g_18 w_19 z_23 l_22 hb_20 G_21
 replace HM := HM.alloc1 l_22 hb_20 G_21
 clear hb_20 l_22 z_23 G_21
 go_wp2_with (with_reducible refine so ?_)
 refine sx 118 (.slice (some ⟨g_18, 0, none⟩) 1 1) (sdL ((((S.put_p S.was).put_phase 8).put_since S.now).put_reason r) (.slice none 0 0) (.slice (some ⟨g_18, 0, none⟩) 1 1)).toArray HM.b0 ?_
 intro w_24 G_26 hU_25
 replace HM := HM.s0 hU_25 G_26
 clear hU_25 G_26
 replace HM := Mem.oneE (e := ⟨4, 0, 0#64, false, ⟨⟨0, 0#64⟩, 0#64⟩, r⟩) HM.swap
 go_wp2_with (with_reducible refine so ?_)
 go_end0
 exact ⟨rfl, (.slice none 0 0), (.slice (some ⟨g_18, 0, none⟩) 1 1), HM⟩
end Go.Proofs.YtihmbcnccdiecaaDoor
