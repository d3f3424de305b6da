/- Part of the proofs of the laws of pairing. -/
import Derived.Test.YtihmbcnccdiecaaGreatDoorBSdB
namespace Go.Proofs.YtihmbcnccdiecaaGreatDoor
set_option maxRecDepth 100000
set_option linter.unusedVariables false
set_option linter.unusedSimpArgs false
open Go.ChangeShapes Go.WideShapes Go.ChangeAt Go.RowKit
theorem tJ {α : Type} (l : List α) (x : α) : (l ++ [x]).length = l.length + 1 := by simp
theorem bV {p : Prop} (h : p := by (first | assumption | omega | (decide) | (simp only [Sd.accept, Sd.setP, Sd.send, Sd.tell, Sd.fresh, Sd.draw, Sd.random, Sd.commit, Sd.keyed, Sd.end_, Sd.fail, Sd.idleS, Sd.featS, Sd.put_phase, Sd.put_since, Sd.put_method, Sd.put_peer, Sd.put_req, Sd.put_res, Sd.put_peerKey, Sd.put_shared, Sd.put_nonce, Sd.put_other, Sd.put_commit, Sd.put_have_, Sd.put_passkey, Sd.put_round, Sd.put_agreed, Sd.put_checkIn, Sd.put_haveIn, Sd.put_crypt, Sd.put_ltk, Sd.put_idn, Sd.put_drawn, Sd.put_reason, Sd.put_p, tJ, List.length_nil, List.length_cons]; first | done | omega))) : p := h
theorem eL (base g : Nat) (S : Sd)  (v u : Value) (bx : List Bk) (w : World) (HM : Mem w w base S.sent S.told v u ((g, cQ, (sdL S v u).toArray) :: bx)) :
  Calls Tryz.prog 43 #[.pointer (some ⟨g, 0, none⟩)] w (fun e w' => e = .returned (.tuple #[]) ∧ eA w w' base g S.accept bx) := by
 go_enter Tryz.func43, Tryz.ntmps43
 have q := HM.b0.c 116 (.int .i64 S.now)
 go_wp2_with with_reducible refine so ?_
 refine yk 20 (sdL (S.put_since S.now) v u).toArray HM.b0 HM.s0 ?_; clear HM; intro z HM; clear q
 go_wp2_with with_reducible refine so ?_
 go_end0
 exact ⟨rfl, v, u, HM⟩
theorem iR (base g : Nat) (S : Sd) (d : Sec) (v u : Value) (bx : List Bk) (w : World) (HM : Mem w w base S.sent S.told v u ((g, cQ, (sdL S v u).toArray) :: bx)) (ls : S.sent.length ≤ 1000) :
  Calls Tryz.prog 44 #[.pointer (some ⟨g, 0, none⟩), .agg (aI d).toArray] w (fun e w' => e = .returned (.tuple #[]) ∧ eA w w' base g (S.send d) bx) := by
 go_enter Tryz.func44, Tryz.ntmps44
 go_wp2_with with_reducible refine sa ?_
 refine HM.nw1 (ty := 43) (cs := (aI d).toArray) ?_; clear HM; intro z a1 HM
 go_wp2_with with_reducible refine sa ?_
 try simp only [nrm]
 refine jN 11 (fun q hW => ?_)
 replace HM := HM.drew; rw [← hW] at HM; clear hW
 refine aV (v := ?_) 0 rfl ?_ ?_; rotate_left; (intro W K hK; go_simp; exact hK.out); simp only [nrm]
 refine aV (v := ?_) 1 rfl ?_ ?_; rotate_left; (intro W K hK; go_simp; exact hK.out); simp only [nrm]
 refine aV (v := ?_) 2 rfl ?_ ?_; rotate_left; (intro W K hK; go_simp; exact hK.out); simp only [nrm]
 refine aV (v := ?_) 3 rfl ?_ ?_; rotate_left; (intro W K hK; go_simp; exact hK.out); simp only [nrm]
 refine eV 4 5 rfl rfl (fun K hK => ?_) (fun K hK => ?_)
 ·
  have ld : q.cell? ⟨g, 117, none⟩ = some (v) := HM.b0.cell 117
  go_simp; refine hK.out _ _ ?_; clear hK K ld; try simp only [nrm]
  refine bP 5 rfl (fun K hK => ?_)
  rw [if_pos (show Region.wanted _ _ = true from rfl)]
  refine fG (aL (v := .agg #[.int .i64 d.kind, .int .i64 d.feat.io, .bool d.feat.oob, .bool d.feat.bond, .bool d.feat.mitm, .bool d.feat.sid, .bool d.feat.tid, .int .u32 (W32 d.pub), .int .u64 (W64 d.value), .int .i64 d.idn.adr.kind, .int .u64 (W64 d.idn.adr.bits), .int .u64 (W64 d.idn.irk), .int .i64 d.reason]) rfl rfl (aX HM.b1 0 [.int .i64 d.kind, .int .i64 d.feat.io, .bool d.feat.oob, .bool d.feat.bond, .bool d.feat.mitm, .bool d.feat.sid, .bool d.feat.tid, .int .u32 (W32 d.pub), .int .u64 (W64 d.value), .int .i64 d.idn.adr.kind, .int .u64 (W64 d.idn.adr.bits), .int .u64 (W64 d.idn.irk), .int .i64 d.reason] rfl U43 rfl (by kernel_rfl)) ?_)
  refine hK.out _ _ ?_; clear hK K; try simp only [nrm]
  refine bP 6 rfl (fun K hK => ?_)
  have HN : Mem w (q.alloc (.cells #[.int .i64 d.kind, .int .i64 d.feat.io, .bool d.feat.oob, .bool d.feat.bond, .bool d.feat.mitm, .bool d.feat.sid, .bool d.feat.tid, .int .u32 (W32 d.pub), .int .u64 (W64 d.value), .int .i64 d.idn.adr.kind, .int .u64 (W64 d.idn.adr.bits), .int .u64 (W64 d.idn.irk), .int .i64 d.reason] 43)) base S.sent S.told v u ((g, 92, (sdL S v u).toArray) :: (q.heap.size, 43, (aI d).toArray) :: (z, 43, (aI d).toArray) :: bx) := HM.alloc1 (Nat.le_refl _) ((Below.refl _ _).alloc (Nat.le_refl _) _) (Blk.new q 43 #[.int .i64 d.kind, .int .i64 d.feat.io, .bool d.feat.oob, .bool d.feat.bond, .bool d.feat.mitm, .bool d.feat.sid, .bool d.feat.tid, .int .u32 (W32 d.pub), .int .u64 (W64 d.value), .int .i64 d.idn.adr.kind, .int .u64 (W64 d.idn.adr.bits), .int .u64 (W64 d.idn.irk), .int .i64 d.reason])
  go_simp; refine hK.out _ _ ?_; clear hK K; try simp only [nrm]
  replace HM := HN; clear HN; generalize q.heap.size = a2 at HM ⊢; obtain ⟨a3, hW⟩ : ∃ W, q.alloc (.cells #[.int .i64 d.kind, .int .i64 d.feat.io, .bool d.feat.oob, .bool d.feat.bond, .bool d.feat.mitm, .bool d.feat.sid, .bool d.feat.tid, .int .u32 (W32 d.pub), .int .u64 (W64 d.value), .int .i64 d.idn.adr.kind, .int .u64 (W64 d.idn.adr.bits), .int .u64 (W64 d.idn.irk), .int .i64 d.reason] 43) = W := ⟨_, rfl⟩; rw [hW] at HM; first | rw [hW] | (unfold World.alloc at hW; rw [hW]); clear hW
  refine kG 7 ?_
  dsimp only [List.drop]
  go_wp2_with with_reducible refine sa ?_
  unfold bA
  refine hH d HM rfl rfl HM.b1 bV (fun C a4 HN => ?_)
  replace HM := HN
  clear HN
  go_wp2_with with_reducible refine sa ?_
  unfold bA
  refine gZ 117 (C) (sdL S C u).toArray HM.b0 rfl rfl HM.vc (by kernel_rfl) HM.v1 (of_decide_eq_true rfl) (by kernel_rfl) ?_
  intro a5 I J
  replace HM := HM.s0 J I
  clear J I
  go_wp2_with with_reducible refine sa ?_
  go_end0
  exact ⟨rfl, C, u, HM.drop1.drop1⟩
 rw [if_pos (show Region.wanted _ _ = true from rfl)]
 refine fG (aL (v := .agg #[.int .i64 d.kind, .int .i64 d.feat.io, .bool d.feat.oob, .bool d.feat.bond, .bool d.feat.mitm, .bool d.feat.sid, .bool d.feat.tid, .int .u32 (W32 d.pub), .int .u64 (W64 d.value), .int .i64 d.idn.adr.kind, .int .u64 (W64 d.idn.adr.bits), .int .u64 (W64 d.idn.irk), .int .i64 d.reason]) rfl rfl (aX HM.b1 0 [.int .i64 d.kind, .int .i64 d.feat.io, .bool d.feat.oob, .bool d.feat.bond, .bool d.feat.mitm, .bool d.feat.sid, .bool d.feat.tid, .int .u32 (W32 d.pub), .int .u64 (W64 d.value), .int .i64 d.idn.adr.kind, .int .u64 (W64 d.idn.adr.bits), .int .u64 (W64 d.idn.irk), .int .i64 d.reason] rfl U43 rfl (by kernel_rfl)) ?_)
 refine hK.out _ _ ?_; clear hK K; try simp only [nrm]
 refine eV 4 6 rfl rfl (fun K hK => ?_) (fun K hK => ?_)
 ·
  have ld : q.cell? ⟨g, 117, none⟩ = some (v) := HM.b0.cell 117
  go_simp; refine hK.out _ _ ?_; clear hK K ld; try simp only [nrm]
  refine bP 6 rfl (fun K hK => ?_)
  have HN : Mem w (q.alloc (.cells #[.int .i64 d.kind, .int .i64 d.feat.io, .bool d.feat.oob, .bool d.feat.bond, .bool d.feat.mitm, .bool d.feat.sid, .bool d.feat.tid, .int .u32 (W32 d.pub), .int .u64 (W64 d.value), .int .i64 d.idn.adr.kind, .int .u64 (W64 d.idn.adr.bits), .int .u64 (W64 d.idn.irk), .int .i64 d.reason] 43)) base S.sent S.told v u ((g, 92, (sdL S v u).toArray) :: (q.heap.size, 43, (aI d).toArray) :: (z, 43, (aI d).toArray) :: bx) := HM.alloc1 (Nat.le_refl _) ((Below.refl _ _).alloc (Nat.le_refl _) _) (Blk.new q 43 #[.int .i64 d.kind, .int .i64 d.feat.io, .bool d.feat.oob, .bool d.feat.bond, .bool d.feat.mitm, .bool d.feat.sid, .bool d.feat.tid, .int .u32 (W32 d.pub), .int .u64 (W64 d.value), .int .i64 d.idn.adr.kind, .int .u64 (W64 d.idn.adr.bits), .int .u64 (W64 d.idn.irk), .int .i64 d.reason])
  go_simp; refine hK.out _ _ ?_; clear hK K; try simp only [nrm]
  replace HM := HN; clear HN; generalize q.heap.size = a6 at HM ⊢; obtain ⟨a7, hW⟩ : ∃ W, q.alloc (.cells #[.int .i64 d.kind, .int .i64 d.feat.io, .bool d.feat.oob, .bool d.feat.bond, .bool d.feat.mitm, .bool d.feat.sid, .bool d.feat.tid, .int .u32 (W32 d.pub), .int .u64 (W64 d.value), .int .i64 d.idn.adr.kind, .int .u64 (W64 d.idn.adr.bits), .int .u64 (W64 d.idn.irk), .int .i64 d.reason] 43) = W := ⟨_, rfl⟩; rw [hW] at HM; first | rw [hW] | (unfold World.alloc at hW; rw [hW]); clear hW
  refine kG 7 ?_
  dsimp only [List.drop]
  go_wp2_with with_reducible refine sa ?_
  unfold bA
  refine hH d HM rfl rfl HM.b1 bV (fun D a8 HN => ?_)
  replace HM := HN
  clear HN
  go_wp2_with with_reducible refine sa ?_
  unfold bA
  refine gZ 117 (D) (sdL S D u).toArray HM.b0 rfl rfl HM.vc (by kernel_rfl) HM.v1 (of_decide_eq_true rfl) (by kernel_rfl) ?_
  intro a9 L O
  replace HM := HM.s0 O L
  clear O L
  go_wp2_with with_reducible refine sa ?_
  go_end0
  exact ⟨rfl, D, u, HM.drop1.drop1⟩
 have HN : Mem w (q.alloc (.cells #[.int .i64 d.kind, .int .i64 d.feat.io, .bool d.feat.oob, .bool d.feat.bond, .bool d.feat.mitm, .bool d.feat.sid, .bool d.feat.tid, .int .u32 (W32 d.pub), .int .u64 (W64 d.value), .int .i64 d.idn.adr.kind, .int .u64 (W64 d.idn.adr.bits), .int .u64 (W64 d.idn.irk), .int .i64 d.reason] 43)) base S.sent S.told v u ((g, 92, (sdL S v u).toArray) :: (q.heap.size, 43, (aI d).toArray) :: (z, 43, (aI d).toArray) :: bx) := HM.alloc1 (Nat.le_refl _) ((Below.refl _ _).alloc (Nat.le_refl _) _) (Blk.new q 43 #[.int .i64 d.kind, .int .i64 d.feat.io, .bool d.feat.oob, .bool d.feat.bond, .bool d.feat.mitm, .bool d.feat.sid, .bool d.feat.tid, .int .u32 (W32 d.pub), .int .u64 (W64 d.value), .int .i64 d.idn.adr.kind, .int .u64 (W64 d.idn.adr.bits), .int .u64 (W64 d.idn.irk), .int .i64 d.reason])
 go_simp; refine hK.out _ _ ?_; clear hK K; try simp only [nrm]
 replace HM := HN; clear HN; generalize q.heap.size = b2 at HM ⊢; obtain ⟨a0, hW⟩ : ∃ W, q.alloc (.cells #[.int .i64 d.kind, .int .i64 d.feat.io, .bool d.feat.oob, .bool d.feat.bond, .bool d.feat.mitm, .bool d.feat.sid, .bool d.feat.tid, .int .u32 (W32 d.pub), .int .u64 (W64 d.value), .int .i64 d.idn.adr.kind, .int .u64 (W64 d.idn.adr.bits), .int .u64 (W64 d.idn.irk), .int .i64 d.reason] 43) = W := ⟨_, rfl⟩; rw [hW] at HM; first | rw [hW] | (unfold World.alloc at hW; rw [hW]); clear hW
 refine bP 4 rfl (fun K hK => ?_)
 have ld : a0.cell? ⟨g, 117, none⟩ = some (v) := HM.b0.cell 117
 go_simp; refine hK.out _ _ ?_; clear hK K ld; try simp only [nrm]
 refine kG 7 ?_
 dsimp only [List.drop]
 go_wp2_with with_reducible refine sa ?_
 unfold bA
 refine hH d HM rfl rfl HM.b1 bV (fun F b3 HN => ?_)
 replace HM := HN
 clear HN
 go_wp2_with with_reducible refine sa ?_
 unfold bA
 refine gZ 117 (F) (sdL S F u).toArray HM.b0 rfl rfl HM.vc (by kernel_rfl) HM.v1 (of_decide_eq_true rfl) (by kernel_rfl) ?_
 intro b4 U Z
 replace HM := HM.s0 Z U
 clear Z U
 go_wp2_with with_reducible refine sa ?_
 go_end0
 exact ⟨rfl, F, u, HM.drop1.drop1⟩
theorem sF (base g : Nat) (S : Sd) (d : Evt) (v u : Value) (bx : List Bk) (w : World) (HM : Mem w w base S.sent S.told v u ((g, cQ, (sdL S v u).toArray) :: bx)) (lt : S.told.length ≤ 1000) :
  Calls Tryz.prog 90 #[.pointer (some ⟨g, 0, none⟩), .agg (dS d).toArray] w (fun e w' => e = .returned (.tuple #[]) ∧ eA w w' base g (S.tell d) bx) := by
 go_enter Tryz.func90, Tryz.ntmps90
 go_wp2_with with_reducible refine sa ?_
 refine HM.nw1 (ty := 80) (cs := (dS d).toArray) ?_; clear HM; intro z a1 HM
 go_wp2_with with_reducible refine sa ?_
 try simp only [nrm]
 refine jN 11 (fun q hW => ?_)
 replace HM := HM.drew; rw [← hW] at HM; clear hW
 refine aV (v := ?_) 0 rfl ?_ ?_; rotate_left; (intro W K hK; go_simp; exact hK.out); simp only [nrm]
 refine aV (v := ?_) 1 rfl ?_ ?_; rotate_left; (intro W K hK; go_simp; exact hK.out); simp only [nrm]
 refine aV (v := ?_) 2 rfl ?_ ?_; rotate_left; (intro W K hK; go_simp; exact hK.out); simp only [nrm]
 refine aV (v := ?_) 3 rfl ?_ ?_; rotate_left; (intro W K hK; go_simp; exact hK.out); simp only [nrm]
 refine eV 4 5 rfl rfl (fun K hK => ?_) (fun K hK => ?_)
 ·
  have ld : q.cell? ⟨g, 118, none⟩ = some (u) := HM.b0.cell 118
  go_simp; refine hK.out _ _ ?_; clear hK K ld; try simp only [nrm]
  refine bP 5 rfl (fun K hK => ?_)
  rw [if_pos (show Region.wanted _ _ = true from rfl)]
  refine fG (aL (v := .agg #[.int .i64 d.kind, .int .i64 d.number, .int .u64 (W64 d.key), .bool d.strong, .int .i64 d.idn.adr.kind, .int .u64 (W64 d.idn.adr.bits), .int .u64 (W64 d.idn.irk), .int .i64 d.reason]) rfl rfl (aX HM.b1 0 [.int .i64 d.kind, .int .i64 d.number, .int .u64 (W64 d.key), .bool d.strong, .int .i64 d.idn.adr.kind, .int .u64 (W64 d.idn.adr.bits), .int .u64 (W64 d.idn.irk), .int .i64 d.reason] rfl U80 rfl (by kernel_rfl)) ?_)
  refine hK.out _ _ ?_; clear hK K; try simp only [nrm]
  refine bP 6 rfl (fun K hK => ?_)
  have HN : Mem w (q.alloc (.cells #[.int .i64 d.kind, .int .i64 d.number, .int .u64 (W64 d.key), .bool d.strong, .int .i64 d.idn.adr.kind, .int .u64 (W64 d.idn.adr.bits), .int .u64 (W64 d.idn.irk), .int .i64 d.reason] 80)) base S.sent S.told v u ((g, 92, (sdL S v u).toArray) :: (q.heap.size, 80, (dS d).toArray) :: (z, 80, (dS d).toArray) :: bx) := HM.alloc1 (Nat.le_refl _) ((Below.refl _ _).alloc (Nat.le_refl _) _) (Blk.new q 80 #[.int .i64 d.kind, .int .i64 d.number, .int .u64 (W64 d.key), .bool d.strong, .int .i64 d.idn.adr.kind, .int .u64 (W64 d.idn.adr.bits), .int .u64 (W64 d.idn.irk), .int .i64 d.reason])
  go_simp; refine hK.out _ _ ?_; clear hK K; try simp only [nrm]
  replace HM := HN; clear HN; generalize q.heap.size = a2 at HM ⊢; obtain ⟨a3, hW⟩ : ∃ W, q.alloc (.cells #[.int .i64 d.kind, .int .i64 d.number, .int .u64 (W64 d.key), .bool d.strong, .int .i64 d.idn.adr.kind, .int .u64 (W64 d.idn.adr.bits), .int .u64 (W64 d.idn.irk), .int .i64 d.reason] 80) = W := ⟨_, rfl⟩; rw [hW] at HM; first | rw [hW] | (unfold World.alloc at hW; rw [hW]); clear hW
  refine kG 7 ?_
  dsimp only [List.drop]
  go_wp2_with with_reducible refine sa ?_
  unfold bA
  refine gY d HM rfl rfl HM.b1 bV (fun C a4 HN => ?_)
  replace HM := HN
  clear HN
  go_wp2_with with_reducible refine sa ?_
  unfold bA
  refine gZ 118 (C) (sdL S v C).toArray HM.b0 rfl rfl HM.uc (by kernel_rfl) HM.u1 (of_decide_eq_true rfl) (by kernel_rfl) ?_
  intro a5 I J
  replace HM := HM.s0 J I
  clear J I
  go_wp2_with with_reducible refine sa ?_
  go_end0
  exact ⟨rfl, v, C, HM.drop1.drop1⟩
 rw [if_pos (show Region.wanted _ _ = true from rfl)]
 refine fG (aL (v := .agg #[.int .i64 d.kind, .int .i64 d.number, .int .u64 (W64 d.key), .bool d.strong, .int .i64 d.idn.adr.kind, .int .u64 (W64 d.idn.adr.bits), .int .u64 (W64 d.idn.irk), .int .i64 d.reason]) rfl rfl (aX HM.b1 0 [.int .i64 d.kind, .int .i64 d.number, .int .u64 (W64 d.key), .bool d.strong, .int .i64 d.idn.adr.kind, .int .u64 (W64 d.idn.adr.bits), .int .u64 (W64 d.idn.irk), .int .i64 d.reason] rfl U80 rfl (by kernel_rfl)) ?_)
 refine hK.out _ _ ?_; clear hK K; try simp only [nrm]
 refine eV 4 6 rfl rfl (fun K hK => ?_) (fun K hK => ?_)
 ·
  have ld : q.cell? ⟨g, 118, none⟩ = some (u) := HM.b0.cell 118
  go_simp; refine hK.out _ _ ?_; clear hK K ld; try simp only [nrm]
  refine bP 6 rfl (fun K hK => ?_)
  have HN : Mem w (q.alloc (.cells #[.int .i64 d.kind, .int .i64 d.number, .int .u64 (W64 d.key), .bool d.strong, .int .i64 d.idn.adr.kind, .int .u64 (W64 d.idn.adr.bits), .int .u64 (W64 d.idn.irk), .int .i64 d.reason] 80)) base S.sent S.told v u ((g, 92, (sdL S v u).toArray) :: (q.heap.size, 80, (dS d).toArray) :: (z, 80, (dS d).toArray) :: bx) := HM.alloc1 (Nat.le_refl _) ((Below.refl _ _).alloc (Nat.le_refl _) _) (Blk.new q 80 #[.int .i64 d.kind, .int .i64 d.number, .int .u64 (W64 d.key), .bool d.strong, .int .i64 d.idn.adr.kind, .int .u64 (W64 d.idn.adr.bits), .int .u64 (W64 d.idn.irk), .int .i64 d.reason])
  go_simp; refine hK.out _ _ ?_; clear hK K; try simp only [nrm]
  replace HM := HN; clear HN; generalize q.heap.size = a6 at HM ⊢; obtain ⟨a7, hW⟩ : ∃ W, q.alloc (.cells #[.int .i64 d.kind, .int .i64 d.number, .int .u64 (W64 d.key), .bool d.strong, .int .i64 d.idn.adr.kind, .int .u64 (W64 d.idn.adr.bits), .int .u64 (W64 d.idn.irk), .int .i64 d.reason] 80) = W := ⟨_, rfl⟩; rw [hW] at HM; first | rw [hW] | (unfold World.alloc at hW; rw [hW]); clear hW
  refine kG 7 ?_
  dsimp only [List.drop]
  go_wp2_with with_reducible refine sa ?_
  unfold bA
  refine gY d HM rfl rfl HM.b1 bV (fun D a8 HN => ?_)
  replace HM := HN
  clear HN
  go_wp2_with with_reducible refine sa ?_
  unfold bA
  refine gZ 118 (D) (sdL S v D).toArray HM.b0 rfl rfl HM.uc (by kernel_rfl) HM.u1 (of_decide_eq_true rfl) (by kernel_rfl) ?_
  intro a9 L O
  replace HM := HM.s0 O L
  clear O L
  go_wp2_with with_reducible refine sa ?_
  go_end0
  exact ⟨rfl, v, D, HM.drop1.drop1⟩
 have HN : Mem w (q.alloc (.cells #[.int .i64 d.kind, .int .i64 d.number, .int .u64 (W64 d.key), .bool d.strong, .int .i64 d.idn.adr.kind, .int .u64 (W64 d.idn.adr.bits), .int .u64 (W64 d.idn.irk), .int .i64 d.reason] 80)) base S.sent S.told v u ((g, 92, (sdL S v u).toArray) :: (q.heap.size, 80, (dS d).toArray) :: (z, 80, (dS d).toArray) :: bx) := HM.alloc1 (Nat.le_refl _) ((Below.refl _ _).alloc (Nat.le_refl _) _) (Blk.new q 80 #[.int .i64 d.kind, .int .i64 d.number, .int .u64 (W64 d.key), .bool d.strong, .int .i64 d.idn.adr.kind, .int .u64 (W64 d.idn.adr.bits), .int .u64 (W64 d.idn.irk), .int .i64 d.reason])
 go_simp; refine hK.out _ _ ?_; clear hK K; try simp only [nrm]
 replace HM := HN; clear HN; generalize q.heap.size = b2 at HM ⊢; obtain ⟨a0, hW⟩ : ∃ W, q.alloc (.cells #[.int .i64 d.kind, .int .i64 d.number, .int .u64 (W64 d.key), .bool d.strong, .int .i64 d.idn.adr.kind, .int .u64 (W64 d.idn.adr.bits), .int .u64 (W64 d.idn.irk), .int .i64 d.reason] 80) = W := ⟨_, rfl⟩; rw [hW] at HM; first | rw [hW] | (unfold World.alloc at hW; rw [hW]); clear hW
 refine bP 4 rfl (fun K hK => ?_)
 have ld : a0.cell? ⟨g, 118, none⟩ = some (u) := HM.b0.cell 118
 go_simp; refine hK.out _ _ ?_; clear hK K ld; try simp only [nrm]
 refine kG 7 ?_
 dsimp only [List.drop]
 go_wp2_with with_reducible refine sa ?_
 unfold bA
 refine gY d HM rfl rfl HM.b1 bV (fun F b3 HN => ?_)
 replace HM := HN
 clear HN
 go_wp2_with with_reducible refine sa ?_
 unfold bA
 refine gZ 118 (F) (sdL S v F).toArray HM.b0 rfl rfl HM.uc (by kernel_rfl) HM.u1 (of_decide_eq_true rfl) (by kernel_rfl) ?_
 intro b4 U Z
 replace HM := HM.s0 Z U
 clear Z U
 go_wp2_with with_reducible refine sa ?_
 go_end0
 exact ⟨rfl, v, F, HM.drop1.drop1⟩
theorem nF (base g : Nat) (S : Sd) (r : Int) (v u : Value) (bx : List Bk) (w : World) (HM : Mem w w base S.sent S.told v u ((g, cQ, (sdL S v u).toArray) :: bx)) :
  Calls Tryz.prog 55 #[.pointer (some ⟨g, 0, none⟩), .int .i64 r] w (fun e w' => e = .returned (.tuple #[]) ∧ eA w w' base g (S.end_ r) bx) := by
 go_enter Tryz.func55, Tryz.ntmps55
 go_wp2_with first | with_reducible refine so ?_ | with_reducible refine ld 58 (prL S.was) HM.b0 U37 ?_
 refine yp 0 (sdL (S.put_p S.was) v u).toArray HM.b0 HM.s0 ?_; clear HM; intro J HM
 have F := HM.b0.c 116 (.int .i64 S.now)
 go_wp2_with with_reducible refine so ?_
 refine yk 19 (sdL ((S.put_p S.was).put_phase 8) v u).toArray HM.b0 HM.s0 ?_; clear HM; intro L HM; clear F
 go_wp2_with with_reducible refine so ?_
 refine yk 20 (sdL (((S.put_p S.was).put_phase 8).put_since S.now) v u).toArray HM.b0 HM.s0 ?_; clear HM; intro O HM
 go_wp2_with with_reducible refine so ?_
 refine yk 57 (sdL ((((S.put_p S.was).put_phase 8).put_since S.now).put_reason r) v u).toArray HM.b0 HM.s0 ?_; clear HM; intro U HM
 go_wp2_with with_reducible refine so ?_
 refine yk 117 (sdL ((((S.put_p S.was).put_phase 8).put_since S.now).put_reason r) (.slice none 0 0) u).toArray HM.b0 HM.s0 ?_; clear HM; intro Z HM
 replace HM := HM.nilS
 go_wp2_with with_reducible refine so ?_
 refine bF (ty := 80) (cs := #[.int .i64 4, .int .i64 0, .int .u64 0, .bool false, .int .i64 0, .int .u64 0, .int .u64 0, .int .i64 r]) (fun g => .slice (some ⟨g, 0, none⟩) 1 1) rfl (by kernel_rfl) ?_
 intro q a0 I z C D
 replace HM := HM.alloc1 z C D
 clear C z I D
 go_wp2_with with_reducible refine so ?_
 refine yk 118 (sdL ((((S.put_p S.was).put_phase 8).put_since S.now).put_reason r) (.slice none 0 0) (.slice (some ⟨q, 0, none⟩) 1 1)).toArray HM.b0 HM.s0 ?_; clear HM; intro a1 HM
 replace HM := Mem.oneE (e := ⟨4, 0, 0#64, false, ⟨⟨0, 0#64⟩, 0#64⟩, r⟩) HM.swap
 go_wp2_with with_reducible refine so ?_
 go_end0
 exact ⟨rfl, (.slice none 0 0), (.slice (some ⟨q, 0, none⟩) 1 1), HM⟩
end Go.Proofs.YtihmbcnccdiecaaGreatDoor
