/- Part of the proofs of the laws of pairing. -/
import Derived.Below
import Derived.Carry
import Derived.ChangeMaps5
import Derived.ChangeOld
import Derived.Laws.Tables
import Derived.MapKept
import Derived.OpenShut
import Derived.ProofKit
import Derived.SevenTiedAt
import Derived.ShutString
import Derived.WalkKit
import Derived.Test.YtihmbcnccdiecaaDoorA2
import Derived.Test.YtihmbcnccdiecaaDoorBAct
import Derived.Test.YtihmbcnccdiecaaDoorBLive
import Derived.Test.YtihmbcnccdiecaaDoorBLowB
import Derived.Test.YtihmbcnccdiecaaDoorBLowC
import Derived.Test.YtihmbcnccdiecaaDoorBSdA
import Derived.Test.YtihmbcnccdiecaaDoorBSdB
import Derived.Test.YtihmbcnccdiecaaDoorBSdC
import Derived.Test.YtihmbcnccdiecaaDoorBSdD
import Derived.Test.YtihmbcnccdiecaaDoorBSdE
import Derived.Test.YtihmbcnccdiecaaDoorBSdF
import Derived.Test.YtihmbcnccdiecaaDoorBSdG
import Derived.Test.YtihmbcnccdiecaaDoorBSdH
import Derived.Test.YtihmbcnccdiecaaDoorBSdIe
import Derived.Test.YtihmbcnccdiecaaDoorBSdIs
import Derived.Test.YtihmbcnccdiecaaDoorBSdIu
import Derived.Test.YtihmbcnccdiecaaDoorBSdJ
import Derived.Test.YtihmbcnccdiecaaDoorBSdK
import Derived.Test.YtihmbcnccdiecaaDoorBSdL
import Derived.Test.YtihmbcnccdiecaaDoorBSdM
import Derived.Test.YtihmbcnccdiecaaDoorBSdN
import Derived.Test.YtihmbcnccdiecaaDoorBTkP
import Derived.Test.YtihmbcnccdiecaaDoorBTkU
import Derived.Test.YtihmbcnccdiecaaDoorBTkV
import Derived.Test.YtihmbcnccdiecaaDoorBTkW
import Derived.Test.YtihmbcnccdiecaaDoorBTkY
import Derived.Test.YtihmbcnccdiecaaDoorBTkZ
import Derived.Test.YtihmbcnccdiecaaDoorCACE
namespace Go.Proofs.YtihmbcnccdiecaaDoor
def expP (p : Pr) (now : Int) : Pr × List Evt :=
  if p.phase = 0 ∨ p.phase = 7 ∨ p.phase = 8 then (p, [])
  else if p.since + 30000000 ≤ now then (((handleK p now).end_ 14).p, ((handleK p now).end_ 14).told) else (p, [])
end Go.Proofs.YtihmbcnccdiecaaDoor
namespace Go.Proofs.YtihmbcnccdiecaaDoor
set_option maxRecDepth 100000
open Go.ChangeShapes Go.WideShapes Go.ChangeAt Go.RowKit Go.MapKept
set_option linter.unusedVariables false
set_option linter.unusedSimpArgs false
section
variable {P : Program} {ops : Array Oper} {Q : Exit → Act → World → Prop} {md : Region.Mode}
def OutE (w w' : World) (q : Pr) (ev : List Evt) (e : Ending) : Prop :=
  ∃ u, e = .returned (.tuple #[.agg (prL q).toArray, u]) ∧ Below w.heap.size w w' ∧ w'.ownsRow w.heap.size EvtT 8 u ev.length (evts ev)
end
end Go.Proofs.YtihmbcnccdiecaaDoor
namespace Go.Proofs.YtihmbcnccdiecaaDoor
set_option linter.unusedVariables false
def expR (p : Pr) (now : Int) : Pr × List Evt :=
  if p.phase = 0 ∨ p.phase = 7 ∨ p.phase = 8 then (p, [])
  else if now < p.since ∨ now - p.since < 30000000 then (p, [])
  else ((failR p 14 now).p, (failR p 14 now).ev)
end Go.Proofs.YtihmbcnccdiecaaDoor
namespace Go.Proofs.YtihmbcnccdiecaaDoor
set_option linter.unusedVariables false
set_option linter.unusedSimpArgs false
theorem exp_eq (p : Pr) (now : Int) (hi : Inv p) (hn : 0 ≤ now ∧ now ≤ 1099511627776) : expP p now = expR p now := by
  unfold expP expR
  by_cases h : p.phase = 0 ∨ p.phase = 7 ∨ p.phase = 8
  · rw [if_pos h, if_pos h]
  rw [if_neg h, if_neg h]
  by_cases h2 : p.since + 30000000 ≤ now
  · rw [if_pos h2, if_neg (by omega)]; rfl
  · rw [if_neg h2, if_pos (by omega)]
end Go.Proofs.YtihmbcnccdiecaaDoor
namespace Go.Proofs.YtihmbcnccdiecaaDoor
set_option linter.unusedVariables false
set_option linter.unusedSimpArgs false
theorem inv_exp {p : Pr} {now : Int} (hi : Inv p) (hn : 0 ≤ now ∧ now ≤ 1099511627776) : Inv (expP p now).1 := by
  rw [exp_eq p now hi hn]
  unfold expR
  split
  · exact hi
  · split
    · exact hi
    · exact inv_fail _ hi hn
theorem ends_handle (p : Pr) (d : Sec) (now : Int) (h : 7 ≤ p.phase) : handleP p d now = (p, [], []) := by
  unfold handleP handleS
  rw [if_pos (show (handleK p now).p.phase < 0 ∨ 6 < (handleK p now).p.phase from .inr (by show 6 < p.phase; omega))]
  rfl
theorem ends_user (p : Pr) (a now : Int) (h : 7 ≤ p.phase) : userP p a now = (p, [], []) := by
  unfold userP userS
  rw [if_pos (show (handleK p now).p.phase ≠ 4 by show p.phase ≠ 4; omega)]
  rfl
theorem ends_enc (p : Pr) (now : Int) (h : 7 ≤ p.phase) : encP p now = (p, [], []) := by
  unfold encP encS
  rw [if_pos (show (handleK p now).p.phase ≠ 6 ∨ (handleK p now).p.crypt = true from .inl (by show p.phase ≠ 6; omega))]
  rfl
theorem ends_exp (p : Pr) (now : Int) (h : 7 ≤ p.phase) (h8 : p.phase ≤ 8) : expP p now = (p, []) := by
  unfold expP
  rw [if_pos (by omega)]
theorem ends_start (p : Pr) (now : Int) (h : 7 ≤ p.phase) : startP p now = (p, [], 9) := by
  unfold startP
  rw [if_pos (.inr (by omega))]
end Go.Proofs.YtihmbcnccdiecaaDoor
namespace Go.Proofs.YtihmbcnccdiecaaDoor
set_option maxRecDepth 100000
open Go.ChangeShapes Go.WideShapes Go.ChangeAt Go.RowKit
set_option linter.unusedVariables false
def ls_secpdu : List TypeId := [3, 3, 4, 4, 4, 4, 4, 30, 24, 3, 24, 27, 3]
theorem leaf_secpdu : LeafOf Tryd.prog 43 ls_secpdu := leaf_struct (P := Tryd.prog) [[3], ls_feat, [30], [24], ls_ident, [3]] Tryd.underlying43 (by kernel_rfl) ⟨leaf_one (by kernel_rfl), rfl, leaf_feat, rfl, leaf_one (by kernel_rfl), rfl, leaf_one (by kernel_rfl), rfl, leaf_ident, rfl, leaf_one (by kernel_rfl), rfl, trivial⟩
def ls_op38 : List TypeId := [3, 3, 3, 4, 4, 4, 4, 4, 30, 24, 3, 24, 27, 3, 3, 3]
theorem leaf_op38 : LeafOf Tryd.prog 45 ls_op38 := leaf_struct (P := Tryd.prog) [[3], ls_secpdu, [3], [3]] Tryd.underlying45 (by kernel_rfl) ⟨leaf_one (by kernel_rfl), rfl, leaf_secpdu, rfl, leaf_one (by kernel_rfl), rfl, leaf_one (by kernel_rfl), rfl, trivial⟩
end Go.Proofs.YtihmbcnccdiecaaDoor
namespace Go.Proofs.YtihmbcnccdiecaaDoor
set_option maxRecDepth 100000
open Go.ChangeShapes Go.WideShapes Go.ChangeAt Go.RowKit
set_option linter.unusedVariables false
theorem op38_rows_in {H : Type} {enc : TypeId × Value → H} {w : World} {base : Nat} {sp : Nat → Bool} {held : Bool} {a0 : Option Addr} {len0 cap0 : Nat} {d : DataW H} {ps : List MemPlace}
    (h : DataW.Trod enc Tryd.prog w base sp held 35 (.slice a0 len0 cap0) d ps) : ∃ rs : List R_op38, len0 = rs.length ∧ rs.length ≤ cap0 ∧ Rd w a0 (rs.flatMap R_op38.cells) ∧ ∀ r ∈ rs, r.ok w := by
  obtain ⟨css, hl, hc, hr, hcs⟩ := structs_in Tryd.underlying35 leaf_op38 h
  obtain ⟨rs, rfl, hq⟩ := rows_as R_op38.cells (R_op38.ok w) css (fun cs hm => by
    obtain ⟨hl, hg⟩ := hcs cs hm
    match cs, hl with
    | [c0, c1, c2, c3, c4, c5, c6, c7, c8, c9, c10, c11, c12, c13, c14, c15], _ =>
      obtain ⟨n0, y0, h0⟩ := hg 0 _ _ rfl rfl
      obtain ⟨x0, rfl, w0⟩ := leaf_int (k := .i64) Tryd.underlying3 h0
      obtain ⟨n1, y1, h1⟩ := hg 1 _ _ rfl rfl
      obtain ⟨x1, rfl, w1⟩ := leaf_int (k := .i64) Tryd.underlying3 h1
      obtain ⟨n2, y2, h2⟩ := hg 2 _ _ rfl rfl
      obtain ⟨x2, rfl, w2⟩ := leaf_int (k := .i64) Tryd.underlying3 h2
      obtain ⟨n3, y3, h3⟩ := hg 3 _ _ rfl rfl
      obtain ⟨x3, rfl⟩ := leaf_bool Tryd.underlying4 h3
      obtain ⟨n4, y4, h4⟩ := hg 4 _ _ rfl rfl
      obtain ⟨x4, rfl⟩ := leaf_bool Tryd.underlying4 h4
      obtain ⟨n5, y5, h5⟩ := hg 5 _ _ rfl rfl
      obtain ⟨x5, rfl⟩ := leaf_bool Tryd.underlying4 h5
      obtain ⟨n6, y6, h6⟩ := hg 6 _ _ rfl rfl
      obtain ⟨x6, rfl⟩ := leaf_bool Tryd.underlying4 h6
      obtain ⟨n7, y7, h7⟩ := hg 7 _ _ rfl rfl
      obtain ⟨x7, rfl⟩ := leaf_bool Tryd.underlying4 h7
      obtain ⟨n8, y8, h8⟩ := hg 8 _ _ rfl rfl
      obtain ⟨x8, rfl⟩ := leaf_u32 Tryd.underlying30 h8
      obtain ⟨n9, y9, h9⟩ := hg 9 _ _ rfl rfl
      obtain ⟨x9, rfl⟩ := leaf_u64 Tryd.underlying24 h9
      obtain ⟨n10, y10, h10⟩ := hg 10 _ _ rfl rfl
      obtain ⟨x10, rfl, w10⟩ := leaf_int (k := .i64) Tryd.underlying3 h10
      obtain ⟨n11, y11, h11⟩ := hg 11 _ _ rfl rfl
      obtain ⟨x11, rfl⟩ := leaf_u64 Tryd.underlying24 h11
      obtain ⟨n12, y12, h12⟩ := hg 12 _ _ rfl rfl
      obtain ⟨x12, rfl⟩ := leaf_u64 Tryd.underlying27 h12
      obtain ⟨n13, y13, h13⟩ := hg 13 _ _ rfl rfl
      obtain ⟨x13, rfl, w13⟩ := leaf_int (k := .i64) Tryd.underlying3 h13
      obtain ⟨n14, y14, h14⟩ := hg 14 _ _ rfl rfl
      obtain ⟨x14, rfl, w14⟩ := leaf_int (k := .i64) Tryd.underlying3 h14
      obtain ⟨n15, y15, h15⟩ := hg 15 _ _ rfl rfl
      obtain ⟨x15, rfl, w15⟩ := leaf_int (k := .i64) Tryd.underlying3 h15
      exact ⟨⟨x0, x1, x2, x3, x4, x5, x6, x7, x8, x9, x10, x11, x12, x13, x14, x15⟩, rfl, ⟨w0, w1, w2, w10, w13, w14, w15, trivial⟩⟩)
  rw [List.length_map] at hl
  exact ⟨rs, hl.symm, by omega, hr, hq⟩
end Go.Proofs.YtihmbcnccdiecaaDoor
namespace Go.Proofs.YtihmbcnccdiecaaDoor
set_option maxRecDepth 100000
open Go.ChangeShapes Go.WideShapes Go.ChangeAt Go.RowKit
set_option linter.unusedVariables false
set_option linter.unusedSimpArgs false
set_option maxHeartbeats 4000000 in
theorem pa_Expire (p : Pr) (now : Int) (w : World) (HL : Laid w) (r0 : 0 ≤ p.round) (r1 : p.round ≤ 60) (n0 : 0 ≤ p.since) (n1 : p.since ≤ 1099511627776) :
  Calls Tryd.prog 29 #[.agg (prL p).toArray, .int .i64 now] w (fun e w' => OutE w w' (expP p now).1 (expP p now).2 e) := by
 obtain ⟨base, hbs⟩ : ∃ b, w.heap.size = b := ⟨_, rfl⟩
 have HM := Mem.start HL
 rw [hbs] at HM
 obtain ⟨S, hSd⟩ : ∃ S, handleK p now = S := ⟨_, rfl⟩
 have hs0 : S.sent = [] := by rw [← hSd]; rfl
 have ht0 : S.told = [] := by rw [← hSd]; rfl
 have hw0 : S.was = S.p := by rw [← hSd]; rfl
 have ls : S.sent.length ≤ 900 := by rw [hs0]; decide
 have lt : S.told.length ≤ 900 := by rw [ht0]; decide
 have h0 : 0 ≤ S.p.round := by rw [← hSd]; exact r0
 have h1 : S.p.round ≤ 64 := by rw [← hSd]; show p.round ≤ 64; omega
 have h2 : S.p.round ≤ 60 := by rw [← hSd]; exact r1
 have sw : IntKind.i64.wrap (S.p.since + 30000000) = S.p.since + 30000000 := IntWalk.i64_in _ (by rw [← hSd]; show -9223372036854775808 ≤ p.since + 30000000 ∧ p.since + 30000000 ≤ 9223372036854775807; omega)
 go_enter Tryd.func29, Tryd.ntmps29
 go_wp2_with (with_reducible refine so ?_)
 refine HM.nw (ty := 37) (cs := (prL p).toArray) ?_; clear HM; intro g_1 w_2 HM
 go_wp2_with (with_reducible refine so ?_)
 refine HM.nw (ty := 37) (cs := (prL pr0).toArray) ?_; clear HM; intro g_7 w_8 HM
 go_wp2_with (first | (with_reducible refine so ?_) | (with_reducible refine ld 0 (prL p) HM.b1 Tryd.underlying37 ?_))
 refine (sd_handle _ p now _ _ HM.here).mono ?_; rintro e w_14 ⟨gs, rfl, hb_15⟩
 replace HM := HM.trans hb_15; clear hb_15
 rw [hSd] at HM
 rw [← hs0, ← ht0] at HM
 by_cases hc_16 : (S.p.phase : Int) = 0
 ·
  obtain ⟨ec_16, ec_16n, kc_16⟩ := fT hc_16; clear hc_16
  have ld_17 := HM.b0.c 19 (.int .i64 S.p.phase)
  go_wp2_with (with_reducible refine so ?_)
  clear ld_17
  try simp only [nrm]
  have hst : Stable fun W => Mem w W base S.sent S.told ((.slice none 0 0)) ((.slice none 0 0)) ((gs, 109, (sdL S (.slice none 0 0) (.slice none 0 0)).toArray) :: (g_7, 37, (prL pr0).toArray) :: (g_1, 37, (prL p).toArray) :: []) := stable_mem _ _ _ _ _ _ _
  refine wp_region_u (fun W => Mem w W base S.sent S.told ((.slice none 0 0)) ((.slice none 0 0)) ((gs, 109, (sdL S (.slice none 0 0) (.slice none 0 0)).toArray) :: (g_7, 37, (prL pr0).toArray) :: (g_1, 37, (prL p).toArray) :: [])) (fun W => ∃ x0, Mem w W base S.sent S.told ((.slice none 0 0)) ((.slice none 0 0)) ((gs, 109, (sdL S (.slice none 0 0) (.slice none 0 0)).toArray) :: (g_7, 37, x0) :: (g_1, 37, (prL p).toArray) :: [])) hst (fun W h => ⟨(prL pr0).toArray, h⟩) HM.drew 10 ?_
  clear HM
  refine wpU_p 0 hst ?_ (h0 := fun _ h => ⟨_, h⟩)
  refine wpU_p 1 hst ?_ (h0 := fun _ h => ⟨_, h⟩)
  refine wpU_p 2 hst ?_ (h0 := fun _ h => ⟨_, h⟩)
  refine wpU_take (v := .agg (prL S.p).toArray) 3 hst (fun _ h => ⟨(prL pr0).toArray, h⟩) rfl (fun W hS K hK => calm_load rfl rfl (load_part hS.choose_spec.b0 0 (prL S.p) rfl Tryd.underlying37 rfl (by kernel_rfl)) (hK.out _ (Below.refl _ _))) ?_; simp only [nrm]
  refine wpU_p 4 hst ?_ (h0 := fun _ h => ⟨_, h⟩)
  refine wpU_p 5 hst ?_ (h0 := fun _ h => ⟨_, h⟩)
  refine wpU_p 6 hst ?_ (h0 := fun _ h => ⟨_, h⟩)
  refine wpU_take (v := ?_) 7 hst (fun _ h => ⟨(prL pr0).toArray, h⟩) rfl ?_ ?_; rotate_left; (intro W hS K hK; have ld : W.cell? ⟨gs, 118, none⟩ = some (.slice none 0 0) := hS.choose_spec.b0.cell 118; clear hS; go_simp; exact hK.out _ (Below.refl _ _)); simp only [nrm]
  refine wpU_hole (S' := fun W => Mem w W base S.sent S.told ((.slice none 0 0)) ((.slice none 0 0)) ((gs, 109, (sdL S (.slice none 0 0) (.slice none 0 0)).toArray) :: (g_7, 37, (prL S.p).toArray) :: (g_1, 37, (prL p).toArray) :: [])) 8 (.agg (prL S.p).toArray) rfl rfl rfl rfl (fun W hS => by obtain ⟨w9, h1, h2⟩ := hS.swap.hole (P := Tryd.prog) (ty := 37) 0 (prL S.p).toArray (prL S.p).toArray (by kernel_rfl) rfl (of_decide_eq_true rfl) (by kernel_rfl); exact ⟨w9, h1, h2.swap⟩) (stable_mem _ _ _ _ _ _ _) (fun W h => ⟨(prL S.p).toArray, h⟩) ?_; simp only [nrm]
  clear hst
  have hst : Stable fun W => Mem w W base S.sent S.told ((.slice none 0 0)) ((.slice none 0 0)) ((gs, 109, (sdL S (.slice none 0 0) (.slice none 0 0)).toArray) :: (g_7, 37, (prL S.p).toArray) :: (g_1, 37, (prL p).toArray) :: []) := stable_mem _ _ _ _ _ _ _
  refine wpU_p 9 hst ?_ (h0 := fun _ h => ⟨(prL S.p).toArray, h⟩)
  refine wpU_done (fun w_18 hS => ?_)
  have HM := hS
  clear hst
  go_wp2_with (with_reducible refine so ?_)
  refine bodyPost_ret (results_ct rfl rfl (load_blk HM.b1 Tryd.underlying37 rfl (by kernel_rfl))) rfl ?_
  have q0 := kc_16.out
  have eo : expP p now = (S.p, S.told) := by subst hSd; unfold expP; dsimp only [handleK] at *; split <;> first | rfl | (exfalso; omega) | (split <;> first | rfl | (exfalso; omega))
  rw [eo]
  unfold OutE; rw [hbs]; exact ⟨_, rfl, HM.below, HM.told⟩
 obtain ⟨ec_16, ec_16n, kc_16⟩ := fF hc_16; clear hc_16
 by_cases hc_19 : (S.p.phase : Int) = 7
 ·
  obtain ⟨ec_19, ec_19n, kc_19⟩ := fT hc_19; clear hc_19
  have ld_20 := HM.b0.c 19 (.int .i64 S.p.phase)
  go_wp2_with (with_reducible refine so ?_)
  clear ld_20
  try simp only [nrm]
  have hst : Stable fun W => Mem w W base S.sent S.told ((.slice none 0 0)) ((.slice none 0 0)) ((gs, 109, (sdL S (.slice none 0 0) (.slice none 0 0)).toArray) :: (g_7, 37, (prL pr0).toArray) :: (g_1, 37, (prL p).toArray) :: []) := stable_mem _ _ _ _ _ _ _
  refine wp_region_u (fun W => Mem w W base S.sent S.told ((.slice none 0 0)) ((.slice none 0 0)) ((gs, 109, (sdL S (.slice none 0 0) (.slice none 0 0)).toArray) :: (g_7, 37, (prL pr0).toArray) :: (g_1, 37, (prL p).toArray) :: [])) (fun W => ∃ x0, Mem w W base S.sent S.told ((.slice none 0 0)) ((.slice none 0 0)) ((gs, 109, (sdL S (.slice none 0 0) (.slice none 0 0)).toArray) :: (g_7, 37, x0) :: (g_1, 37, (prL p).toArray) :: [])) hst (fun W h => ⟨(prL pr0).toArray, h⟩) HM.drew 10 ?_
  clear HM
  refine wpU_p 0 hst ?_ (h0 := fun _ h => ⟨_, h⟩)
  refine wpU_p 1 hst ?_ (h0 := fun _ h => ⟨_, h⟩)
  refine wpU_p 2 hst ?_ (h0 := fun _ h => ⟨_, h⟩)
  refine wpU_take (v := .agg (prL S.p).toArray) 3 hst (fun _ h => ⟨(prL pr0).toArray, h⟩) rfl (fun W hS K hK => calm_load rfl rfl (load_part hS.choose_spec.b0 0 (prL S.p) rfl Tryd.underlying37 rfl (by kernel_rfl)) (hK.out _ (Below.refl _ _))) ?_; simp only [nrm]
  refine wpU_p 4 hst ?_ (h0 := fun _ h => ⟨_, h⟩)
  refine wpU_p 5 hst ?_ (h0 := fun _ h => ⟨_, h⟩)
  refine wpU_p 6 hst ?_ (h0 := fun _ h => ⟨_, h⟩)
  refine wpU_take (v := ?_) 7 hst (fun _ h => ⟨(prL pr0).toArray, h⟩) rfl ?_ ?_; rotate_left; (intro W hS K hK; have ld : W.cell? ⟨gs, 118, none⟩ = some (.slice none 0 0) := hS.choose_spec.b0.cell 118; clear hS; go_simp; exact hK.out _ (Below.refl _ _)); simp only [nrm]
  refine wpU_hole (S' := fun W => Mem w W base S.sent S.told ((.slice none 0 0)) ((.slice none 0 0)) ((gs, 109, (sdL S (.slice none 0 0) (.slice none 0 0)).toArray) :: (g_7, 37, (prL S.p).toArray) :: (g_1, 37, (prL p).toArray) :: [])) 8 (.agg (prL S.p).toArray) rfl rfl rfl rfl (fun W hS => by obtain ⟨w9, h1, h2⟩ := hS.swap.hole (P := Tryd.prog) (ty := 37) 0 (prL S.p).toArray (prL S.p).toArray (by kernel_rfl) rfl (of_decide_eq_true rfl) (by kernel_rfl); exact ⟨w9, h1, h2.swap⟩) (stable_mem _ _ _ _ _ _ _) (fun W h => ⟨(prL S.p).toArray, h⟩) ?_; simp only [nrm]
  clear hst
  have hst : Stable fun W => Mem w W base S.sent S.told ((.slice none 0 0)) ((.slice none 0 0)) ((gs, 109, (sdL S (.slice none 0 0) (.slice none 0 0)).toArray) :: (g_7, 37, (prL S.p).toArray) :: (g_1, 37, (prL p).toArray) :: []) := stable_mem _ _ _ _ _ _ _
  refine wpU_p 9 hst ?_ (h0 := fun _ h => ⟨(prL S.p).toArray, h⟩)
  refine wpU_done (fun w_21 hS => ?_)
  have HM := hS
  clear hst
  go_wp2_with (with_reducible refine so ?_)
  refine bodyPost_ret (results_ct rfl rfl (load_blk HM.b1 Tryd.underlying37 rfl (by kernel_rfl))) rfl ?_
  have q0 := kc_16.out
  have q1 := kc_19.out
  have eo : expP p now = (S.p, S.told) := by subst hSd; unfold expP; dsimp only [handleK] at *; split <;> first | rfl | (exfalso; omega) | (split <;> first | rfl | (exfalso; omega))
  rw [eo]
  unfold OutE; rw [hbs]; exact ⟨_, rfl, HM.below, HM.told⟩
 obtain ⟨ec_19, ec_19n, kc_19⟩ := fF hc_19; clear hc_19
 by_cases hc_22 : (S.p.phase : Int) = 8
 ·
  obtain ⟨ec_22, ec_22n, kc_22⟩ := fT hc_22; clear hc_22
  have ld_23 := HM.b0.c 19 (.int .i64 S.p.phase)
  go_wp2_with (with_reducible refine so ?_)
  clear ld_23
  try simp only [nrm]
  have hst : Stable fun W => Mem w W base S.sent S.told ((.slice none 0 0)) ((.slice none 0 0)) ((gs, 109, (sdL S (.slice none 0 0) (.slice none 0 0)).toArray) :: (g_7, 37, (prL pr0).toArray) :: (g_1, 37, (prL p).toArray) :: []) := stable_mem _ _ _ _ _ _ _
  refine wp_region_u (fun W => Mem w W base S.sent S.told ((.slice none 0 0)) ((.slice none 0 0)) ((gs, 109, (sdL S (.slice none 0 0) (.slice none 0 0)).toArray) :: (g_7, 37, (prL pr0).toArray) :: (g_1, 37, (prL p).toArray) :: [])) (fun W => ∃ x0, Mem w W base S.sent S.told ((.slice none 0 0)) ((.slice none 0 0)) ((gs, 109, (sdL S (.slice none 0 0) (.slice none 0 0)).toArray) :: (g_7, 37, x0) :: (g_1, 37, (prL p).toArray) :: [])) hst (fun W h => ⟨(prL pr0).toArray, h⟩) HM.drew 10 ?_
  clear HM
  refine wpU_p 0 hst ?_ (h0 := fun _ h => ⟨_, h⟩)
  refine wpU_p 1 hst ?_ (h0 := fun _ h => ⟨_, h⟩)
  refine wpU_p 2 hst ?_ (h0 := fun _ h => ⟨_, h⟩)
  refine wpU_take (v := .agg (prL S.p).toArray) 3 hst (fun _ h => ⟨(prL pr0).toArray, h⟩) rfl (fun W hS K hK => calm_load rfl rfl (load_part hS.choose_spec.b0 0 (prL S.p) rfl Tryd.underlying37 rfl (by kernel_rfl)) (hK.out _ (Below.refl _ _))) ?_; simp only [nrm]
  refine wpU_p 4 hst ?_ (h0 := fun _ h => ⟨_, h⟩)
  refine wpU_p 5 hst ?_ (h0 := fun _ h => ⟨_, h⟩)
  refine wpU_p 6 hst ?_ (h0 := fun _ h => ⟨_, h⟩)
  refine wpU_take (v := ?_) 7 hst (fun _ h => ⟨(prL pr0).toArray, h⟩) rfl ?_ ?_; rotate_left; (intro W hS K hK; have ld : W.cell? ⟨gs, 118, none⟩ = some (.slice none 0 0) := hS.choose_spec.b0.cell 118; clear hS; go_simp; exact hK.out _ (Below.refl _ _)); simp only [nrm]
  refine wpU_hole (S' := fun W => Mem w W base S.sent S.told ((.slice none 0 0)) ((.slice none 0 0)) ((gs, 109, (sdL S (.slice none 0 0) (.slice none 0 0)).toArray) :: (g_7, 37, (prL S.p).toArray) :: (g_1, 37, (prL p).toArray) :: [])) 8 (.agg (prL S.p).toArray) rfl rfl rfl rfl (fun W hS => by obtain ⟨w9, h1, h2⟩ := hS.swap.hole (P := Tryd.prog) (ty := 37) 0 (prL S.p).toArray (prL S.p).toArray (by kernel_rfl) rfl (of_decide_eq_true rfl) (by kernel_rfl); exact ⟨w9, h1, h2.swap⟩) (stable_mem _ _ _ _ _ _ _) (fun W h => ⟨(prL S.p).toArray, h⟩) ?_; simp only [nrm]
  clear hst
  have hst : Stable fun W => Mem w W base S.sent S.told ((.slice none 0 0)) ((.slice none 0 0)) ((gs, 109, (sdL S (.slice none 0 0) (.slice none 0 0)).toArray) :: (g_7, 37, (prL S.p).toArray) :: (g_1, 37, (prL p).toArray) :: []) := stable_mem _ _ _ _ _ _ _
  refine wpU_p 9 hst ?_ (h0 := fun _ h => ⟨(prL S.p).toArray, h⟩)
  refine wpU_done (fun w_24 hS => ?_)
  have HM := hS
  clear hst
  go_wp2_with (with_reducible refine so ?_)
  refine bodyPost_ret (results_ct rfl rfl (load_blk HM.b1 Tryd.underlying37 rfl (by kernel_rfl))) rfl ?_
  have q0 := kc_16.out
  have q1 := kc_19.out
  have q2 := kc_22.out
  have eo : expP p now = (S.p, S.told) := by subst hSd; unfold expP; dsimp only [handleK] at *; split <;> first | rfl | (exfalso; omega) | (split <;> first | rfl | (exfalso; omega))
  rw [eo]
  unfold OutE; rw [hbs]; exact ⟨_, rfl, HM.below, HM.told⟩
 obtain ⟨ec_22, ec_22n, kc_22⟩ := fF hc_22; clear hc_22
 by_cases hc_25 : (now : Int) < (S.p.since + 30000000)
 ·
  obtain ⟨ec_25m, ec_25, ec_25n, kc_25⟩ := lT hc_25; clear hc_25
  have ld_26 := HM.b0.c 19 (.int .i64 S.p.phase)
  have ld_27 := HM.b0.c 20 (.int .i64 S.p.since)
  go_wp2_with (with_reducible refine so ?_)
  clear ld_26 ld_27
  try simp only [nrm]
  have hst : Stable fun W => Mem w W base S.sent S.told ((.slice none 0 0)) ((.slice none 0 0)) ((gs, 109, (sdL S (.slice none 0 0) (.slice none 0 0)).toArray) :: (g_7, 37, (prL pr0).toArray) :: (g_1, 37, (prL p).toArray) :: []) := stable_mem _ _ _ _ _ _ _
  refine wp_region_u (fun W => Mem w W base S.sent S.told ((.slice none 0 0)) ((.slice none 0 0)) ((gs, 109, (sdL S (.slice none 0 0) (.slice none 0 0)).toArray) :: (g_7, 37, (prL pr0).toArray) :: (g_1, 37, (prL p).toArray) :: [])) (fun W => ∃ x0, Mem w W base S.sent S.told ((.slice none 0 0)) ((.slice none 0 0)) ((gs, 109, (sdL S (.slice none 0 0) (.slice none 0 0)).toArray) :: (g_7, 37, x0) :: (g_1, 37, (prL p).toArray) :: [])) hst (fun W h => ⟨(prL pr0).toArray, h⟩) HM.drew 10 ?_
  clear HM
  refine wpU_p 0 hst ?_ (h0 := fun _ h => ⟨_, h⟩)
  refine wpU_p 1 hst ?_ (h0 := fun _ h => ⟨_, h⟩)
  refine wpU_p 2 hst ?_ (h0 := fun _ h => ⟨_, h⟩)
  refine wpU_take (v := .agg (prL S.p).toArray) 3 hst (fun _ h => ⟨(prL pr0).toArray, h⟩) rfl (fun W hS K hK => calm_load rfl rfl (load_part hS.choose_spec.b0 0 (prL S.p) rfl Tryd.underlying37 rfl (by kernel_rfl)) (hK.out _ (Below.refl _ _))) ?_; simp only [nrm]
  refine wpU_p 4 hst ?_ (h0 := fun _ h => ⟨_, h⟩)
  refine wpU_p 5 hst ?_ (h0 := fun _ h => ⟨_, h⟩)
  refine wpU_p 6 hst ?_ (h0 := fun _ h => ⟨_, h⟩)
  refine wpU_take (v := ?_) 7 hst (fun _ h => ⟨(prL pr0).toArray, h⟩) rfl ?_ ?_; rotate_left; (intro W hS K hK; have ld : W.cell? ⟨gs, 118, none⟩ = some (.slice none 0 0) := hS.choose_spec.b0.cell 118; clear hS; go_simp; exact hK.out _ (Below.refl _ _)); simp only [nrm]
  refine wpU_hole (S' := fun W => Mem w W base S.sent S.told ((.slice none 0 0)) ((.slice none 0 0)) ((gs, 109, (sdL S (.slice none 0 0) (.slice none 0 0)).toArray) :: (g_7, 37, (prL S.p).toArray) :: (g_1, 37, (prL p).toArray) :: [])) 8 (.agg (prL S.p).toArray) rfl rfl rfl rfl (fun W hS => by obtain ⟨w9, h1, h2⟩ := hS.swap.hole (P := Tryd.prog) (ty := 37) 0 (prL S.p).toArray (prL S.p).toArray (by kernel_rfl) rfl (of_decide_eq_true rfl) (by kernel_rfl); exact ⟨w9, h1, h2.swap⟩) (stable_mem _ _ _ _ _ _ _) (fun W h => ⟨(prL S.p).toArray, h⟩) ?_; simp only [nrm]
  clear hst
  have hst : Stable fun W => Mem w W base S.sent S.told ((.slice none 0 0)) ((.slice none 0 0)) ((gs, 109, (sdL S (.slice none 0 0) (.slice none 0 0)).toArray) :: (g_7, 37, (prL S.p).toArray) :: (g_1, 37, (prL p).toArray) :: []) := stable_mem _ _ _ _ _ _ _
  refine wpU_p 9 hst ?_ (h0 := fun _ h => ⟨(prL S.p).toArray, h⟩)
  refine wpU_done (fun w_28 hS => ?_)
  have HM := hS
  clear hst
  go_wp2_with (with_reducible refine so ?_)
  refine bodyPost_ret (results_ct rfl rfl (load_blk HM.b1 Tryd.underlying37 rfl (by kernel_rfl))) rfl ?_
  have q0 := kc_16.out
  have q1 := kc_19.out
  have q2 := kc_22.out
  have q3 := kc_25.out
  have eo : expP p now = (S.p, S.told) := by subst hSd; unfold expP; dsimp only [handleK] at *; split <;> first | rfl | (exfalso; omega) | (split <;> first | rfl | (exfalso; omega))
  rw [eo]
  unfold OutE; rw [hbs]; exact ⟨_, rfl, HM.below, HM.told⟩
 obtain ⟨ec_25m, ec_25, ec_25n, kc_25⟩ := lF hc_25; clear hc_25
 have ld_29 := HM.b0.c 19 (.int .i64 S.p.phase)
 have ld_30 := HM.b0.c 20 (.int .i64 S.p.since)
 go_wp2_with (with_reducible refine so ?_)
 refine (sd_end _ _ S 14 _ _ _ _ HM.here).mono ?_; rintro e w_31 ⟨rfl, v_33, u_34, HN_35⟩
 clear ld_29 ld_30
 replace HM := HM.trans HN_35
 clear HN_35
 go_wp2_with (with_reducible refine so ?_)
 try simp only [nrm]
 have hst : Stable fun W => Mem w W base ((S.end_ 14).sent) ((S.end_ 14).told) v_33 u_34 ((gs, 109, (sdL (S.end_ 14) v_33 u_34).toArray) :: (g_7, 37, (prL pr0).toArray) :: (g_1, 37, (prL p).toArray) :: []) := stable_mem _ _ _ _ _ _ _
 refine wp_region_u (fun W => Mem w W base ((S.end_ 14).sent) ((S.end_ 14).told) v_33 u_34 ((gs, 109, (sdL (S.end_ 14) v_33 u_34).toArray) :: (g_7, 37, (prL pr0).toArray) :: (g_1, 37, (prL p).toArray) :: [])) (fun W => ∃ x0, Mem w W base ((S.end_ 14).sent) ((S.end_ 14).told) v_33 u_34 ((gs, 109, (sdL (S.end_ 14) v_33 u_34).toArray) :: (g_7, 37, x0) :: (g_1, 37, (prL p).toArray) :: [])) hst (fun W h => ⟨(prL pr0).toArray, h⟩) HM.drew 10 ?_
 clear HM
 refine wpU_p 0 hst ?_ (h0 := fun _ h => ⟨_, h⟩)
 refine wpU_p 1 hst ?_ (h0 := fun _ h => ⟨_, h⟩)
 refine wpU_p 2 hst ?_ (h0 := fun _ h => ⟨_, h⟩)
 refine wpU_take (v := .agg #[.int .i64 ((S.end_ 14).p.cfg.role), .int .i64 ((S.end_ 14).p.cfg.feat.io), .bool ((S.end_ 14).p.cfg.feat.oob), .bool ((S.end_ 14).p.cfg.feat.bond), .bool ((S.end_ 14).p.cfg.feat.mitm), .bool ((S.end_ 14).p.cfg.feat.sid), .bool ((S.end_ 14).p.cfg.feat.tid), .int .i64 ((S.end_ 14).p.cfg.own.kind), .int .u64 (W64 (S.end_ 14).p.cfg.own.bits), .int .i64 ((S.end_ 14).p.cfg.peer.kind), .int .u64 (W64 (S.end_ 14).p.cfg.peer.bits), .int .i64 ((S.end_ 14).p.cfg.idn.adr.kind), .int .u64 (W64 (S.end_ 14).p.cfg.idn.adr.bits), .int .u64 (W64 (S.end_ 14).p.cfg.idn.irk), .int .u32 (W32 (S.end_ 14).p.cfg.secret), .int .u64 (W64 (S.end_ 14).p.cfg.seed), .int .u64 (W64 (S.end_ 14).p.cfg.mine), .int .u64 (W64 (S.end_ 14).p.cfg.oob.value), .int .u64 (W64 (S.end_ 14).p.cfg.oob.random), .int .i64 ((S.end_ 14).p.phase), .int .i64 ((S.end_ 14).p.since), .int .i64 ((S.end_ 14).p.method), .int .i64 ((S.end_ 14).p.peer.io), .bool ((S.end_ 14).p.peer.oob), .bool ((S.end_ 14).p.peer.bond), .bool ((S.end_ 14).p.peer.mitm), .bool ((S.end_ 14).p.peer.sid), .bool ((S.end_ 14).p.peer.tid), .int .i64 ((S.end_ 14).p.req.io), .bool ((S.end_ 14).p.req.oob), .bool ((S.end_ 14).p.req.bond), .bool ((S.end_ 14).p.req.mitm), .bool ((S.end_ 14).p.req.sid), .bool ((S.end_ 14).p.req.tid), .int .i64 ((S.end_ 14).p.res.io), .bool ((S.end_ 14).p.res.oob), .bool ((S.end_ 14).p.res.bond), .bool ((S.end_ 14).p.res.mitm), .bool ((S.end_ 14).p.res.sid), .bool ((S.end_ 14).p.res.tid), .int .u32 (W32 (S.end_ 14).p.peerKey), .int .u32 (W32 (S.end_ 14).p.shared), .int .u64 (W64 (S.end_ 14).p.nonce), .int .u64 (W64 (S.end_ 14).p.other), .int .u64 (W64 (S.end_ 14).p.commit), .bool ((S.end_ 14).p.have_), .int .i64 ((S.end_ 14).p.passkey), .int .i64 ((S.end_ 14).p.round), .bool ((S.end_ 14).p.agreed), .int .u64 (W64 (S.end_ 14).p.checkIn), .bool ((S.end_ 14).p.haveIn), .bool ((S.end_ 14).p.crypt), .int .u64 (W64 (S.end_ 14).p.ltk), .int .i64 ((S.end_ 14).p.idn.adr.kind), .int .u64 (W64 (S.end_ 14).p.idn.adr.bits), .int .u64 (W64 (S.end_ 14).p.idn.irk), .int .i64 ((S.end_ 14).p.drawn), .int .i64 ((S.end_ 14).p.reason)]) 3 hst (fun _ h => ⟨(prL pr0).toArray, h⟩) rfl (fun W hS K hK => calm_load rfl rfl (load_part hS.choose_spec.b0 0 [.int .i64 ((S.end_ 14).p.cfg.role), .int .i64 ((S.end_ 14).p.cfg.feat.io), .bool ((S.end_ 14).p.cfg.feat.oob), .bool ((S.end_ 14).p.cfg.feat.bond), .bool ((S.end_ 14).p.cfg.feat.mitm), .bool ((S.end_ 14).p.cfg.feat.sid), .bool ((S.end_ 14).p.cfg.feat.tid), .int .i64 ((S.end_ 14).p.cfg.own.kind), .int .u64 (W64 (S.end_ 14).p.cfg.own.bits), .int .i64 ((S.end_ 14).p.cfg.peer.kind), .int .u64 (W64 (S.end_ 14).p.cfg.peer.bits), .int .i64 ((S.end_ 14).p.cfg.idn.adr.kind), .int .u64 (W64 (S.end_ 14).p.cfg.idn.adr.bits), .int .u64 (W64 (S.end_ 14).p.cfg.idn.irk), .int .u32 (W32 (S.end_ 14).p.cfg.secret), .int .u64 (W64 (S.end_ 14).p.cfg.seed), .int .u64 (W64 (S.end_ 14).p.cfg.mine), .int .u64 (W64 (S.end_ 14).p.cfg.oob.value), .int .u64 (W64 (S.end_ 14).p.cfg.oob.random), .int .i64 ((S.end_ 14).p.phase), .int .i64 ((S.end_ 14).p.since), .int .i64 ((S.end_ 14).p.method), .int .i64 ((S.end_ 14).p.peer.io), .bool ((S.end_ 14).p.peer.oob), .bool ((S.end_ 14).p.peer.bond), .bool ((S.end_ 14).p.peer.mitm), .bool ((S.end_ 14).p.peer.sid), .bool ((S.end_ 14).p.peer.tid), .int .i64 ((S.end_ 14).p.req.io), .bool ((S.end_ 14).p.req.oob), .bool ((S.end_ 14).p.req.bond), .bool ((S.end_ 14).p.req.mitm), .bool ((S.end_ 14).p.req.sid), .bool ((S.end_ 14).p.req.tid), .int .i64 ((S.end_ 14).p.res.io), .bool ((S.end_ 14).p.res.oob), .bool ((S.end_ 14).p.res.bond), .bool ((S.end_ 14).p.res.mitm), .bool ((S.end_ 14).p.res.sid), .bool ((S.end_ 14).p.res.tid), .int .u32 (W32 (S.end_ 14).p.peerKey), .int .u32 (W32 (S.end_ 14).p.shared), .int .u64 (W64 (S.end_ 14).p.nonce), .int .u64 (W64 (S.end_ 14).p.other), .int .u64 (W64 (S.end_ 14).p.commit), .bool ((S.end_ 14).p.have_), .int .i64 ((S.end_ 14).p.passkey), .int .i64 ((S.end_ 14).p.round), .bool ((S.end_ 14).p.agreed), .int .u64 (W64 (S.end_ 14).p.checkIn), .bool ((S.end_ 14).p.haveIn), .bool ((S.end_ 14).p.crypt), .int .u64 (W64 (S.end_ 14).p.ltk), .int .i64 ((S.end_ 14).p.idn.adr.kind), .int .u64 (W64 (S.end_ 14).p.idn.adr.bits), .int .u64 (W64 (S.end_ 14).p.idn.irk), .int .i64 ((S.end_ 14).p.drawn), .int .i64 ((S.end_ 14).p.reason)] rfl Tryd.underlying37 rfl (by kernel_rfl)) (hK.out _ (Below.refl _ _))) ?_; simp only [nrm]
 refine wpU_p 4 hst ?_ (h0 := fun _ h => ⟨_, h⟩)
 refine wpU_p 5 hst ?_ (h0 := fun _ h => ⟨_, h⟩)
 refine wpU_p 6 hst ?_ (h0 := fun _ h => ⟨_, h⟩)
 refine wpU_take (v := ?_) 7 hst (fun _ h => ⟨(prL pr0).toArray, h⟩) rfl ?_ ?_; rotate_left; (intro W hS K hK; have ld : W.cell? ⟨gs, 118, none⟩ = some (u_34) := hS.choose_spec.b0.cell 118; clear hS; go_simp; exact hK.out _ (Below.refl _ _)); simp only [nrm]
 refine wpU_hole (S' := fun W => Mem w W base ((S.end_ 14).sent) ((S.end_ 14).told) v_33 u_34 ((gs, 109, (sdL (S.end_ 14) v_33 u_34).toArray) :: (g_7, 37, (prL (S.end_ 14).p).toArray) :: (g_1, 37, (prL p).toArray) :: [])) 8 (.agg #[.int .i64 ((S.end_ 14).p.cfg.role), .int .i64 ((S.end_ 14).p.cfg.feat.io), .bool ((S.end_ 14).p.cfg.feat.oob), .bool ((S.end_ 14).p.cfg.feat.bond), .bool ((S.end_ 14).p.cfg.feat.mitm), .bool ((S.end_ 14).p.cfg.feat.sid), .bool ((S.end_ 14).p.cfg.feat.tid), .int .i64 ((S.end_ 14).p.cfg.own.kind), .int .u64 (W64 (S.end_ 14).p.cfg.own.bits), .int .i64 ((S.end_ 14).p.cfg.peer.kind), .int .u64 (W64 (S.end_ 14).p.cfg.peer.bits), .int .i64 ((S.end_ 14).p.cfg.idn.adr.kind), .int .u64 (W64 (S.end_ 14).p.cfg.idn.adr.bits), .int .u64 (W64 (S.end_ 14).p.cfg.idn.irk), .int .u32 (W32 (S.end_ 14).p.cfg.secret), .int .u64 (W64 (S.end_ 14).p.cfg.seed), .int .u64 (W64 (S.end_ 14).p.cfg.mine), .int .u64 (W64 (S.end_ 14).p.cfg.oob.value), .int .u64 (W64 (S.end_ 14).p.cfg.oob.random), .int .i64 ((S.end_ 14).p.phase), .int .i64 ((S.end_ 14).p.since), .int .i64 ((S.end_ 14).p.method), .int .i64 ((S.end_ 14).p.peer.io), .bool ((S.end_ 14).p.peer.oob), .bool ((S.end_ 14).p.peer.bond), .bool ((S.end_ 14).p.peer.mitm), .bool ((S.end_ 14).p.peer.sid), .bool ((S.end_ 14).p.peer.tid), .int .i64 ((S.end_ 14).p.req.io), .bool ((S.end_ 14).p.req.oob), .bool ((S.end_ 14).p.req.bond), .bool ((S.end_ 14).p.req.mitm), .bool ((S.end_ 14).p.req.sid), .bool ((S.end_ 14).p.req.tid), .int .i64 ((S.end_ 14).p.res.io), .bool ((S.end_ 14).p.res.oob), .bool ((S.end_ 14).p.res.bond), .bool ((S.end_ 14).p.res.mitm), .bool ((S.end_ 14).p.res.sid), .bool ((S.end_ 14).p.res.tid), .int .u32 (W32 (S.end_ 14).p.peerKey), .int .u32 (W32 (S.end_ 14).p.shared), .int .u64 (W64 (S.end_ 14).p.nonce), .int .u64 (W64 (S.end_ 14).p.other), .int .u64 (W64 (S.end_ 14).p.commit), .bool ((S.end_ 14).p.have_), .int .i64 ((S.end_ 14).p.passkey), .int .i64 ((S.end_ 14).p.round), .bool ((S.end_ 14).p.agreed), .int .u64 (W64 (S.end_ 14).p.checkIn), .bool ((S.end_ 14).p.haveIn), .bool ((S.end_ 14).p.crypt), .int .u64 (W64 (S.end_ 14).p.ltk), .int .i64 ((S.end_ 14).p.idn.adr.kind), .int .u64 (W64 (S.end_ 14).p.idn.adr.bits), .int .u64 (W64 (S.end_ 14).p.idn.irk), .int .i64 ((S.end_ 14).p.drawn), .int .i64 ((S.end_ 14).p.reason)]) rfl rfl rfl rfl (fun W hS => by obtain ⟨w9, h1, h2⟩ := hS.swap.hole (P := Tryd.prog) (ty := 37) 0 #[.int .i64 ((S.end_ 14).p.cfg.role), .int .i64 ((S.end_ 14).p.cfg.feat.io), .bool ((S.end_ 14).p.cfg.feat.oob), .bool ((S.end_ 14).p.cfg.feat.bond), .bool ((S.end_ 14).p.cfg.feat.mitm), .bool ((S.end_ 14).p.cfg.feat.sid), .bool ((S.end_ 14).p.cfg.feat.tid), .int .i64 ((S.end_ 14).p.cfg.own.kind), .int .u64 (W64 (S.end_ 14).p.cfg.own.bits), .int .i64 ((S.end_ 14).p.cfg.peer.kind), .int .u64 (W64 (S.end_ 14).p.cfg.peer.bits), .int .i64 ((S.end_ 14).p.cfg.idn.adr.kind), .int .u64 (W64 (S.end_ 14).p.cfg.idn.adr.bits), .int .u64 (W64 (S.end_ 14).p.cfg.idn.irk), .int .u32 (W32 (S.end_ 14).p.cfg.secret), .int .u64 (W64 (S.end_ 14).p.cfg.seed), .int .u64 (W64 (S.end_ 14).p.cfg.mine), .int .u64 (W64 (S.end_ 14).p.cfg.oob.value), .int .u64 (W64 (S.end_ 14).p.cfg.oob.random), .int .i64 ((S.end_ 14).p.phase), .int .i64 ((S.end_ 14).p.since), .int .i64 ((S.end_ 14).p.method), .int .i64 ((S.end_ 14).p.peer.io), .bool ((S.end_ 14).p.peer.oob), .bool ((S.end_ 14).p.peer.bond), .bool ((S.end_ 14).p.peer.mitm), .bool ((S.end_ 14).p.peer.sid), .bool ((S.end_ 14).p.peer.tid), .int .i64 ((S.end_ 14).p.req.io), .bool ((S.end_ 14).p.req.oob), .bool ((S.end_ 14).p.req.bond), .bool ((S.end_ 14).p.req.mitm), .bool ((S.end_ 14).p.req.sid), .bool ((S.end_ 14).p.req.tid), .int .i64 ((S.end_ 14).p.res.io), .bool ((S.end_ 14).p.res.oob), .bool ((S.end_ 14).p.res.bond), .bool ((S.end_ 14).p.res.mitm), .bool ((S.end_ 14).p.res.sid), .bool ((S.end_ 14).p.res.tid), .int .u32 (W32 (S.end_ 14).p.peerKey), .int .u32 (W32 (S.end_ 14).p.shared), .int .u64 (W64 (S.end_ 14).p.nonce), .int .u64 (W64 (S.end_ 14).p.other), .int .u64 (W64 (S.end_ 14).p.commit), .bool ((S.end_ 14).p.have_), .int .i64 ((S.end_ 14).p.passkey), .int .i64 ((S.end_ 14).p.round), .bool ((S.end_ 14).p.agreed), .int .u64 (W64 (S.end_ 14).p.checkIn), .bool ((S.end_ 14).p.haveIn), .bool ((S.end_ 14).p.crypt), .int .u64 (W64 (S.end_ 14).p.ltk), .int .i64 ((S.end_ 14).p.idn.adr.kind), .int .u64 (W64 (S.end_ 14).p.idn.adr.bits), .int .u64 (W64 (S.end_ 14).p.idn.irk), .int .i64 ((S.end_ 14).p.drawn), .int .i64 ((S.end_ 14).p.reason)] (prL (S.end_ 14).p).toArray (by kernel_rfl) rfl (of_decide_eq_true rfl) (by kernel_rfl); exact ⟨w9, h1, h2.swap⟩) (stable_mem _ _ _ _ _ _ _) (fun W h => ⟨(prL (S.end_ 14).p).toArray, h⟩) ?_; simp only [nrm]
 clear hst
 have hst : Stable fun W => Mem w W base ((S.end_ 14).sent) ((S.end_ 14).told) v_33 u_34 ((gs, 109, (sdL (S.end_ 14) v_33 u_34).toArray) :: (g_7, 37, (prL (S.end_ 14).p).toArray) :: (g_1, 37, (prL p).toArray) :: []) := stable_mem _ _ _ _ _ _ _
 refine wpU_p 9 hst ?_ (h0 := fun _ h => ⟨(prL (S.end_ 14).p).toArray, h⟩)
 refine wpU_done (fun w_36 hS => ?_)
 have HM := hS
 clear hst
 go_wp2_with (with_reducible refine so ?_)
 refine bodyPost_ret (results_ct rfl rfl (load_blk HM.b1 Tryd.underlying37 rfl (by kernel_rfl))) rfl ?_
 have q0 := kc_16.out
 have q1 := kc_19.out
 have q2 := kc_22.out
 have q3 := kc_25.out
 have eo : expP p now = ((S.end_ 14).p, (S.end_ 14).told) := by subst hSd; unfold expP; dsimp only [handleK] at *; split <;> first | rfl | (exfalso; omega) | (split <;> first | rfl | (exfalso; omega))
 rw [eo]
 unfold OutE; rw [hbs]; exact ⟨_, rfl, HM.below, HM.told⟩
end Go.Proofs.YtihmbcnccdiecaaDoor
namespace Go.Proofs.YtihmbcnccdiecaaDoor
set_option maxRecDepth 100000
open Go.ChangeShapes Go.WideShapes Go.ChangeAt Go.RowKit
set_option linter.unusedVariables false
set_option linter.unusedSimpArgs false
def opL (x : Op38) : List Value := [.int .i64 x.kind, .int .i64 x.pdu.kind, .int .i64 x.pdu.feat.io, .bool x.pdu.feat.oob, .bool x.pdu.feat.bond, .bool x.pdu.feat.mitm, .bool x.pdu.feat.sid, .bool x.pdu.feat.tid, .int .u32 (W32 x.pdu.pub), .int .u64 (W64 x.pdu.value), .int .i64 x.pdu.idn.adr.kind, .int .u64 (W64 x.pdu.idn.adr.bits), .int .u64 (W64 x.pdu.idn.irk), .int .i64 x.pdu.reason, .int .i64 x.answer, .int .i64 x.now]
theorem opL_len (x : Op38) : (opL x).length = 16 := rfl
def opR (r : R_op38) : Op38 := ⟨r.kind, ⟨r.pdu_kind, ⟨r.pdu_feat_io, r.pdu_feat_oob, r.pdu_feat_bond, r.pdu_feat_mitm, r.pdu_feat_sid, r.pdu_feat_tid⟩, r.pdu_pub, r.pdu_value, ⟨⟨r.pdu_idn_adr_kind, r.pdu_idn_adr_bits⟩, r.pdu_idn_irk⟩, r.pdu_reason⟩, r.answer, r.now⟩
theorem ops_cells (rs : List R_op38) : rs.flatMap R_op38.cells = (rs.map opR).flatMap opL := by rw [List.flatMap_map]; rfl
def actP (p : Pr) (x : Op38) : Acted :=
  if x.kind = 0 then ⟨(startP p x.now).1, (startP p x.now).2.1, [], (startP p x.now).2.2⟩
  else if x.kind = 1 then ⟨(handleP p x.pdu x.now).1, (handleP p x.pdu x.now).2.1, (handleP p x.pdu x.now).2.2, 0⟩
  else if x.kind = 2 then ⟨(userP p x.answer x.now).1, (userP p x.answer x.now).2.1, (userP p x.answer x.now).2.2, 0⟩
  else if x.kind = 3 then ⟨(encP p x.now).1, (encP p x.now).2.1, (encP p x.now).2.2, 0⟩
  else ⟨(expP p x.now).1, [], (expP p x.now).2, 0⟩
section
theorem results_cttt {P : Program} {fn : Func} {s u u2 u3 : Tmp} {t : TypeId} {tmps : Array Value} {ad : Addr} {v : Value} {w : World} (h : fn.results = #[.cell s t, .tmp u, .tmp u2, .tmp u3]) (hs : tmps.getD s undef = .pointer (some ad)) (hl : (loadVar t ad).run P w = .ok v w) :
    (results fn tmps).run P w = .ok (.tuple #[v, tmps.getD u undef, tmps.getD u2 undef, tmps.getD u3 undef]) w := by
  have hs' : tmps[s]?.getD undef = .pointer (some ad) := by simpa using hs
  simp [results, h, hs', hl, asAddr]
end
def OutM (w w' : World) (q : Pr) (out : List Sec) (ev : List Evt) (er : Int) (e : Ending) : Prop :=
  ∃ A1 c1 A2 c2, e = .returned (.tuple #[.agg (prL q).toArray, .slice A1 out.length c1, .slice A2 ev.length c2, .int .i64 er]) ∧ MR w w' w.heap.size [rwS (.slice A1 out.length c1) out, rwE (.slice A2 ev.length c2) ev] []
set_option maxHeartbeats 2000000 in
theorem act_all (p : Pr) (x : Op38) (w : World) (HL : Laid w) (hiv : Inv p) :
  Calls Tryd.prog 10 #[.agg (prL p).toArray, .agg (opL x).toArray] w (fun e w' => OutM w w' (actP p x).p (actP p x).out (actP p x).ev (actP p x).er e) := by
 have HM := MR.start HL
 obtain ⟨base, hbs⟩ : ∃ b, w.heap.size = b := ⟨_, rfl⟩
 rw [hbs] at HM
 have hi := Lib.hid hiv
 clear hiv
 go_enter Tryd.func10, Tryd.ntmps10
 go_wp2_with (with_reducible refine so ?_)
 refine HM.nw (ty := 37) (cs := (prL p).toArray) ?_; clear HM; intro g_1 w_2 HM
 go_wp2_with (with_reducible refine so ?_)
 refine HM.nw (ty := 45) (cs := (opL x).toArray) ?_; clear HM; intro g_7 w_8 HM
 go_wp2_with (with_reducible refine so ?_)
 refine HM.nw (ty := 37) (cs := (prL pr0).toArray) ?_; clear HM; intro g_13 w_14 HM
 by_cases hc_19 : (x.kind : Int) = 0
 ·
  obtain ⟨ec_19, ec_19n, kc_19⟩ := fT hc_19; clear hc_19
  have ld_24 := HM.b1.c 0 (.int .i64 x.kind)
  have ld_26 := HM.b1.c 15 (.int .i64 x.now)
  go_wp2_with (first | (with_reducible refine so ?_) | (with_reducible refine ld 0 (prL p) HM.b2 Tryd.underlying37 ?_))
  refine (pa_Start p x.now _ HM.laid hi.out.round.1 (by have := hi.out.round.2; omega)).mono ?_; rintro e w_27 ⟨vo, rfl, hb_28, ho⟩
  clear ld_24 ld_26
  obtain ⟨A_20, c_21, rfl⟩ := own_slice_of ho
  replace HM := HM.join hb_28 ho (ev := []) (World.ownsRow_nil _ _ _ _); clear hb_28 ho
  dsimp only [List.cons_append, List.nil_append] at HM
  go_wp2_with (with_reducible refine so ?_)
  refine HM.nw (ty := 37) (cs := (prL pr0).toArray) ?_; clear HM; intro g_29 w_30 HM
  go_wp2_with (with_reducible refine so ?_)
  refine sv (prL ((startP p x.now).1)).toArray HM.b0 ?_
  intro w_35 G_37 hU_36
  replace HM := HM.s0 hU_36 G_37
  clear hU_36 G_37
  go_wp2_with (first | (with_reducible refine so ?_) | (with_reducible refine ld 0 (prL ((startP p x.now).1)) HM.b0 Tryd.underlying37 ?_))
  refine sv (prL ((startP p x.now).1)).toArray HM.b1 ?_
  intro w_39 G_41 hU_40
  replace HM := HM.s1 hU_40 G_41
  clear hU_40 G_41
  go_wp2_with (with_reducible refine so ?_)
  refine bodyPost_ret (results_cttt rfl rfl (load_blk HM.b1 Tryd.underlying37 rfl (by kernel_rfl))) rfl ?_
  have q0 := kc_19.out
  have es : actP p x = ⟨(startP p x.now).1, (startP p x.now).2.1, [], (startP p x.now).2.2⟩ := by unfold actP; simp [q0]
  unfold OutM; rw [es, hbs]; exact ⟨_, _, _, _, rfl, HM.nob⟩
 obtain ⟨ec_19, ec_19n, kc_19⟩ := fF hc_19; clear hc_19
 by_cases hc_42 : (x.kind : Int) = 1
 ·
  obtain ⟨ec_42, ec_42n, kc_42⟩ := fT hc_42; clear hc_42
  have ld_47 := HM.b1.c 0 (.int .i64 x.kind)
  have ld_50 := HM.b1.c 15 (.int .i64 x.now)
  go_wp2_with (first | (with_reducible refine so ?_) | (with_reducible refine ld 0 (prL p) HM.b2 Tryd.underlying37 ?_) | (with_reducible refine ld 1 (secL x.pdu) HM.b1 Tryd.underlying43 ?_))
  refine (pa_Handle p x.pdu x.now _ HM.laid hi.out.round.1 (by have := hi.out.round.2; omega)).mono ?_; rintro e w_51 ⟨vo, ve, rfl, hb_52, ho, he⟩
  clear ld_47 ld_50
  obtain ⟨A_43, c_44, rfl⟩ := own_slice_of ho
  obtain ⟨A_45, c_46, rfl⟩ := own_slice_of he
  replace HM := HM.join hb_52 ho he; clear hb_52 ho he
  dsimp only [List.cons_append, List.nil_append] at HM
  go_wp2_with (with_reducible refine so ?_)
  refine HM.nw (ty := 37) (cs := (prL pr0).toArray) ?_; clear HM; intro g_53 w_54 HM
  go_wp2_with (with_reducible refine so ?_)
  refine sv (prL ((handleP p x.pdu x.now).1)).toArray HM.b0 ?_
  intro w_59 G_61 hU_60
  replace HM := HM.s0 hU_60 G_61
  clear hU_60 G_61
  go_wp2_with (first | (with_reducible refine so ?_) | (with_reducible refine ld 0 (prL ((handleP p x.pdu x.now).1)) HM.b0 Tryd.underlying37 ?_))
  refine sv (prL ((handleP p x.pdu x.now).1)).toArray HM.b1 ?_
  intro w_63 G_65 hU_64
  replace HM := HM.s1 hU_64 G_65
  clear hU_64 G_65
  go_wp2_with (with_reducible refine so ?_)
  refine bodyPost_ret (results_cttt rfl rfl (load_blk HM.b1 Tryd.underlying37 rfl (by kernel_rfl))) rfl ?_
  have q0 := kc_19.out
  have q1 := kc_42.out
  have es : actP p x = ⟨(handleP p x.pdu x.now).1, (handleP p x.pdu x.now).2.1, (handleP p x.pdu x.now).2.2, 0⟩ := by unfold actP; simp [q0, q1]
  unfold OutM; rw [es, hbs]; exact ⟨_, _, _, _, rfl, HM.nob⟩
 obtain ⟨ec_42, ec_42n, kc_42⟩ := fF hc_42; clear hc_42
 by_cases hc_66 : (x.kind : Int) = 2
 ·
  obtain ⟨ec_66, ec_66n, kc_66⟩ := fT hc_66; clear hc_66
  have ld_71 := HM.b1.c 0 (.int .i64 x.kind)
  have ld_73 := HM.b1.c 14 (.int .i64 x.answer)
  have ld_74 := HM.b1.c 15 (.int .i64 x.now)
  go_wp2_with (first | (with_reducible refine so ?_) | (with_reducible refine ld 0 (prL p) HM.b2 Tryd.underlying37 ?_))
  refine (pa_User p x.answer x.now _ HM.laid hi.out.round.1 (by have := hi.out.round.2; omega)).mono ?_; rintro e w_75 ⟨vo, ve, rfl, hb_76, ho, he⟩
  clear ld_71 ld_73 ld_74
  obtain ⟨A_67, c_68, rfl⟩ := own_slice_of ho
  obtain ⟨A_69, c_70, rfl⟩ := own_slice_of he
  replace HM := HM.join hb_76 ho he; clear hb_76 ho he
  dsimp only [List.cons_append, List.nil_append] at HM
  go_wp2_with (with_reducible refine so ?_)
  refine HM.nw (ty := 37) (cs := (prL pr0).toArray) ?_; clear HM; intro g_77 w_78 HM
  go_wp2_with (with_reducible refine so ?_)
  refine sv (prL ((userP p x.answer x.now).1)).toArray HM.b0 ?_
  intro w_83 G_85 hU_84
  replace HM := HM.s0 hU_84 G_85
  clear hU_84 G_85
  go_wp2_with (first | (with_reducible refine so ?_) | (with_reducible refine ld 0 (prL ((userP p x.answer x.now).1)) HM.b0 Tryd.underlying37 ?_))
  refine sv (prL ((userP p x.answer x.now).1)).toArray HM.b1 ?_
  intro w_87 G_89 hU_88
  replace HM := HM.s1 hU_88 G_89
  clear hU_88 G_89
  go_wp2_with (with_reducible refine so ?_)
  refine bodyPost_ret (results_cttt rfl rfl (load_blk HM.b1 Tryd.underlying37 rfl (by kernel_rfl))) rfl ?_
  have q0 := kc_19.out
  have q1 := kc_42.out
  have q2 := kc_66.out
  have es : actP p x = ⟨(userP p x.answer x.now).1, (userP p x.answer x.now).2.1, (userP p x.answer x.now).2.2, 0⟩ := by unfold actP; simp [q0, q1, q2]
  unfold OutM; rw [es, hbs]; exact ⟨_, _, _, _, rfl, HM.nob⟩
 obtain ⟨ec_66, ec_66n, kc_66⟩ := fF hc_66; clear hc_66
 by_cases hc_90 : (x.kind : Int) = 3
 ·
  obtain ⟨ec_90, ec_90n, kc_90⟩ := fT hc_90; clear hc_90
  have ld_95 := HM.b1.c 0 (.int .i64 x.kind)
  have ld_97 := HM.b1.c 15 (.int .i64 x.now)
  go_wp2_with (first | (with_reducible refine so ?_) | (with_reducible refine ld 0 (prL p) HM.b2 Tryd.underlying37 ?_))
  refine (pa_Encrypted p x.now _ HM.laid hi.out.round.1 (by have := hi.out.round.2; omega)).mono ?_; rintro e w_98 ⟨vo, ve, rfl, hb_99, ho, he⟩
  clear ld_95 ld_97
  obtain ⟨A_91, c_92, rfl⟩ := own_slice_of ho
  obtain ⟨A_93, c_94, rfl⟩ := own_slice_of he
  replace HM := HM.join hb_99 ho he; clear hb_99 ho he
  dsimp only [List.cons_append, List.nil_append] at HM
  go_wp2_with (with_reducible refine so ?_)
  refine HM.nw (ty := 37) (cs := (prL pr0).toArray) ?_; clear HM; intro g_100 w_101 HM
  go_wp2_with (with_reducible refine so ?_)
  refine sv (prL ((encP p x.now).1)).toArray HM.b0 ?_
  intro w_106 G_108 hU_107
  replace HM := HM.s0 hU_107 G_108
  clear hU_107 G_108
  go_wp2_with (first | (with_reducible refine so ?_) | (with_reducible refine ld 0 (prL ((encP p x.now).1)) HM.b0 Tryd.underlying37 ?_))
  refine sv (prL ((encP p x.now).1)).toArray HM.b1 ?_
  intro w_110 G_112 hU_111
  replace HM := HM.s1 hU_111 G_112
  clear hU_111 G_112
  go_wp2_with (with_reducible refine so ?_)
  refine bodyPost_ret (results_cttt rfl rfl (load_blk HM.b1 Tryd.underlying37 rfl (by kernel_rfl))) rfl ?_
  have q0 := kc_19.out
  have q1 := kc_42.out
  have q2 := kc_66.out
  have q3 := kc_90.out
  have es : actP p x = ⟨(encP p x.now).1, (encP p x.now).2.1, (encP p x.now).2.2, 0⟩ := by unfold actP; simp [q0, q1, q2, q3]
  unfold OutM; rw [es, hbs]; exact ⟨_, _, _, _, rfl, HM.nob⟩
 obtain ⟨ec_90, ec_90n, kc_90⟩ := fF hc_90; clear hc_90
 have ld_117 := HM.b1.c 0 (.int .i64 x.kind)
 have ld_119 := HM.b1.c 15 (.int .i64 x.now)
 go_wp2_with (first | (with_reducible refine so ?_) | (with_reducible refine ld 0 (prL p) HM.b2 Tryd.underlying37 ?_))
 refine (pa_Expire p x.now _ HM.laid hi.out.round.1 (by have := hi.out.round.2; omega) hi.out.since.1 hi.out.since.2).mono ?_; rintro e w_120 ⟨ve, rfl, hb_121, he⟩
 clear ld_117 ld_119
 obtain ⟨A_115, c_116, rfl⟩ := own_slice_of he
 replace HM := HM.join hb_121 (out := []) (World.ownsRow_nil _ _ _ _) he; clear hb_121 he
 dsimp only [List.cons_append, List.nil_append] at HM
 go_wp2_with (with_reducible refine so ?_)
 refine HM.nw (ty := 37) (cs := (prL pr0).toArray) ?_; clear HM; intro g_122 w_123 HM
 go_wp2_with (with_reducible refine so ?_)
 refine sv (prL ((expP p x.now).1)).toArray HM.b0 ?_
 intro w_128 G_130 hU_129
 replace HM := HM.s0 hU_129 G_130
 clear hU_129 G_130
 go_wp2_with (first | (with_reducible refine so ?_) | (with_reducible refine ld 0 (prL ((expP p x.now).1)) HM.b0 Tryd.underlying37 ?_))
 refine sv (prL ((expP p x.now).1)).toArray HM.b1 ?_
 intro w_132 G_134 hU_133
 replace HM := HM.s1 hU_133 G_134
 clear hU_133 G_134
 go_wp2_with (with_reducible refine so ?_)
 refine bodyPost_ret (results_cttt rfl rfl (load_blk HM.b1 Tryd.underlying37 rfl (by kernel_rfl))) rfl ?_
 have q0 := kc_19.out
 have q1 := kc_42.out
 have q2 := kc_66.out
 have q3 := kc_90.out
 have es : actP p x = ⟨(expP p x.now).1, [], (expP p x.now).2, 0⟩ := by unfold actP; simp [q0, q1, q2, q3]
 unfold OutM; rw [es, hbs]; exact ⟨_, _, _, _, rfl, HM.nob⟩
end Go.Proofs.YtihmbcnccdiecaaDoor
namespace Go.Proofs.YtihmbcnccdiecaaDoor
set_option maxRecDepth 100000
open Go.ChangeShapes Go.WideShapes Go.ChangeAt Go.RowKit
set_option linter.unusedVariables false
set_option linter.unusedSimpArgs false
theorem act_inv {p : Pr} (x : Op38) (hi : Inv p) (h0 : 0 ≤ x.now) (h1 : x.now ≤ 1099511627776) : Inv (actP p x).p := by
  unfold actP
  by_cases k0 : x.kind = 0
  · rw [if_pos k0]; exact inv_start hi ⟨h0, h1⟩
  rw [if_neg k0]
  by_cases k1 : x.kind = 1
  · rw [if_pos k1]; exact inv_handle x.pdu hi ⟨h0, h1⟩
  rw [if_neg k1]
  by_cases k2 : x.kind = 2
  · rw [if_pos k2]; exact inv_user x.answer hi ⟨h0, h1⟩
  rw [if_neg k2]
  by_cases k3 : x.kind = 3
  · rw [if_pos k3]; exact inv_enc hi ⟨h0, h1⟩
  rw [if_neg k3]
  exact inv_exp hi ⟨h0, h1⟩
theorem act_ends {p : Pr} (x : Op38) (hi : Inv p) (h7 : 7 ≤ p.phase) : ∃ er, actP p x = ⟨p, [], [], er⟩ := by
  unfold actP
  by_cases k0 : x.kind = 0
  · rw [if_pos k0, ends_start p x.now h7]; exact ⟨_, rfl⟩
  rw [if_neg k0]
  by_cases k1 : x.kind = 1
  · rw [if_pos k1, ends_handle p x.pdu x.now h7]; exact ⟨_, rfl⟩
  rw [if_neg k1]
  by_cases k2 : x.kind = 2
  · rw [if_pos k2, ends_user p x.answer x.now h7]; exact ⟨_, rfl⟩
  rw [if_neg k2]
  by_cases k3 : x.kind = 3
  · rw [if_pos k3, ends_enc p x.now h7]; exact ⟨_, rfl⟩
  rw [if_neg k3, ends_exp p x.now h7 hi.ph.2]
  exact ⟨_, rfl⟩
theorem act_len (p : Pr) (x : Op38) (a : Acted) (ha : actP p x = a) (hi : Inv p) (w : World) (HL : Laid w) : Calls Tryd.prog 10 #[.agg (prL p).toArray, .agg (opL x).toArray] w fun e w' => ∃ A1 c1 A2 c2, e = .returned (.tuple #[.agg (prL a.p).toArray, .slice A1 a.out.length c1, .slice A2 a.ev.length c2, .int .i64 a.er]) ∧ Below w.heap.size w w' := by
  refine (act_all p x w HL hi).mono ?_
  rintro e w' ⟨A1, c1, A2, c2, rfl, hm⟩
  rw [ha]
  exact ⟨A1, c1, A2, c2, rfl, hm.below⟩
theorem ops_ne {rs : List Op38} (h : rs ≠ []) : rs.flatMap opL ≠ [] := by
  cases rs with
  | nil => exact absurd rfl h
  | cons c l => simp [opL]
set_option maxHeartbeats 4000000 in
theorem ends_ok (c : Cfg) (A : Option Addr) (cap : Nat) (rs : List Op38) (w : World) (HL : Laid w) (hC : Rd w A (rs.flatMap opL)) (hn : (newP c).2 = 0) :
  Calls Tryd.prog 3 #[.agg (cfgL c).toArray, .slice A rs.length cap] w (fun e w' => e = .returned (.bool true) ∧ Below w.heap.size w w') := by
 have HM := MR.start HL
 have HLT : rs ≠ [] → ∀ ad, A = some ad → ad.block < w.heap.size := fun hl ad ha => rd_lt hC (ops_ne hl) ad ha
 obtain ⟨base, hbs⟩ : ∃ b, w.heap.size = b := ⟨_, rfl⟩
 rw [hbs] at HM HLT
 have HC := Lib.hid hC
 have HLB := Lib.hid HLT
 have hbs1 := Lib.hid hbs
 have HN := Lib.hid hn
 clear hn hC HL hbs HLT
 go_enter Tryd.func3, Tryd.ntmps3
 go_wp2_with (with_reducible refine so ?_)
 refine HM.nw (ty := 34) (cs := (cfgL c).toArray) ?_; clear HM; intro g_1 w_2 HM
 go_wp2_with (first | (with_reducible refine so ?_) | (with_reducible refine ld 0 (cfgL c) HM.b0 Tryd.underlying34 ?_))
 refine (pa_New_ok c HN.out _ HM.laid).mono ?_; rintro e w_8 ⟨rfl, hb_9⟩
 replace HM := HM.to hb_9
 clear hb_9
 go_wp2_with (with_reducible refine so ?_)
 refine HM.nw (ty := 37) (cs := (prL pr0).toArray) ?_; clear HM; intro g_10 w_11 HM
 go_wp2_with (with_reducible refine so ?_)
 refine sv (prL (begunP c)).toArray HM.b0 ?_
 intro w_16 G_18 hU_17
 replace HM := HM.s0 hU_17 G_18
 clear hU_17 G_18
 by_cases hc_19 : (150 : Int) < ((rs.length : Nat) : Int)
 ·
  obtain ⟨ec_19m, ec_19, ec_19n, kc_19⟩ := lT hc_19; clear hc_19
  go_wp2_with (with_reducible refine so ?_)
  refine (lives38 _ HM.laid).mono ?_; rintro e w_20 ⟨rfl, hb_21⟩
  replace HM := HM.to hb_21
  clear hb_21
  go_wp2_with (with_reducible refine so ?_)
  go_returns
  refine ⟨?_, by first | exact HM.below | (rw [hbs1.out]; exact HM.below)⟩
  rfl
 obtain ⟨ec_19m, ec_19, ec_19n, kc_19⟩ := lF hc_19; clear hc_19
 go_wp2_with (with_reducible refine so ?_)
 try simp only [nrm]
 go_loopw [7, 8] (fun i7 i8 wr => ∃ (k : Nat) (p : Pr) (now : Int), k ≤ rs.length ∧ i7 = .int .i64 now ∧ i8 = .int .i64 k ∧ Inv p ∧ 0 ≤ now ∧ now ≤ 1099511627776 ∧ MR w wr base ([]) ((g_10, 37, (prL p).toArray) :: (g_1, 34, (cfgL c).toArray) :: [])) (fun _ j _ => rs.length - (intOf j).toNat)
 case atStart => exact ⟨0, begunP c, 0, Nat.zero_le _, rfl, rfl, inv_begun c HN.out, Int.le_refl 0, by decide, HM⟩
 case round =>
  clear HM 
  obtain ⟨k, p, now, hk0, rfl, rfl, hi, hn0, hn1, HM⟩ := hrel
  have HI := Lib.hid hi; clear hi
  rcases (show (k < rs.length ∧ p.phase < 7) ∨ (k < rs.length ∧ 7 ≤ p.phase) ∨ ¬ k < rs.length by omega) with ⟨hlt, h7⟩ | ⟨hlt, h7⟩ | hlt
  ·
   obtain ⟨x, hx⟩ : ∃ x, rs[k] = x := ⟨_, rfl⟩
   have hrn : rs ≠ [] := by rintro rfl; simp at hlt
   have hr := HC.out.low HM.below (HLB.out hrn)
   obtain ⟨bk, off, rfl, hrow⟩ := srow_open opL_len (by decide) hr k hlt
   rw [hx] at hrow
   have hbc : bk < base := HLB.out hrn _ rfl
   have HE : Rg bk (off + k * 16) (opL x) wr := ⟨Nat.lt_of_lt_of_le hbc HM.low, hrow wr (Below.refl _ _)⟩
   clear hrow hr hx
   obtain ⟨X, hX⟩ : ∃ X, actP p x = X := ⟨_, rfl⟩
   have HX := Lib.hid hX
   clear hX
   have i1 : decide ((k : Int) < ((rs.length : Nat) : Int)) = true := by simp; exact hlt
   have i2 : decide (k < rs.length) = true := decide_eq_true hlt
   have e7 : decide (p.phase < 7) = true := decide_eq_true h7
   have e7n : decide ((7 : Int) ≤ p.phase) = false := decide_eq_false (by omega)
   clear h7
   by_cases hc_22 : (x.now : Int) < now
   ·
    obtain ⟨ec_22m, ec_22, ec_22n, kc_22⟩ := lT hc_22; clear hc_22
    have ld_23 : wr.cell? ⟨bk, off + k * 16 + 15, none⟩ = some (.int .i64 x.now) := HE.2 15 _ rfl
    go_wp2_with (with_reducible refine so ?_)
    clear ld_23
    go_roundw
    case rel => exact ⟨k + 1, p, now, by omega, rfl, by go_num, HI.out, hn0, hn1, HM⟩
    case measure => simp [intOf]; omega
   obtain ⟨ec_22m, ec_22, ec_22n, kc_22⟩ := lF hc_22; clear hc_22
   by_cases hc_24 : (1099511627776 : Int) < x.now
   ·
    obtain ⟨ec_24m, ec_24, ec_24n, kc_24⟩ := lT hc_24; clear hc_24
    have ld_25 : wr.cell? ⟨bk, off + k * 16 + 15, none⟩ = some (.int .i64 x.now) := HE.2 15 _ rfl
    go_wp2_with (with_reducible refine so ?_)
    clear ld_25
    go_roundw
    case rel => exact ⟨k + 1, p, now, by omega, rfl, by go_num, HI.out, hn0, hn1, HM⟩
    case measure => simp [intOf]; omega
   obtain ⟨ec_24m, ec_24, ec_24n, kc_24⟩ := lF hc_24; clear hc_24
   have ld_26 : wr.cell? ⟨bk, off + k * 16 + 15, none⟩ = some (.int .i64 x.now) := HE.2 15 _ rfl
   go_wp2_with (with_reducible refine so ?_)
   clear ld_26
   try simp only [nrm]
   go_cut [9, 10, 11, 12] from 83 (fun v9 v10 v11 v12 WX => ∃ (g_27 : Nat) (A_28 : Option Addr) (c_29 : Nat) (A_30 : Option Addr) (c_31 : Nat), v9 = .pointer (some ⟨g_27, 0, none⟩) ∧ v10 = .slice A_28 X.out.length c_29 ∧ v11 = .slice A_30 X.ev.length c_31 ∧ v12 = .int .i64 X.er ∧ MR w WX base ([]) ((g_27, 37, (prL X.p).toArray) :: (g_10, 37, (prL p).toArray) :: (g_1, 34, (cfgL c).toArray) :: []))
   case first =>
    go_wp2_with (with_reducible refine so ?_)
    try simp only [nrm]
    have hst : Stable fun W => Below wr.heap.size wr W := stable_below _ _ (Nat.le_refl _)
    refine wp_region_v (fun W => Below wr.heap.size wr W) 16 hst (Below.refl _ _).drew ?_
    refine wpU_l 0 0 (prL p) (fun W hS => (HM.to hS).b0) Tryd.underlying37 hst ?_
    refine wpU_p 1 hst ?_
    refine wpU_p 2 hst ?_
    refine wpU_p 3 hst ?_
    refine wpU_take (v := .agg (opL x).toArray) 4 hst (fun _ h => h) rfl (fun W hS K hK => calm_load rfl rfl (run_loadVar_mid W bk (off + k * 16) 45 (opL x) _ (range_part (Rg.to HE hS).2 0 (opL x) rfl) Tryd.underlying45 rfl (by kernel_rfl)) (hK.out _ (Below.refl _ _))) ?_; simp only [nrm]
    refine wpV_two 5 11 hst rfl rfl ?_ ?_
    ·
     intro W hS K hK
     go_simp; refine (act_len p x X HX.out HI.out W (HM.to hS).laid).mono ?_; rintro e w9 ⟨A1, c1, A2, c2, rfl, hb⟩
     refine hK.out (fun W => True) _ _ (stable_const True) hb trivial (fun hst => ?_)
     clear hK K hb
     try simp only [nrm]
     clear hS
     refine wpU_p 6 hst ?_
     refine wpU_p 7 hst ?_
     refine wpU_p 8 hst ?_
     refine wpU_p 9 hst ?_
     refine wpU_p 10 hst ?_
     refine wpV_new 11 hst rfl ?_; intro W hS K hK
     rw [if_pos (show Region.wanted _ _ = true from rfl)]
     refine op_new (ty := 37) (cs := (prL pr0).toArray) (fun g => .pointer (some ⟨g, 0, none⟩)) (by kernel_rfl) (fun gg W2 z lg hb G => ?_)
     refine hK.out (fun W => wr.heap.size ≤ gg ∧ ∃ cs, cs.size = 58 ∧ Blk W gg 37 cs) _ _ (stable_some _ _ _ _) hb ⟨Nat.le_trans hS.1.size lg, _, rfl, G⟩ (fun hst => ?_)
     clear hK K hb lg z G
     try simp only [nrm]
     clear hS
     refine wpU_one 12 rfl (fun W hS K hK => ?_)
     rw [if_pos (show Region.wanted _ _ = true from rfl)]
     obtain ⟨⟨hS1, _⟩, hg, cs, hcs, hG⟩ := hS
     obtain ⟨W2, hrun, hG2, hU⟩ := store_all (P := Tryd.prog) (ty := 37) (vs := prL X.p) hG hcs (by kernel_rfl) rfl
     refine op_store rfl rfl rfl hrun ?_
     refine hK.out _ (fun W => Below wr.heap.size wr W ∧ wr.heap.size ≤ gg ∧ Blk W gg 37 (prL X.p).toArray) _ _ (fun W h => ⟨⟨h.1, trivial⟩, h.2.1, _, rfl, h.2.2⟩) (stable_and (stable_below _ _ (Nat.le_refl _)) (stable_and (stable_const _) (stable_blk _ _ _))) (fun _ h => h) ⟨hU.below hS1 hg, hg, hG2⟩ ?_
     clear hK K hrun hG2 hU hG hcs cs hS1 hst; have hst : Stable fun W => Below wr.heap.size wr W ∧ wr.heap.size ≤ gg ∧ Blk W gg 37 (prL X.p).toArray := stable_and (stable_below _ _ (Nat.le_refl _)) (stable_and (stable_const _) (stable_blk _ _ _)); try simp only [nrm]
     refine wpU_p 13 hst ?_
     refine wpU_p 14 hst ?_
     refine wpU_p 15 hst ?_
     refine wpU_done (fun W5 hS => ?_)
     obtain ⟨hS1, hg2, hG⟩ := hS
     replace HM := HM.alloc hg2 hS1 hG; clear hst
     go_wp2_with fail
     go_meet
     case rel => exact ⟨gg, A1, c1, A2, c2, rfl, rfl, rfl, rfl, HM⟩
    intro W hS K hK
    rw [if_pos (show Region.wanted _ _ = true from rfl)]
    refine op_new (ty := 37) (cs := (prL pr0).toArray) (fun g => .pointer (some ⟨g, 0, none⟩)) (by kernel_rfl) (fun gg W2 z lg hb G => ?_)
    refine hK.out (fun W => wr.heap.size ≤ gg ∧ ∃ cs, cs.size = 58 ∧ Blk W gg 37 cs) _ _ (stable_some _ _ _ _) hb ⟨Nat.le_trans hS.size lg, _, rfl, G⟩ (fun hst => ?_)
    clear hK K hb lg z G
    try simp only [nrm]
    clear hS
    refine wpV_new 5 hst rfl ?_; intro W hS K hK
    go_simp; refine (act_len p x X HX.out HI.out W (HM.to hS.1).laid).mono ?_; rintro e w9 ⟨A1, c1, A2, c2, rfl, hb⟩
    refine hK.out (fun W => True) _ _ (stable_const True) hb trivial (fun hst => ?_)
    clear hK K hb
    try simp only [nrm]
    clear hS
    refine wpU_p 6 hst ?_
    refine wpU_p 7 hst ?_
    refine wpU_p 8 hst ?_
    refine wpU_p 9 hst ?_
    refine wpU_p 10 hst ?_
    refine wpU_one 12 rfl (fun W hS K hK => ?_)
    rw [if_pos (show Region.wanted _ _ = true from rfl)]
    obtain ⟨⟨hS1, hg, cs, hcs, hG⟩, _⟩ := hS
    obtain ⟨W2, hrun, hG2, hU⟩ := store_all (P := Tryd.prog) (ty := 37) (vs := prL X.p) hG hcs (by kernel_rfl) rfl
    refine op_store rfl rfl rfl hrun ?_
    refine hK.out _ (fun W => Below wr.heap.size wr W ∧ wr.heap.size ≤ gg ∧ Blk W gg 37 (prL X.p).toArray) _ _ (fun W h => ⟨⟨h.1, h.2.1, _, rfl, h.2.2⟩, trivial⟩) (stable_and (stable_below _ _ (Nat.le_refl _)) (stable_and (stable_const _) (stable_blk _ _ _))) (fun _ h => h) ⟨hU.below hS1 hg, hg, hG2⟩ ?_
    clear hK K hrun hG2 hU hG hcs cs hS1 hst; have hst : Stable fun W => Below wr.heap.size wr W ∧ wr.heap.size ≤ gg ∧ Blk W gg 37 (prL X.p).toArray := stable_and (stable_below _ _ (Nat.le_refl _)) (stable_and (stable_const _) (stable_blk _ _ _)); try simp only [nrm]
    refine wpU_p 13 hst ?_
    refine wpU_p 14 hst ?_
    refine wpU_p 15 hst ?_
    refine wpU_done (fun W5 hS => ?_)
    obtain ⟨hS1, hg2, hG⟩ := hS
    replace HM := HM.alloc hg2 hS1 hG; clear hst
    go_wp2_with fail
    go_meet
    case rel => exact ⟨gg, A1, c1, A2, c2, rfl, rfl, rfl, rfl, HM⟩
   case rest =>
    obtain ⟨g_27, A_28, c_29, A_30, c_31, rfl, rfl, rfl, rfl, HMM⟩ := hcut; clear HM; have HM := HMM; clear HMM
    have ld_32 := HM.b1.c 19 (.int .i64 p.phase)
    go_wp2_with (first | (with_reducible refine so ?_) | (with_reducible refine ld 0 (prL X.p) HM.b0 Tryd.underlying37 ?_) | ((with_reducible refine wpList_ldg 0 (prL X.p) HM.b0 ?_ ?_ Tryd.underlying37 ?_ ?_ ?_ ?_); rfl; rfl; rfl; kernel_rfl; rfl))
    refine sv (prL X.p).toArray HM.b1 ?_
    intro w_34 G_36 hU_35
    clear ld_32
    replace HM := HM.s1 hU_35 G_36
    clear hU_35 G_36
    go_wp2_with (with_reducible refine so ?_)
    go_roundw
    case rel => exact ⟨k + 1, X.p, x.now, by omega, rfl, by go_num, by have h := act_inv x HI.out (by omega) (by omega); rw [HX.out] at h; exact h, by omega, by omega, HM.drop⟩
    case measure => simp [intOf]; omega
  ·
   obtain ⟨x, hx⟩ : ∃ x, rs[k] = x := ⟨_, rfl⟩
   have hrn : rs ≠ [] := by rintro rfl; simp at hlt
   have hr := HC.out.low HM.below (HLB.out hrn)
   obtain ⟨bk, off, rfl, hrow⟩ := srow_open opL_len (by decide) hr k hlt
   rw [hx] at hrow
   have hbc : bk < base := HLB.out hrn _ rfl
   have HE : Rg bk (off + k * 16) (opL x) wr := ⟨Nat.lt_of_lt_of_le hbc HM.low, hrow wr (Below.refl _ _)⟩
   clear hrow hr hx
   obtain ⟨X, hX⟩ : ∃ X, actP p x = X := ⟨_, rfl⟩
   have HX := Lib.hid hX
   clear hX
   have i1 : decide ((k : Int) < ((rs.length : Nat) : Int)) = true := by simp; exact hlt
   have i2 : decide (k < rs.length) = true := decide_eq_true hlt
   have e7 : decide (p.phase < 7) = false := decide_eq_false (by omega)
   have e7n : decide ((7 : Int) ≤ p.phase) = true := decide_eq_true h7
   have HE7 := Lib.hid (act_ends x HI.out h7)
   clear h7
   by_cases hc_37 : (x.now : Int) < now
   ·
    obtain ⟨ec_37m, ec_37, ec_37n, kc_37⟩ := lT hc_37; clear hc_37
    have ld_38 : wr.cell? ⟨bk, off + k * 16 + 15, none⟩ = some (.int .i64 x.now) := HE.2 15 _ rfl
    go_wp2_with (with_reducible refine so ?_)
    clear ld_38
    go_roundw
    case rel => exact ⟨k + 1, p, now, by omega, rfl, by go_num, HI.out, hn0, hn1, HM⟩
    case measure => simp [intOf]; omega
   obtain ⟨ec_37m, ec_37, ec_37n, kc_37⟩ := lF hc_37; clear hc_37
   by_cases hc_39 : (1099511627776 : Int) < x.now
   ·
    obtain ⟨ec_39m, ec_39, ec_39n, kc_39⟩ := lT hc_39; clear hc_39
    have ld_40 : wr.cell? ⟨bk, off + k * 16 + 15, none⟩ = some (.int .i64 x.now) := HE.2 15 _ rfl
    go_wp2_with (with_reducible refine so ?_)
    clear ld_40
    go_roundw
    case rel => exact ⟨k + 1, p, now, by omega, rfl, by go_num, HI.out, hn0, hn1, HM⟩
    case measure => simp [intOf]; omega
   obtain ⟨ec_39m, ec_39, ec_39n, kc_39⟩ := lF hc_39; clear hc_39
   have ld_41 : wr.cell? ⟨bk, off + k * 16 + 15, none⟩ = some (.int .i64 x.now) := HE.2 15 _ rfl
   go_wp2_with (with_reducible refine so ?_)
   clear ld_41
   try simp only [nrm]
   go_cut [9, 10, 11, 12] from 83 (fun v9 v10 v11 v12 WX => ∃ (g_42 : Nat) (A_43 : Option Addr) (c_44 : Nat) (A_45 : Option Addr) (c_46 : Nat), v9 = .pointer (some ⟨g_42, 0, none⟩) ∧ v10 = .slice A_43 X.out.length c_44 ∧ v11 = .slice A_45 X.ev.length c_46 ∧ v12 = .int .i64 X.er ∧ MR w WX base ([]) ((g_42, 37, (prL X.p).toArray) :: (g_10, 37, (prL p).toArray) :: (g_1, 34, (cfgL c).toArray) :: []))
   case first =>
    go_wp2_with (with_reducible refine so ?_)
    try simp only [nrm]
    have hst : Stable fun W => Below wr.heap.size wr W := stable_below _ _ (Nat.le_refl _)
    refine wp_region_v (fun W => Below wr.heap.size wr W) 16 hst (Below.refl _ _).drew ?_
    refine wpU_l 0 0 (prL p) (fun W hS => (HM.to hS).b0) Tryd.underlying37 hst ?_
    refine wpU_p 1 hst ?_
    refine wpU_p 2 hst ?_
    refine wpU_p 3 hst ?_
    refine wpU_take (v := .agg (opL x).toArray) 4 hst (fun _ h => h) rfl (fun W hS K hK => calm_load rfl rfl (run_loadVar_mid W bk (off + k * 16) 45 (opL x) _ (range_part (Rg.to HE hS).2 0 (opL x) rfl) Tryd.underlying45 rfl (by kernel_rfl)) (hK.out _ (Below.refl _ _))) ?_; simp only [nrm]
    refine wpV_two 5 11 hst rfl rfl ?_ ?_
    ·
     intro W hS K hK
     go_simp; refine (act_len p x X HX.out HI.out W (HM.to hS).laid).mono ?_; rintro e w9 ⟨A1, c1, A2, c2, rfl, hb⟩
     refine hK.out (fun W => True) _ _ (stable_const True) hb trivial (fun hst => ?_)
     clear hK K hb
     try simp only [nrm]
     clear hS
     refine wpU_p 6 hst ?_
     refine wpU_p 7 hst ?_
     refine wpU_p 8 hst ?_
     refine wpU_p 9 hst ?_
     refine wpU_p 10 hst ?_
     refine wpV_new 11 hst rfl ?_; intro W hS K hK
     rw [if_pos (show Region.wanted _ _ = true from rfl)]
     refine op_new (ty := 37) (cs := (prL pr0).toArray) (fun g => .pointer (some ⟨g, 0, none⟩)) (by kernel_rfl) (fun gg W2 z lg hb G => ?_)
     refine hK.out (fun W => wr.heap.size ≤ gg ∧ ∃ cs, cs.size = 58 ∧ Blk W gg 37 cs) _ _ (stable_some _ _ _ _) hb ⟨Nat.le_trans hS.1.size lg, _, rfl, G⟩ (fun hst => ?_)
     clear hK K hb lg z G
     try simp only [nrm]
     clear hS
     refine wpU_one 12 rfl (fun W hS K hK => ?_)
     rw [if_pos (show Region.wanted _ _ = true from rfl)]
     obtain ⟨⟨hS1, _⟩, hg, cs, hcs, hG⟩ := hS
     obtain ⟨W2, hrun, hG2, hU⟩ := store_all (P := Tryd.prog) (ty := 37) (vs := prL X.p) hG hcs (by kernel_rfl) rfl
     refine op_store rfl rfl rfl hrun ?_
     refine hK.out _ (fun W => Below wr.heap.size wr W ∧ wr.heap.size ≤ gg ∧ Blk W gg 37 (prL X.p).toArray) _ _ (fun W h => ⟨⟨h.1, trivial⟩, h.2.1, _, rfl, h.2.2⟩) (stable_and (stable_below _ _ (Nat.le_refl _)) (stable_and (stable_const _) (stable_blk _ _ _))) (fun _ h => h) ⟨hU.below hS1 hg, hg, hG2⟩ ?_
     clear hK K hrun hG2 hU hG hcs cs hS1 hst; have hst : Stable fun W => Below wr.heap.size wr W ∧ wr.heap.size ≤ gg ∧ Blk W gg 37 (prL X.p).toArray := stable_and (stable_below _ _ (Nat.le_refl _)) (stable_and (stable_const _) (stable_blk _ _ _)); try simp only [nrm]
     refine wpU_p 13 hst ?_
     refine wpU_p 14 hst ?_
     refine wpU_p 15 hst ?_
     refine wpU_done (fun W5 hS => ?_)
     obtain ⟨hS1, hg2, hG⟩ := hS
     replace HM := HM.alloc hg2 hS1 hG; clear hst
     go_wp2_with fail
     go_meet
     case rel => exact ⟨gg, A1, c1, A2, c2, rfl, rfl, rfl, rfl, HM⟩
    intro W hS K hK
    rw [if_pos (show Region.wanted _ _ = true from rfl)]
    refine op_new (ty := 37) (cs := (prL pr0).toArray) (fun g => .pointer (some ⟨g, 0, none⟩)) (by kernel_rfl) (fun gg W2 z lg hb G => ?_)
    refine hK.out (fun W => wr.heap.size ≤ gg ∧ ∃ cs, cs.size = 58 ∧ Blk W gg 37 cs) _ _ (stable_some _ _ _ _) hb ⟨Nat.le_trans hS.size lg, _, rfl, G⟩ (fun hst => ?_)
    clear hK K hb lg z G
    try simp only [nrm]
    clear hS
    refine wpV_new 5 hst rfl ?_; intro W hS K hK
    go_simp; refine (act_len p x X HX.out HI.out W (HM.to hS.1).laid).mono ?_; rintro e w9 ⟨A1, c1, A2, c2, rfl, hb⟩
    refine hK.out (fun W => True) _ _ (stable_const True) hb trivial (fun hst => ?_)
    clear hK K hb
    try simp only [nrm]
    clear hS
    refine wpU_p 6 hst ?_
    refine wpU_p 7 hst ?_
    refine wpU_p 8 hst ?_
    refine wpU_p 9 hst ?_
    refine wpU_p 10 hst ?_
    refine wpU_one 12 rfl (fun W hS K hK => ?_)
    rw [if_pos (show Region.wanted _ _ = true from rfl)]
    obtain ⟨⟨hS1, hg, cs, hcs, hG⟩, _⟩ := hS
    obtain ⟨W2, hrun, hG2, hU⟩ := store_all (P := Tryd.prog) (ty := 37) (vs := prL X.p) hG hcs (by kernel_rfl) rfl
    refine op_store rfl rfl rfl hrun ?_
    refine hK.out _ (fun W => Below wr.heap.size wr W ∧ wr.heap.size ≤ gg ∧ Blk W gg 37 (prL X.p).toArray) _ _ (fun W h => ⟨⟨h.1, h.2.1, _, rfl, h.2.2⟩, trivial⟩) (stable_and (stable_below _ _ (Nat.le_refl _)) (stable_and (stable_const _) (stable_blk _ _ _))) (fun _ h => h) ⟨hU.below hS1 hg, hg, hG2⟩ ?_
    clear hK K hrun hG2 hU hG hcs cs hS1 hst; have hst : Stable fun W => Below wr.heap.size wr W ∧ wr.heap.size ≤ gg ∧ Blk W gg 37 (prL X.p).toArray := stable_and (stable_below _ _ (Nat.le_refl _)) (stable_and (stable_const _) (stable_blk _ _ _)); try simp only [nrm]
    refine wpU_p 13 hst ?_
    refine wpU_p 14 hst ?_
    refine wpU_p 15 hst ?_
    refine wpU_done (fun W5 hS => ?_)
    obtain ⟨hS1, hg2, hG⟩ := hS
    replace HM := HM.alloc hg2 hS1 hG; clear hst
    go_wp2_with fail
    go_meet
    case rel => exact ⟨gg, A1, c1, A2, c2, rfl, rfl, rfl, rfl, HM⟩
   case rest =>
    obtain ⟨g_42, A_43, c_44, A_45, c_46, rfl, rfl, rfl, rfl, HMM⟩ := hcut; clear HM; have HM := HMM; clear HMM
    obtain ⟨er, hE⟩ := HE7.out
    obtain rfl : X = ⟨p, [], [], er⟩ := HX.out.symm.trans hE
    clear hE
    dsimp only [List.length_nil] at HM ⊢
    have ld_47 := HM.b1.c 19 (.int .i64 p.phase)
    go_wp2_with (first | (with_reducible refine so ?_) | (with_reducible refine ld 0 (prL p) HM.b0 Tryd.underlying37 ?_) | ((with_reducible refine wpList_ldg 0 (prL p) HM.b0 ?_ ?_ Tryd.underlying37 ?_ ?_ ?_ ?_); rfl; rfl; rfl; kernel_rfl; rfl) | (with_reducible refine ld 0 (prL p) HM.b1 Tryd.underlying37 ?_) | ((with_reducible refine wpList_ldg 0 (prL p) HM.b1 ?_ ?_ Tryd.underlying37 ?_ ?_ ?_ ?_); rfl; rfl; rfl; kernel_rfl; rfl))
    refine sv (prL p).toArray HM.b1 ?_
    intro w_50 G_52 hU_51
    clear ld_47
    replace HM := HM.s1 hU_51 G_52
    clear hU_51 G_52
    go_wp2_with (with_reducible refine so ?_)
    go_roundw
    case rel => exact ⟨k + 1, p, x.now, by omega, rfl, by go_num, HI.out, by omega, by omega, HM.drop⟩
    case measure => simp [intOf]; omega
  have i1 : decide ((k : Int) < ((rs.length : Nat) : Int)) = false := by simp; omega
  have i2 : decide (k < rs.length) = false := by simpa using hlt
  have i3 : rs.length ≤ k := Nat.le_of_not_lt hlt
  go_wp2_with (with_reducible refine so ?_)
  refine (lives38 _ HM.laid).mono ?_; rintro e w_53 ⟨rfl, hb_54⟩
  replace HM := HM.to hb_54
  clear hb_54
  go_wp2_with (with_reducible refine so ?_)
  go_returns
  refine ⟨?_, by first | exact HM.below | (rw [hbs1.out]; exact HM.below)⟩
  rfl
set_option maxHeartbeats 4000000 in
theorem ends_bad (c : Cfg) (A : Option Addr) (cap : Nat) (rs : List Op38) (w : World) (HL : Laid w) (hC : Rd w A (rs.flatMap opL)) (hn : ¬ (newP c).2 = 0) :
  Calls Tryd.prog 3 #[.agg (cfgL c).toArray, .slice A rs.length cap] w (fun e w' => e = .returned (.bool true) ∧ Below w.heap.size w w') := by
 have HM := MR.start HL
 have HLT : rs ≠ [] → ∀ ad, A = some ad → ad.block < w.heap.size := fun hl ad ha => rd_lt hC (ops_ne hl) ad ha
 obtain ⟨base, hbs⟩ : ∃ b, w.heap.size = b := ⟨_, rfl⟩
 rw [hbs] at HM HLT
 have HC := Lib.hid hC
 have HLB := Lib.hid HLT
 have hbs1 := Lib.hid hbs
 have HN := Lib.hid hn
 have y0 : (((newP c).2 : Int) == 0) = false := by simpa using hn
 have y1 : (((newP c).2 : Int) != 0) = true := by simpa using hn
 clear hn hC HL hbs HLT
 go_enter Tryd.func3, Tryd.ntmps3
 go_wp2_with (with_reducible refine so ?_)
 refine HM.nw (ty := 34) (cs := (cfgL c).toArray) ?_; clear HM; intro g_1 w_2 HM
 go_wp2_with (first | (with_reducible refine so ?_) | (with_reducible refine ld 0 (cfgL c) HM.b0 Tryd.underlying34 ?_))
 refine (pa_New c _ HM.laid).mono ?_; rintro e w_8 ⟨rfl, hb_9⟩
 replace HM := HM.to hb_9
 clear hb_9
 go_wp2_with (with_reducible refine so ?_)
 refine HM.nw (ty := 37) (cs := (prL pr0).toArray) ?_; clear HM; intro g_10 w_11 HM
 go_wp2_with (with_reducible refine so ?_)
 refine sv (prL (newP c).1).toArray HM.b0 ?_
 intro w_16 G_18 hU_17
 replace HM := HM.s0 hU_17 G_18
 clear hU_17 G_18
 go_wp2_with (with_reducible refine so ?_)
 refine (lives38 _ HM.laid).mono ?_; rintro e w_19 ⟨rfl, hb_20⟩
 replace HM := HM.to hb_20
 clear hb_20
 go_wp2_with (with_reducible refine so ?_)
 go_returns
 refine ⟨?_, by first | exact HM.below | (rw [hbs1.out]; exact HM.below)⟩
 rfl
theorem law_PairingEnds (c : Cfg) (A : Option Addr) (cap : Nat) (rs : List Op38) (w : World) (HL : Laid w) (hC : Rd w A (rs.flatMap opL)) :
    Calls Tryd.prog 3 #[.agg (cfgL c).toArray, .slice A rs.length cap] w (fun e w' => e = .returned (.bool true) ∧ Below w.heap.size w w') := by
  by_cases h : (newP c).2 = 0
  · exact ends_ok c A cap rs w HL hC h
  · exact ends_bad c A cap rs w HL hC h
end Go.Proofs.YtihmbcnccdiecaaDoor
namespace Go.Proofs.YtihmbcnccdiecaaDoor
set_option maxRecDepth 100000
open Go.ChangeShapes Go.WideShapes Go.ChangeAt Go.RowKit
set_option linter.unusedVariables false
theorem law38_PairingEnds (rolec : Int) (wrolec : (Lit.int .i64 rolec).wf = true) (feat_ioc : Int) (wfeat_ioc : (Lit.int .i64 feat_ioc).wf = true) (feat_oobc : Bool) (feat_bondc : Bool) (feat_mitmc : Bool) (feat_sidc : Bool) (feat_tidc : Bool) (own_kindc : Int) (wown_kindc : (Lit.int .i64 own_kindc).wf = true) (own_bitsc : BitVec 64) (peer_kindc : Int) (wpeer_kindc : (Lit.int .i64 peer_kindc).wf = true) (peer_bitsc : BitVec 64) (idn_adr_kindc : Int) (widn_adr_kindc : (Lit.int .i64 idn_adr_kindc).wf = true) (idn_adr_bitsc : BitVec 64) (idn_irkc : BitVec 64) (secretc : BitVec 32) (seedc : BitVec 64) (minec : BitVec 64) (oob_valuec : BitVec 64) (oob_randomc : BitVec 64) (lA : Option Addr) (lC : Nat) (l : List R_op38) (w : World) (HL : Laid w) (hl : Rd w lA (l.flatMap R_op38.cells)) (ol : ∀ r ∈ l, r.ok w) (ll : l.length ≤ lC) :
    Calls Tryd.prog 3 #[.agg #[.int .i64 rolec, .int .i64 feat_ioc, .bool feat_oobc, .bool feat_bondc, .bool feat_mitmc, .bool feat_sidc, .bool feat_tidc, .int .i64 own_kindc, .int .u64 (W64 own_bitsc), .int .i64 peer_kindc, .int .u64 (W64 peer_bitsc), .int .i64 idn_adr_kindc, .int .u64 (W64 idn_adr_bitsc), .int .u64 (W64 idn_irkc), .int .u32 (W32 secretc), .int .u64 (W64 seedc), .int .u64 (W64 minec), .int .u64 (W64 oob_valuec), .int .u64 (W64 oob_randomc)], .slice lA l.length lC] w (fun e w' => e = .returned (.bool true) ∧ Below w.heap.size w w') := by
  have h := law_PairingEnds (⟨rolec, ⟨feat_ioc, feat_oobc, feat_bondc, feat_mitmc, feat_sidc, feat_tidc⟩, ⟨own_kindc, own_bitsc⟩, ⟨peer_kindc, peer_bitsc⟩, ⟨⟨idn_adr_kindc, idn_adr_bitsc⟩, idn_irkc⟩, secretc, seedc, minec, ⟨oob_valuec, oob_randomc⟩⟩ : Cfg) lA lC (l.map opR) w HL (by rw [← ops_cells]; exact hl)
  rw [List.length_map] at h
  exact h
end Go.Proofs.YtihmbcnccdiecaaDoor
namespace Go.Proofs.YtihmbcnccdiecaaDoor.pairingEnds
open Go.ChangeShapes Go.WideShapes Go.ChangeAt Go.RowKit
open Go.ChangeMaps (open_string shut_string)
set_option linter.unusedVariables false
theorem own : ownKnob Tryd.prog.godebug = none := by kernel_rfl
theorem laidOut : laidOutB Tryd.prog = true := by kernel_rfl
theorem door_met (os : Os) (args : Array Value) : laidMetH Tryd.prog laidT ((World.doorLaid Tryd.prog 400 os).forCall (fun _ _ => 0) ⟨#[], args, []⟩).memory :=
  laidMetH_of_parts3 (fuel := 8) (laidMet_of_run' 8 (by kernel_rfl) (by kernel_rfl)) (by kernel_rfl) (by kernel_rfl)
set_option maxRecDepth 100000 in
theorem lifted (os : Os) (started : os.Started) (H : Type) (enc : TypeId × Value → H) :
    ReturnsInHanded {} Tryd.checked os 3 .any (fun w args => (Rows.pairingEndsSpec.pre enc Tryd.prog Tryd.f3 [] false w args ∧ laidMetH Tryd.prog laidT w) ∧ sizedMet enc Tryd.prog Tryd.f3 (OpenSpec.ofChange Rows.pairingEndsSpec) false w args)
      (Rows.pairingEndsSpec.post enc Tryd.prog Tryd.f3 false true false false) := by
  refine returnsInHanded_of_change_and (C := Tryd.checked) (X := fun w _ => laidMetH Tryd.prog laidT w) (fun _ _ _ hh h => h.of_heap hh) own started (by kernel_rfl) Tryd.func3
    (ChangeSpec.witness_shaped (enc := enc) (C := Tryd.checked) (os := os) (X := fun w _ => laidMetH Tryd.prog laidT w) false (World.doorLaid Tryd.prog 400 os) #[.agg #[.int .i64 0, .int .i64 0, .bool false, .bool false, .bool false, .bool false, .bool false, .int .i64 0, .int .u64 0, .int .i64 0, .int .u64 0, .int .i64 0, .int .u64 0, .int .u64 0, .int .u32 0, .int .u64 0, .int .u64 0, .int .u64 0, .int .u64 0], .slice none 0 0] 8 rfl (World.shaped_of_RefB (by kernel_rfl) (by kernel_rfl)) (by kernel_rfl) (by kernel_rfl) (by kernel_rfl) (door_met os _)) ?_
  intro W base args ds gs before hval0 hW _ _ hL _
  have hval : ∀ (j : Nat) t v, Tryd.f3.params[j]? = some t → args[j]? = some v → Value.okWide Tryd.prog W .any base t v := hval0
  have hW' := hW
  obtain ⟨p, q, hA0, hV, rfl, hfz, hnd⟩ := hW
  have hA : DataW.TrodAll enc Tryd.prog W 0 (fun _ => true) true Tryd.f3.params.toList args.toList ds p := hA0
  rw [Tryd.params3] at hA hval
  obtain ⟨v0, vs0, d0, ds0, p0, q0, hargs, rfl, rfl, h0, r0⟩ := trodAll_cons hA
  obtain ⟨v1, vs1, d1, ds1, p1, q1, rfl, rfl, rfl, h1, r1⟩ := trodAll_cons r0
  obtain ⟨rfl, rfl, rfl⟩ := trodAll_nil r1
  obtain rfl : args = #[v0, v1] := by cases args; simp_all
  obtain ⟨rfl, rfl⟩ := trodVars_none hV
  have k0 := h0
  have lt0 : ∀ x ∈ p0, x.block < W.heap.size := by obtain ⟨m, hm⟩ := k0; exact DataW.trod_lt m _ _ _ hm
  obtain ⟨role0, feat_io0, feat_oob0, feat_bond0, feat_mitm0, feat_sid0, feat_tid0, own_kind0, own_bits0, peer_kind0, peer_bits0, idn_adr_kind0, idn_adr_bits0, idn_irk0, secret0, seed0, mine0, oob_value0, oob_random0, rfl, wrole0, wfeat_io0, wown_kind0, wpeer_kind0, widn_adr_kind0⟩ := pcfg_in (hval 0 34 v0 rfl rfl) h0
  obtain ⟨a1, len1, cap1, rfl⟩ := okWide_slice Tryd.underlying35 (hval 1 35 v1 rfl rfl)
  have k1 := h1
  have lt1 : ∀ x ∈ p1, x.block < W.heap.size := by obtain ⟨m, hm⟩ := k1; exact DataW.trod_lt m _ _ _ hm
  obtain ⟨b1, rfl, w1, r1', o1⟩ := op38_rows_in h1
  clear hA0 hval0
  refine (law38_PairingEnds role0 wrole0 feat_io0 wfeat_io0 feat_oob0 feat_bond0 feat_mitm0 feat_sid0 feat_tid0 own_kind0 wown_kind0 own_bits0 peer_kind0 wpeer_kind0 peer_bits0 idn_adr_kind0 widn_adr_kind0 idn_adr_bits0 idn_irk0 secret0 seed0 mine0 oob_value0 oob_random0 a1 cap1 b1 W (laid_of hL) r1' o1 w1).mono fun e W' ⟨he, bel⟩ => ?_
  subst he
  exact ⟨_, rfl, _, _, _, [], _, [], hW', trodAll_mk1 (shut_bool Tryd.underlying4 _), (trodAll_cons_mk (Below.trod laidOut (by kernel_rfl) (of_decide_eq_true (by kernel_rfl)) k0 bel lt0) (trodAll_cons_mk (Below.trod laidOut (by kernel_rfl) (of_decide_eq_true (by kernel_rfl)) k1 bel lt1) trodAll_mk0)), rfl, bel.frame _, fun h => by cases h⟩
theorem over : Rows.pairingEndsRow.holds Tryd.pinned (OpenSpec.ofChange Rows.pairingEndsSpec) :=
  OpenClaim.holds_of_wide 3 Tryd.f3 rfl rfl rfl rfl rfl rfl rfl ⟨rfl, rfl, rfl, rfl, rfl⟩ rfl rfl rfl rfl rfl (by kernel_rfl) Tryd.func3 (by kernel_rfl)
    (of_decide_eq_true (by kernel_rfl)) (by unfold Func.isWrapper; first | (rw [if_pos (by decide +kernel)]; kernel_rfl) | (rw [if_neg (by decide +kernel)]; exact ⟨rfl, rfl⟩))
    (fun os started H enc _ => lifted os started H enc)
theorem proved : Rows.PairingEndsCardSaid :=
  Claim7.holds_tied_plain_at .later [] [.data, .data] true _ false over (fun _ h => by cases h) (by kernel_rfl) (fun _ h => by cases h) pairingEnds_row_tie rfl ⟨rfl, rfl⟩ (by kernel_rfl) rfl
    (fun f fn hf hfn => by
      obtain rfl : f = 3 := Option.some.inj ((show Tryd.prog.funcNamed "wireless/wirelesslaw38.PairingEnds" = some 3 by kernel_rfl).symm.trans hf) |>.symm
      obtain rfl : fn = Tryd.f3 := (Option.some.inj (Tryd.func3.symm.trans hfn)).symm
      exact ⟨by kernel_rfl, fun j t ht => by
        rw [Tryd.params3] at ht
        have hm : t ∈ [34, 35] := by simpa using Array.mem_of_getElem? ht
        have hall : ([34, 35].all fun u => !Tryd.prog.wantsStandIn u) = true := by kernel_rfl
        exact (show Tryd.prog.wantsStandIn t = false by simpa using List.all_eq_true.1 hall t hm)⟩)
    (by kernel_rfl)
end Go.Proofs.YtihmbcnccdiecaaDoor.pairingEnds
