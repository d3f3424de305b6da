/- Part of the proofs of the laws of pairing. -/
import Derived.Test.YtihmbcnccdiecaaGreatDoorBLive
import Derived.Test.YtihmbcnccdiecaaGreatDoorBRfB
import Derived.Test.YtihmbcnccdiecaaGreatDoorBTold
namespace Go.Proofs.YtihmbcnccdiecaaGreatDoor
set_option maxRecDepth 100000
set_option linter.unusedVariables false
set_option linter.unusedSimpArgs false
open Go.ChangeShapes Go.WideShapes Go.ChangeAt Go.RowKit
theorem FE (c : Cfg) (h : (cP c).2 = 0) (w : World) : Calls Tryz.prog 6 #[.agg (cT c).toArray] w fun e w' => e = .returned (.tuple #[.agg (prL (aY c)).toArray, .int .i64 0]) ∧ Below w.heap.size w w' := by
  have k := H4 c w
  rw [oA c h, h] at k
  exact k
theorem GH (c : Cfg) (h : (cP c).2 = 0) : Pk6 (aY c) := by
  have k := LC c
  rw [oA c h] at k
  exact k
theorem IJ {p : Pr} (x : qJ) (hi : Inv p) (h0 : 0 ≤ x.now) (h1 : x.now ≤ 1099511627776) : Inv (gU p x).p := by
  unfold gU
  (repeat' split)
  · exact uM hi ⟨h0, h1⟩
  · exact sK x.pdu hi ⟨h0, h1⟩
  · exact AB x.answer hi ⟨h0, h1⟩
  · exact DP hi ⟨h0, h1⟩
  · exact IU hi ⟨h0, h1⟩
theorem C7 {rs : List qJ} (h : rs ≠ []) : rs.flatMap opL ≠ [] := by
  cases rs with
  | nil => exact absurd rfl h
  | cons c l => simp [opL]
theorem GI {W : World} {A : Option Addr} {xs : List Value} (h : Rd W A xs) (hx : xs ≠ []) : ∀ ad, A = some ad → ad.block < W.heap.size := by
  intro ad ha
  obtain ⟨u, hu⟩ : ∃ u, xs[0]? = some u := by
    cases xs with
    | nil => exact absurd rfl hx
    | cons u _ => exact ⟨u, rfl⟩
  obtain ⟨ad2, h1, h2, _⟩ := h 0 u hu
  rw [ha] at h1
  rw [Option.some.inj h1]
  exact h2
set_option maxHeartbeats 4000000 in
theorem GP (c : Cfg) (A : Option Addr) (cap : Nat) (rs : List qJ) (w : World) (HL : bW w) (hC : Rd w A (rs.flatMap opL)) (hn : (cP c).2 = 0) :
  Calls Tryz.prog 3 #[.agg (cT c).toArray, .slice A rs.length cap] w (fun e w' => e = .returned (.bool true) ∧ Below w.heap.size w w') := by
 have HM := MR.start HL
 have HLT : rs ≠ [] → ∀ ad, A = some ad → ad.block < w.heap.size := fun hl ad ha => GI hC (C7 hl) ad ha
 obtain ⟨base, hbs⟩ : ∃ b, w.heap.size = b := ⟨_, rfl⟩
 rw [hbs] at HM HLT
 have HC := Lib.hid hC
 have HLB := Lib.hid HLT
 have hbs1 := Lib.hid hbs
 have HN := Lib.hid hn
 clear hn hC HL hbs HLT
 go_enter Tryz.func3, Tryz.ntmps3
 go_wp2_with with_reducible refine so ?_
 refine HM.nw (ty := 34) (cs := (cT c).toArray) ?_; clear HM; intro J d0 HM
 go_wp2_with first | with_reducible refine so ?_ | with_reducible refine ld 0 (cT c) HM.b0 U34 ?_
 refine bt HM.to (oJ c HN.out _ HM.laid) ?_; clear HM; intro d1 HM
 go_wp2_with with_reducible refine so ?_
 refine HM.nw (ty := 37) (cs := (prL pr0).toArray) ?_; clear HM; intro L d2 HM
 go_wp2_with with_reducible refine so ?_
 refine yv HM.b0 HM.s0 ?_; clear HM; intro d3 HM
 go_wp2_with first | with_reducible refine so ?_ | with_reducible refine ld 0 (cT c) HM.b1 U34 ?_
 refine bt HM.to (FE c HN.out _) ?_; clear HM; intro d4 HM
 go_wp2_with with_reducible refine so ?_
 refine HM.nw (ty := 37) (cs := (prL pr0).toArray) ?_; clear HM; intro O d5 HM
 go_wp2_with with_reducible refine so ?_
 refine yv HM.b0 HM.s0 ?_; clear HM; intro d6 HM
 by_cases C : (150 : Int) < ((rs.length : Nat) : Int)
 ·
  obtain ⟨a8, a9, b4, b5⟩ := lT C; clear C
  go_wp2_with first | with_reducible refine so ?_ | with_reducible refine lw HM.b1 U37 ?_ | ((with_reducible refine bI 0 (prL (aY c)) HM.b1 ?_ ?_ U37 ?_ ?_ ?_ ?_); rfl; rfl; rfl; kernel_rfl; rfl) | with_reducible refine lw HM.b0 U37 ?_ | ((with_reducible refine bI 0 (prL (aY c)) HM.b0 ?_ ?_ U37 ?_ ?_ ?_ ?_); rfl; rfl; rfl; kernel_rfl; rfl)
  refine bt HM.to (xA _ HM.laid) ?_; clear HM; intro d7 HM
  go_wp2_with with_reducible refine so ?_
  go_returns
  refine ⟨?_, by first | exact HM.below | (rw [hbs1.out]; exact HM.below)⟩
  rfl
 obtain ⟨a8, a9, b4, b5⟩ := lF C; clear C
 go_wp2_with first | with_reducible refine so ?_ | with_reducible refine lw HM.b1 U37 ?_ | ((with_reducible refine bI 0 (prL (aY c)) HM.b1 ?_ ?_ U37 ?_ ?_ ?_ ?_); rfl; rfl; rfl; kernel_rfl; rfl) | with_reducible refine lw HM.b0 U37 ?_ | ((with_reducible refine bI 0 (prL (aY c)) HM.b0 ?_ ?_ U37 ?_ ?_ ?_ ?_); rfl; rfl; rfl; kernel_rfl; rfl)
 try simp only [nrm]
 go_loopw [9, 10] (fun i9 i10 wr => ∃ (k : Nat) (p : Pr) (now : Int), k ≤ rs.length ∧ i9 = .int .i64 now ∧ i10 = .int .i64 k ∧ Inv p ∧ Pk6 p ∧ 0 ≤ now ∧ now ≤ 1099511627776 ∧ MR w wr base ([]) ((O, 37, (prL p).toArray) :: (L, 37, (prL p).toArray) :: (J, 34, (cT c).toArray) :: [])) (fun _ j _ => rs.length - (intOf j).toNat)
 case atStart => exact ⟨0, aY c, 0, Nat.zero_le _, rfl, rfl, qS c HN.out, GH c HN.out, Int.le_refl 0, by decide, HM⟩
 case round =>
  clear HM 
  obtain ⟨k, p, now, hk0, rfl, rfl, hi, hkk, hn0, hn1, HM⟩ := hrel
  have HI := Lib.hid hi; have HK := Lib.hid hkk; clear hi hkk
  by_cases hlt : k < rs.length
  rotate_left
  ·
   have i1 : decide ((k : Int) < ((rs.length : Nat) : Int)) = false := by simp; omega
   have i2 : decide (k < rs.length) = false := by simpa using hlt
   have i3 : rs.length ≤ k := Nat.le_of_not_lt hlt
   go_wp2_with with_reducible refine so ?_
   refine bt HM.to (xA _ HM.laid) ?_; clear HM; intro d8 HM
   go_wp2_with with_reducible refine so ?_
   go_returns
   refine ⟨?_, by first | exact HM.below | (rw [hbs1.out]; exact HM.below)⟩
   rfl
  obtain ⟨x, hx⟩ : ∃ x, rs[k] = x := ⟨_, rfl⟩
  have hrn : rs ≠ [] := by rintro rfl; simp at hlt
  have hr := HC.out.low HM.below (HLB.out hrn)
  obtain ⟨bk, off, rfl, hrow⟩ := fX I6 (by decide) hr k hlt
  rw [hx] at hrow
  have hbc : bk < base := HLB.out hrn _ rfl
  have HE : Rg bk (off + k * 16) (opL x) wr := ⟨Nat.lt_of_lt_of_le hbc HM.low, hrow wr (Below.refl _ _)⟩
  clear hrow hr hx
  obtain ⟨X, hX⟩ : ∃ X, gU p x = X := ⟨_, rfl⟩
  have HX := Lib.hid hX
  clear hX
  have i1 : decide ((k : Int) < ((rs.length : Nat) : Int)) = true := by simp; exact hlt
  have i2 : decide (k < rs.length) = true := decide_eq_true hlt
  by_cases D : (x.now : Int) < now
  ·
   obtain ⟨b6, b7, b8, b9⟩ := lT D; clear D
   have c0 : wr.cell? ⟨bk, off + k * 16 + 15, none⟩ = some (.int .i64 x.now) := HE.2 15 _ rfl
   go_wp2_with with_reducible refine so ?_
   clear c0
   go_roundw
   case rel => exact ⟨k + 1, p, now, by omega, rfl, by go_num, HI.out, HK.out, hn0, hn1, HM⟩
   case measure => simp [intOf]; omega
  obtain ⟨b6, b7, b8, b9⟩ := lF D; clear D
  by_cases F : (1099511627776 : Int) < x.now
  ·
   obtain ⟨c4, c5, c6, c7⟩ := lT F; clear F
   have c8 : wr.cell? ⟨bk, off + k * 16 + 15, none⟩ = some (.int .i64 x.now) := HE.2 15 _ rfl
   go_wp2_with with_reducible refine so ?_
   clear c8
   go_roundw
   case rel => exact ⟨k + 1, p, now, by omega, rfl, by go_num, HI.out, HK.out, hn0, hn1, HM⟩
   case measure => simp [intOf]; omega
  obtain ⟨c4, c5, c6, c7⟩ := lF F; clear F
  have c9 : wr.cell? ⟨bk, off + k * 16 + 15, none⟩ = some (.int .i64 x.now) := HE.2 15 _ rfl
  go_wp2_with with_reducible refine so ?_
  clear c9
  try simp only [nrm]
  go_cut [11, 12, 13, 14] from 116 (fun v11 v12 v13 v14 WX => ∃ (I : Nat) (U : Option Addr) (Z : Nat) (a0 : Option Addr) (a1 : Nat), v11 = .pointer (some ⟨I, 0, none⟩) ∧ v12 = .slice U X.out.length Z ∧ v13 = .slice a0 X.ev.length a1 ∧ v14 = .int .i64 X.er ∧ aZ WX wr.heap.size dE 13 (.slice U X.out.length Z) X.out.length (dG X.out) ∧ aZ WX wr.heap.size dK 8 (.slice a0 X.ev.length a1) X.ev.length (dC X.ev) ∧ Below wr.heap.size wr WX ∧ MR w WX base ([]) ((I, 37, (prL X.p).toArray) :: (O, 37, (prL p).toArray) :: (L, 37, (prL p).toArray) :: (J, 34, (cT c).toArray) :: []))
  case first =>
   go_wp2_with with_reducible refine so ?_
   try simp only [nrm]
   have hst : aO fun W => Below wr.heap.size wr W := aJ _ _ (Nat.le_refl _)
   refine aD (fun W => Below wr.heap.size wr W) 16 hst (Below.refl _ _).drew ?_
   refine dA 0 0 (prL p) (fun W hS => (HM.to hS).b1) U37 hst ?_
   refine aA 1 hst ?_
   refine aA 2 hst ?_
   refine aA 3 hst ?_
   refine bH (v := .agg (opL x).toArray) 4 hst (fun _ h => h) rfl (fun W hS K hK => aL rfl rfl (run_loadVar_mid W bk (off + k * 16) 45 (opL x) _ (eP (Rg.to HE hS).2 0 (opL x) rfl) U45 rfl (by kernel_rfl)) (hK.out _ (Below.refl _ _))) ?_; simp only [nrm]
   refine mE 5 11 hst rfl rfl ?_ ?_
   ·
    intro W hS K hK
    go_simp; refine (DD p x X HX.out W (HM.to hS).laid HI.out).mono ?_; rintro e w9 ⟨A1, c1, A2, c2, rfl, hb, ho, he⟩
    refine hK.out (fun W => aZ W wr.heap.size dE 13 (.slice A1 X.out.length c1) X.out.length (dG X.out) ∧ aZ W wr.heap.size dK 8 (.slice A2 X.ev.length c2) X.ev.length (dC X.ev)) _ _ (aB (cN _ _ _ _ _ _) (cN _ _ _ _ _ _)) hb ⟨ho.mono hS.size, he.mono hS.size⟩ (fun hst => ?_)
    clear hK K hb ho he
    try simp only [nrm]
    clear hS
    refine aA 6 hst ?_
    refine aA 7 hst ?_
    refine aA 8 hst ?_
    refine aA 9 hst ?_
    refine aA 10 hst ?_
    refine eH 11 hst rfl ?_; intro W hS K hK
    rw [if_pos (show Region.wanted _ _ = true from rfl)]
    refine dZ (ty := 37) (cs := (prL pr0).toArray) (fun g => .pointer (some ⟨g, 0, none⟩)) (by kernel_rfl) (fun gg W2 z lg hb G => ?_)
    refine hK.out (fun W => wr.heap.size ≤ gg ∧ ∃ cs, cs.size = 58 ∧ Blk W gg 37 cs) _ _ (dJ _ _ _ _) hb ⟨Nat.le_trans hS.1.size lg, _, rfl, G⟩ (fun hst => ?_)
    clear hK K hb lg z G
    try simp only [nrm]
    clear hS
    refine eK 12 rfl (fun W hS K hK => ?_)
    rw [if_pos (show Region.wanted _ _ = true from rfl)]
    obtain ⟨⟨hS1, ho, he⟩, hg, cs, hcs, hG⟩ := hS
    obtain ⟨W2, hrun, hG2, hU⟩ := dW (P := Tryz.prog) (ty := 37) (vs := prL X.p) hG hcs (by kernel_rfl) rfl
    refine eQ rfl rfl rfl hrun ?_
    refine hK.out _ (fun W => Below wr.heap.size wr W ∧ (aZ W wr.heap.size dE 13 (.slice A1 X.out.length c1) X.out.length (dG X.out) ∧ aZ W wr.heap.size dK 8 (.slice A2 X.ev.length c2) X.ev.length (dC X.ev)) ∧ wr.heap.size ≤ gg ∧ Blk W gg 37 (prL X.p).toArray) _ _ (fun W h => ⟨⟨h.1, h.2.1⟩, h.2.2.1, _, rfl, h.2.2.2⟩) (aB (aJ _ _ (Nat.le_refl _)) (aB (aB (cN _ _ _ _ _ _) (cN _ _ _ _ _ _)) (aB (bJ _) (aW _ _ _)))) (fun _ h => h) ⟨hU.below hS1 hg, ⟨ho.upd_ty hG (by decide) hU, he.upd_ty hG (by decide) hU⟩, hg, hG2⟩ ?_
    clear hK K hrun hG2 hU hG hcs cs hS1 ho he hst; have hst : aO fun W => Below wr.heap.size wr W ∧ (aZ W wr.heap.size dE 13 (.slice A1 X.out.length c1) X.out.length (dG X.out) ∧ aZ W wr.heap.size dK 8 (.slice A2 X.ev.length c2) X.ev.length (dC X.ev)) ∧ wr.heap.size ≤ gg ∧ Blk W gg 37 (prL X.p).toArray := aB (aJ _ _ (Nat.le_refl _)) (aB (aB (cN _ _ _ _ _ _) (cN _ _ _ _ _ _)) (aB (bJ _) (aW _ _ _))); try simp only [nrm]
    refine aA 13 hst ?_
    refine aA 14 hst ?_
    refine aA 15 hst ?_
    refine aE (fun W5 hS => ?_)
    obtain ⟨hS1, ⟨ho, he⟩, hg2, hG⟩ := hS
    replace HM := HM.alloc hg2 hS1 hG; clear hst
    go_wp2_with fail
    go_meet
    case rel => exact ⟨gg, A1, c1, A2, c2, rfl, rfl, rfl, rfl, ho, he, hS1, HM⟩
   intro W hS K hK
   rw [if_pos (show Region.wanted _ _ = true from rfl)]
   refine dZ (ty := 37) (cs := (prL pr0).toArray) (fun g => .pointer (some ⟨g, 0, none⟩)) (by kernel_rfl) (fun gg W2 z lg hb G => ?_)
   refine hK.out (fun W => wr.heap.size ≤ gg ∧ ∃ cs, cs.size = 58 ∧ Blk W gg 37 cs) _ _ (dJ _ _ _ _) hb ⟨Nat.le_trans hS.size lg, _, rfl, G⟩ (fun hst => ?_)
   clear hK K hb lg z G
   try simp only [nrm]
   clear hS
   refine eH 5 hst rfl ?_; intro W hS K hK
   go_simp; refine (DD p x X HX.out W (HM.to hS.1).laid HI.out).mono ?_; rintro e w9 ⟨A1, c1, A2, c2, rfl, hb, ho, he⟩
   refine hK.out (fun W => aZ W wr.heap.size dE 13 (.slice A1 X.out.length c1) X.out.length (dG X.out) ∧ aZ W wr.heap.size dK 8 (.slice A2 X.ev.length c2) X.ev.length (dC X.ev)) _ _ (aB (cN _ _ _ _ _ _) (cN _ _ _ _ _ _)) hb ⟨ho.mono hS.1.size, he.mono hS.1.size⟩ (fun hst => ?_)
   clear hK K hb ho he
   try simp only [nrm]
   clear hS
   refine aA 6 hst ?_
   refine aA 7 hst ?_
   refine aA 8 hst ?_
   refine aA 9 hst ?_
   refine aA 10 hst ?_
   refine eK 12 rfl (fun W hS K hK => ?_)
   rw [if_pos (show Region.wanted _ _ = true from rfl)]
   obtain ⟨⟨hS1, hg, cs, hcs, hG⟩, ho, he⟩ := hS
   obtain ⟨W2, hrun, hG2, hU⟩ := dW (P := Tryz.prog) (ty := 37) (vs := prL X.p) hG hcs (by kernel_rfl) rfl
   refine eQ rfl rfl rfl hrun ?_
   refine hK.out _ (fun W => Below wr.heap.size wr W ∧ (aZ W wr.heap.size dE 13 (.slice A1 X.out.length c1) X.out.length (dG X.out) ∧ aZ W wr.heap.size dK 8 (.slice A2 X.ev.length c2) X.ev.length (dC X.ev)) ∧ wr.heap.size ≤ gg ∧ Blk W gg 37 (prL X.p).toArray) _ _ (fun W h => ⟨⟨h.1, h.2.2.1, _, rfl, h.2.2.2⟩, h.2.1⟩) (aB (aJ _ _ (Nat.le_refl _)) (aB (aB (cN _ _ _ _ _ _) (cN _ _ _ _ _ _)) (aB (bJ _) (aW _ _ _)))) (fun _ h => h) ⟨hU.below hS1 hg, ⟨ho.upd_ty hG (by decide) hU, he.upd_ty hG (by decide) hU⟩, hg, hG2⟩ ?_
   clear hK K hrun hG2 hU hG hcs cs hS1 ho he hst; have hst : aO fun W => Below wr.heap.size wr W ∧ (aZ W wr.heap.size dE 13 (.slice A1 X.out.length c1) X.out.length (dG X.out) ∧ aZ W wr.heap.size dK 8 (.slice A2 X.ev.length c2) X.ev.length (dC X.ev)) ∧ wr.heap.size ≤ gg ∧ Blk W gg 37 (prL X.p).toArray := aB (aJ _ _ (Nat.le_refl _)) (aB (aB (cN _ _ _ _ _ _) (cN _ _ _ _ _ _)) (aB (bJ _) (aW _ _ _))); try simp only [nrm]
   refine aA 13 hst ?_
   refine aA 14 hst ?_
   refine aA 15 hst ?_
   refine aE (fun W5 hS => ?_)
   obtain ⟨hS1, ⟨ho, he⟩, hg2, hG⟩ := hS
   replace HM := HM.alloc hg2 hS1 hG; clear hst
   go_wp2_with fail
   go_meet
   case rel => exact ⟨gg, A1, c1, A2, c2, rfl, rfl, rfl, rfl, ho, he, hS1, HM⟩
  case rest =>
   obtain ⟨I, U, Z, a0, a1, rfl, rfl, rfl, rfl, RA, RB, hbz, HMM⟩ := hcut; clear HM; have HM := HMM; clear HMM
   replace HE := Rg.to HE hbz
   clear hbz
   go_wp2_with with_reducible refine so ?_
   try simp only [nrm]
   go_cut [15, 16, 17, 18] from 116 (fun v15 v16 v17 v18 WX => ∃ (a2 : Nat) (a3 : Option Addr) (a4 : Nat) (a5 : Option Addr) (a6 : Nat), v15 = .pointer (some ⟨a2, 0, none⟩) ∧ v16 = .slice a3 X.out.length a4 ∧ v17 = .slice a5 X.ev.length a6 ∧ v18 = .int .i64 X.er ∧ aZ WX wc.heap.size dE 13 (.slice a3 X.out.length a4) X.out.length (dG X.out) ∧ aZ WX wc.heap.size dK 8 (.slice a5 X.ev.length a6) X.ev.length (dC X.ev) ∧ Below wc.heap.size wc WX ∧ MR w WX base ([]) ((a2, 37, (prL X.p).toArray) :: (I, 37, (prL X.p).toArray) :: (O, 37, (prL p).toArray) :: (L, 37, (prL p).toArray) :: (J, 34, (cT c).toArray) :: []))
   case first =>
    go_wp2_with with_reducible refine so ?_
    try simp only [nrm]
    have hst : aO fun W => Below wc.heap.size wc W := aJ _ _ (Nat.le_refl _)
    refine aD (fun W => Below wc.heap.size wc W) 16 hst (Below.refl _ _).drew ?_
    refine dA 0 0 (prL p) (fun W hS => (HM.to hS).b1) U37 hst ?_
    refine aA 1 hst ?_
    refine aA 2 hst ?_
    refine aA 3 hst ?_
    refine bH (v := .agg (opL x).toArray) 4 hst (fun _ h => h) rfl (fun W hS K hK => aL rfl rfl (run_loadVar_mid W bk (off + k * 16) 45 (opL x) _ (eP (Rg.to HE hS).2 0 (opL x) rfl) U45 rfl (by kernel_rfl)) (hK.out _ (Below.refl _ _))) ?_; simp only [nrm]
    refine mE 5 11 hst rfl rfl ?_ ?_
    ·
     intro W hS K hK
     go_simp; refine (zA p x X HX.out W (HM.to hS).laid HI.out HK.out ⟨by omega, by omega⟩).mono ?_; rintro e w9 ⟨A1, c1, A2, c2, rfl, hb, ho, he⟩
     refine hK.out (fun W => aZ W wc.heap.size dE 13 (.slice A1 X.out.length c1) X.out.length (dG X.out) ∧ aZ W wc.heap.size dK 8 (.slice A2 X.ev.length c2) X.ev.length (dC X.ev)) _ _ (aB (cN _ _ _ _ _ _) (cN _ _ _ _ _ _)) hb ⟨ho.mono hS.size, he.mono hS.size⟩ (fun hst => ?_)
     clear hK K hb ho he
     try simp only [nrm]
     clear hS
     refine aA 6 hst ?_
     refine aA 7 hst ?_
     refine aA 8 hst ?_
     refine aA 9 hst ?_
     refine aA 10 hst ?_
     refine eH 11 hst rfl ?_; intro W hS K hK
     rw [if_pos (show Region.wanted _ _ = true from rfl)]
     refine dZ (ty := 37) (cs := (prL pr0).toArray) (fun g => .pointer (some ⟨g, 0, none⟩)) (by kernel_rfl) (fun gg W2 z lg hb G => ?_)
     refine hK.out (fun W => wc.heap.size ≤ gg ∧ ∃ cs, cs.size = 58 ∧ Blk W gg 37 cs) _ _ (dJ _ _ _ _) hb ⟨Nat.le_trans hS.1.size lg, _, rfl, G⟩ (fun hst => ?_)
     clear hK K hb lg z G
     try simp only [nrm]
     clear hS
     refine eK 12 rfl (fun W hS K hK => ?_)
     rw [if_pos (show Region.wanted _ _ = true from rfl)]
     obtain ⟨⟨hS1, ho, he⟩, hg, cs, hcs, hG⟩ := hS
     obtain ⟨W2, hrun, hG2, hU⟩ := dW (P := Tryz.prog) (ty := 37) (vs := prL X.p) hG hcs (by kernel_rfl) rfl
     refine eQ rfl rfl rfl hrun ?_
     refine hK.out _ (fun W => Below wc.heap.size wc W ∧ (aZ W wc.heap.size dE 13 (.slice A1 X.out.length c1) X.out.length (dG X.out) ∧ aZ W wc.heap.size dK 8 (.slice A2 X.ev.length c2) X.ev.length (dC X.ev)) ∧ wc.heap.size ≤ gg ∧ Blk W gg 37 (prL X.p).toArray) _ _ (fun W h => ⟨⟨h.1, h.2.1⟩, h.2.2.1, _, rfl, h.2.2.2⟩) (aB (aJ _ _ (Nat.le_refl _)) (aB (aB (cN _ _ _ _ _ _) (cN _ _ _ _ _ _)) (aB (bJ _) (aW _ _ _)))) (fun _ h => h) ⟨hU.below hS1 hg, ⟨ho.upd_ty hG (by decide) hU, he.upd_ty hG (by decide) hU⟩, hg, hG2⟩ ?_
     clear hK K hrun hG2 hU hG hcs cs hS1 ho he hst; have hst : aO fun W => Below wc.heap.size wc W ∧ (aZ W wc.heap.size dE 13 (.slice A1 X.out.length c1) X.out.length (dG X.out) ∧ aZ W wc.heap.size dK 8 (.slice A2 X.ev.length c2) X.ev.length (dC X.ev)) ∧ wc.heap.size ≤ gg ∧ Blk W gg 37 (prL X.p).toArray := aB (aJ _ _ (Nat.le_refl _)) (aB (aB (cN _ _ _ _ _ _) (cN _ _ _ _ _ _)) (aB (bJ _) (aW _ _ _))); try simp only [nrm]
     refine aA 13 hst ?_
     refine aA 14 hst ?_
     refine aA 15 hst ?_
     refine aE (fun W5 hS => ?_)
     obtain ⟨hS1, ⟨ho, he⟩, hg2, hG⟩ := hS
     replace HM := HM.alloc hg2 hS1 hG; clear hst
     go_wp2_with fail
     go_meet
     case rel => exact ⟨gg, A1, c1, A2, c2, rfl, rfl, rfl, rfl, ho, he, hS1, HM⟩
    intro W hS K hK
    rw [if_pos (show Region.wanted _ _ = true from rfl)]
    refine dZ (ty := 37) (cs := (prL pr0).toArray) (fun g => .pointer (some ⟨g, 0, none⟩)) (by kernel_rfl) (fun gg W2 z lg hb G => ?_)
    refine hK.out (fun W => wc.heap.size ≤ gg ∧ ∃ cs, cs.size = 58 ∧ Blk W gg 37 cs) _ _ (dJ _ _ _ _) hb ⟨Nat.le_trans hS.size lg, _, rfl, G⟩ (fun hst => ?_)
    clear hK K hb lg z G
    try simp only [nrm]
    clear hS
    refine eH 5 hst rfl ?_; intro W hS K hK
    go_simp; refine (zA p x X HX.out W (HM.to hS.1).laid HI.out HK.out ⟨by omega, by omega⟩).mono ?_; rintro e w9 ⟨A1, c1, A2, c2, rfl, hb, ho, he⟩
    refine hK.out (fun W => aZ W wc.heap.size dE 13 (.slice A1 X.out.length c1) X.out.length (dG X.out) ∧ aZ W wc.heap.size dK 8 (.slice A2 X.ev.length c2) X.ev.length (dC X.ev)) _ _ (aB (cN _ _ _ _ _ _) (cN _ _ _ _ _ _)) hb ⟨ho.mono hS.1.size, he.mono hS.1.size⟩ (fun hst => ?_)
    clear hK K hb ho he
    try simp only [nrm]
    clear hS
    refine aA 6 hst ?_
    refine aA 7 hst ?_
    refine aA 8 hst ?_
    refine aA 9 hst ?_
    refine aA 10 hst ?_
    refine eK 12 rfl (fun W hS K hK => ?_)
    rw [if_pos (show Region.wanted _ _ = true from rfl)]
    obtain ⟨⟨hS1, hg, cs, hcs, hG⟩, ho, he⟩ := hS
    obtain ⟨W2, hrun, hG2, hU⟩ := dW (P := Tryz.prog) (ty := 37) (vs := prL X.p) hG hcs (by kernel_rfl) rfl
    refine eQ rfl rfl rfl hrun ?_
    refine hK.out _ (fun W => Below wc.heap.size wc W ∧ (aZ W wc.heap.size dE 13 (.slice A1 X.out.length c1) X.out.length (dG X.out) ∧ aZ W wc.heap.size dK 8 (.slice A2 X.ev.length c2) X.ev.length (dC X.ev)) ∧ wc.heap.size ≤ gg ∧ Blk W gg 37 (prL X.p).toArray) _ _ (fun W h => ⟨⟨h.1, h.2.2.1, _, rfl, h.2.2.2⟩, h.2.1⟩) (aB (aJ _ _ (Nat.le_refl _)) (aB (aB (cN _ _ _ _ _ _) (cN _ _ _ _ _ _)) (aB (bJ _) (aW _ _ _)))) (fun _ h => h) ⟨hU.below hS1 hg, ⟨ho.upd_ty hG (by decide) hU, he.upd_ty hG (by decide) hU⟩, hg, hG2⟩ ?_
    clear hK K hrun hG2 hU hG hcs cs hS1 ho he hst; have hst : aO fun W => Below wc.heap.size wc W ∧ (aZ W wc.heap.size dE 13 (.slice A1 X.out.length c1) X.out.length (dG X.out) ∧ aZ W wc.heap.size dK 8 (.slice A2 X.ev.length c2) X.ev.length (dC X.ev)) ∧ wc.heap.size ≤ gg ∧ Blk W gg 37 (prL X.p).toArray := aB (aJ _ _ (Nat.le_refl _)) (aB (aB (cN _ _ _ _ _ _) (cN _ _ _ _ _ _)) (aB (bJ _) (aW _ _ _))); try simp only [nrm]
    refine aA 13 hst ?_
    refine aA 14 hst ?_
    refine aA 15 hst ?_
    refine aE (fun W5 hS => ?_)
    obtain ⟨hS1, ⟨ho, he⟩, hg2, hG⟩ := hS
    replace HM := HM.alloc hg2 hS1 hG; clear hst
    go_wp2_with fail
    go_meet
    case rel => exact ⟨gg, A1, c1, A2, c2, rfl, rfl, rfl, rfl, ho, he, hS1, HM⟩
   case rest =>
    obtain ⟨a2, a3, a4, a5, a6, rfl, rfl, rfl, rfl, RC, RD, hbz, HMM⟩ := hcut; clear HM; have HM := HMM; clear HMM
    replace HE := Rg.to HE hbz
    replace RA := aZ.to RA hbz
    replace RB := aZ.to RB hbz
    clear hbz
    clear HE
    go_wp2_with first | with_reducible refine so ?_ | with_reducible refine ld 0 (prL X.p) HM.b1 U37 ?_ | ((with_reducible refine bI 0 (prL X.p) HM.b1 ?_ ?_ U37 ?_ ?_ ?_ ?_); rfl; rfl; rfl; kernel_rfl; rfl) | with_reducible refine ld 0 (prL X.p) HM.b0 U37 ?_ | ((with_reducible refine bI 0 (prL X.p) HM.b0 ?_ ?_ U37 ?_ ?_ ?_ ?_); rfl; rfl; rfl; kernel_rfl; rfl)
    refine (GK _ _ _ _ X.out _ RA.rd RC.rd (Nat.le_trans RA.len (by decide))).mono ?_; rintro e d9 ⟨rfl, q⟩
    replace HM := HM.to q
    replace RA := aZ.to RA q
    replace RB := aZ.to RB q
    replace RC := aZ.to RC q
    replace RD := aZ.to RD q
    clear q
    go_wp2_with with_reducible refine so ?_
    refine (yM _ _ _ _ X.ev _ RB.rd RD.rd (Nat.le_trans RB.len (by decide))).mono ?_; rintro e e0 ⟨rfl, a7⟩
    replace HM := HM.to a7
    clear RA RB RC RD
    clear a7
    go_wp2_with first | with_reducible refine so ?_ | with_reducible refine ld 0 (prL X.p) HM.b1 U37 ?_ | ((with_reducible refine bI 0 (prL X.p) HM.b1 ?_ ?_ U37 ?_ ?_ ?_ ?_); rfl; rfl; rfl; kernel_rfl; rfl)
    refine yv HM.b3 HM.s3 ?_; clear HM; intro e1 HM
    go_wp2_with first | with_reducible refine so ?_ | with_reducible refine ld 0 (prL X.p) HM.b0 U37 ?_ | ((with_reducible refine bI 0 (prL X.p) HM.b0 ?_ ?_ U37 ?_ ?_ ?_ ?_); rfl; rfl; rfl; kernel_rfl; rfl)
    refine yv HM.b2 HM.s2 ?_; clear HM; intro e2 HM
    go_wp2_with with_reducible refine so ?_
    go_roundw
    case rel => exact ⟨k + 1, X.p, x.now, by omega, rfl, by go_num, by have h := IJ x HI.out (by omega) (by omega); rw [HX.out] at h; exact h, by have h := K3 x HI.out HK.out (by omega) (by omega); rw [HX.out] at h; exact h, by omega, by omega, HM.drop.drop⟩
    case measure => simp [intOf]; omega
set_option maxHeartbeats 4000000 in
theorem FC (c : Cfg) (A : Option Addr) (cap : Nat) (rs : List qJ) (w : World) (HL : bW w) (hC : Rd w A (rs.flatMap opL)) (hn : ¬ (cP c).2 = 0) :
  Calls Tryz.prog 3 #[.agg (cT c).toArray, .slice A rs.length cap] w (fun e w' => e = .returned (.bool true) ∧ Below w.heap.size w w') := by
 have HM := MR.start HL
 have HLT : rs ≠ [] → ∀ ad, A = some ad → ad.block < w.heap.size := fun hl ad ha => GI hC (C7 hl) ad ha
 obtain ⟨base, hbs⟩ : ∃ b, w.heap.size = b := ⟨_, rfl⟩
 rw [hbs] at HM HLT
 have HC := Lib.hid hC
 have HLB := Lib.hid HLT
 have hbs1 := Lib.hid hbs
 have HN := Lib.hid hn
 have y0 : (((cP c).2 : Int) == 0) = false := by simpa using hn
 have y1 : (((cP c).2 : Int) != 0) = true := by simpa using hn
 clear hn hC HL hbs HLT
 go_enter Tryz.func3, Tryz.ntmps3
 go_wp2_with with_reducible refine so ?_
 refine HM.nw (ty := 34) (cs := (cT c).toArray) ?_; clear HM; intro q z HM
 go_wp2_with first | with_reducible refine so ?_ | with_reducible refine ld 0 (cT c) HM.b0 U34 ?_
 refine bt HM.to (BI c _ HM.laid) ?_; clear HM; intro C HM
 go_wp2_with with_reducible refine so ?_
 refine HM.nw (ty := 37) (cs := (prL pr0).toArray) ?_; clear HM; intro D F HM
 go_wp2_with with_reducible refine so ?_
 refine yv HM.b0 HM.s0 ?_; clear HM; intro I HM
 go_wp2_with first | with_reducible refine so ?_ | with_reducible refine ld 0 (cT c) HM.b1 U34 ?_
 refine bt HM.to (H4 c _) ?_; clear HM; intro J HM
 go_wp2_with with_reducible refine so ?_
 refine HM.nw (ty := 37) (cs := (prL pr0).toArray) ?_; clear HM; intro L O HM
 go_wp2_with with_reducible refine so ?_
 refine yv HM.b0 HM.s0 ?_; clear HM; intro U HM
 go_wp2_with first | with_reducible refine so ?_ | with_reducible refine lw HM.b1 U37 ?_ | ((with_reducible refine bI 0 (prL (cP c).1) HM.b1 ?_ ?_ U37 ?_ ?_ ?_ ?_); rfl; rfl; rfl; kernel_rfl; rfl) | with_reducible refine lw HM.b0 U37 ?_ | ((with_reducible refine bI 0 (prL (cP c).1) HM.b0 ?_ ?_ U37 ?_ ?_ ?_ ?_); rfl; rfl; rfl; kernel_rfl; rfl)
 refine bt HM.to (xA _ HM.laid) ?_; clear HM; intro Z HM
 go_wp2_with with_reducible refine so ?_
 go_returns
 refine ⟨?_, by first | exact HM.below | (rw [hbs1.out]; exact HM.below)⟩
 rfl
theorem rH (c : Cfg) (A : Option Addr) (cap : Nat) (rs : List qJ) (w : World) (HL : bW w) (hC : Rd w A (rs.flatMap opL)) :
    Calls Tryz.prog 3 #[.agg (cT c).toArray, .slice A rs.length cap] w (fun e w' => e = .returned (.bool true) ∧ Below w.heap.size w w') := by
  by_cases h : (cP c).2 = 0
  · exact GP c A cap rs w HL hC h
  · exact FC c A cap rs w HL hC h
end Go.Proofs.YtihmbcnccdiecaaGreatDoor
