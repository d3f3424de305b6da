/- Part of the proofs of the laws of pairing. -/
import Derived.Test.YtihmbcnccdiecaaDoorA2
namespace Go.Proofs.YtihmbcnccdiecaaDoor
set_option maxRecDepth 100000
open Go.ChangeShapes Go.WideShapes Go.ChangeAt Go.RowKit
set_option linter.unusedVariables false
set_option linter.unusedSimpArgs false
theorem foldl_take_succ {α β : Type} (f : β → α → β) (b : β) (l : List α) (k : Nat) (h : k < l.length) : (l.take (k + 1)).foldl f b = f ((l.take k).foldl f b) l[k] := by
  rw [List.take_add_one, List.foldl_append, List.getElem?_eq_getElem h]
  rfl
theorem put_sent {l : List Chg} {b : Bool} : ∀ (out : List Sec) (x : Tk), (out.foldl (put1 l b) x).sent = x.sent + out.length ∧ (out.foldl (put1 l b) x).line.length = x.line.length + out.length ∧ (out.foldl (put1 l b) x).g0 = x.g0 ∧ (out.foldl (put1 l b) x).g1 = x.g1 := by
  intro out
  induction out with
  | nil => intro x; exact ⟨by simp, rfl, rfl, rfl⟩
  | cons d out ih =>
    intro x
    obtain ⟨h1, h2, h3, h4⟩ := ih (put1 l b x d)
    rw [List.foldl_cons]
    refine ⟨?_, ?_, h3, h4⟩
    · rw [h1]; show x.sent + 1 + (out.length : Int) = x.sent + ((d :: out).length : Nat); rw [List.length_cons]; omega
    · rw [h2]; show (x.line ++ [_]).length + out.length = _; rw [List.length_append, List.length_cons, List.length_cons]; simp; omega
theorem note_line {b : Bool} : ∀ (ev : List Evt) (x : Tk), (ev.foldl (note1 b) x).line = x.line ∧ (ev.foldl (note1 b) x).g0.length ≤ x.g0.length + ev.length ∧ (ev.foldl (note1 b) x).g1.length ≤ x.g1.length + ev.length := by
  intro ev
  induction ev with
  | nil => intro x; exact ⟨rfl, by simp, by simp⟩
  | cons e ev ih =>
    intro x
    obtain ⟨h1, h2, h3⟩ := ih (note1 b x e)
    rw [List.foldl_cons]
    have h : (note1 b x e).line = x.line ∧ (note1 b x e).g0.length ≤ x.g0.length + 1 ∧ (note1 b x e).g1.length ≤ x.g1.length + 1 := by
      unfold note1
      split
      · split <;> exact ⟨rfl, Nat.le_succ _, Nat.le_succ _⟩
      · split
        · split <;> exact ⟨rfl, Nat.le_succ _, Nat.le_succ _⟩
        · split <;> exact ⟨rfl, by simp, by simp⟩
    rw [List.length_cons]
    exact ⟨h1.trans h.1, by omega, by omega⟩
theorem MR.r4 {w0 W : World} {base : Nat} {rs : List Rw} {bx : List Bk} {a b c d r : Rw} (h : MR w0 W base (a :: b :: c :: d :: r :: rs) bx) : ownsAt W base r.e r.size r.v r.n r.xs := h.rows r (by simp)
theorem MR.r5 {w0 W : World} {base : Nat} {rs : List Rw} {bx : List Bk} {a b c d f r : Rw} (h : MR w0 W base (a :: b :: c :: d :: f :: r :: rs) bx) : ownsAt W base r.e r.size r.v r.n r.xs := h.rows r (by simp)
theorem MR.ge0 {w0 W : World} {base : Nat} {rs : List Rw} {bx : List Bk} {x : Bk} (h : MR w0 W base rs (x :: bx)) : base ≤ x.1 := (h.box x (by simp)).2.1
theorem MR.ne5 {w0 W : World} {base : Nat} {rs : List Rw} {bx : List Bk} {a b c d f r : Rw} {x y z : Bk} (h : MR w0 W base (a :: b :: c :: d :: f :: r :: rs) (x :: y :: z :: bx)) : r.v.ownBlock ≠ some z.1 := (h.box z (by simp)).2.2 r (by simp)
set_option maxHeartbeats 8000000 in
theorem tk_post_f (X : Tk) (p : Pr) (out : List Sec) (ev : List Evt) (l : List Chg) (A0 : Option Addr) (c0 : Nat) (A1 : Option Addr) (c1 : Nat) (Aa : Option Addr) (ca : Nat) (Al : Option Addr) (cl : Nat) (Ao : Option Addr) (co : Nat) (Ae : Option Addr) (ce : Nat) (Ac : Option Addr) (cc : Nat) (base : Nat) (bx : List Bk) (w : World) (HM : MR w w base [rwL (.slice Al X.line.length cl) X.line, rwA (.slice Aa X.line.length ca) X.line, rwE (.slice A0 X.g0.length c0) X.g0, rwE (.slice A1 X.g1.length c1) X.g1, rwS (.slice Ao out.length co) out, rwE (.slice Ae ev.length ce) ev] bx) (hC : Rd w Ac (l.flatMap chgL)) (hLB : l ≠ [] → ∀ ad, Ac = some ad → ad.block < base) (b0 : 0 ≤ X.sent) (b1 : X.sent ≤ 10000) (b2 : X.line.length ≤ 10000) (b3 : X.g0.length ≤ 10000) (b4 : X.g1.length ≤ 10000) (b5 : out.length ≤ 1000) (b6 : ev.length ≤ 1000) (b7 : l.length ≤ 1000) :
  Calls Tryd.prog 31 #[.agg (tkL X (.slice A0 X.g0.length c0) (.slice A1 X.g1.length c1) (.slice Aa X.line.length ca) (.slice Al X.line.length cl)).toArray, .int .i64 0, .agg (prL p).toArray, .slice Ao out.length co, .slice Ae ev.length ce, .slice Ac l.length cc] w (fun e w' => ∃ (A0 : Option Addr) (c0 : Nat) (A1 : Option Addr) (c1 : Nat) (Aa : Option Addr) (ca : Nat) (Al : Option Addr) (cl : Nat), e = .returned (.agg (tkL (postT X false p out ev l) (.slice A0 (postT X false p out ev l).g0.length c0) (.slice A1 (postT X false p out ev l).g1.length c1) (.slice Aa (postT X false p out ev l).line.length ca) (.slice Al (postT X false p out ev l).line.length cl)).toArray) ∧ MR w w' base [rwL (.slice Al (postT X false p out ev l).line.length cl) (postT X false p out ev l).line, rwA (.slice Aa (postT X false p out ev l).line.length ca) (postT X false p out ev l).line, rwE (.slice A0 (postT X false p out ev l).g0.length c0) (postT X false p out ev l).g0, rwE (.slice A1 (postT X false p out ev l).g1.length c1) (postT X false p out ev l).g1, rwS (.slice Ao out.length co) out, rwE (.slice Ae ev.length ce) ev] bx) := by
 have HC := Lib.hid hC
 have HLB := Lib.hid hLB
 clear hC hLB
 go_enter Tryd.func31, Tryd.ntmps31
 go_wp2_with (with_reducible refine sa ?_)
 refine HM.nw (ty := 58) (cs := (tkL X (.slice A0 X.g0.length c0) (.slice A1 X.g1.length c1) (.slice Aa X.line.length ca) (.slice Al X.line.length cl)).toArray) ?_; clear HM; intro g_1 w_2 HM
 go_wp2_with (with_reducible refine sa ?_)
 refine HM.nw (ty := 37) (cs := (prL p).toArray) ?_; clear HM; intro g_7 w_8 HM
 go_wp2_with (with_reducible refine sa ?_)
 refine HM.nw (ty := 58) (cs := (tkL tk0 (.slice none 0 0) (.slice none 0 0) (.slice none 0 0) (.slice none 0 0)).toArray) ?_; clear HM; intro g_13 w_14 HM
 go_wp2_with (first | (with_reducible refine sa ?_) | (with_reducible refine ld 0 (prL p) HM.b1 Tryd.underlying37 ?_))
 refine sw 0 (prL ((X.put_s0 p)).s0).toArray (tkL ((X.put_s0 p)) (.slice A0 X.g0.length c0) (.slice A1 X.g1.length c1) (.slice Aa X.line.length ca) (.slice Al X.line.length cl)).toArray HM.b2 ?_
 intro w_20 G_22 hU_21
 replace HM := HM.s2 hU_21 G_22
 clear hU_21 G_22
 go_wp2_with (with_reducible refine sa ?_)
 try simp only [nrm]
 go_loopw [13] (fun i wr => ∃ (k : Nat) (Y : Tk) (Bl : Option Addr) (dl : Nat) (Ba : Option Addr) (da : Nat), k ≤ out.length ∧ i = .int .i64 k ∧ Y = (out.take k).foldl (put1 l false) (X.put_s0 p) ∧ MR w wr base ([rwL (.slice Bl Y.line.length dl) Y.line, rwA (.slice Ba Y.line.length da) Y.line, rwE (.slice A0 X.g0.length c0) X.g0, rwE (.slice A1 X.g1.length c1) X.g1, rwS (.slice Ao out.length co) out, rwE (.slice Ae ev.length ce) ev]) ((g_13, 58, (tkL tk0 (.slice none 0 0) (.slice none 0 0) (.slice none 0 0) (.slice none 0 0)).toArray) :: (g_7, 37, (prL p).toArray) :: (g_1, 58, (tkL Y (.slice A0 X.g0.length c0) (.slice A1 X.g1.length c1) (.slice Ba Y.line.length da) (.slice Bl Y.line.length dl)).toArray) :: bx)) (fun i _ => out.length - (intOf i).toNat)
 case atStart => exact ⟨0, X.put_s0 p, Al, cl, Aa, ca, Nat.zero_le _, rfl, rfl, HM⟩
 case round =>
  clear HM 
  obtain ⟨k, Y, Bl, dl, Ba, da, hk0, rfl, hY, HM⟩ := hrel
  have hs := put_sent (l := l) (b := false) (out.take k) (X.put_s0 p)
  rw [← hY, List.length_take, Nat.min_eq_left hk0] at hs
  have hs1 : Y.sent = X.sent + (k : Int) := hs.1
  have hs2 : Y.line.length = X.line.length + k := hs.2.1
  have hs3 : Y.g0 = X.g0 := hs.2.2.1
  have hs4 : Y.g1 = X.g1 := hs.2.2.2
  clear hs
  by_cases hlt : k < out.length
  ·
   obtain ⟨d, hd⟩ : ∃ d, out[k] = d := ⟨_, rfl⟩
   have ho : Rd wr Ao (secs out) := HM.r4.rd
   obtain ⟨bk, off, rfl, hrow⟩ := srow_open secL_len (by decide) ho k hlt
   rw [hd] at hrow
   have HE := Lib.hid hrow
   have hB := Below.refl wr.heap.size wr
   clear hrow ho
   have sw : IntKind.i64.wrap (Y.sent + 1) = Y.sent + 1 := IntWalk.i64_in _ (by omega)
   have HY := Lib.hid hY
   have HD0 := Lib.hid hd
   have HS := Lib.hid (And.intro hs1 hs2)
   clear hY hd hs1 hs2 hs3 hs4
   have i1 : decide ((k : Int) < ((out.length : Nat) : Int)) = true := by simp; exact hlt
   have i2 : decide (k < out.length) = true := decide_eq_true hlt
   go_wp2_with (first | (with_reducible refine sa ?_) | ((with_reducible refine wpList_ldr [.int .i64 d.kind, .int .i64 d.feat.io, .bool d.feat.oob, .bool d.feat.bond, .bool d.feat.mitm, .bool d.feat.sid, .bool d.feat.tid, .int .u32 (W32 d.pub), .int .u64 (W64 d.value), .int .i64 d.idn.adr.kind, .int .u64 (W64 d.idn.adr.bits), .int .u64 (W64 d.idn.irk), .int .i64 d.reason] ((HE.out _ hB)) ?_ Tryd.underlying43 ?_ ?_ ?_); rfl; rfl; kernel_rfl))
   refine HM.nw (ty := 43) (cs := (secL sec0).toArray) ?_; clear HM; intro g_24 w_25 HM
   go_wp2_with (with_reducible refine sa ?_)
   refine sv (secL d).toArray HM.b0 ?_
   intro w_30 G_32 hU_31
   replace HM := HM.s0 hU_31 G_32
   clear hU_31 G_32
   go_wp2_with (with_reducible refine sa ?_)
   try simp only [nrm]
   go_loopw [15] (fun i wr => ∃ (j : Nat) (D : Sec), j ≤ l.length ∧ i = .int .i64 j ∧ D = (l.take j).foldl (chg1 Y.sent) d ∧ MR w wr base ([rwL (.slice Bl Y.line.length dl) Y.line, rwA (.slice Ba Y.line.length da) Y.line, rwE (.slice A0 X.g0.length c0) X.g0, rwE (.slice A1 X.g1.length c1) X.g1, rwS (.slice (some ⟨bk, off, none⟩) out.length co) out, rwE (.slice Ae ev.length ce) ev]) ((g_24, 43, (secL D).toArray) :: (g_13, 58, (tkL tk0 (.slice none 0 0) (.slice none 0 0) (.slice none 0 0) (.slice none 0 0)).toArray) :: (g_7, 37, (prL p).toArray) :: (g_1, 58, (tkL Y (.slice A0 X.g0.length c0) (.slice A1 X.g1.length c1) (.slice Ba Y.line.length da) (.slice Bl Y.line.length dl)).toArray) :: bx)) (fun i _ => l.length - (intOf i).toNat)
   case atStart => exact ⟨0, d, Nat.zero_le _, rfl, rfl, HM⟩
   case round =>
    clear HM 
    obtain ⟨j, D, hj0, rfl, hD, HM⟩ := hrel
    rcases (show (j < l.length ∧ D.kind = 12) ∨ (j < l.length ∧ ¬ D.kind = 12) ∨ ¬ j < l.length by omega) with ⟨hlj, h12⟩ | ⟨hlj, h12⟩ | hlj
    ·
     obtain ⟨c, hc⟩ : ∃ c, l[j] = c := ⟨_, rfl⟩
     have hln : l ≠ [] := by rintro rfl; simp at hlj
     have hr := HC.out.low HM.below (HLB.out hln)
     obtain ⟨bc, oc, rfl, hrow⟩ := srow_open chgL_len (by decide) hr j hlj
     rw [hc] at hrow
     have hbc : bc < base := HLB.out hln _ rfl
     have hge := HM.ge0
     dsimp only at hge
     have HEE : Rg bc (oc + j * 3) (chgL c) wr := ⟨Nat.lt_of_lt_of_le hbc HM.low, hrow wr (Below.refl _ _)⟩
     clear hrow hr HE
     have HE := HEE
     clear HEE
     have HC0 := Lib.hid hc
     have HDD := Lib.hid hD
     clear hc hD
     have j1 : decide ((j : Int) < ((l.length : Nat) : Int)) = true := by simp; exact hlj
     have j2 : decide (j < l.length) = true := decide_eq_true hlj
     have k12 : ((D.kind : Int) == 12) = true := by simpa using h12
     have k3 : ((D.kind : Int) == 3) = false := by rw [h12]; rfl
     have k4 : ((D.kind : Int) == 4) = false := by rw [h12]; rfl
     have kk12 := Lib.hid h12
     clear h12
     by_cases hc_33 : (c.at_ : Int) = Y.sent
     ·
      obtain ⟨ec_33, ec_33n, kc_33⟩ := fT hc_33; clear hc_33
      go_wp2_with (with_reducible refine sa ?_)
      have hst : Stable fun W => MR w W base ([rwL (.slice Bl Y.line.length dl) Y.line, rwA (.slice Ba Y.line.length da) Y.line, rwE (.slice A0 X.g0.length c0) X.g0, rwE (.slice A1 X.g1.length c1) X.g1, rwS (.slice (some ⟨bk, off, none⟩) out.length co) out, rwE (.slice Ae ev.length ce) ev]) ((g_24, 43, (secL D).toArray) :: (g_13, 58, (tkL tk0 (.slice none 0 0) (.slice none 0 0) (.slice none 0 0) (.slice none 0 0)).toArray) :: (g_7, 37, (prL p).toArray) :: (g_1, 58, (tkL Y (.slice A0 X.g0.length c0) (.slice A1 X.g1.length c1) (.slice Ba Y.line.length da) (.slice Bl Y.line.length dl)).toArray) :: bx) ∧ Rg bc (oc + j * 3) (chgL c) W := stable_and (stable_mr _ _ _ _) (stable_rg _ _ _)
      refine wp_region_v _ 13 hst ⟨HM.drew, HE⟩ ?_
      clear HM HE
      refine wpU_p 0 hst ?_
      refine wpU_p 1 hst ?_
      refine wpU_p 2 hst ?_
      refine wpU_p 3 hst ?_
      refine wpU_take (v := ?_) 4 hst (fun _ h => h) rfl ?_ ?_; rotate_left; (intro W hS K hK; have ld : W.cell? ⟨bc, oc + j * 3, none⟩ = some (.int .i64 c.at_) := hS.2.2 0 _ rfl; clear hS; go_simp; exact hK.out _ (Below.refl _ _)); simp only [nrm]
      refine wpU_p 5 hst ?_
      refine wpU_c 6 (.int .i64 Y.sent) hst (fun W hS => hS.1.b3.cell 125) ?_
      refine wpU_p 7 hst ?_
      refine wpU_p 8 hst ?_
      refine wpU_p 9 hst ?_
      refine wpU_c 10 (.int .i64 D.kind) hst (fun W hS => hS.1.b0.cell 0) ?_
      refine wpU_p 11 hst ?_
      refine wpU_p 12 hst ?_
      refine wpU_done (fun w_34 hS => ?_)
      obtain ⟨HM, HE⟩ := hS
      clear hst
      have ld_35 : w_34.cell? ⟨bc, oc + j * 3 + 1, none⟩ = some (.int .u32 (W32 c.pub)) := HE.2 1 _ rfl
      go_wp2_with (with_reducible refine sa ?_)
      refine sx 7 (.int .u32 (W32 c.pub)) #[.int .i64 D.kind, .int .i64 D.feat.io, .bool D.feat.oob, .bool D.feat.bond, .bool D.feat.mitm, .bool D.feat.sid, .bool D.feat.tid, .int .u32 (W32 c.pub), .int .u64 (W64 D.value), .int .i64 D.idn.adr.kind, .int .u64 (W64 D.idn.adr.bits), .int .u64 (W64 D.idn.irk), .int .i64 D.reason] HM.b0 ?_
      intro w_36 G_38 hU_37
      clear ld_35
      replace HM := HM.s0 hU_37 G_38
      replace HE := Rg.upd HE hU_37 (by omega)
      clear hU_37 G_38
      go_wp2_with (with_reducible refine sa ?_)
      have hst : Stable fun W => MR w W base ([rwL (.slice Bl Y.line.length dl) Y.line, rwA (.slice Ba Y.line.length da) Y.line, rwE (.slice A0 X.g0.length c0) X.g0, rwE (.slice A1 X.g1.length c1) X.g1, rwS (.slice (some ⟨bk, off, none⟩) out.length co) out, rwE (.slice Ae ev.length ce) ev]) ((g_24, 43, #[.int .i64 D.kind, .int .i64 D.feat.io, .bool D.feat.oob, .bool D.feat.bond, .bool D.feat.mitm, .bool D.feat.sid, .bool D.feat.tid, .int .u32 (W32 c.pub), .int .u64 (W64 D.value), .int .i64 D.idn.adr.kind, .int .u64 (W64 D.idn.adr.bits), .int .u64 (W64 D.idn.irk), .int .i64 D.reason]) :: (g_13, 58, (tkL tk0 (.slice none 0 0) (.slice none 0 0) (.slice none 0 0) (.slice none 0 0)).toArray) :: (g_7, 37, (prL p).toArray) :: (g_1, 58, (tkL Y (.slice A0 X.g0.length c0) (.slice A1 X.g1.length c1) (.slice Ba Y.line.length da) (.slice Bl Y.line.length dl)).toArray) :: bx) ∧ Rg bc (oc + j * 3) (chgL c) W := stable_and (stable_mr _ _ _ _) (stable_rg _ _ _)
      refine wp_region_v _ 18 hst ⟨HM.drew, HE⟩ ?_
      clear HM HE
      refine wpU_p 0 hst ?_
      refine wpU_p 1 hst ?_
      refine wpU_p 2 hst ?_
      refine wpU_p 3 hst ?_
      refine wpU_take (v := ?_) 4 hst (fun _ h => h) rfl ?_ ?_; rotate_left; (intro W hS K hK; have ld : W.cell? ⟨bc, oc + j * 3, none⟩ = some (.int .i64 c.at_) := hS.2.2 0 _ rfl; clear hS; go_simp; exact hK.out _ (Below.refl _ _)); simp only [nrm]
      refine wpU_p 5 hst ?_
      refine wpU_c 6 (.int .i64 Y.sent) hst (fun W hS => hS.1.b3.cell 125) ?_
      refine wpU_p 7 hst ?_
      refine wpU_p 8 hst ?_
      refine wpU_p 9 hst ?_
      refine wpU_c 10 (.int .i64 D.kind) hst (fun W hS => hS.1.b0.cell 0) ?_
      refine wpU_p 11 hst ?_
      refine wpU_p 12 hst ?_
      refine wpU_p 13 hst ?_
      refine wpU_c 14 (.int .i64 D.kind) hst (fun W hS => hS.1.b0.cell 0) ?_
      refine wpU_p 15 hst ?_
      refine wpU_p 16 hst ?_
      refine wpU_p 17 hst ?_
      refine wpU_done (fun w_39 hS => ?_)
      obtain ⟨HM, HE⟩ := hS
      clear hst
      go_wp2_with (with_reducible refine sa ?_)
      go_roundw
      have q0 := kk12.out
      have q1 := kc_33.out
      have eD : chg1 Y.sent D c = ⟨D.kind, ⟨D.feat.io, D.feat.oob, D.feat.bond, D.feat.mitm, D.feat.sid, D.feat.tid⟩, c.pub, D.value, ⟨⟨D.idn.adr.kind, D.idn.adr.bits⟩, D.idn.irk⟩, D.reason⟩ := by unfold chg1; first | (simp [q0, q1]; done) | (simp only [q0, q1]; rfl) | (simp_all; done)
      case rel => exact ⟨j + 1, chg1 Y.sent D c, by omega, by go_num, by rw [foldl_take_succ _ _ _ _ hlj, HC0.out, ← HDD.out], by rw [eD]; exact HM⟩
      case measure => simp [intOf]; omega
     obtain ⟨ec_33, ec_33n, kc_33⟩ := fF hc_33; clear hc_33
     go_wp2_with (with_reducible refine sa ?_)
     have hst : Stable fun W => MR w W base ([rwL (.slice Bl Y.line.length dl) Y.line, rwA (.slice Ba Y.line.length da) Y.line, rwE (.slice A0 X.g0.length c0) X.g0, rwE (.slice A1 X.g1.length c1) X.g1, rwS (.slice (some ⟨bk, off, none⟩) out.length co) out, rwE (.slice Ae ev.length ce) ev]) ((g_24, 43, (secL D).toArray) :: (g_13, 58, (tkL tk0 (.slice none 0 0) (.slice none 0 0) (.slice none 0 0) (.slice none 0 0)).toArray) :: (g_7, 37, (prL p).toArray) :: (g_1, 58, (tkL Y (.slice A0 X.g0.length c0) (.slice A1 X.g1.length c1) (.slice Ba Y.line.length da) (.slice Bl Y.line.length dl)).toArray) :: bx) ∧ Rg bc (oc + j * 3) (chgL c) W := stable_and (stable_mr _ _ _ _) (stable_rg _ _ _)
     refine wp_region_v _ 13 hst ⟨HM.drew, HE⟩ ?_
     clear HM HE
     refine wpU_p 0 hst ?_
     refine wpU_p 1 hst ?_
     refine wpU_p 2 hst ?_
     refine wpU_p 3 hst ?_
     refine wpU_take (v := ?_) 4 hst (fun _ h => h) rfl ?_ ?_; rotate_left; (intro W hS K hK; have ld : W.cell? ⟨bc, oc + j * 3, none⟩ = some (.int .i64 c.at_) := hS.2.2 0 _ rfl; clear hS; go_simp; exact hK.out _ (Below.refl _ _)); simp only [nrm]
     refine wpU_p 5 hst ?_
     refine wpU_c 6 (.int .i64 Y.sent) hst (fun W hS => hS.1.b3.cell 125) ?_
     refine wpU_p 7 hst ?_
     refine wpU_p 8 hst ?_
     refine wpU_s 9 hst ?_
     refine wpU_s 10 hst ?_
     refine wpU_s 11 hst ?_
     refine wpU_p 12 hst ?_
     refine wpU_done (fun w_40 hS => ?_)
     obtain ⟨HM, HE⟩ := hS
     clear hst
     go_wp2_with (with_reducible refine sa ?_)
     have hst : Stable fun W => MR w W base ([rwL (.slice Bl Y.line.length dl) Y.line, rwA (.slice Ba Y.line.length da) Y.line, rwE (.slice A0 X.g0.length c0) X.g0, rwE (.slice A1 X.g1.length c1) X.g1, rwS (.slice (some ⟨bk, off, none⟩) out.length co) out, rwE (.slice Ae ev.length ce) ev]) ((g_24, 43, (secL D).toArray) :: (g_13, 58, (tkL tk0 (.slice none 0 0) (.slice none 0 0) (.slice none 0 0) (.slice none 0 0)).toArray) :: (g_7, 37, (prL p).toArray) :: (g_1, 58, (tkL Y (.slice A0 X.g0.length c0) (.slice A1 X.g1.length c1) (.slice Ba Y.line.length da) (.slice Bl Y.line.length dl)).toArray) :: bx) ∧ Rg bc (oc + j * 3) (chgL c) W := stable_and (stable_mr _ _ _ _) (stable_rg _ _ _)
     refine wp_region_v _ 18 hst ⟨HM.drew, HE⟩ ?_
     clear HM HE
     refine wpU_p 0 hst ?_
     refine wpU_p 1 hst ?_
     refine wpU_p 2 hst ?_
     refine wpU_p 3 hst ?_
     refine wpU_take (v := ?_) 4 hst (fun _ h => h) rfl ?_ ?_; rotate_left; (intro W hS K hK; have ld : W.cell? ⟨bc, oc + j * 3, none⟩ = some (.int .i64 c.at_) := hS.2.2 0 _ rfl; clear hS; go_simp; exact hK.out _ (Below.refl _ _)); simp only [nrm]
     refine wpU_p 5 hst ?_
     refine wpU_c 6 (.int .i64 Y.sent) hst (fun W hS => hS.1.b3.cell 125) ?_
     refine wpU_p 7 hst ?_
     refine wpU_p 8 hst ?_
     refine wpU_s 9 hst ?_
     refine wpU_s 10 hst ?_
     refine wpU_s 11 hst ?_
     refine wpU_s 12 hst ?_
     refine wpU_s 13 hst ?_
     refine wpU_s 14 hst ?_
     refine wpU_s 15 hst ?_
     refine wpU_s 16 hst ?_
     refine wpU_p 17 hst ?_
     refine wpU_done (fun w_41 hS => ?_)
     obtain ⟨HM, HE⟩ := hS
     clear hst
     go_wp2_with (with_reducible refine sa ?_)
     go_roundw
     have q0 := kk12.out
     have q1 := kc_33.out
     have eD : chg1 Y.sent D c = D := by unfold chg1; first | (simp [q0, q1]; done) | (simp only [q0, q1]; rfl) | (simp_all; done)
     case rel => exact ⟨j + 1, chg1 Y.sent D c, by omega, by go_num, by rw [foldl_take_succ _ _ _ _ hlj, HC0.out, ← HDD.out], by rw [eD]; exact HM⟩
     case measure => simp [intOf]; omega
    ·
     obtain ⟨c, hc⟩ : ∃ c, l[j] = c := ⟨_, rfl⟩
     have hln : l ≠ [] := by rintro rfl; simp at hlj
     have hr := HC.out.low HM.below (HLB.out hln)
     obtain ⟨bc, oc, rfl, hrow⟩ := srow_open chgL_len (by decide) hr j hlj
     rw [hc] at hrow
     have hbc : bc < base := HLB.out hln _ rfl
     have hge := HM.ge0
     dsimp only at hge
     have HEE : Rg bc (oc + j * 3) (chgL c) wr := ⟨Nat.lt_of_lt_of_le hbc HM.low, hrow wr (Below.refl _ _)⟩
     clear hrow hr HE
     have HE := HEE
     clear HEE
     have HC0 := Lib.hid hc
     have HDD := Lib.hid hD
     clear hc hD
     have j1 : decide ((j : Int) < ((l.length : Nat) : Int)) = true := by simp; exact hlj
     have j2 : decide (j < l.length) = true := decide_eq_true hlj
     have k12 : ((D.kind : Int) == 12) = false := by simpa using h12
     have kk12 := Lib.hid h12
     clear h12
     by_cases hc_42 : (c.at_ : Int) = Y.sent
     ·
      obtain ⟨ec_42, ec_42n, kc_42⟩ := fT hc_42; clear hc_42
      go_wp2_with (with_reducible refine sa ?_)
      have hst : Stable fun W => MR w W base ([rwL (.slice Bl Y.line.length dl) Y.line, rwA (.slice Ba Y.line.length da) Y.line, rwE (.slice A0 X.g0.length c0) X.g0, rwE (.slice A1 X.g1.length c1) X.g1, rwS (.slice (some ⟨bk, off, none⟩) out.length co) out, rwE (.slice Ae ev.length ce) ev]) ((g_24, 43, (secL D).toArray) :: (g_13, 58, (tkL tk0 (.slice none 0 0) (.slice none 0 0) (.slice none 0 0) (.slice none 0 0)).toArray) :: (g_7, 37, (prL p).toArray) :: (g_1, 58, (tkL Y (.slice A0 X.g0.length c0) (.slice A1 X.g1.length c1) (.slice Ba Y.line.length da) (.slice Bl Y.line.length dl)).toArray) :: bx) ∧ Rg bc (oc + j * 3) (chgL c) W := stable_and (stable_mr _ _ _ _) (stable_rg _ _ _)
      refine wp_region_v _ 13 hst ⟨HM.drew, HE⟩ ?_
      clear HM HE
      refine wpU_p 0 hst ?_
      refine wpU_p 1 hst ?_
      refine wpU_p 2 hst ?_
      refine wpU_p 3 hst ?_
      refine wpU_take (v := ?_) 4 hst (fun _ h => h) rfl ?_ ?_; rotate_left; (intro W hS K hK; have ld : W.cell? ⟨bc, oc + j * 3, none⟩ = some (.int .i64 c.at_) := hS.2.2 0 _ rfl; clear hS; go_simp; exact hK.out _ (Below.refl _ _)); simp only [nrm]
      refine wpU_p 5 hst ?_
      refine wpU_c 6 (.int .i64 Y.sent) hst (fun W hS => hS.1.b3.cell 125) ?_
      refine wpU_p 7 hst ?_
      refine wpU_p 8 hst ?_
      refine wpU_p 9 hst ?_
      refine wpU_c 10 (.int .i64 D.kind) hst (fun W hS => hS.1.b0.cell 0) ?_
      refine wpU_p 11 hst ?_
      refine wpU_p 12 hst ?_
      refine wpU_done (fun w_43 hS => ?_)
      obtain ⟨HM, HE⟩ := hS
      clear hst
      by_cases hc_44 : (D.kind : Int) = 3
      ·
       obtain ⟨ec_44, ec_44n, kc_44⟩ := fT hc_44; clear hc_44
       go_wp2_with (with_reducible refine sa ?_)
       have hst : Stable fun W => MR w W base ([rwL (.slice Bl Y.line.length dl) Y.line, rwA (.slice Ba Y.line.length da) Y.line, rwE (.slice A0 X.g0.length c0) X.g0, rwE (.slice A1 X.g1.length c1) X.g1, rwS (.slice (some ⟨bk, off, none⟩) out.length co) out, rwE (.slice Ae ev.length ce) ev]) ((g_24, 43, (secL D).toArray) :: (g_13, 58, (tkL tk0 (.slice none 0 0) (.slice none 0 0) (.slice none 0 0) (.slice none 0 0)).toArray) :: (g_7, 37, (prL p).toArray) :: (g_1, 58, (tkL Y (.slice A0 X.g0.length c0) (.slice A1 X.g1.length c1) (.slice Ba Y.line.length da) (.slice Bl Y.line.length dl)).toArray) :: bx) ∧ Rg bc (oc + j * 3) (chgL c) W := stable_and (stable_mr _ _ _ _) (stable_rg _ _ _)
       refine wp_region_v _ 18 hst ⟨HM.drew, HE⟩ ?_
       clear HM HE
       refine wpU_p 0 hst ?_
       refine wpU_p 1 hst ?_
       refine wpU_p 2 hst ?_
       refine wpU_p 3 hst ?_
       refine wpU_take (v := ?_) 4 hst (fun _ h => h) rfl ?_ ?_; rotate_left; (intro W hS K hK; have ld : W.cell? ⟨bc, oc + j * 3, none⟩ = some (.int .i64 c.at_) := hS.2.2 0 _ rfl; clear hS; go_simp; exact hK.out _ (Below.refl _ _)); simp only [nrm]
       refine wpU_p 5 hst ?_
       refine wpU_c 6 (.int .i64 Y.sent) hst (fun W hS => hS.1.b3.cell 125) ?_
       refine wpU_p 7 hst ?_
       refine wpU_p 8 hst ?_
       refine wpU_p 9 hst ?_
       refine wpU_c 10 (.int .i64 D.kind) hst (fun W hS => hS.1.b0.cell 0) ?_
       refine wpU_p 11 hst ?_
       refine wpU_p 12 hst ?_
       refine wpU_s 13 hst ?_
       refine wpU_s 14 hst ?_
       refine wpU_s 15 hst ?_
       refine wpU_p 16 hst ?_
       refine wpU_p 17 hst ?_
       refine wpU_done (fun w_45 hS => ?_)
       obtain ⟨HM, HE⟩ := hS
       clear hst
       have ld_46 : w_45.cell? ⟨bc, oc + j * 3 + 2, none⟩ = some (.int .u64 (W64 c.value)) := HE.2 2 _ rfl
       go_wp2_with (with_reducible refine sa ?_)
       refine sx 8 (.int .u64 (W64 c.value)) #[.int .i64 D.kind, .int .i64 D.feat.io, .bool D.feat.oob, .bool D.feat.bond, .bool D.feat.mitm, .bool D.feat.sid, .bool D.feat.tid, .int .u32 (W32 D.pub), .int .u64 (W64 c.value), .int .i64 D.idn.adr.kind, .int .u64 (W64 D.idn.adr.bits), .int .u64 (W64 D.idn.irk), .int .i64 D.reason] HM.b0 ?_
       intro w_47 G_49 hU_48
       clear ld_46
       replace HM := HM.s0 hU_48 G_49
       replace HE := Rg.upd HE hU_48 (by omega)
       clear hU_48 G_49
       go_wp2_with (with_reducible refine sa ?_)
       go_roundw
       have q0 := kk12.out
       have q1 := kc_42.out
       have q2 := kc_44.out
       have eD : chg1 Y.sent D c = ⟨D.kind, ⟨D.feat.io, D.feat.oob, D.feat.bond, D.feat.mitm, D.feat.sid, D.feat.tid⟩, D.pub, c.value, ⟨⟨D.idn.adr.kind, D.idn.adr.bits⟩, D.idn.irk⟩, D.reason⟩ := by unfold chg1; first | (simp [q0, q1, q2]; done) | (simp only [q0, q1, q2]; rfl) | (simp_all; done)
       case rel => exact ⟨j + 1, chg1 Y.sent D c, by omega, by go_num, by rw [foldl_take_succ _ _ _ _ hlj, HC0.out, ← HDD.out], by rw [eD]; exact HM⟩
       case measure => simp [intOf]; omega
      obtain ⟨ec_44, ec_44n, kc_44⟩ := fF hc_44; clear hc_44
      go_wp2_with (with_reducible refine sa ?_)
      have hst : Stable fun W => MR w W base ([rwL (.slice Bl Y.line.length dl) Y.line, rwA (.slice Ba Y.line.length da) Y.line, rwE (.slice A0 X.g0.length c0) X.g0, rwE (.slice A1 X.g1.length c1) X.g1, rwS (.slice (some ⟨bk, off, none⟩) out.length co) out, rwE (.slice Ae ev.length ce) ev]) ((g_24, 43, (secL D).toArray) :: (g_13, 58, (tkL tk0 (.slice none 0 0) (.slice none 0 0) (.slice none 0 0) (.slice none 0 0)).toArray) :: (g_7, 37, (prL p).toArray) :: (g_1, 58, (tkL Y (.slice A0 X.g0.length c0) (.slice A1 X.g1.length c1) (.slice Ba Y.line.length da) (.slice Bl Y.line.length dl)).toArray) :: bx) ∧ Rg bc (oc + j * 3) (chgL c) W := stable_and (stable_mr _ _ _ _) (stable_rg _ _ _)
      refine wp_region_v _ 18 hst ⟨HM.drew, HE⟩ ?_
      clear HM HE
      refine wpU_p 0 hst ?_
      refine wpU_p 1 hst ?_
      refine wpU_p 2 hst ?_
      refine wpU_p 3 hst ?_
      refine wpU_take (v := ?_) 4 hst (fun _ h => h) rfl ?_ ?_; rotate_left; (intro W hS K hK; have ld : W.cell? ⟨bc, oc + j * 3, none⟩ = some (.int .i64 c.at_) := hS.2.2 0 _ rfl; clear hS; go_simp; exact hK.out _ (Below.refl _ _)); simp only [nrm]
      refine wpU_p 5 hst ?_
      refine wpU_c 6 (.int .i64 Y.sent) hst (fun W hS => hS.1.b3.cell 125) ?_
      refine wpU_p 7 hst ?_
      refine wpU_p 8 hst ?_
      refine wpU_p 9 hst ?_
      refine wpU_c 10 (.int .i64 D.kind) hst (fun W hS => hS.1.b0.cell 0) ?_
      refine wpU_p 11 hst ?_
      refine wpU_p 12 hst ?_
      refine wpU_p 13 hst ?_
      refine wpU_c 14 (.int .i64 D.kind) hst (fun W hS => hS.1.b0.cell 0) ?_
      refine wpU_p 15 hst ?_
      refine wpU_p 16 hst ?_
      refine wpU_p 17 hst ?_
      refine wpU_done (fun w_50 hS => ?_)
      obtain ⟨HM, HE⟩ := hS
      clear hst
      by_cases hc_51 : (D.kind : Int) = 4
      ·
       obtain ⟨ec_51, ec_51n, kc_51⟩ := fT hc_51; clear hc_51
       have ld_52 : w_50.cell? ⟨bc, oc + j * 3 + 2, none⟩ = some (.int .u64 (W64 c.value)) := HE.2 2 _ rfl
       go_wp2_with (with_reducible refine sa ?_)
       refine sx 8 (.int .u64 (W64 c.value)) #[.int .i64 D.kind, .int .i64 D.feat.io, .bool D.feat.oob, .bool D.feat.bond, .bool D.feat.mitm, .bool D.feat.sid, .bool D.feat.tid, .int .u32 (W32 D.pub), .int .u64 (W64 c.value), .int .i64 D.idn.adr.kind, .int .u64 (W64 D.idn.adr.bits), .int .u64 (W64 D.idn.irk), .int .i64 D.reason] HM.b0 ?_
       intro w_53 G_55 hU_54
       clear ld_52
       replace HM := HM.s0 hU_54 G_55
       replace HE := Rg.upd HE hU_54 (by omega)
       clear hU_54 G_55
       go_wp2_with (with_reducible refine sa ?_)
       go_roundw
       have q0 := kk12.out
       have q1 := kc_42.out
       have q2 := kc_44.out
       have q3 := kc_51.out
       have eD : chg1 Y.sent D c = ⟨D.kind, ⟨D.feat.io, D.feat.oob, D.feat.bond, D.feat.mitm, D.feat.sid, D.feat.tid⟩, D.pub, c.value, ⟨⟨D.idn.adr.kind, D.idn.adr.bits⟩, D.idn.irk⟩, D.reason⟩ := by unfold chg1; first | (simp [q0, q1, q2, q3]; done) | (simp only [q0, q1, q2, q3]; rfl) | (simp_all; done)
       case rel => exact ⟨j + 1, chg1 Y.sent D c, by omega, by go_num, by rw [foldl_take_succ _ _ _ _ hlj, HC0.out, ← HDD.out], by rw [eD]; exact HM⟩
       case measure => simp [intOf]; omega
      obtain ⟨ec_51, ec_51n, kc_51⟩ := fF hc_51; clear hc_51
      go_wp2_with (with_reducible refine sa ?_)
      go_roundw
      have q0 := kk12.out
      have q1 := kc_42.out
      have q2 := kc_44.out
      have q3 := kc_51.out
      have eD : chg1 Y.sent D c = D := by unfold chg1; first | (simp [q0, q1, q2, q3]; done) | (simp only [q0, q1, q2, q3]; rfl) | (simp_all; done)
      case rel => exact ⟨j + 1, chg1 Y.sent D c, by omega, by go_num, by rw [foldl_take_succ _ _ _ _ hlj, HC0.out, ← HDD.out], by rw [eD]; exact HM⟩
      case measure => simp [intOf]; omega
     obtain ⟨ec_42, ec_42n, kc_42⟩ := fF hc_42; clear hc_42
     go_wp2_with (with_reducible refine sa ?_)
     have hst : Stable fun W => MR w W base ([rwL (.slice Bl Y.line.length dl) Y.line, rwA (.slice Ba Y.line.length da) Y.line, rwE (.slice A0 X.g0.length c0) X.g0, rwE (.slice A1 X.g1.length c1) X.g1, rwS (.slice (some ⟨bk, off, none⟩) out.length co) out, rwE (.slice Ae ev.length ce) ev]) ((g_24, 43, (secL D).toArray) :: (g_13, 58, (tkL tk0 (.slice none 0 0) (.slice none 0 0) (.slice none 0 0) (.slice none 0 0)).toArray) :: (g_7, 37, (prL p).toArray) :: (g_1, 58, (tkL Y (.slice A0 X.g0.length c0) (.slice A1 X.g1.length c1) (.slice Ba Y.line.length da) (.slice Bl Y.line.length dl)).toArray) :: bx) ∧ Rg bc (oc + j * 3) (chgL c) W := stable_and (stable_mr _ _ _ _) (stable_rg _ _ _)
     refine wp_region_v _ 13 hst ⟨HM.drew, HE⟩ ?_
     clear HM HE
     refine wpU_p 0 hst ?_
     refine wpU_p 1 hst ?_
     refine wpU_p 2 hst ?_
     refine wpU_p 3 hst ?_
     refine wpU_take (v := ?_) 4 hst (fun _ h => h) rfl ?_ ?_; rotate_left; (intro W hS K hK; have ld : W.cell? ⟨bc, oc + j * 3, none⟩ = some (.int .i64 c.at_) := hS.2.2 0 _ rfl; clear hS; go_simp; exact hK.out _ (Below.refl _ _)); simp only [nrm]
     refine wpU_p 5 hst ?_
     refine wpU_c 6 (.int .i64 Y.sent) hst (fun W hS => hS.1.b3.cell 125) ?_
     refine wpU_p 7 hst ?_
     refine wpU_p 8 hst ?_
     refine wpU_s 9 hst ?_
     refine wpU_s 10 hst ?_
     refine wpU_s 11 hst ?_
     refine wpU_p 12 hst ?_
     refine wpU_done (fun w_56 hS => ?_)
     obtain ⟨HM, HE⟩ := hS
     clear hst
     go_wp2_with (with_reducible refine sa ?_)
     have hst : Stable fun W => MR w W base ([rwL (.slice Bl Y.line.length dl) Y.line, rwA (.slice Ba Y.line.length da) Y.line, rwE (.slice A0 X.g0.length c0) X.g0, rwE (.slice A1 X.g1.length c1) X.g1, rwS (.slice (some ⟨bk, off, none⟩) out.length co) out, rwE (.slice Ae ev.length ce) ev]) ((g_24, 43, (secL D).toArray) :: (g_13, 58, (tkL tk0 (.slice none 0 0) (.slice none 0 0) (.slice none 0 0) (.slice none 0 0)).toArray) :: (g_7, 37, (prL p).toArray) :: (g_1, 58, (tkL Y (.slice A0 X.g0.length c0) (.slice A1 X.g1.length c1) (.slice Ba Y.line.length da) (.slice Bl Y.line.length dl)).toArray) :: bx) ∧ Rg bc (oc + j * 3) (chgL c) W := stable_and (stable_mr _ _ _ _) (stable_rg _ _ _)
     refine wp_region_v _ 18 hst ⟨HM.drew, HE⟩ ?_
     clear HM HE
     refine wpU_p 0 hst ?_
     refine wpU_p 1 hst ?_
     refine wpU_p 2 hst ?_
     refine wpU_p 3 hst ?_
     refine wpU_take (v := ?_) 4 hst (fun _ h => h) rfl ?_ ?_; rotate_left; (intro W hS K hK; have ld : W.cell? ⟨bc, oc + j * 3, none⟩ = some (.int .i64 c.at_) := hS.2.2 0 _ rfl; clear hS; go_simp; exact hK.out _ (Below.refl _ _)); simp only [nrm]
     refine wpU_p 5 hst ?_
     refine wpU_c 6 (.int .i64 Y.sent) hst (fun W hS => hS.1.b3.cell 125) ?_
     refine wpU_p 7 hst ?_
     refine wpU_p 8 hst ?_
     refine wpU_s 9 hst ?_
     refine wpU_s 10 hst ?_
     refine wpU_s 11 hst ?_
     refine wpU_s 12 hst ?_
     refine wpU_s 13 hst ?_
     refine wpU_s 14 hst ?_
     refine wpU_s 15 hst ?_
     refine wpU_s 16 hst ?_
     refine wpU_p 17 hst ?_
     refine wpU_done (fun w_57 hS => ?_)
     obtain ⟨HM, HE⟩ := hS
     clear hst
     go_wp2_with (with_reducible refine sa ?_)
     go_roundw
     have q0 := kk12.out
     have q1 := kc_42.out
     have eD : chg1 Y.sent D c = D := by unfold chg1; first | (simp [q0, q1]; done) | (simp only [q0, q1]; rfl) | (simp_all; done)
     case rel => exact ⟨j + 1, chg1 Y.sent D c, by omega, by go_num, by rw [foldl_take_succ _ _ _ _ hlj, HC0.out, ← HDD.out], by rw [eD]; exact HM⟩
     case measure => simp [intOf]; omega
    have j1 : decide ((j : Int) < ((l.length : Nat) : Int)) = false := by simp; omega
    have j2 : decide (j < l.length) = false := by simpa using hlj
    have j3 : l.length ≤ j := Nat.le_of_not_lt hlj
    have hj : j = l.length := by omega
    rw [hj, List.take_length] at hD
    have HD := Lib.hid (show D = chg l Y.sent d from hD)
    clear hD hj
    have ld_58 := HM.b3.c 125 (.int .i64 Y.sent)
    go_wp2_with (with_reducible refine sa ?_)
    refine sx 125 (.int .i64 ((Y.sent + 1))) (tkL ((Y.put_sent ((Y.sent + 1)))) (.slice A0 X.g0.length c0) (.slice A1 X.g1.length c1) (.slice Ba Y.line.length da) (.slice Bl Y.line.length dl)).toArray HM.b3 ?_
    intro w_59 G_61 hU_60
    clear ld_58
    replace HM := HM.s3 hU_60 G_61
    clear hU_60 G_61
    have ld_62 := HM.b3.c 127 (.slice Bl Y.line.length dl)
    go_wp2_with (first | (with_reducible refine sa ?_) | (with_reducible refine ld 0 (secL D) HM.b0 Tryd.underlying43 ?_))
    refine go_mem (ty := 43) (cs := (secL D).toArray) (fun g => .slice (some ⟨g, 0, none⟩) 1 1) rfl (by kernel_rfl) ?_
    intro g_64 w_65 z_69 l_68 hb_66 G_67
    clear ld_62
    replace HM := HM.alloc l_68 hb_66 G_67
    clear hb_66 l_68 z_69 G_67
    go_wp2_with (with_reducible refine sa ?_)
    unfold Kept
    refine app_line true D HM rfl rfl HM.b0 (by have hh := HS.out.2; omega) (fun A_70 c_71 w_72 HN => ?_)
    replace HM := HN; clear HN
    go_wp2_with (with_reducible refine sa ?_)
    refine sx 127 (.slice A_70 (Y.line.length + 1) c_71) (tkL ((Y.put_sent ((Y.sent + 1)))) (.slice A0 X.g0.length c0) (.slice A1 X.g1.length c1) (.slice Ba Y.line.length da) (.slice A_70 (Y.line.length + 1) c_71)).toArray HM.b4 ?_
    intro w_73 G_75 hU_74
    replace HM := HM.s4 hU_74 G_75
    clear hU_74 G_75
    have ld_76 := HM.b4.c 126 (.slice Ba Y.line.length da)
    go_wp2_with (with_reducible refine sa ?_)
    refine go_mem (ty := 3) (cs := #[.int .i64 1]) (fun g => .slice (some ⟨g, 0, none⟩) 1 1) rfl (by kernel_rfl) ?_
    intro g_77 w_78 z_82 l_81 hb_79 G_80
    clear ld_76
    replace HM := HM.alloc l_81 hb_79 G_80
    clear hb_79 l_81 z_82 G_80
    go_wp2_with (with_reducible refine sa ?_)
    unfold Kept
    refine app_at true D HM rfl rfl HM.b0 (by have hh := HS.out.2; omega) (fun A_83 c_84 w_85 HN => ?_)
    replace HM := HN; clear HN
    go_wp2_with (with_reducible refine sa ?_)
    refine sx 126 (.slice A_83 (Y.line.length + 1) c_84) (tkL ((Y.put_sent ((Y.sent + 1)))) (.slice A0 X.g0.length c0) (.slice A1 X.g1.length c1) (.slice A_83 (Y.line.length + 1) c_84) (.slice A_70 (Y.line.length + 1) c_71)).toArray HM.b5 ?_
    intro w_86 G_88 hU_87
    replace HM := HM.s5 hU_87 G_88
    clear hU_87 G_88
    go_wp2_with (with_reducible refine sa ?_)
    go_roundw
    case rel => exact ⟨k + 1, put1 l false Y d, A_70, c_71, A_83, c_84, by omega, by go_num, by rw [foldl_take_succ _ _ _ _ hlt, HD0.out, ← HY.out], by have e := HD.out; subst e; have hn : (put1 l false Y d).line.length = Y.line.length + 1 := List.length_append; rw [hn]; exact HM.drop.drop.drop⟩
    case measure => simp [intOf]; omega
  have i1 : decide ((k : Int) < ((out.length : Nat) : Int)) = false := by simp; omega
  have i2 : decide (k < out.length) = false := by simpa using hlt
  have i3 : out.length ≤ k := Nat.le_of_not_lt hlt
  have hk : k = out.length := by omega
  rw [hk, List.take_length] at hY
  have HY := Lib.hid hY
  have HS := Lib.hid (And.intro hs3 hs4)
  clear hY hs1 hs2 hk hs3 hs4
  go_wp2_with (with_reducible refine sa ?_)
  try simp only [nrm]
  go_loopw [16] (fun i wr => ∃ (k : Nat) (Z : Tk) (E0 : Option Addr) (e0 : Nat) (E1 : Option Addr) (e1 : Nat), k ≤ ev.length ∧ i = .int .i64 k ∧ Z = (ev.take k).foldl (note1 false) Y ∧ MR w wr base ([rwL (.slice Bl Y.line.length dl) Y.line, rwA (.slice Ba Y.line.length da) Y.line, rwE (.slice E0 Z.g0.length e0) Z.g0, rwE (.slice E1 Z.g1.length e1) Z.g1, rwS (.slice Ao out.length co) out, rwE (.slice Ae ev.length ce) ev]) ((g_13, 58, (tkL tk0 (.slice none 0 0) (.slice none 0 0) (.slice none 0 0) (.slice none 0 0)).toArray) :: (g_7, 37, (prL p).toArray) :: (g_1, 58, (tkL Z (.slice E0 Z.g0.length e0) (.slice E1 Z.g1.length e1) (.slice Ba Y.line.length da) (.slice Bl Y.line.length dl)).toArray) :: bx)) (fun i _ => ev.length - (intOf i).toNat)
  case atStart => exact ⟨0, Y, A0, c0, A1, c1, Nat.zero_le _, rfl, rfl, by rw [HS.out.1, HS.out.2]; exact HM⟩
  case round =>
   clear HM 
   obtain ⟨k, Z, E0, e0, E1, e1, hk1, rfl, hZ, HM⟩ := hrel
   have hs := note_line (b := false) (ev.take k) Y
   rw [← hZ, List.length_take, Nat.min_eq_left hk1] at hs
   have hs2 := hs.2; clear hs
   by_cases hlt : k < ev.length
   ·
    obtain ⟨ee, hd⟩ : ∃ d, ev[k] = d := ⟨_, rfl⟩
    have ho : Rd wr Ae (evts ev) := HM.r5.rd
    obtain ⟨bk, off, rfl, hrow⟩ := srow_open evtL_len (by decide) ho k hlt
    rw [hd] at hrow
    have hne : bk ≠ g_1 := fun e => HM.ne5 (by rw [← e]; rfl)
    have HE : Rg bk (off + k * 8) (evtL ee) wr := ⟨(HM.r5.lt bk rfl).2, hrow wr (Below.refl _ _)⟩
    clear hrow ho
    have HZ := Lib.hid hZ
    have HD0 := Lib.hid hd
    have HS2 := Lib.hid hs2
    clear hZ hd hs2
    have i1 : decide ((k : Int) < ((ev.length : Nat) : Int)) = true := by simp; exact hlt
    have i2 : decide (k < ev.length) = true := decide_eq_true hlt
    by_cases hc_89 : (ee.kind : Int) = 1
    ·
     obtain ⟨ec_89, ec_89n, kc_89⟩ := fT hc_89; clear hc_89
     have ld_90 : wr.cell? ⟨bk, off + k * 8, none⟩ = some (.int .i64 ee.kind) := HE.2 0 _ rfl
     go_wp2_with (with_reducible refine sa ?_)
     refine sx 121 (.bool true) (tkL ((Z.put_h0 true)) (.slice E0 Z.g0.length e0) (.slice E1 Z.g1.length e1) (.slice Ba Y.line.length da) (.slice Bl Y.line.length dl)).toArray HM.b2 ?_
     intro w_91 G_93 hU_92
     clear ld_90
     replace HM := HM.s2 hU_92 G_93
     replace HE := Rg.upd HE hU_92 hne
     clear hU_92 G_93
     have ld_94 : w_91.cell? ⟨bk, off + k * 8 + 1, none⟩ = some (.int .i64 ee.number) := HE.2 1 _ rfl
     go_wp2_with (with_reducible refine sa ?_)
     refine sx 117 (.int .i64 ee.number) (tkL (((Z.put_h0 true).put_n0 ee.number)) (.slice E0 Z.g0.length e0) (.slice E1 Z.g1.length e1) (.slice Ba Y.line.length da) (.slice Bl Y.line.length dl)).toArray HM.b2 ?_
     intro w_95 G_97 hU_96
     clear ld_94
     replace HM := HM.s2 hU_96 G_97
     replace HE := Rg.upd HE hU_96 hne
     clear hU_96 G_97
     go_wp2_with (with_reducible refine sa ?_)
     go_roundw
     have q0 := kc_89.out
     have eZ : note1 false Z ee = ((Z.put_h0 true).put_n0 ee.number) := by unfold note1; first | (simp [q0]; done) | (simp only [q0]; rfl) | (rw [if_pos (by assumption)]; rfl) | (rw [if_neg (by assumption), if_pos (by assumption)]; rfl) | (rw [if_neg (by assumption), if_neg (by assumption)]; rfl)
     case rel => exact ⟨k + 1, note1 false Z ee, E0, e0, E1, e1, by omega, by go_num, by rw [foldl_take_succ _ _ _ _ hlt, HD0.out, ← HZ.out], by rw [eZ]; exact HM⟩
     case measure => simp [intOf]; omega
    obtain ⟨ec_89, ec_89n, kc_89⟩ := fF hc_89; clear hc_89
    by_cases hc_98 : (ee.kind : Int) = 2
    ·
     obtain ⟨ec_98, ec_98n, kc_98⟩ := fT hc_98; clear hc_98
     have ld_99 : wr.cell? ⟨bk, off + k * 8, none⟩ = some (.int .i64 ee.kind) := HE.2 0 _ rfl
     go_wp2_with (with_reducible refine sa ?_)
     refine sx 119 (.bool true) (tkL ((Z.put_a0 true)) (.slice E0 Z.g0.length e0) (.slice E1 Z.g1.length e1) (.slice Ba Y.line.length da) (.slice Bl Y.line.length dl)).toArray HM.b2 ?_
     intro w_100 G_102 hU_101
     clear ld_99
     replace HM := HM.s2 hU_101 G_102
     replace HE := Rg.upd HE hU_101 hne
     clear hU_101 G_102
     go_wp2_with (with_reducible refine sa ?_)
     go_roundw
     have q0 := kc_89.out
     have q1 := kc_98.out
     have eZ : note1 false Z ee = (Z.put_a0 true) := by unfold note1; first | (simp [q0, q1]; done) | (simp only [q0, q1]; rfl) | (rw [if_pos (by assumption)]; rfl) | (rw [if_neg (by assumption), if_pos (by assumption)]; rfl) | (rw [if_neg (by assumption), if_neg (by assumption)]; rfl)
     case rel => exact ⟨k + 1, note1 false Z ee, E0, e0, E1, e1, by omega, by go_num, by rw [foldl_take_succ _ _ _ _ hlt, HD0.out, ← HZ.out], by rw [eZ]; exact HM⟩
     case measure => simp [intOf]; omega
    obtain ⟨ec_98, ec_98n, kc_98⟩ := fF hc_98; clear hc_98
    have ld_103 : wr.cell? ⟨bk, off + k * 8, none⟩ = some (.int .i64 ee.kind) := HE.2 0 _ rfl
    go_wp2_with (with_reducible refine sa ?_)
    clear ld_103
    try simp only [nrm]
    refine wp_region_y 14 (fun w_104 hW => ?_)
    replace HM := HM.drew; rw [← hW] at HM
    replace HE : Rg bk (off + k * 8) (evtL ee) w_104 := by rw [hW]; exact HE
    clear hW
    refine wpAny_pure (v := ?_) 0 rfl ?_ ?_; rotate_left; (intro W K hK; go_simp; exact hK.out); simp only [nrm]
    refine wpAny_pure (v := ?_) 1 rfl ?_ ?_; rotate_left; (intro W K hK; go_simp; exact hK.out); simp only [nrm]
    refine wpAny_pure (v := ?_) 2 rfl ?_ ?_; rotate_left; (intro W K hK; go_simp; exact hK.out); simp only [nrm]
    refine wpAny_pure (v := ?_) 3 rfl ?_ ?_; rotate_left; (intro W K hK; go_simp; exact hK.out); simp only [nrm]
    refine wpAny_pure (v := ?_) 5 rfl ?_ ?_; rotate_left; (intro W K hK; go_simp; exact hK.out); simp only [nrm]
    refine wpAny_pure (v := ?_) 6 rfl ?_ ?_; rotate_left; (intro W K hK; go_simp; exact hK.out); simp only [nrm]
    refine wpAny_pure (v := ?_) 7 rfl ?_ ?_; rotate_left; (intro W K hK; go_simp; exact hK.out); simp only [nrm]
    refine wpAny_pure (v := ?_) 11 rfl ?_ ?_; rotate_left; (intro W K hK; go_simp; exact hK.out); simp only [nrm]
    refine wpAny_two 4 8 rfl rfl (fun K hK => ?_) (fun K hK => ?_)
    ·
     have ld : w_104.cell? ⟨g_1, 123, none⟩ = some (.slice E0 Z.g0.length e0) := HM.b2.cell 123
     go_simp; refine hK.out _ _ ?_; clear hK K ld; try simp only [nrm]
     refine wpAny_one 8 rfl (fun K hK => ?_)
     rw [if_pos (show Region.wanted _ _ = true from rfl)]
     refine calm_wp (calm_load (v := .agg (evtL ee).toArray) rfl rfl (run_loadVar_mid w_104 bk (off + k * 8) 63 [.int .i64 ee.kind, .int .i64 ee.number, .int .u64 (W64 ee.key), .bool ee.strong, .int .i64 ee.idn.adr.kind, .int .u64 (W64 ee.idn.adr.bits), .int .u64 (W64 ee.idn.irk), .int .i64 ee.reason] _ (range_part HE.2 0 [.int .i64 ee.kind, .int .i64 ee.number, .int .u64 (W64 ee.key), .bool ee.strong, .int .i64 ee.idn.adr.kind, .int .u64 (W64 ee.idn.adr.bits), .int .u64 (W64 ee.idn.irk), .int .i64 ee.reason] rfl) Tryd.underlying63 rfl (by kernel_rfl)) ?_)
     refine hK.out _ _ ?_; clear hK K; try simp only [nrm]
     refine wpAny_one 9 rfl (fun K hK => ?_)
     rw [if_pos (show Region.wanted _ _ = true from rfl)]
     refine op_new (ty := 63) (cs := (evtL ee).toArray) (fun g => .slice (some ⟨g, 0, none⟩) 1 1) (by kernel_rfl) (fun g_105 w_106 z_110 l_109 hb_107 G_108 => ?_)
     refine hK.out _ _ ?_; clear hK K; try simp only [nrm]
     replace HM := HM.alloc l_109 hb_107 G_108
     replace HE := Rg.to HE hb_107
     clear hb_107 l_109 z_110 G_108
     refine wpAny_one 10 rfl (fun K hK => ?_)
     rw [if_pos (show Region.wanted _ _ = true from rfl)]
     refine op_app_g0 ee HM rfl rfl HM.b0 (by have hh := HS2.out; rw [HS.out.1, HS.out.2] at hh; omega) (fun A_111 c_112 w_113 HN => ?_)
     refine hK.out _ _ ?_; clear hK K HM; try simp only [nrm]
     have HM := HN; clear HN
     clear HE
     refine wpAny_pure (v := ?_) 12 rfl ?_ ?_; rotate_left; (intro W K hK; go_simp; exact hK.out); simp only [nrm]
     refine wpAny_one 13 rfl (fun K hK => ?_)
     refine wpAny_st (S' := fun W => MR w W base ([rwL (.slice Bl Y.line.length dl) Y.line, rwA (.slice Ba Y.line.length da) Y.line, rwE (.slice A_111 (Z.g0.length + 1) c_112) ((Z.g0 ++ [ee])), rwE (.slice E1 Z.g1.length e1) Z.g1, rwS (.slice Ao out.length co) out, rwE (.slice (some ⟨bk, off, none⟩) ev.length ce) ev]) ((g_105, 63, (evtL ee).toArray) :: (g_13, 58, (tkL tk0 (.slice none 0 0) (.slice none 0 0) (.slice none 0 0) (.slice none 0 0)).toArray) :: (g_7, 37, (prL p).toArray) :: (g_1, 58, (tkL Z (.slice A_111 (Z.g0.length + 1) c_112) (.slice E1 Z.g1.length e1) (.slice Ba Y.line.length da) (.slice Bl Y.line.length dl)).toArray) :: bx)) (.slice A_111 (Z.g0.length + 1) c_112) rfl (by obtain ⟨w9, h1, h2, h3⟩ := run_store_one (P := Tryd.prog) (ty := 47) (o := 123) (v := .slice A_111 (Z.g0.length + 1) c_112) HM.b3 rfl (by kernel_rfl) rfl (of_decide_eq_true rfl); exact ⟨w9, h1, HM.s3 h3 h2⟩) (fun w_114 HN => ?_) hK rfl rfl rfl; clear hK K
     replace HM := HN; clear HN; try simp only [nrm]
     refine wpAny_end ?_
     go_wp2_with (with_reducible refine sa ?_)
     go_roundw
     have q0 := kc_89.out
     have q1 := kc_98.out
     have eZ : note1 false Z ee = { Z with g0 := Z.g0 ++ [ee] } := by unfold note1; first | (simp [q0, q1]; done) | (simp only [q0, q1]; rfl) | (rw [if_pos (by assumption)]; rfl) | (rw [if_neg (by assumption), if_pos (by assumption)]; rfl) | (rw [if_neg (by assumption), if_neg (by assumption)]; rfl)
     case rel => exact ⟨k + 1, note1 false Z ee, A_111, c_112, E1, e1, by omega, by go_num, by rw [foldl_take_succ _ _ _ _ hlt, HD0.out, ← HZ.out], by have hn : (note1 false Z ee).g0.length = Z.g0.length + 1 := (by rw [eZ]; exact List.length_append); rw [hn, eZ]; exact HM.drop⟩
     case measure => simp [intOf]; omega
    rw [if_pos (show Region.wanted _ _ = true from rfl)]
    refine calm_wp (calm_load (v := .agg (evtL ee).toArray) rfl rfl (run_loadVar_mid w_104 bk (off + k * 8) 63 [.int .i64 ee.kind, .int .i64 ee.number, .int .u64 (W64 ee.key), .bool ee.strong, .int .i64 ee.idn.adr.kind, .int .u64 (W64 ee.idn.adr.bits), .int .u64 (W64 ee.idn.irk), .int .i64 ee.reason] _ (range_part HE.2 0 [.int .i64 ee.kind, .int .i64 ee.number, .int .u64 (W64 ee.key), .bool ee.strong, .int .i64 ee.idn.adr.kind, .int .u64 (W64 ee.idn.adr.bits), .int .u64 (W64 ee.idn.irk), .int .i64 ee.reason] rfl) Tryd.underlying63 rfl (by kernel_rfl)) ?_)
    refine hK.out _ _ ?_; clear hK K; try simp only [nrm]
    refine wpAny_two 4 9 rfl rfl (fun K hK => ?_) (fun K hK => ?_)
    ·
     have ld : w_104.cell? ⟨g_1, 123, none⟩ = some (.slice E0 Z.g0.length e0) := HM.b2.cell 123
     go_simp; refine hK.out _ _ ?_; clear hK K ld; try simp only [nrm]
     refine wpAny_one 9 rfl (fun K hK => ?_)
     rw [if_pos (show Region.wanted _ _ = true from rfl)]
     refine op_new (ty := 63) (cs := (evtL ee).toArray) (fun g => .slice (some ⟨g, 0, none⟩) 1 1) (by kernel_rfl) (fun g_115 w_116 z_120 l_119 hb_117 G_118 => ?_)
     refine hK.out _ _ ?_; clear hK K; try simp only [nrm]
     replace HM := HM.alloc l_119 hb_117 G_118
     replace HE := Rg.to HE hb_117
     clear hb_117 l_119 z_120 G_118
     refine wpAny_one 10 rfl (fun K hK => ?_)
     rw [if_pos (show Region.wanted _ _ = true from rfl)]
     refine op_app_g0 ee HM rfl rfl HM.b0 (by have hh := HS2.out; rw [HS.out.1, HS.out.2] at hh; omega) (fun A_121 c_122 w_123 HN => ?_)
     refine hK.out _ _ ?_; clear hK K HM; try simp only [nrm]
     have HM := HN; clear HN
     clear HE
     refine wpAny_pure (v := ?_) 12 rfl ?_ ?_; rotate_left; (intro W K hK; go_simp; exact hK.out); simp only [nrm]
     refine wpAny_one 13 rfl (fun K hK => ?_)
     refine wpAny_st (S' := fun W => MR w W base ([rwL (.slice Bl Y.line.length dl) Y.line, rwA (.slice Ba Y.line.length da) Y.line, rwE (.slice A_121 (Z.g0.length + 1) c_122) ((Z.g0 ++ [ee])), rwE (.slice E1 Z.g1.length e1) Z.g1, rwS (.slice Ao out.length co) out, rwE (.slice (some ⟨bk, off, none⟩) ev.length ce) ev]) ((g_115, 63, (evtL ee).toArray) :: (g_13, 58, (tkL tk0 (.slice none 0 0) (.slice none 0 0) (.slice none 0 0) (.slice none 0 0)).toArray) :: (g_7, 37, (prL p).toArray) :: (g_1, 58, (tkL Z (.slice A_121 (Z.g0.length + 1) c_122) (.slice E1 Z.g1.length e1) (.slice Ba Y.line.length da) (.slice Bl Y.line.length dl)).toArray) :: bx)) (.slice A_121 (Z.g0.length + 1) c_122) rfl (by obtain ⟨w9, h1, h2, h3⟩ := run_store_one (P := Tryd.prog) (ty := 47) (o := 123) (v := .slice A_121 (Z.g0.length + 1) c_122) HM.b3 rfl (by kernel_rfl) rfl (of_decide_eq_true rfl); exact ⟨w9, h1, HM.s3 h3 h2⟩) (fun w_124 HN => ?_) hK rfl rfl rfl; clear hK K
     replace HM := HN; clear HN; try simp only [nrm]
     refine wpAny_end ?_
     go_wp2_with (with_reducible refine sa ?_)
     go_roundw
     have q0 := kc_89.out
     have q1 := kc_98.out
     have eZ : note1 false Z ee = { Z with g0 := Z.g0 ++ [ee] } := by unfold note1; first | (simp [q0, q1]; done) | (simp only [q0, q1]; rfl) | (rw [if_pos (by assumption)]; rfl) | (rw [if_neg (by assumption), if_pos (by assumption)]; rfl) | (rw [if_neg (by assumption), if_neg (by assumption)]; rfl)
     case rel => exact ⟨k + 1, note1 false Z ee, A_121, c_122, E1, e1, by omega, by go_num, by rw [foldl_take_succ _ _ _ _ hlt, HD0.out, ← HZ.out], by have hn : (note1 false Z ee).g0.length = Z.g0.length + 1 := (by rw [eZ]; exact List.length_append); rw [hn, eZ]; exact HM.drop⟩
     case measure => simp [intOf]; omega
    rw [if_pos (show Region.wanted _ _ = true from rfl)]
    refine op_new (ty := 63) (cs := (evtL ee).toArray) (fun g => .slice (some ⟨g, 0, none⟩) 1 1) (by kernel_rfl) (fun g_125 w_126 z_130 l_129 hb_127 G_128 => ?_)
    refine hK.out _ _ ?_; clear hK K; try simp only [nrm]
    replace HM := HM.alloc l_129 hb_127 G_128
    replace HE := Rg.to HE hb_127
    clear hb_127 l_129 z_130 G_128
    refine wpAny_one 4 rfl (fun K hK => ?_)
    have ld : w_126.cell? ⟨g_1, 123, none⟩ = some (.slice E0 Z.g0.length e0) := HM.b3.cell 123
    go_simp; refine hK.out _ _ ?_; clear hK K ld; try simp only [nrm]
    refine wpAny_one 10 rfl (fun K hK => ?_)
    rw [if_pos (show Region.wanted _ _ = true from rfl)]
    refine op_app_g0 ee HM rfl rfl HM.b0 (by have hh := HS2.out; rw [HS.out.1, HS.out.2] at hh; omega) (fun A_131 c_132 w_133 HN => ?_)
    refine hK.out _ _ ?_; clear hK K HM; try simp only [nrm]
    have HM := HN; clear HN
    clear HE
    refine wpAny_pure (v := ?_) 12 rfl ?_ ?_; rotate_left; (intro W K hK; go_simp; exact hK.out); simp only [nrm]
    refine wpAny_one 13 rfl (fun K hK => ?_)
    refine wpAny_st (S' := fun W => MR w W base ([rwL (.slice Bl Y.line.length dl) Y.line, rwA (.slice Ba Y.line.length da) Y.line, rwE (.slice A_131 (Z.g0.length + 1) c_132) ((Z.g0 ++ [ee])), rwE (.slice E1 Z.g1.length e1) Z.g1, rwS (.slice Ao out.length co) out, rwE (.slice (some ⟨bk, off, none⟩) ev.length ce) ev]) ((g_125, 63, (evtL ee).toArray) :: (g_13, 58, (tkL tk0 (.slice none 0 0) (.slice none 0 0) (.slice none 0 0) (.slice none 0 0)).toArray) :: (g_7, 37, (prL p).toArray) :: (g_1, 58, (tkL Z (.slice A_131 (Z.g0.length + 1) c_132) (.slice E1 Z.g1.length e1) (.slice Ba Y.line.length da) (.slice Bl Y.line.length dl)).toArray) :: bx)) (.slice A_131 (Z.g0.length + 1) c_132) rfl (by obtain ⟨w9, h1, h2, h3⟩ := run_store_one (P := Tryd.prog) (ty := 47) (o := 123) (v := .slice A_131 (Z.g0.length + 1) c_132) HM.b3 rfl (by kernel_rfl) rfl (of_decide_eq_true rfl); exact ⟨w9, h1, HM.s3 h3 h2⟩) (fun w_134 HN => ?_) hK rfl rfl rfl; clear hK K
    replace HM := HN; clear HN; try simp only [nrm]
    refine wpAny_end ?_
    go_wp2_with (with_reducible refine sa ?_)
    go_roundw
    have q0 := kc_89.out
    have q1 := kc_98.out
    have eZ : note1 false Z ee = { Z with g0 := Z.g0 ++ [ee] } := by unfold note1; first | (simp [q0, q1]; done) | (simp only [q0, q1]; rfl) | (rw [if_pos (by assumption)]; rfl) | (rw [if_neg (by assumption), if_pos (by assumption)]; rfl) | (rw [if_neg (by assumption), if_neg (by assumption)]; rfl)
    case rel => exact ⟨k + 1, note1 false Z ee, A_131, c_132, E1, e1, by omega, by go_num, by rw [foldl_take_succ _ _ _ _ hlt, HD0.out, ← HZ.out], by have hn : (note1 false Z ee).g0.length = Z.g0.length + 1 := (by rw [eZ]; exact List.length_append); rw [hn, eZ]; exact HM.drop⟩
    case measure => simp [intOf]; omega
   have i1 : decide ((k : Int) < ((ev.length : Nat) : Int)) = false := by simp; omega
   have i2 : decide (k < ev.length) = false := by simpa using hlt
   have i3 : ev.length ≤ k := Nat.le_of_not_lt hlt
   have hk : k = ev.length := by omega
   rw [hk, List.take_length] at hZ
   have HZ := Lib.hid hZ
   clear hZ hk hs2
   go_wp2_with (first | (with_reducible refine sa ?_) | (with_reducible refine ld 0 (tkL Z (.slice E0 Z.g0.length e0) (.slice E1 Z.g1.length e1) (.slice Ba Y.line.length da) (.slice Bl Y.line.length dl)) HM.b2 Tryd.underlying58 ?_))
   refine sv (tkL Z (.slice E0 Z.g0.length e0) (.slice E1 Z.g1.length e1) (.slice Ba Y.line.length da) (.slice Bl Y.line.length dl)).toArray HM.b0 ?_
   intro w_136 G_138 hU_137
   replace HM := HM.s0 hU_137 G_138
   clear hU_137 G_138
   go_wp2_with (with_reducible refine sa ?_)
   refine bodyPost_ret (results_cell rfl rfl (load_blk HM.b0 Tryd.underlying58 rfl (by kernel_rfl))) rfl ?_
   have e : postT X false p out ev l = Z := by rw [HZ.out, HY.out]; rfl
   rw [e]
   have el : Z.line = Y.line := by rw [HZ.out]; exact (note_line (b := false) ev Y).1
   refine ⟨E0, e0, E1, e1, Ba, da, Bl, dl, ?_, ?_⟩
   · rw [el]
   · rw [el]; exact HM.drop.drop.drop
set_option maxHeartbeats 8000000 in
theorem tk_post_t (X : Tk) (p : Pr) (out : List Sec) (ev : List Evt) (l : List Chg) (A0 : Option Addr) (c0 : Nat) (A1 : Option Addr) (c1 : Nat) (Aa : Option Addr) (ca : Nat) (Al : Option Addr) (cl : Nat) (Ao : Option Addr) (co : Nat) (Ae : Option Addr) (ce : Nat) (Ac : Option Addr) (cc : Nat) (base : Nat) (bx : List Bk) (w : World) (HM : MR w w base [rwL (.slice Al X.line.length cl) X.line, rwA (.slice Aa X.line.length ca) X.line, rwE (.slice A0 X.g0.length c0) X.g0, rwE (.slice A1 X.g1.length c1) X.g1, rwS (.slice Ao out.length co) out, rwE (.slice Ae ev.length ce) ev] bx) (hC : Rd w Ac (l.flatMap chgL)) (hLB : l ≠ [] → ∀ ad, Ac = some ad → ad.block < base) (b0 : 0 ≤ X.sent) (b1 : X.sent ≤ 10000) (b2 : X.line.length ≤ 10000) (b3 : X.g0.length ≤ 10000) (b4 : X.g1.length ≤ 10000) (b5 : out.length ≤ 1000) (b6 : ev.length ≤ 1000) (b7 : l.length ≤ 1000) :
  Calls Tryd.prog 31 #[.agg (tkL X (.slice A0 X.g0.length c0) (.slice A1 X.g1.length c1) (.slice Aa X.line.length ca) (.slice Al X.line.length cl)).toArray, .int .i64 1, .agg (prL p).toArray, .slice Ao out.length co, .slice Ae ev.length ce, .slice Ac l.length cc] w (fun e w' => ∃ (A0 : Option Addr) (c0 : Nat) (A1 : Option Addr) (c1 : Nat) (Aa : Option Addr) (ca : Nat) (Al : Option Addr) (cl : Nat), e = .returned (.agg (tkL (postT X true p out ev l) (.slice A0 (postT X true p out ev l).g0.length c0) (.slice A1 (postT X true p out ev l).g1.length c1) (.slice Aa (postT X true p out ev l).line.length ca) (.slice Al (postT X true p out ev l).line.length cl)).toArray) ∧ MR w w' base [rwL (.slice Al (postT X true p out ev l).line.length cl) (postT X true p out ev l).line, rwA (.slice Aa (postT X true p out ev l).line.length ca) (postT X true p out ev l).line, rwE (.slice A0 (postT X true p out ev l).g0.length c0) (postT X true p out ev l).g0, rwE (.slice A1 (postT X true p out ev l).g1.length c1) (postT X true p out ev l).g1, rwS (.slice Ao out.length co) out, rwE (.slice Ae ev.length ce) ev] bx) := by
 have HC := Lib.hid hC
 have HLB := Lib.hid hLB
 clear hC hLB
 go_enter Tryd.func31, Tryd.ntmps31
 go_wp2_with (with_reducible refine sa ?_)
 refine HM.nw (ty := 58) (cs := (tkL X (.slice A0 X.g0.length c0) (.slice A1 X.g1.length c1) (.slice Aa X.line.length ca) (.slice Al X.line.length cl)).toArray) ?_; clear HM; intro g_1 w_2 HM
 go_wp2_with (with_reducible refine sa ?_)
 refine HM.nw (ty := 37) (cs := (prL p).toArray) ?_; clear HM; intro g_7 w_8 HM
 go_wp2_with (with_reducible refine sa ?_)
 refine HM.nw (ty := 58) (cs := (tkL tk0 (.slice none 0 0) (.slice none 0 0) (.slice none 0 0) (.slice none 0 0)).toArray) ?_; clear HM; intro g_13 w_14 HM
 go_wp2_with (first | (with_reducible refine sa ?_) | (with_reducible refine ld 0 (prL p) HM.b1 Tryd.underlying37 ?_))
 refine sw 58 (prL ((X.put_s1 p)).s1).toArray (tkL ((X.put_s1 p)) (.slice A0 X.g0.length c0) (.slice A1 X.g1.length c1) (.slice Aa X.line.length ca) (.slice Al X.line.length cl)).toArray HM.b2 ?_
 intro w_20 G_22 hU_21
 replace HM := HM.s2 hU_21 G_22
 clear hU_21 G_22
 go_wp2_with (with_reducible refine sa ?_)
 try simp only [nrm]
 go_loopw [13] (fun i wr => ∃ (k : Nat) (Y : Tk) (Bl : Option Addr) (dl : Nat) (Ba : Option Addr) (da : Nat), k ≤ out.length ∧ i = .int .i64 k ∧ Y = (out.take k).foldl (put1 l true) (X.put_s1 p) ∧ MR w wr base ([rwL (.slice Bl Y.line.length dl) Y.line, rwA (.slice Ba Y.line.length da) Y.line, rwE (.slice A0 X.g0.length c0) X.g0, rwE (.slice A1 X.g1.length c1) X.g1, rwS (.slice Ao out.length co) out, rwE (.slice Ae ev.length ce) ev]) ((g_13, 58, (tkL tk0 (.slice none 0 0) (.slice none 0 0) (.slice none 0 0) (.slice none 0 0)).toArray) :: (g_7, 37, (prL p).toArray) :: (g_1, 58, (tkL Y (.slice A0 X.g0.length c0) (.slice A1 X.g1.length c1) (.slice Ba Y.line.length da) (.slice Bl Y.line.length dl)).toArray) :: bx)) (fun i _ => out.length - (intOf i).toNat)
 case atStart => exact ⟨0, X.put_s1 p, Al, cl, Aa, ca, Nat.zero_le _, rfl, rfl, HM⟩
 case round =>
  clear HM 
  obtain ⟨k, Y, Bl, dl, Ba, da, hk0, rfl, hY, HM⟩ := hrel
  have hs := put_sent (l := l) (b := true) (out.take k) (X.put_s1 p)
  rw [← hY, List.length_take, Nat.min_eq_left hk0] at hs
  have hs1 : Y.sent = X.sent + (k : Int) := hs.1
  have hs2 : Y.line.length = X.line.length + k := hs.2.1
  have hs3 : Y.g0 = X.g0 := hs.2.2.1
  have hs4 : Y.g1 = X.g1 := hs.2.2.2
  clear hs
  by_cases hlt : k < out.length
  ·
   obtain ⟨d, hd⟩ : ∃ d, out[k] = d := ⟨_, rfl⟩
   have ho : Rd wr Ao (secs out) := HM.r4.rd
   obtain ⟨bk, off, rfl, hrow⟩ := srow_open secL_len (by decide) ho k hlt
   rw [hd] at hrow
   have HE := Lib.hid hrow
   have hB := Below.refl wr.heap.size wr
   clear hrow ho
   have sw : IntKind.i64.wrap (Y.sent + 1) = Y.sent + 1 := IntWalk.i64_in _ (by omega)
   have HY := Lib.hid hY
   have HD0 := Lib.hid hd
   have HS := Lib.hid (And.intro hs1 hs2)
   clear hY hd hs1 hs2 hs3 hs4
   have i1 : decide ((k : Int) < ((out.length : Nat) : Int)) = true := by simp; exact hlt
   have i2 : decide (k < out.length) = true := decide_eq_true hlt
   go_wp2_with (first | (with_reducible refine sa ?_) | ((with_reducible refine wpList_ldr [.int .i64 d.kind, .int .i64 d.feat.io, .bool d.feat.oob, .bool d.feat.bond, .bool d.feat.mitm, .bool d.feat.sid, .bool d.feat.tid, .int .u32 (W32 d.pub), .int .u64 (W64 d.value), .int .i64 d.idn.adr.kind, .int .u64 (W64 d.idn.adr.bits), .int .u64 (W64 d.idn.irk), .int .i64 d.reason] ((HE.out _ hB)) ?_ Tryd.underlying43 ?_ ?_ ?_); rfl; rfl; kernel_rfl))
   refine HM.nw (ty := 43) (cs := (secL sec0).toArray) ?_; clear HM; intro g_24 w_25 HM
   go_wp2_with (with_reducible refine sa ?_)
   refine sv (secL d).toArray HM.b0 ?_
   intro w_30 G_32 hU_31
   replace HM := HM.s0 hU_31 G_32
   clear hU_31 G_32
   go_wp2_with (with_reducible refine sa ?_)
   try simp only [nrm]
   go_loopw [15] (fun i wr => ∃ (j : Nat) (D : Sec), j ≤ l.length ∧ i = .int .i64 j ∧ D = (l.take j).foldl (chg1 Y.sent) d ∧ MR w wr base ([rwL (.slice Bl Y.line.length dl) Y.line, rwA (.slice Ba Y.line.length da) Y.line, rwE (.slice A0 X.g0.length c0) X.g0, rwE (.slice A1 X.g1.length c1) X.g1, rwS (.slice (some ⟨bk, off, none⟩) out.length co) out, rwE (.slice Ae ev.length ce) ev]) ((g_24, 43, (secL D).toArray) :: (g_13, 58, (tkL tk0 (.slice none 0 0) (.slice none 0 0) (.slice none 0 0) (.slice none 0 0)).toArray) :: (g_7, 37, (prL p).toArray) :: (g_1, 58, (tkL Y (.slice A0 X.g0.length c0) (.slice A1 X.g1.length c1) (.slice Ba Y.line.length da) (.slice Bl Y.line.length dl)).toArray) :: bx)) (fun i _ => l.length - (intOf i).toNat)
   case atStart => exact ⟨0, d, Nat.zero_le _, rfl, rfl, HM⟩
   case round =>
    clear HM 
    obtain ⟨j, D, hj0, rfl, hD, HM⟩ := hrel
    rcases (show (j < l.length ∧ D.kind = 12) ∨ (j < l.length ∧ ¬ D.kind = 12) ∨ ¬ j < l.length by omega) with ⟨hlj, h12⟩ | ⟨hlj, h12⟩ | hlj
    ·
     obtain ⟨c, hc⟩ : ∃ c, l[j] = c := ⟨_, rfl⟩
     have hln : l ≠ [] := by rintro rfl; simp at hlj
     have hr := HC.out.low HM.below (HLB.out hln)
     obtain ⟨bc, oc, rfl, hrow⟩ := srow_open chgL_len (by decide) hr j hlj
     rw [hc] at hrow
     have hbc : bc < base := HLB.out hln _ rfl
     have hge := HM.ge0
     dsimp only at hge
     have HEE : Rg bc (oc + j * 3) (chgL c) wr := ⟨Nat.lt_of_lt_of_le hbc HM.low, hrow wr (Below.refl _ _)⟩
     clear hrow hr HE
     have HE := HEE
     clear HEE
     have HC0 := Lib.hid hc
     have HDD := Lib.hid hD
     clear hc hD
     have j1 : decide ((j : Int) < ((l.length : Nat) : Int)) = true := by simp; exact hlj
     have j2 : decide (j < l.length) = true := decide_eq_true hlj
     have k12 : ((D.kind : Int) == 12) = true := by simpa using h12
     have k3 : ((D.kind : Int) == 3) = false := by rw [h12]; rfl
     have k4 : ((D.kind : Int) == 4) = false := by rw [h12]; rfl
     have kk12 := Lib.hid h12
     clear h12
     by_cases hc_33 : (c.at_ : Int) = Y.sent
     ·
      obtain ⟨ec_33, ec_33n, kc_33⟩ := fT hc_33; clear hc_33
      go_wp2_with (with_reducible refine sa ?_)
      have hst : Stable fun W => MR w W base ([rwL (.slice Bl Y.line.length dl) Y.line, rwA (.slice Ba Y.line.length da) Y.line, rwE (.slice A0 X.g0.length c0) X.g0, rwE (.slice A1 X.g1.length c1) X.g1, rwS (.slice (some ⟨bk, off, none⟩) out.length co) out, rwE (.slice Ae ev.length ce) ev]) ((g_24, 43, (secL D).toArray) :: (g_13, 58, (tkL tk0 (.slice none 0 0) (.slice none 0 0) (.slice none 0 0) (.slice none 0 0)).toArray) :: (g_7, 37, (prL p).toArray) :: (g_1, 58, (tkL Y (.slice A0 X.g0.length c0) (.slice A1 X.g1.length c1) (.slice Ba Y.line.length da) (.slice Bl Y.line.length dl)).toArray) :: bx) ∧ Rg bc (oc + j * 3) (chgL c) W := stable_and (stable_mr _ _ _ _) (stable_rg _ _ _)
      refine wp_region_v _ 13 hst ⟨HM.drew, HE⟩ ?_
      clear HM HE
      refine wpU_p 0 hst ?_
      refine wpU_p 1 hst ?_
      refine wpU_p 2 hst ?_
      refine wpU_p 3 hst ?_
      refine wpU_take (v := ?_) 4 hst (fun _ h => h) rfl ?_ ?_; rotate_left; (intro W hS K hK; have ld : W.cell? ⟨bc, oc + j * 3, none⟩ = some (.int .i64 c.at_) := hS.2.2 0 _ rfl; clear hS; go_simp; exact hK.out _ (Below.refl _ _)); simp only [nrm]
      refine wpU_p 5 hst ?_
      refine wpU_c 6 (.int .i64 Y.sent) hst (fun W hS => hS.1.b3.cell 125) ?_
      refine wpU_p 7 hst ?_
      refine wpU_p 8 hst ?_
      refine wpU_p 9 hst ?_
      refine wpU_c 10 (.int .i64 D.kind) hst (fun W hS => hS.1.b0.cell 0) ?_
      refine wpU_p 11 hst ?_
      refine wpU_p 12 hst ?_
      refine wpU_done (fun w_34 hS => ?_)
      obtain ⟨HM, HE⟩ := hS
      clear hst
      have ld_35 : w_34.cell? ⟨bc, oc + j * 3 + 1, none⟩ = some (.int .u32 (W32 c.pub)) := HE.2 1 _ rfl
      go_wp2_with (with_reducible refine sa ?_)
      refine sx 7 (.int .u32 (W32 c.pub)) #[.int .i64 D.kind, .int .i64 D.feat.io, .bool D.feat.oob, .bool D.feat.bond, .bool D.feat.mitm, .bool D.feat.sid, .bool D.feat.tid, .int .u32 (W32 c.pub), .int .u64 (W64 D.value), .int .i64 D.idn.adr.kind, .int .u64 (W64 D.idn.adr.bits), .int .u64 (W64 D.idn.irk), .int .i64 D.reason] HM.b0 ?_
      intro w_36 G_38 hU_37
      clear ld_35
      replace HM := HM.s0 hU_37 G_38
      replace HE := Rg.upd HE hU_37 (by omega)
      clear hU_37 G_38
      go_wp2_with (with_reducible refine sa ?_)
      have hst : Stable fun W => MR w W base ([rwL (.slice Bl Y.line.length dl) Y.line, rwA (.slice Ba Y.line.length da) Y.line, rwE (.slice A0 X.g0.length c0) X.g0, rwE (.slice A1 X.g1.length c1) X.g1, rwS (.slice (some ⟨bk, off, none⟩) out.length co) out, rwE (.slice Ae ev.length ce) ev]) ((g_24, 43, #[.int .i64 D.kind, .int .i64 D.feat.io, .bool D.feat.oob, .bool D.feat.bond, .bool D.feat.mitm, .bool D.feat.sid, .bool D.feat.tid, .int .u32 (W32 c.pub), .int .u64 (W64 D.value), .int .i64 D.idn.adr.kind, .int .u64 (W64 D.idn.adr.bits), .int .u64 (W64 D.idn.irk), .int .i64 D.reason]) :: (g_13, 58, (tkL tk0 (.slice none 0 0) (.slice none 0 0) (.slice none 0 0) (.slice none 0 0)).toArray) :: (g_7, 37, (prL p).toArray) :: (g_1, 58, (tkL Y (.slice A0 X.g0.length c0) (.slice A1 X.g1.length c1) (.slice Ba Y.line.length da) (.slice Bl Y.line.length dl)).toArray) :: bx) ∧ Rg bc (oc + j * 3) (chgL c) W := stable_and (stable_mr _ _ _ _) (stable_rg _ _ _)
      refine wp_region_v _ 18 hst ⟨HM.drew, HE⟩ ?_
      clear HM HE
      refine wpU_p 0 hst ?_
      refine wpU_p 1 hst ?_
      refine wpU_p 2 hst ?_
      refine wpU_p 3 hst ?_
      refine wpU_take (v := ?_) 4 hst (fun _ h => h) rfl ?_ ?_; rotate_left; (intro W hS K hK; have ld : W.cell? ⟨bc, oc + j * 3, none⟩ = some (.int .i64 c.at_) := hS.2.2 0 _ rfl; clear hS; go_simp; exact hK.out _ (Below.refl _ _)); simp only [nrm]
      refine wpU_p 5 hst ?_
      refine wpU_c 6 (.int .i64 Y.sent) hst (fun W hS => hS.1.b3.cell 125) ?_
      refine wpU_p 7 hst ?_
      refine wpU_p 8 hst ?_
      refine wpU_p 9 hst ?_
      refine wpU_c 10 (.int .i64 D.kind) hst (fun W hS => hS.1.b0.cell 0) ?_
      refine wpU_p 11 hst ?_
      refine wpU_p 12 hst ?_
      refine wpU_p 13 hst ?_
      refine wpU_c 14 (.int .i64 D.kind) hst (fun W hS => hS.1.b0.cell 0) ?_
      refine wpU_p 15 hst ?_
      refine wpU_p 16 hst ?_
      refine wpU_p 17 hst ?_
      refine wpU_done (fun w_39 hS => ?_)
      obtain ⟨HM, HE⟩ := hS
      clear hst
      go_wp2_with (with_reducible refine sa ?_)
      go_roundw
      have q0 := kk12.out
      have q1 := kc_33.out
      have eD : chg1 Y.sent D c = ⟨D.kind, ⟨D.feat.io, D.feat.oob, D.feat.bond, D.feat.mitm, D.feat.sid, D.feat.tid⟩, c.pub, D.value, ⟨⟨D.idn.adr.kind, D.idn.adr.bits⟩, D.idn.irk⟩, D.reason⟩ := by unfold chg1; first | (simp [q0, q1]; done) | (simp only [q0, q1]; rfl) | (simp_all; done)
      case rel => exact ⟨j + 1, chg1 Y.sent D c, by omega, by go_num, by rw [foldl_take_succ _ _ _ _ hlj, HC0.out, ← HDD.out], by rw [eD]; exact HM⟩
      case measure => simp [intOf]; omega
     obtain ⟨ec_33, ec_33n, kc_33⟩ := fF hc_33; clear hc_33
     go_wp2_with (with_reducible refine sa ?_)
     have hst : Stable fun W => MR w W base ([rwL (.slice Bl Y.line.length dl) Y.line, rwA (.slice Ba Y.line.length da) Y.line, rwE (.slice A0 X.g0.length c0) X.g0, rwE (.slice A1 X.g1.length c1) X.g1, rwS (.slice (some ⟨bk, off, none⟩) out.length co) out, rwE (.slice Ae ev.length ce) ev]) ((g_24, 43, (secL D).toArray) :: (g_13, 58, (tkL tk0 (.slice none 0 0) (.slice none 0 0) (.slice none 0 0) (.slice none 0 0)).toArray) :: (g_7, 37, (prL p).toArray) :: (g_1, 58, (tkL Y (.slice A0 X.g0.length c0) (.slice A1 X.g1.length c1) (.slice Ba Y.line.length da) (.slice Bl Y.line.length dl)).toArray) :: bx) ∧ Rg bc (oc + j * 3) (chgL c) W := stable_and (stable_mr _ _ _ _) (stable_rg _ _ _)
     refine wp_region_v _ 13 hst ⟨HM.drew, HE⟩ ?_
     clear HM HE
     refine wpU_p 0 hst ?_
     refine wpU_p 1 hst ?_
     refine wpU_p 2 hst ?_
     refine wpU_p 3 hst ?_
     refine wpU_take (v := ?_) 4 hst (fun _ h => h) rfl ?_ ?_; rotate_left; (intro W hS K hK; have ld : W.cell? ⟨bc, oc + j * 3, none⟩ = some (.int .i64 c.at_) := hS.2.2 0 _ rfl; clear hS; go_simp; exact hK.out _ (Below.refl _ _)); simp only [nrm]
     refine wpU_p 5 hst ?_
     refine wpU_c 6 (.int .i64 Y.sent) hst (fun W hS => hS.1.b3.cell 125) ?_
     refine wpU_p 7 hst ?_
     refine wpU_p 8 hst ?_
     refine wpU_s 9 hst ?_
     refine wpU_s 10 hst ?_
     refine wpU_s 11 hst ?_
     refine wpU_p 12 hst ?_
     refine wpU_done (fun w_40 hS => ?_)
     obtain ⟨HM, HE⟩ := hS
     clear hst
     go_wp2_with (with_reducible refine sa ?_)
     have hst : Stable fun W => MR w W base ([rwL (.slice Bl Y.line.length dl) Y.line, rwA (.slice Ba Y.line.length da) Y.line, rwE (.slice A0 X.g0.length c0) X.g0, rwE (.slice A1 X.g1.length c1) X.g1, rwS (.slice (some ⟨bk, off, none⟩) out.length co) out, rwE (.slice Ae ev.length ce) ev]) ((g_24, 43, (secL D).toArray) :: (g_13, 58, (tkL tk0 (.slice none 0 0) (.slice none 0 0) (.slice none 0 0) (.slice none 0 0)).toArray) :: (g_7, 37, (prL p).toArray) :: (g_1, 58, (tkL Y (.slice A0 X.g0.length c0) (.slice A1 X.g1.length c1) (.slice Ba Y.line.length da) (.slice Bl Y.line.length dl)).toArray) :: bx) ∧ Rg bc (oc + j * 3) (chgL c) W := stable_and (stable_mr _ _ _ _) (stable_rg _ _ _)
     refine wp_region_v _ 18 hst ⟨HM.drew, HE⟩ ?_
     clear HM HE
     refine wpU_p 0 hst ?_
     refine wpU_p 1 hst ?_
     refine wpU_p 2 hst ?_
     refine wpU_p 3 hst ?_
     refine wpU_take (v := ?_) 4 hst (fun _ h => h) rfl ?_ ?_; rotate_left; (intro W hS K hK; have ld : W.cell? ⟨bc, oc + j * 3, none⟩ = some (.int .i64 c.at_) := hS.2.2 0 _ rfl; clear hS; go_simp; exact hK.out _ (Below.refl _ _)); simp only [nrm]
     refine wpU_p 5 hst ?_
     refine wpU_c 6 (.int .i64 Y.sent) hst (fun W hS => hS.1.b3.cell 125) ?_
     refine wpU_p 7 hst ?_
     refine wpU_p 8 hst ?_
     refine wpU_s 9 hst ?_
     refine wpU_s 10 hst ?_
     refine wpU_s 11 hst ?_
     refine wpU_s 12 hst ?_
     refine wpU_s 13 hst ?_
     refine wpU_s 14 hst ?_
     refine wpU_s 15 hst ?_
     refine wpU_s 16 hst ?_
     refine wpU_p 17 hst ?_
     refine wpU_done (fun w_41 hS => ?_)
     obtain ⟨HM, HE⟩ := hS
     clear hst
     go_wp2_with (with_reducible refine sa ?_)
     go_roundw
     have q0 := kk12.out
     have q1 := kc_33.out
     have eD : chg1 Y.sent D c = D := by unfold chg1; first | (simp [q0, q1]; done) | (simp only [q0, q1]; rfl) | (simp_all; done)
     case rel => exact ⟨j + 1, chg1 Y.sent D c, by omega, by go_num, by rw [foldl_take_succ _ _ _ _ hlj, HC0.out, ← HDD.out], by rw [eD]; exact HM⟩
     case measure => simp [intOf]; omega
    ·
     obtain ⟨c, hc⟩ : ∃ c, l[j] = c := ⟨_, rfl⟩
     have hln : l ≠ [] := by rintro rfl; simp at hlj
     have hr := HC.out.low HM.below (HLB.out hln)
     obtain ⟨bc, oc, rfl, hrow⟩ := srow_open chgL_len (by decide) hr j hlj
     rw [hc] at hrow
     have hbc : bc < base := HLB.out hln _ rfl
     have hge := HM.ge0
     dsimp only at hge
     have HEE : Rg bc (oc + j * 3) (chgL c) wr := ⟨Nat.lt_of_lt_of_le hbc HM.low, hrow wr (Below.refl _ _)⟩
     clear hrow hr HE
     have HE := HEE
     clear HEE
     have HC0 := Lib.hid hc
     have HDD := Lib.hid hD
     clear hc hD
     have j1 : decide ((j : Int) < ((l.length : Nat) : Int)) = true := by simp; exact hlj
     have j2 : decide (j < l.length) = true := decide_eq_true hlj
     have k12 : ((D.kind : Int) == 12) = false := by simpa using h12
     have kk12 := Lib.hid h12
     clear h12
     by_cases hc_42 : (c.at_ : Int) = Y.sent
     ·
      obtain ⟨ec_42, ec_42n, kc_42⟩ := fT hc_42; clear hc_42
      go_wp2_with (with_reducible refine sa ?_)
      have hst : Stable fun W => MR w W base ([rwL (.slice Bl Y.line.length dl) Y.line, rwA (.slice Ba Y.line.length da) Y.line, rwE (.slice A0 X.g0.length c0) X.g0, rwE (.slice A1 X.g1.length c1) X.g1, rwS (.slice (some ⟨bk, off, none⟩) out.length co) out, rwE (.slice Ae ev.length ce) ev]) ((g_24, 43, (secL D).toArray) :: (g_13, 58, (tkL tk0 (.slice none 0 0) (.slice none 0 0) (.slice none 0 0) (.slice none 0 0)).toArray) :: (g_7, 37, (prL p).toArray) :: (g_1, 58, (tkL Y (.slice A0 X.g0.length c0) (.slice A1 X.g1.length c1) (.slice Ba Y.line.length da) (.slice Bl Y.line.length dl)).toArray) :: bx) ∧ Rg bc (oc + j * 3) (chgL c) W := stable_and (stable_mr _ _ _ _) (stable_rg _ _ _)
      refine wp_region_v _ 13 hst ⟨HM.drew, HE⟩ ?_
      clear HM HE
      refine wpU_p 0 hst ?_
      refine wpU_p 1 hst ?_
      refine wpU_p 2 hst ?_
      refine wpU_p 3 hst ?_
      refine wpU_take (v := ?_) 4 hst (fun _ h => h) rfl ?_ ?_; rotate_left; (intro W hS K hK; have ld : W.cell? ⟨bc, oc + j * 3, none⟩ = some (.int .i64 c.at_) := hS.2.2 0 _ rfl; clear hS; go_simp; exact hK.out _ (Below.refl _ _)); simp only [nrm]
      refine wpU_p 5 hst ?_
      refine wpU_c 6 (.int .i64 Y.sent) hst (fun W hS => hS.1.b3.cell 125) ?_
      refine wpU_p 7 hst ?_
      refine wpU_p 8 hst ?_
      refine wpU_p 9 hst ?_
      refine wpU_c 10 (.int .i64 D.kind) hst (fun W hS => hS.1.b0.cell 0) ?_
      refine wpU_p 11 hst ?_
      refine wpU_p 12 hst ?_
      refine wpU_done (fun w_43 hS => ?_)
      obtain ⟨HM, HE⟩ := hS
      clear hst
      by_cases hc_44 : (D.kind : Int) = 3
      ·
       obtain ⟨ec_44, ec_44n, kc_44⟩ := fT hc_44; clear hc_44
       go_wp2_with (with_reducible refine sa ?_)
       have hst : Stable fun W => MR w W base ([rwL (.slice Bl Y.line.length dl) Y.line, rwA (.slice Ba Y.line.length da) Y.line, rwE (.slice A0 X.g0.length c0) X.g0, rwE (.slice A1 X.g1.length c1) X.g1, rwS (.slice (some ⟨bk, off, none⟩) out.length co) out, rwE (.slice Ae ev.length ce) ev]) ((g_24, 43, (secL D).toArray) :: (g_13, 58, (tkL tk0 (.slice none 0 0) (.slice none 0 0) (.slice none 0 0) (.slice none 0 0)).toArray) :: (g_7, 37, (prL p).toArray) :: (g_1, 58, (tkL Y (.slice A0 X.g0.length c0) (.slice A1 X.g1.length c1) (.slice Ba Y.line.length da) (.slice Bl Y.line.length dl)).toArray) :: bx) ∧ Rg bc (oc + j * 3) (chgL c) W := stable_and (stable_mr _ _ _ _) (stable_rg _ _ _)
       refine wp_region_v _ 18 hst ⟨HM.drew, HE⟩ ?_
       clear HM HE
       refine wpU_p 0 hst ?_
       refine wpU_p 1 hst ?_
       refine wpU_p 2 hst ?_
       refine wpU_p 3 hst ?_
       refine wpU_take (v := ?_) 4 hst (fun _ h => h) rfl ?_ ?_; rotate_left; (intro W hS K hK; have ld : W.cell? ⟨bc, oc + j * 3, none⟩ = some (.int .i64 c.at_) := hS.2.2 0 _ rfl; clear hS; go_simp; exact hK.out _ (Below.refl _ _)); simp only [nrm]
       refine wpU_p 5 hst ?_
       refine wpU_c 6 (.int .i64 Y.sent) hst (fun W hS => hS.1.b3.cell 125) ?_
       refine wpU_p 7 hst ?_
       refine wpU_p 8 hst ?_
       refine wpU_p 9 hst ?_
       refine wpU_c 10 (.int .i64 D.kind) hst (fun W hS => hS.1.b0.cell 0) ?_
       refine wpU_p 11 hst ?_
       refine wpU_p 12 hst ?_
       refine wpU_s 13 hst ?_
       refine wpU_s 14 hst ?_
       refine wpU_s 15 hst ?_
       refine wpU_p 16 hst ?_
       refine wpU_p 17 hst ?_
       refine wpU_done (fun w_45 hS => ?_)
       obtain ⟨HM, HE⟩ := hS
       clear hst
       have ld_46 : w_45.cell? ⟨bc, oc + j * 3 + 2, none⟩ = some (.int .u64 (W64 c.value)) := HE.2 2 _ rfl
       go_wp2_with (with_reducible refine sa ?_)
       refine sx 8 (.int .u64 (W64 c.value)) #[.int .i64 D.kind, .int .i64 D.feat.io, .bool D.feat.oob, .bool D.feat.bond, .bool D.feat.mitm, .bool D.feat.sid, .bool D.feat.tid, .int .u32 (W32 D.pub), .int .u64 (W64 c.value), .int .i64 D.idn.adr.kind, .int .u64 (W64 D.idn.adr.bits), .int .u64 (W64 D.idn.irk), .int .i64 D.reason] HM.b0 ?_
       intro w_47 G_49 hU_48
       clear ld_46
       replace HM := HM.s0 hU_48 G_49
       replace HE := Rg.upd HE hU_48 (by omega)
       clear hU_48 G_49
       go_wp2_with (with_reducible refine sa ?_)
       go_roundw
       have q0 := kk12.out
       have q1 := kc_42.out
       have q2 := kc_44.out
       have eD : chg1 Y.sent D c = ⟨D.kind, ⟨D.feat.io, D.feat.oob, D.feat.bond, D.feat.mitm, D.feat.sid, D.feat.tid⟩, D.pub, c.value, ⟨⟨D.idn.adr.kind, D.idn.adr.bits⟩, D.idn.irk⟩, D.reason⟩ := by unfold chg1; first | (simp [q0, q1, q2]; done) | (simp only [q0, q1, q2]; rfl) | (simp_all; done)
       case rel => exact ⟨j + 1, chg1 Y.sent D c, by omega, by go_num, by rw [foldl_take_succ _ _ _ _ hlj, HC0.out, ← HDD.out], by rw [eD]; exact HM⟩
       case measure => simp [intOf]; omega
      obtain ⟨ec_44, ec_44n, kc_44⟩ := fF hc_44; clear hc_44
      go_wp2_with (with_reducible refine sa ?_)
      have hst : Stable fun W => MR w W base ([rwL (.slice Bl Y.line.length dl) Y.line, rwA (.slice Ba Y.line.length da) Y.line, rwE (.slice A0 X.g0.length c0) X.g0, rwE (.slice A1 X.g1.length c1) X.g1, rwS (.slice (some ⟨bk, off, none⟩) out.length co) out, rwE (.slice Ae ev.length ce) ev]) ((g_24, 43, (secL D).toArray) :: (g_13, 58, (tkL tk0 (.slice none 0 0) (.slice none 0 0) (.slice none 0 0) (.slice none 0 0)).toArray) :: (g_7, 37, (prL p).toArray) :: (g_1, 58, (tkL Y (.slice A0 X.g0.length c0) (.slice A1 X.g1.length c1) (.slice Ba Y.line.length da) (.slice Bl Y.line.length dl)).toArray) :: bx) ∧ Rg bc (oc + j * 3) (chgL c) W := stable_and (stable_mr _ _ _ _) (stable_rg _ _ _)
      refine wp_region_v _ 18 hst ⟨HM.drew, HE⟩ ?_
      clear HM HE
      refine wpU_p 0 hst ?_
      refine wpU_p 1 hst ?_
      refine wpU_p 2 hst ?_
      refine wpU_p 3 hst ?_
      refine wpU_take (v := ?_) 4 hst (fun _ h => h) rfl ?_ ?_; rotate_left; (intro W hS K hK; have ld : W.cell? ⟨bc, oc + j * 3, none⟩ = some (.int .i64 c.at_) := hS.2.2 0 _ rfl; clear hS; go_simp; exact hK.out _ (Below.refl _ _)); simp only [nrm]
      refine wpU_p 5 hst ?_
      refine wpU_c 6 (.int .i64 Y.sent) hst (fun W hS => hS.1.b3.cell 125) ?_
      refine wpU_p 7 hst ?_
      refine wpU_p 8 hst ?_
      refine wpU_p 9 hst ?_
      refine wpU_c 10 (.int .i64 D.kind) hst (fun W hS => hS.1.b0.cell 0) ?_
      refine wpU_p 11 hst ?_
      refine wpU_p 12 hst ?_
      refine wpU_p 13 hst ?_
      refine wpU_c 14 (.int .i64 D.kind) hst (fun W hS => hS.1.b0.cell 0) ?_
      refine wpU_p 15 hst ?_
      refine wpU_p 16 hst ?_
      refine wpU_p 17 hst ?_
      refine wpU_done (fun w_50 hS => ?_)
      obtain ⟨HM, HE⟩ := hS
      clear hst
      by_cases hc_51 : (D.kind : Int) = 4
      ·
       obtain ⟨ec_51, ec_51n, kc_51⟩ := fT hc_51; clear hc_51
       have ld_52 : w_50.cell? ⟨bc, oc + j * 3 + 2, none⟩ = some (.int .u64 (W64 c.value)) := HE.2 2 _ rfl
       go_wp2_with (with_reducible refine sa ?_)
       refine sx 8 (.int .u64 (W64 c.value)) #[.int .i64 D.kind, .int .i64 D.feat.io, .bool D.feat.oob, .bool D.feat.bond, .bool D.feat.mitm, .bool D.feat.sid, .bool D.feat.tid, .int .u32 (W32 D.pub), .int .u64 (W64 c.value), .int .i64 D.idn.adr.kind, .int .u64 (W64 D.idn.adr.bits), .int .u64 (W64 D.idn.irk), .int .i64 D.reason] HM.b0 ?_
       intro w_53 G_55 hU_54
       clear ld_52
       replace HM := HM.s0 hU_54 G_55
       replace HE := Rg.upd HE hU_54 (by omega)
       clear hU_54 G_55
       go_wp2_with (with_reducible refine sa ?_)
       go_roundw
       have q0 := kk12.out
       have q1 := kc_42.out
       have q2 := kc_44.out
       have q3 := kc_51.out
       have eD : chg1 Y.sent D c = ⟨D.kind, ⟨D.feat.io, D.feat.oob, D.feat.bond, D.feat.mitm, D.feat.sid, D.feat.tid⟩, D.pub, c.value, ⟨⟨D.idn.adr.kind, D.idn.adr.bits⟩, D.idn.irk⟩, D.reason⟩ := by unfold chg1; first | (simp [q0, q1, q2, q3]; done) | (simp only [q0, q1, q2, q3]; rfl) | (simp_all; done)
       case rel => exact ⟨j + 1, chg1 Y.sent D c, by omega, by go_num, by rw [foldl_take_succ _ _ _ _ hlj, HC0.out, ← HDD.out], by rw [eD]; exact HM⟩
       case measure => simp [intOf]; omega
      obtain ⟨ec_51, ec_51n, kc_51⟩ := fF hc_51; clear hc_51
      go_wp2_with (with_reducible refine sa ?_)
      go_roundw
      have q0 := kk12.out
      have q1 := kc_42.out
      have q2 := kc_44.out
      have q3 := kc_51.out
      have eD : chg1 Y.sent D c = D := by unfold chg1; first | (simp [q0, q1, q2, q3]; done) | (simp only [q0, q1, q2, q3]; rfl) | (simp_all; done)
      case rel => exact ⟨j + 1, chg1 Y.sent D c, by omega, by go_num, by rw [foldl_take_succ _ _ _ _ hlj, HC0.out, ← HDD.out], by rw [eD]; exact HM⟩
      case measure => simp [intOf]; omega
     obtain ⟨ec_42, ec_42n, kc_42⟩ := fF hc_42; clear hc_42
     go_wp2_with (with_reducible refine sa ?_)
     have hst : Stable fun W => MR w W base ([rwL (.slice Bl Y.line.length dl) Y.line, rwA (.slice Ba Y.line.length da) Y.line, rwE (.slice A0 X.g0.length c0) X.g0, rwE (.slice A1 X.g1.length c1) X.g1, rwS (.slice (some ⟨bk, off, none⟩) out.length co) out, rwE (.slice Ae ev.length ce) ev]) ((g_24, 43, (secL D).toArray) :: (g_13, 58, (tkL tk0 (.slice none 0 0) (.slice none 0 0) (.slice none 0 0) (.slice none 0 0)).toArray) :: (g_7, 37, (prL p).toArray) :: (g_1, 58, (tkL Y (.slice A0 X.g0.length c0) (.slice A1 X.g1.length c1) (.slice Ba Y.line.length da) (.slice Bl Y.line.length dl)).toArray) :: bx) ∧ Rg bc (oc + j * 3) (chgL c) W := stable_and (stable_mr _ _ _ _) (stable_rg _ _ _)
     refine wp_region_v _ 13 hst ⟨HM.drew, HE⟩ ?_
     clear HM HE
     refine wpU_p 0 hst ?_
     refine wpU_p 1 hst ?_
     refine wpU_p 2 hst ?_
     refine wpU_p 3 hst ?_
     refine wpU_take (v := ?_) 4 hst (fun _ h => h) rfl ?_ ?_; rotate_left; (intro W hS K hK; have ld : W.cell? ⟨bc, oc + j * 3, none⟩ = some (.int .i64 c.at_) := hS.2.2 0 _ rfl; clear hS; go_simp; exact hK.out _ (Below.refl _ _)); simp only [nrm]
     refine wpU_p 5 hst ?_
     refine wpU_c 6 (.int .i64 Y.sent) hst (fun W hS => hS.1.b3.cell 125) ?_
     refine wpU_p 7 hst ?_
     refine wpU_p 8 hst ?_
     refine wpU_s 9 hst ?_
     refine wpU_s 10 hst ?_
     refine wpU_s 11 hst ?_
     refine wpU_p 12 hst ?_
     refine wpU_done (fun w_56 hS => ?_)
     obtain ⟨HM, HE⟩ := hS
     clear hst
     go_wp2_with (with_reducible refine sa ?_)
     have hst : Stable fun W => MR w W base ([rwL (.slice Bl Y.line.length dl) Y.line, rwA (.slice Ba Y.line.length da) Y.line, rwE (.slice A0 X.g0.length c0) X.g0, rwE (.slice A1 X.g1.length c1) X.g1, rwS (.slice (some ⟨bk, off, none⟩) out.length co) out, rwE (.slice Ae ev.length ce) ev]) ((g_24, 43, (secL D).toArray) :: (g_13, 58, (tkL tk0 (.slice none 0 0) (.slice none 0 0) (.slice none 0 0) (.slice none 0 0)).toArray) :: (g_7, 37, (prL p).toArray) :: (g_1, 58, (tkL Y (.slice A0 X.g0.length c0) (.slice A1 X.g1.length c1) (.slice Ba Y.line.length da) (.slice Bl Y.line.length dl)).toArray) :: bx) ∧ Rg bc (oc + j * 3) (chgL c) W := stable_and (stable_mr _ _ _ _) (stable_rg _ _ _)
     refine wp_region_v _ 18 hst ⟨HM.drew, HE⟩ ?_
     clear HM HE
     refine wpU_p 0 hst ?_
     refine wpU_p 1 hst ?_
     refine wpU_p 2 hst ?_
     refine wpU_p 3 hst ?_
     refine wpU_take (v := ?_) 4 hst (fun _ h => h) rfl ?_ ?_; rotate_left; (intro W hS K hK; have ld : W.cell? ⟨bc, oc + j * 3, none⟩ = some (.int .i64 c.at_) := hS.2.2 0 _ rfl; clear hS; go_simp; exact hK.out _ (Below.refl _ _)); simp only [nrm]
     refine wpU_p 5 hst ?_
     refine wpU_c 6 (.int .i64 Y.sent) hst (fun W hS => hS.1.b3.cell 125) ?_
     refine wpU_p 7 hst ?_
     refine wpU_p 8 hst ?_
     refine wpU_s 9 hst ?_
     refine wpU_s 10 hst ?_
     refine wpU_s 11 hst ?_
     refine wpU_s 12 hst ?_
     refine wpU_s 13 hst ?_
     refine wpU_s 14 hst ?_
     refine wpU_s 15 hst ?_
     refine wpU_s 16 hst ?_
     refine wpU_p 17 hst ?_
     refine wpU_done (fun w_57 hS => ?_)
     obtain ⟨HM, HE⟩ := hS
     clear hst
     go_wp2_with (with_reducible refine sa ?_)
     go_roundw
     have q0 := kk12.out
     have q1 := kc_42.out
     have eD : chg1 Y.sent D c = D := by unfold chg1; first | (simp [q0, q1]; done) | (simp only [q0, q1]; rfl) | (simp_all; done)
     case rel => exact ⟨j + 1, chg1 Y.sent D c, by omega, by go_num, by rw [foldl_take_succ _ _ _ _ hlj, HC0.out, ← HDD.out], by rw [eD]; exact HM⟩
     case measure => simp [intOf]; omega
    have j1 : decide ((j : Int) < ((l.length : Nat) : Int)) = false := by simp; omega
    have j2 : decide (j < l.length) = false := by simpa using hlj
    have j3 : l.length ≤ j := Nat.le_of_not_lt hlj
    have hj : j = l.length := by omega
    rw [hj, List.take_length] at hD
    have HD := Lib.hid (show D = chg l Y.sent d from hD)
    clear hD hj
    have ld_58 := HM.b3.c 125 (.int .i64 Y.sent)
    go_wp2_with (with_reducible refine sa ?_)
    refine sx 125 (.int .i64 ((Y.sent + 1))) (tkL ((Y.put_sent ((Y.sent + 1)))) (.slice A0 X.g0.length c0) (.slice A1 X.g1.length c1) (.slice Ba Y.line.length da) (.slice Bl Y.line.length dl)).toArray HM.b3 ?_
    intro w_59 G_61 hU_60
    clear ld_58
    replace HM := HM.s3 hU_60 G_61
    clear hU_60 G_61
    have ld_62 := HM.b3.c 127 (.slice Bl Y.line.length dl)
    go_wp2_with (first | (with_reducible refine sa ?_) | (with_reducible refine ld 0 (secL D) HM.b0 Tryd.underlying43 ?_))
    refine go_mem (ty := 43) (cs := (secL D).toArray) (fun g => .slice (some ⟨g, 0, none⟩) 1 1) rfl (by kernel_rfl) ?_
    intro g_64 w_65 z_69 l_68 hb_66 G_67
    clear ld_62
    replace HM := HM.alloc l_68 hb_66 G_67
    clear hb_66 l_68 z_69 G_67
    go_wp2_with (with_reducible refine sa ?_)
    unfold Kept
    refine app_line false D HM rfl rfl HM.b0 (by have hh := HS.out.2; omega) (fun A_70 c_71 w_72 HN => ?_)
    replace HM := HN; clear HN
    go_wp2_with (with_reducible refine sa ?_)
    refine sx 127 (.slice A_70 (Y.line.length + 1) c_71) (tkL ((Y.put_sent ((Y.sent + 1)))) (.slice A0 X.g0.length c0) (.slice A1 X.g1.length c1) (.slice Ba Y.line.length da) (.slice A_70 (Y.line.length + 1) c_71)).toArray HM.b4 ?_
    intro w_73 G_75 hU_74
    replace HM := HM.s4 hU_74 G_75
    clear hU_74 G_75
    have ld_76 := HM.b4.c 126 (.slice Ba Y.line.length da)
    go_wp2_with (with_reducible refine sa ?_)
    refine go_mem (ty := 3) (cs := #[.int .i64 0]) (fun g => .slice (some ⟨g, 0, none⟩) 1 1) rfl (by kernel_rfl) ?_
    intro g_77 w_78 z_82 l_81 hb_79 G_80
    clear ld_76
    replace HM := HM.alloc l_81 hb_79 G_80
    clear hb_79 l_81 z_82 G_80
    go_wp2_with (with_reducible refine sa ?_)
    unfold Kept
    refine app_at false D HM rfl rfl HM.b0 (by have hh := HS.out.2; omega) (fun A_83 c_84 w_85 HN => ?_)
    replace HM := HN; clear HN
    go_wp2_with (with_reducible refine sa ?_)
    refine sx 126 (.slice A_83 (Y.line.length + 1) c_84) (tkL ((Y.put_sent ((Y.sent + 1)))) (.slice A0 X.g0.length c0) (.slice A1 X.g1.length c1) (.slice A_83 (Y.line.length + 1) c_84) (.slice A_70 (Y.line.length + 1) c_71)).toArray HM.b5 ?_
    intro w_86 G_88 hU_87
    replace HM := HM.s5 hU_87 G_88
    clear hU_87 G_88
    go_wp2_with (with_reducible refine sa ?_)
    go_roundw
    case rel => exact ⟨k + 1, put1 l true Y d, A_70, c_71, A_83, c_84, by omega, by go_num, by rw [foldl_take_succ _ _ _ _ hlt, HD0.out, ← HY.out], by have e := HD.out; subst e; have hn : (put1 l true Y d).line.length = Y.line.length + 1 := List.length_append; rw [hn]; exact HM.drop.drop.drop⟩
    case measure => simp [intOf]; omega
  have i1 : decide ((k : Int) < ((out.length : Nat) : Int)) = false := by simp; omega
  have i2 : decide (k < out.length) = false := by simpa using hlt
  have i3 : out.length ≤ k := Nat.le_of_not_lt hlt
  have hk : k = out.length := by omega
  rw [hk, List.take_length] at hY
  have HY := Lib.hid hY
  have HS := Lib.hid (And.intro hs3 hs4)
  clear hY hs1 hs2 hk hs3 hs4
  go_wp2_with (with_reducible refine sa ?_)
  try simp only [nrm]
  go_loopw [16] (fun i wr => ∃ (k : Nat) (Z : Tk) (E0 : Option Addr) (e0 : Nat) (E1 : Option Addr) (e1 : Nat), k ≤ ev.length ∧ i = .int .i64 k ∧ Z = (ev.take k).foldl (note1 true) Y ∧ MR w wr base ([rwL (.slice Bl Y.line.length dl) Y.line, rwA (.slice Ba Y.line.length da) Y.line, rwE (.slice E0 Z.g0.length e0) Z.g0, rwE (.slice E1 Z.g1.length e1) Z.g1, rwS (.slice Ao out.length co) out, rwE (.slice Ae ev.length ce) ev]) ((g_13, 58, (tkL tk0 (.slice none 0 0) (.slice none 0 0) (.slice none 0 0) (.slice none 0 0)).toArray) :: (g_7, 37, (prL p).toArray) :: (g_1, 58, (tkL Z (.slice E0 Z.g0.length e0) (.slice E1 Z.g1.length e1) (.slice Ba Y.line.length da) (.slice Bl Y.line.length dl)).toArray) :: bx)) (fun i _ => ev.length - (intOf i).toNat)
  case atStart => exact ⟨0, Y, A0, c0, A1, c1, Nat.zero_le _, rfl, rfl, by rw [HS.out.1, HS.out.2]; exact HM⟩
  case round =>
   clear HM 
   obtain ⟨k, Z, E0, e0, E1, e1, hk1, rfl, hZ, HM⟩ := hrel
   have hs := note_line (b := true) (ev.take k) Y
   rw [← hZ, List.length_take, Nat.min_eq_left hk1] at hs
   have hs2 := hs.2; clear hs
   by_cases hlt : k < ev.length
   ·
    obtain ⟨ee, hd⟩ : ∃ d, ev[k] = d := ⟨_, rfl⟩
    have ho : Rd wr Ae (evts ev) := HM.r5.rd
    obtain ⟨bk, off, rfl, hrow⟩ := srow_open evtL_len (by decide) ho k hlt
    rw [hd] at hrow
    have hne : bk ≠ g_1 := fun e => HM.ne5 (by rw [← e]; rfl)
    have HE : Rg bk (off + k * 8) (evtL ee) wr := ⟨(HM.r5.lt bk rfl).2, hrow wr (Below.refl _ _)⟩
    clear hrow ho
    have HZ := Lib.hid hZ
    have HD0 := Lib.hid hd
    have HS2 := Lib.hid hs2
    clear hZ hd hs2
    have i1 : decide ((k : Int) < ((ev.length : Nat) : Int)) = true := by simp; exact hlt
    have i2 : decide (k < ev.length) = true := decide_eq_true hlt
    by_cases hc_89 : (ee.kind : Int) = 1
    ·
     obtain ⟨ec_89, ec_89n, kc_89⟩ := fT hc_89; clear hc_89
     have ld_90 : wr.cell? ⟨bk, off + k * 8, none⟩ = some (.int .i64 ee.kind) := HE.2 0 _ rfl
     go_wp2_with (with_reducible refine sa ?_)
     refine sx 122 (.bool true) (tkL ((Z.put_h1 true)) (.slice E0 Z.g0.length e0) (.slice E1 Z.g1.length e1) (.slice Ba Y.line.length da) (.slice Bl Y.line.length dl)).toArray HM.b2 ?_
     intro w_91 G_93 hU_92
     clear ld_90
     replace HM := HM.s2 hU_92 G_93
     replace HE := Rg.upd HE hU_92 hne
     clear hU_92 G_93
     have ld_94 : w_91.cell? ⟨bk, off + k * 8 + 1, none⟩ = some (.int .i64 ee.number) := HE.2 1 _ rfl
     go_wp2_with (with_reducible refine sa ?_)
     refine sx 118 (.int .i64 ee.number) (tkL (((Z.put_h1 true).put_n1 ee.number)) (.slice E0 Z.g0.length e0) (.slice E1 Z.g1.length e1) (.slice Ba Y.line.length da) (.slice Bl Y.line.length dl)).toArray HM.b2 ?_
     intro w_95 G_97 hU_96
     clear ld_94
     replace HM := HM.s2 hU_96 G_97
     replace HE := Rg.upd HE hU_96 hne
     clear hU_96 G_97
     go_wp2_with (with_reducible refine sa ?_)
     go_roundw
     have q0 := kc_89.out
     have eZ : note1 true Z ee = ((Z.put_h1 true).put_n1 ee.number) := by unfold note1; first | (simp [q0]; done) | (simp only [q0]; rfl) | (rw [if_pos (by assumption)]; rfl) | (rw [if_neg (by assumption), if_pos (by assumption)]; rfl) | (rw [if_neg (by assumption), if_neg (by assumption)]; rfl)
     case rel => exact ⟨k + 1, note1 true Z ee, E0, e0, E1, e1, by omega, by go_num, by rw [foldl_take_succ _ _ _ _ hlt, HD0.out, ← HZ.out], by rw [eZ]; exact HM⟩
     case measure => simp [intOf]; omega
    obtain ⟨ec_89, ec_89n, kc_89⟩ := fF hc_89; clear hc_89
    by_cases hc_98 : (ee.kind : Int) = 2
    ·
     obtain ⟨ec_98, ec_98n, kc_98⟩ := fT hc_98; clear hc_98
     have ld_99 : wr.cell? ⟨bk, off + k * 8, none⟩ = some (.int .i64 ee.kind) := HE.2 0 _ rfl
     go_wp2_with (with_reducible refine sa ?_)
     refine sx 120 (.bool true) (tkL ((Z.put_a1 true)) (.slice E0 Z.g0.length e0) (.slice E1 Z.g1.length e1) (.slice Ba Y.line.length da) (.slice Bl Y.line.length dl)).toArray HM.b2 ?_
     intro w_100 G_102 hU_101
     clear ld_99
     replace HM := HM.s2 hU_101 G_102
     replace HE := Rg.upd HE hU_101 hne
     clear hU_101 G_102
     go_wp2_with (with_reducible refine sa ?_)
     go_roundw
     have q0 := kc_89.out
     have q1 := kc_98.out
     have eZ : note1 true Z ee = (Z.put_a1 true) := by unfold note1; first | (simp [q0, q1]; done) | (simp only [q0, q1]; rfl) | (rw [if_pos (by assumption)]; rfl) | (rw [if_neg (by assumption), if_pos (by assumption)]; rfl) | (rw [if_neg (by assumption), if_neg (by assumption)]; rfl)
     case rel => exact ⟨k + 1, note1 true Z ee, E0, e0, E1, e1, by omega, by go_num, by rw [foldl_take_succ _ _ _ _ hlt, HD0.out, ← HZ.out], by rw [eZ]; exact HM⟩
     case measure => simp [intOf]; omega
    obtain ⟨ec_98, ec_98n, kc_98⟩ := fF hc_98; clear hc_98
    have ld_103 : wr.cell? ⟨bk, off + k * 8, none⟩ = some (.int .i64 ee.kind) := HE.2 0 _ rfl
    go_wp2_with (with_reducible refine sa ?_)
    clear ld_103
    try simp only [nrm]
    refine wp_region_y 14 (fun w_104 hW => ?_)
    replace HM := HM.drew; rw [← hW] at HM
    replace HE : Rg bk (off + k * 8) (evtL ee) w_104 := by rw [hW]; exact HE
    clear hW
    refine wpAny_pure (v := ?_) 0 rfl ?_ ?_; rotate_left; (intro W K hK; go_simp; exact hK.out); simp only [nrm]
    refine wpAny_pure (v := ?_) 1 rfl ?_ ?_; rotate_left; (intro W K hK; go_simp; exact hK.out); simp only [nrm]
    refine wpAny_pure (v := ?_) 2 rfl ?_ ?_; rotate_left; (intro W K hK; go_simp; exact hK.out); simp only [nrm]
    refine wpAny_pure (v := ?_) 3 rfl ?_ ?_; rotate_left; (intro W K hK; go_simp; exact hK.out); simp only [nrm]
    refine wpAny_pure (v := ?_) 5 rfl ?_ ?_; rotate_left; (intro W K hK; go_simp; exact hK.out); simp only [nrm]
    refine wpAny_pure (v := ?_) 6 rfl ?_ ?_; rotate_left; (intro W K hK; go_simp; exact hK.out); simp only [nrm]
    refine wpAny_pure (v := ?_) 7 rfl ?_ ?_; rotate_left; (intro W K hK; go_simp; exact hK.out); simp only [nrm]
    refine wpAny_pure (v := ?_) 11 rfl ?_ ?_; rotate_left; (intro W K hK; go_simp; exact hK.out); simp only [nrm]
    refine wpAny_two 4 8 rfl rfl (fun K hK => ?_) (fun K hK => ?_)
    ·
     have ld : w_104.cell? ⟨g_1, 124, none⟩ = some (.slice E1 Z.g1.length e1) := HM.b2.cell 124
     go_simp; refine hK.out _ _ ?_; clear hK K ld; try simp only [nrm]
     refine wpAny_one 8 rfl (fun K hK => ?_)
     rw [if_pos (show Region.wanted _ _ = true from rfl)]
     refine calm_wp (calm_load (v := .agg (evtL ee).toArray) rfl rfl (run_loadVar_mid w_104 bk (off + k * 8) 63 [.int .i64 ee.kind, .int .i64 ee.number, .int .u64 (W64 ee.key), .bool ee.strong, .int .i64 ee.idn.adr.kind, .int .u64 (W64 ee.idn.adr.bits), .int .u64 (W64 ee.idn.irk), .int .i64 ee.reason] _ (range_part HE.2 0 [.int .i64 ee.kind, .int .i64 ee.number, .int .u64 (W64 ee.key), .bool ee.strong, .int .i64 ee.idn.adr.kind, .int .u64 (W64 ee.idn.adr.bits), .int .u64 (W64 ee.idn.irk), .int .i64 ee.reason] rfl) Tryd.underlying63 rfl (by kernel_rfl)) ?_)
     refine hK.out _ _ ?_; clear hK K; try simp only [nrm]
     refine wpAny_one 9 rfl (fun K hK => ?_)
     rw [if_pos (show Region.wanted _ _ = true from rfl)]
     refine op_new (ty := 63) (cs := (evtL ee).toArray) (fun g => .slice (some ⟨g, 0, none⟩) 1 1) (by kernel_rfl) (fun g_105 w_106 z_110 l_109 hb_107 G_108 => ?_)
     refine hK.out _ _ ?_; clear hK K; try simp only [nrm]
     replace HM := HM.alloc l_109 hb_107 G_108
     replace HE := Rg.to HE hb_107
     clear hb_107 l_109 z_110 G_108
     refine wpAny_one 10 rfl (fun K hK => ?_)
     rw [if_pos (show Region.wanted _ _ = true from rfl)]
     refine op_app_g1 ee HM rfl rfl HM.b0 (by have hh := HS2.out; rw [HS.out.1, HS.out.2] at hh; omega) (fun A_111 c_112 w_113 HN => ?_)
     refine hK.out _ _ ?_; clear hK K HM; try simp only [nrm]
     have HM := HN; clear HN
     clear HE
     refine wpAny_pure (v := ?_) 12 rfl ?_ ?_; rotate_left; (intro W K hK; go_simp; exact hK.out); simp only [nrm]
     refine wpAny_one 13 rfl (fun K hK => ?_)
     refine wpAny_st (S' := fun W => MR w W base ([rwL (.slice Bl Y.line.length dl) Y.line, rwA (.slice Ba Y.line.length da) Y.line, rwE (.slice E0 Z.g0.length e0) Z.g0, rwE (.slice A_111 (Z.g1.length + 1) c_112) ((Z.g1 ++ [ee])), rwS (.slice Ao out.length co) out, rwE (.slice (some ⟨bk, off, none⟩) ev.length ce) ev]) ((g_105, 63, (evtL ee).toArray) :: (g_13, 58, (tkL tk0 (.slice none 0 0) (.slice none 0 0) (.slice none 0 0) (.slice none 0 0)).toArray) :: (g_7, 37, (prL p).toArray) :: (g_1, 58, (tkL Z (.slice E0 Z.g0.length e0) (.slice A_111 (Z.g1.length + 1) c_112) (.slice Ba Y.line.length da) (.slice Bl Y.line.length dl)).toArray) :: bx)) (.slice A_111 (Z.g1.length + 1) c_112) rfl (by obtain ⟨w9, h1, h2, h3⟩ := run_store_one (P := Tryd.prog) (ty := 47) (o := 124) (v := .slice A_111 (Z.g1.length + 1) c_112) HM.b3 rfl (by kernel_rfl) rfl (of_decide_eq_true rfl); exact ⟨w9, h1, HM.s3 h3 h2⟩) (fun w_114 HN => ?_) hK rfl rfl rfl; clear hK K
     replace HM := HN; clear HN; try simp only [nrm]
     refine wpAny_end ?_
     go_wp2_with (with_reducible refine sa ?_)
     go_roundw
     have q0 := kc_89.out
     have q1 := kc_98.out
     have eZ : note1 true Z ee = { Z with g1 := Z.g1 ++ [ee] } := by unfold note1; first | (simp [q0, q1]; done) | (simp only [q0, q1]; rfl) | (rw [if_pos (by assumption)]; rfl) | (rw [if_neg (by assumption), if_pos (by assumption)]; rfl) | (rw [if_neg (by assumption), if_neg (by assumption)]; rfl)
     case rel => exact ⟨k + 1, note1 true Z ee, E0, e0, A_111, c_112, by omega, by go_num, by rw [foldl_take_succ _ _ _ _ hlt, HD0.out, ← HZ.out], by have hn : (note1 true Z ee).g1.length = Z.g1.length + 1 := (by rw [eZ]; exact List.length_append); rw [hn, eZ]; exact HM.drop⟩
     case measure => simp [intOf]; omega
    rw [if_pos (show Region.wanted _ _ = true from rfl)]
    refine calm_wp (calm_load (v := .agg (evtL ee).toArray) rfl rfl (run_loadVar_mid w_104 bk (off + k * 8) 63 [.int .i64 ee.kind, .int .i64 ee.number, .int .u64 (W64 ee.key), .bool ee.strong, .int .i64 ee.idn.adr.kind, .int .u64 (W64 ee.idn.adr.bits), .int .u64 (W64 ee.idn.irk), .int .i64 ee.reason] _ (range_part HE.2 0 [.int .i64 ee.kind, .int .i64 ee.number, .int .u64 (W64 ee.key), .bool ee.strong, .int .i64 ee.idn.adr.kind, .int .u64 (W64 ee.idn.adr.bits), .int .u64 (W64 ee.idn.irk), .int .i64 ee.reason] rfl) Tryd.underlying63 rfl (by kernel_rfl)) ?_)
    refine hK.out _ _ ?_; clear hK K; try simp only [nrm]
    refine wpAny_two 4 9 rfl rfl (fun K hK => ?_) (fun K hK => ?_)
    ·
     have ld : w_104.cell? ⟨g_1, 124, none⟩ = some (.slice E1 Z.g1.length e1) := HM.b2.cell 124
     go_simp; refine hK.out _ _ ?_; clear hK K ld; try simp only [nrm]
     refine wpAny_one 9 rfl (fun K hK => ?_)
     rw [if_pos (show Region.wanted _ _ = true from rfl)]
     refine op_new (ty := 63) (cs := (evtL ee).toArray) (fun g => .slice (some ⟨g, 0, none⟩) 1 1) (by kernel_rfl) (fun g_115 w_116 z_120 l_119 hb_117 G_118 => ?_)
     refine hK.out _ _ ?_; clear hK K; try simp only [nrm]
     replace HM := HM.alloc l_119 hb_117 G_118
     replace HE := Rg.to HE hb_117
     clear hb_117 l_119 z_120 G_118
     refine wpAny_one 10 rfl (fun K hK => ?_)
     rw [if_pos (show Region.wanted _ _ = true from rfl)]
     refine op_app_g1 ee HM rfl rfl HM.b0 (by have hh := HS2.out; rw [HS.out.1, HS.out.2] at hh; omega) (fun A_121 c_122 w_123 HN => ?_)
     refine hK.out _ _ ?_; clear hK K HM; try simp only [nrm]
     have HM := HN; clear HN
     clear HE
     refine wpAny_pure (v := ?_) 12 rfl ?_ ?_; rotate_left; (intro W K hK; go_simp; exact hK.out); simp only [nrm]
     refine wpAny_one 13 rfl (fun K hK => ?_)
     refine wpAny_st (S' := fun W => MR w W base ([rwL (.slice Bl Y.line.length dl) Y.line, rwA (.slice Ba Y.line.length da) Y.line, rwE (.slice E0 Z.g0.length e0) Z.g0, rwE (.slice A_121 (Z.g1.length + 1) c_122) ((Z.g1 ++ [ee])), rwS (.slice Ao out.length co) out, rwE (.slice (some ⟨bk, off, none⟩) ev.length ce) ev]) ((g_115, 63, (evtL ee).toArray) :: (g_13, 58, (tkL tk0 (.slice none 0 0) (.slice none 0 0) (.slice none 0 0) (.slice none 0 0)).toArray) :: (g_7, 37, (prL p).toArray) :: (g_1, 58, (tkL Z (.slice E0 Z.g0.length e0) (.slice A_121 (Z.g1.length + 1) c_122) (.slice Ba Y.line.length da) (.slice Bl Y.line.length dl)).toArray) :: bx)) (.slice A_121 (Z.g1.length + 1) c_122) rfl (by obtain ⟨w9, h1, h2, h3⟩ := run_store_one (P := Tryd.prog) (ty := 47) (o := 124) (v := .slice A_121 (Z.g1.length + 1) c_122) HM.b3 rfl (by kernel_rfl) rfl (of_decide_eq_true rfl); exact ⟨w9, h1, HM.s3 h3 h2⟩) (fun w_124 HN => ?_) hK rfl rfl rfl; clear hK K
     replace HM := HN; clear HN; try simp only [nrm]
     refine wpAny_end ?_
     go_wp2_with (with_reducible refine sa ?_)
     go_roundw
     have q0 := kc_89.out
     have q1 := kc_98.out
     have eZ : note1 true Z ee = { Z with g1 := Z.g1 ++ [ee] } := by unfold note1; first | (simp [q0, q1]; done) | (simp only [q0, q1]; rfl) | (rw [if_pos (by assumption)]; rfl) | (rw [if_neg (by assumption), if_pos (by assumption)]; rfl) | (rw [if_neg (by assumption), if_neg (by assumption)]; rfl)
     case rel => exact ⟨k + 1, note1 true Z ee, E0, e0, A_121, c_122, by omega, by go_num, by rw [foldl_take_succ _ _ _ _ hlt, HD0.out, ← HZ.out], by have hn : (note1 true Z ee).g1.length = Z.g1.length + 1 := (by rw [eZ]; exact List.length_append); rw [hn, eZ]; exact HM.drop⟩
     case measure => simp [intOf]; omega
    rw [if_pos (show Region.wanted _ _ = true from rfl)]
    refine op_new (ty := 63) (cs := (evtL ee).toArray) (fun g => .slice (some ⟨g, 0, none⟩) 1 1) (by kernel_rfl) (fun g_125 w_126 z_130 l_129 hb_127 G_128 => ?_)
    refine hK.out _ _ ?_; clear hK K; try simp only [nrm]
    replace HM := HM.alloc l_129 hb_127 G_128
    replace HE := Rg.to HE hb_127
    clear hb_127 l_129 z_130 G_128
    refine wpAny_one 4 rfl (fun K hK => ?_)
    have ld : w_126.cell? ⟨g_1, 124, none⟩ = some (.slice E1 Z.g1.length e1) := HM.b3.cell 124
    go_simp; refine hK.out _ _ ?_; clear hK K ld; try simp only [nrm]
    refine wpAny_one 10 rfl (fun K hK => ?_)
    rw [if_pos (show Region.wanted _ _ = true from rfl)]
    refine op_app_g1 ee HM rfl rfl HM.b0 (by have hh := HS2.out; rw [HS.out.1, HS.out.2] at hh; omega) (fun A_131 c_132 w_133 HN => ?_)
    refine hK.out _ _ ?_; clear hK K HM; try simp only [nrm]
    have HM := HN; clear HN
    clear HE
    refine wpAny_pure (v := ?_) 12 rfl ?_ ?_; rotate_left; (intro W K hK; go_simp; exact hK.out); simp only [nrm]
    refine wpAny_one 13 rfl (fun K hK => ?_)
    refine wpAny_st (S' := fun W => MR w W base ([rwL (.slice Bl Y.line.length dl) Y.line, rwA (.slice Ba Y.line.length da) Y.line, rwE (.slice E0 Z.g0.length e0) Z.g0, rwE (.slice A_131 (Z.g1.length + 1) c_132) ((Z.g1 ++ [ee])), rwS (.slice Ao out.length co) out, rwE (.slice (some ⟨bk, off, none⟩) ev.length ce) ev]) ((g_125, 63, (evtL ee).toArray) :: (g_13, 58, (tkL tk0 (.slice none 0 0) (.slice none 0 0) (.slice none 0 0) (.slice none 0 0)).toArray) :: (g_7, 37, (prL p).toArray) :: (g_1, 58, (tkL Z (.slice E0 Z.g0.length e0) (.slice A_131 (Z.g1.length + 1) c_132) (.slice Ba Y.line.length da) (.slice Bl Y.line.length dl)).toArray) :: bx)) (.slice A_131 (Z.g1.length + 1) c_132) rfl (by obtain ⟨w9, h1, h2, h3⟩ := run_store_one (P := Tryd.prog) (ty := 47) (o := 124) (v := .slice A_131 (Z.g1.length + 1) c_132) HM.b3 rfl (by kernel_rfl) rfl (of_decide_eq_true rfl); exact ⟨w9, h1, HM.s3 h3 h2⟩) (fun w_134 HN => ?_) hK rfl rfl rfl; clear hK K
    replace HM := HN; clear HN; try simp only [nrm]
    refine wpAny_end ?_
    go_wp2_with (with_reducible refine sa ?_)
    go_roundw
    have q0 := kc_89.out
    have q1 := kc_98.out
    have eZ : note1 true Z ee = { Z with g1 := Z.g1 ++ [ee] } := by unfold note1; first | (simp [q0, q1]; done) | (simp only [q0, q1]; rfl) | (rw [if_pos (by assumption)]; rfl) | (rw [if_neg (by assumption), if_pos (by assumption)]; rfl) | (rw [if_neg (by assumption), if_neg (by assumption)]; rfl)
    case rel => exact ⟨k + 1, note1 true Z ee, E0, e0, A_131, c_132, by omega, by go_num, by rw [foldl_take_succ _ _ _ _ hlt, HD0.out, ← HZ.out], by have hn : (note1 true Z ee).g1.length = Z.g1.length + 1 := (by rw [eZ]; exact List.length_append); rw [hn, eZ]; exact HM.drop⟩
    case measure => simp [intOf]; omega
   have i1 : decide ((k : Int) < ((ev.length : Nat) : Int)) = false := by simp; omega
   have i2 : decide (k < ev.length) = false := by simpa using hlt
   have i3 : ev.length ≤ k := Nat.le_of_not_lt hlt
   have hk : k = ev.length := by omega
   rw [hk, List.take_length] at hZ
   have HZ := Lib.hid hZ
   clear hZ hk hs2
   go_wp2_with (first | (with_reducible refine sa ?_) | (with_reducible refine ld 0 (tkL Z (.slice E0 Z.g0.length e0) (.slice E1 Z.g1.length e1) (.slice Ba Y.line.length da) (.slice Bl Y.line.length dl)) HM.b2 Tryd.underlying58 ?_))
   refine sv (tkL Z (.slice E0 Z.g0.length e0) (.slice E1 Z.g1.length e1) (.slice Ba Y.line.length da) (.slice Bl Y.line.length dl)).toArray HM.b0 ?_
   intro w_136 G_138 hU_137
   replace HM := HM.s0 hU_137 G_138
   clear hU_137 G_138
   go_wp2_with (with_reducible refine sa ?_)
   refine bodyPost_ret (results_cell rfl rfl (load_blk HM.b0 Tryd.underlying58 rfl (by kernel_rfl))) rfl ?_
   have e : postT X true p out ev l = Z := by rw [HZ.out, HY.out]; rfl
   rw [e]
   have el : Z.line = Y.line := by rw [HZ.out]; exact (note_line (b := true) ev Y).1
   refine ⟨E0, e0, E1, e1, Ba, da, Bl, dl, ?_, ?_⟩
   · rw [el]
   · rw [el]; exact HM.drop.drop.drop
end Go.Proofs.YtihmbcnccdiecaaDoor
