/- Part of the proofs of the laws of pairing. -/
import Derived.Test.YtihmbcnccdiecaaGreatDoorA2
namespace Go.Proofs.YtihmbcnccdiecaaGreatDoor
set_option maxRecDepth 100000
set_option linter.unusedVariables false
set_option linter.unusedSimpArgs false
open Go.ChangeShapes Go.WideShapes Go.ChangeAt Go.RowKit
theorem cO {α β : Type} (f : β → α → β) (b : β) (l : List α) (k : Nat) (h : k < l.length) : (l.take (k + 1)).foldl f b = f ((l.take k).foldl f b) l[k] := by
  rw [List.take_add_one, List.foldl_append, List.getElem?_eq_getElem h]
  rfl
theorem put_sent {l : List Chg} {b : Bool} : ∀ (out : List Sec) (x : Tk), (out.foldl (kP l b) x).sent = x.sent + out.length ∧ (out.foldl (kP l b) x).line.length = x.line.length + out.length ∧ (out.foldl (kP l b) x).g0 = x.g0 ∧ (out.foldl (kP l b) x).g1 = x.g1 := by
  intro out
  induction out with
  | nil => intro x; exact ⟨by simp, rfl, rfl, rfl⟩
  | cons d out ih =>
    intro x
    obtain ⟨h1, h2, h3, h4⟩ := ih (kP l b x d)
    rw [List.foldl_cons]
    refine ⟨?_, ?_, h3, h4⟩
    · rw [h1]; show x.sent + 1 + (out.length : Int) = x.sent + ((d :: out).length : Nat); rw [List.length_cons]; omega
    · rw [h2]; show (x.line ++ [_]).length + out.length = _; rw [List.length_append, List.length_cons, List.length_cons]; simp; omega
theorem oL {b : Bool} : ∀ (ev : List Evt) (x : Tk), (ev.foldl (cH b) x).line = x.line ∧ (ev.foldl (cH b) x).g0.length ≤ x.g0.length + ev.length ∧ (ev.foldl (cH b) x).g1.length ≤ x.g1.length + ev.length := by
  intro ev
  induction ev with
  | nil => intro x; exact ⟨rfl, by simp, by simp⟩
  | cons e ev ih =>
    intro x
    obtain ⟨h1, h2, h3⟩ := ih (cH b x e)
    rw [List.foldl_cons]
    have h : (cH b x e).line = x.line ∧ (cH b x e).g0.length ≤ x.g0.length + 1 ∧ (cH b x e).g1.length ≤ x.g1.length + 1 := by
      unfold cH
      split
      · split <;> exact ⟨rfl, Nat.le_succ _, Nat.le_succ _⟩
      · split
        · split <;> exact ⟨rfl, Nat.le_succ _, Nat.le_succ _⟩
        · split <;> exact ⟨rfl, by simp, by simp⟩
    rw [List.length_cons]
    exact ⟨h1.trans h.1, by omega, by omega⟩
theorem MR.r4 {w0 W : World} {base : Nat} {rs : List Rw} {bx : List Bk} {a b c d r : Rw} (h : MR w0 W base (a :: b :: c :: d :: r :: rs) bx) : aZ W base r.e r.size r.v r.n r.xs := h.rows r (by simp)
theorem MR.r5 {w0 W : World} {base : Nat} {rs : List Rw} {bx : List Bk} {a b c d f r : Rw} (h : MR w0 W base (a :: b :: c :: d :: f :: r :: rs) bx) : aZ W base r.e r.size r.v r.n r.xs := h.rows r (by simp)
theorem MR.ne5 {w0 W : World} {base : Nat} {rs : List Rw} {bx : List Bk} {a b c d f r : Rw} {x y z : Bk} (h : MR w0 W base (a :: b :: c :: d :: f :: r :: rs) (x :: y :: z :: bx)) : r.v.ownBlock ≠ some z.1 := (h.box z (by simp)).2.2 r (by simp)
set_option maxHeartbeats 8000000 in
theorem oQ (X : Tk) (p : Pr) (out : List Sec) (ev : List Evt) (l : List Chg) (A0 : Option Addr) (c0 : Nat) (A1 : Option Addr) (c1 : Nat) (Aa : Option Addr) (ca : Nat) (Al : Option Addr) (cl : Nat) (Ao : Option Addr) (co : Nat) (Ae : Option Addr) (ce : Nat) (Ac : Option Addr) (cc : Nat) (base : Nat) (bx : List Bk) (w : World) (HM : MR w w base [rwL (.slice Al X.line.length cl) X.line, rwA (.slice Aa X.line.length ca) X.line, rwE (.slice A0 X.g0.length c0) X.g0, rwE (.slice A1 X.g1.length c1) X.g1, rwS (.slice Ao out.length co) out, rwE (.slice Ae ev.length ce) ev] bx) (hC : Rd w Ac (l.flatMap ID)) (hLB : l ≠ [] → ∀ ad, Ac = some ad → ad.block < base) (hl0 : l = []) (b0 : 0 ≤ X.sent) (b1 : X.sent ≤ 10000) (b2 : X.line.length ≤ 10000) (b3 : X.g0.length ≤ 10000) (b4 : X.g1.length ≤ 10000) (b5 : out.length ≤ 1000) (b6 : ev.length ≤ 1000) (b7 : l.length ≤ 1000) :
  Calls Tryz.prog 45 #[.agg (tkL X (.slice A0 X.g0.length c0) (.slice A1 X.g1.length c1) (.slice Aa X.line.length ca) (.slice Al X.line.length cl)).toArray, .int .i64 0, .agg (prL p).toArray, .slice Ao out.length co, .slice Ae ev.length ce, .slice Ac l.length cc] w (fun e w' => ∃ (A0 : Option Addr) (c0 : Nat) (A1 : Option Addr) (c1 : Nat) (Aa : Option Addr) (ca : Nat) (Al : Option Addr) (cl : Nat), e = .returned (.agg (tkL (cZ X false p out ev l) (.slice A0 (cZ X false p out ev l).g0.length c0) (.slice A1 (cZ X false p out ev l).g1.length c1) (.slice Aa (cZ X false p out ev l).line.length ca) (.slice Al (cZ X false p out ev l).line.length cl)).toArray) ∧ MR w w' base [rwL (.slice Al (cZ X false p out ev l).line.length cl) (cZ X false p out ev l).line, rwA (.slice Aa (cZ X false p out ev l).line.length ca) (cZ X false p out ev l).line, rwE (.slice A0 (cZ X false p out ev l).g0.length c0) (cZ X false p out ev l).g0, rwE (.slice A1 (cZ X false p out ev l).g1.length c1) (cZ X false p out ev l).g1, rwS (.slice Ao out.length co) out, rwE (.slice Ae ev.length ce) ev] bx) := by
 have HC := Lib.hid hC
 have HLB := Lib.hid hLB
 have HL0 := Lib.hid hl0
 clear hC hLB hl0
 go_enter Tryz.func45, Tryz.ntmps45
 go_wp2_with with_reducible refine sa ?_
 refine HM.nw (ty := 70) (cs := (tkL X (.slice A0 X.g0.length c0) (.slice A1 X.g1.length c1) (.slice Aa X.line.length ca) (.slice Al X.line.length cl)).toArray) ?_; clear HM; intro q g9 HM
 go_wp2_with with_reducible refine sa ?_
 refine HM.nw (ty := 37) (cs := (prL p).toArray) ?_; clear HM; intro z h6 HM
 go_wp2_with with_reducible refine sa ?_
 refine HM.nw (ty := 70) (cs := (tkL tk0 (.slice none 0 0) (.slice none 0 0) (.slice none 0 0) (.slice none 0 0)).toArray) ?_; clear HM; intro C h7 HM
 go_wp2_with first | with_reducible refine sa ?_ | with_reducible refine lw HM.b1 U37 ?_
 refine yp 0 (tkL ((X.put_s0 p)) (.slice A0 X.g0.length c0) (.slice A1 X.g1.length c1) (.slice Aa X.line.length ca) (.slice Al X.line.length cl)).toArray HM.b2 HM.s2 ?_; clear HM; intro h8 HM
 go_wp2_with with_reducible refine sa ?_
 try simp only [nrm]
 go_loopw [13] (fun i wr => ∃ (k : Nat) (Y : Tk) (Bl : Option Addr) (dl : Nat) (Ba : Option Addr) (da : Nat), k ≤ out.length ∧ i = .int .i64 k ∧ Y = (out.take k).foldl (kP l false) (X.put_s0 p) ∧ MR w wr base ([rwL (.slice Bl Y.line.length dl) Y.line, rwA (.slice Ba Y.line.length da) Y.line, rwE (.slice A0 X.g0.length c0) X.g0, rwE (.slice A1 X.g1.length c1) X.g1, rwS (.slice Ao out.length co) out, rwE (.slice Ae ev.length ce) ev]) ((C, 70, (tkL tk0 (.slice none 0 0) (.slice none 0 0) (.slice none 0 0) (.slice none 0 0)).toArray) :: (z, 37, (prL p).toArray) :: (q, 70, (tkL Y (.slice A0 X.g0.length c0) (.slice A1 X.g1.length c1) (.slice Ba Y.line.length da) (.slice Bl Y.line.length dl)).toArray) :: bx)) (fun i _ => out.length - (intOf i).toNat)
 case atStart => exact ⟨0, X.put_s0 p, Al, cl, Aa, ca, Nat.zero_le _, rfl, rfl, HM⟩
 case round =>
  clear HM 
  obtain ⟨k, Y, Bl, dl, Ba, da, hk0, rfl, hY, HM⟩ := hrel
  have hs := put_sent (l := l) (b := false) (out.take k) (X.put_s0 p)
  rw [← hY, List.length_take, Nat.min_eq_left hk0] at hs
  have hs1 : Y.sent = X.sent + (k : Int) := hs.1
  have hs2 : Y.line.length = X.line.length + k := hs.2.1
  have hs3 : Y.g0 = X.g0 := hs.2.2.1
  have hs4 : Y.g1 = X.g1 := hs.2.2.2
  clear hs
  by_cases hlt : k < out.length
  ·
   obtain ⟨d, hd⟩ : ∃ d, out[k] = d := ⟨_, rfl⟩
   have ho : Rd wr Ao (dG out) := HM.r4.rd
   obtain ⟨bk, off, rfl, hrow⟩ := fX mA (by decide) ho k hlt
   rw [hd] at hrow
   have HE := Lib.hid hrow
   have hB := Below.refl wr.heap.size wr
   clear hrow ho
   have sw : IntKind.i64.wrap (Y.sent + 1) = Y.sent + 1 := IntWalk.i64_in _ (by omega)
   have HY := Lib.hid hY
   have HD0 := Lib.hid hd
   have HS := Lib.hid (And.intro hs1 hs2)
   clear hY hd hs1 hs2 hs3 hs4
   have i1 : decide ((k : Int) < ((out.length : Nat) : Int)) = true := by simp; exact hlt
   have i2 : decide (k < out.length) = true := decide_eq_true hlt
   go_wp2_with first | with_reducible refine sa ?_ | ((with_reducible refine tL [.int .i64 d.kind, .int .i64 d.feat.io, .bool d.feat.oob, .bool d.feat.bond, .bool d.feat.mitm, .bool d.feat.sid, .bool d.feat.tid, .int .u32 (W32 d.pub), .int .u64 (W64 d.value), .int .i64 d.idn.adr.kind, .int .u64 (W64 d.idn.adr.bits), .int .u64 (W64 d.idn.irk), .int .i64 d.reason] ((HE.out _ hB)) ?_ U43 ?_ ?_ ?_); rfl; rfl; kernel_rfl)
   refine HM.nw (ty := 43) (cs := (aI cL).toArray) ?_; clear HM; intro e4 h9 HM
   go_wp2_with with_reducible refine sa ?_
   refine yv HM.b0 HM.s0 ?_; clear HM; intro i0 HM
   go_wp2_with with_reducible refine sa ?_
   try simp only [nrm]
   go_loopw [15] (fun i wr => ∃ (j : Nat) (D : Sec), j ≤ l.length ∧ i = .int .i64 j ∧ D = (l.take j).foldl (K2 Y.sent) d ∧ MR w wr base ([rwL (.slice Bl Y.line.length dl) Y.line, rwA (.slice Ba Y.line.length da) Y.line, rwE (.slice A0 X.g0.length c0) X.g0, rwE (.slice A1 X.g1.length c1) X.g1, rwS (.slice (some ⟨bk, off, none⟩) out.length co) out, rwE (.slice Ae ev.length ce) ev]) ((e4, 43, (aI D).toArray) :: (C, 70, (tkL tk0 (.slice none 0 0) (.slice none 0 0) (.slice none 0 0) (.slice none 0 0)).toArray) :: (z, 37, (prL p).toArray) :: (q, 70, (tkL Y (.slice A0 X.g0.length c0) (.slice A1 X.g1.length c1) (.slice Ba Y.line.length da) (.slice Bl Y.line.length dl)).toArray) :: bx)) (fun i _ => l.length - (intOf i).toNat)
   case atStart => exact ⟨0, d, Nat.zero_le _, rfl, rfl, HM⟩
   case round =>
    clear HM 
    obtain ⟨j, D, hj0, rfl, hD, HM⟩ := hrel
    by_cases hlj : j < l.length
    ·
     exact absurd hlj (by rw [HL0.out]; exact Nat.not_lt_zero _)
    have j1 : decide ((j : Int) < ((l.length : Nat) : Int)) = false := by simp; omega
    have j2 : decide (j < l.length) = false := by simpa using hlj
    have j3 : l.length ≤ j := Nat.le_of_not_lt hlj
    have hj : j = l.length := by omega
    rw [hj, List.take_length] at hD
    have HD := Lib.hid (show D = chg l Y.sent d from hD)
    clear hD hj
    have e5 := HM.b3.c 125 (.int .i64 Y.sent)
    go_wp2_with with_reducible refine sa ?_
    refine yk 125 (tkL ((Y.put_sent ((Y.sent + 1)))) (.slice A0 X.g0.length c0) (.slice A1 X.g1.length c1) (.slice Ba Y.line.length da) (.slice Bl Y.line.length dl)).toArray HM.b3 HM.s3 ?_; clear HM; intro i4 HM; clear e5
    have e6 := HM.b3.c 127 (.slice Bl Y.line.length dl)
    go_wp2_with first | with_reducible refine sa ?_ | with_reducible refine ld 0 (aI D) HM.b0 U43 ?_
    refine bF (ty := 43) (cs := (aI D).toArray) (fun g => .slice (some ⟨g, 0, none⟩) 1 1) rfl (by kernel_rfl) ?_
    intro i5 i6 e7 c5 c6 c7
    clear e6
    replace HM := HM.alloc c5 c6 c7
    clear c6 c5 e7 c7
    go_wp2_with with_reducible refine sa ?_
    unfold bA
    refine zM true D HM rfl rfl HM.b0 (by have hh := HS.out.2; omega) (fun a5 a6 i7 HN => ?_)
    replace HM := HN; clear HN
    go_wp2_with with_reducible refine sa ?_
    refine yk 127 (tkL ((Y.put_sent ((Y.sent + 1)))) (.slice A0 X.g0.length c0) (.slice A1 X.g1.length c1) (.slice Ba Y.line.length da) (.slice a5 (Y.line.length + 1) a6)).toArray HM.b4 HM.s4 ?_; clear HM; intro i8 HM
    have e8 := HM.b4.c 126 (.slice Ba Y.line.length da)
    go_wp2_with with_reducible refine sa ?_
    refine bF (ty := 3) (cs := #[.int .i64 1]) (fun g => .slice (some ⟨g, 0, none⟩) 1 1) rfl (by kernel_rfl) ?_
    intro i9 j0 e9 c8 c9 d0
    clear e8
    replace HM := HM.alloc c8 c9 d0
    clear c9 c8 e9 d0
    go_wp2_with with_reducible refine sa ?_
    unfold bA
    refine IA true D HM rfl rfl HM.b0 (by have hh := HS.out.2; omega) (fun d1 d2 j4 HN => ?_)
    replace HM := HN; clear HN
    go_wp2_with with_reducible refine sa ?_
    refine yk 126 (tkL ((Y.put_sent ((Y.sent + 1)))) (.slice A0 X.g0.length c0) (.slice A1 X.g1.length c1) (.slice d1 (Y.line.length + 1) d2) (.slice a5 (Y.line.length + 1) a6)).toArray HM.b5 HM.s5 ?_; clear HM; intro j5 HM
    go_wp2_with with_reducible refine sa ?_
    go_roundw
    case rel => exact ⟨k + 1, kP l false Y d, a5, a6, d1, d2, by omega, by go_num, by rw [cO _ _ _ _ hlt, HD0.out, ← HY.out], by have e := HD.out; subst e; have hn : (kP l false Y d).line.length = Y.line.length + 1 := List.length_append; rw [hn]; exact HM.drop.drop.drop⟩
    case measure => simp [intOf]; omega
  have i1 : decide ((k : Int) < ((out.length : Nat) : Int)) = false := by simp; omega
  have i2 : decide (k < out.length) = false := by simpa using hlt
  have i3 : out.length ≤ k := Nat.le_of_not_lt hlt
  have hk : k = out.length := by omega
  rw [hk, List.take_length] at hY
  have HY := Lib.hid hY
  have HS := Lib.hid (And.intro hs3 hs4)
  clear hY hs1 hs2 hk hs3 hs4
  go_wp2_with with_reducible refine sa ?_
  try simp only [nrm]
  go_loopw [16] (fun i wr => ∃ (k : Nat) (Z : Tk) (E0 : Option Addr) (e0 : Nat) (E1 : Option Addr) (e1 : Nat), k ≤ ev.length ∧ i = .int .i64 k ∧ Z = (ev.take k).foldl (cH false) Y ∧ MR w wr base ([rwL (.slice Bl Y.line.length dl) Y.line, rwA (.slice Ba Y.line.length da) Y.line, rwE (.slice E0 Z.g0.length e0) Z.g0, rwE (.slice E1 Z.g1.length e1) Z.g1, rwS (.slice Ao out.length co) out, rwE (.slice Ae ev.length ce) ev]) ((C, 70, (tkL tk0 (.slice none 0 0) (.slice none 0 0) (.slice none 0 0) (.slice none 0 0)).toArray) :: (z, 37, (prL p).toArray) :: (q, 70, (tkL Z (.slice E0 Z.g0.length e0) (.slice E1 Z.g1.length e1) (.slice Ba Y.line.length da) (.slice Bl Y.line.length dl)).toArray) :: bx)) (fun i _ => ev.length - (intOf i).toNat)
  case atStart => exact ⟨0, Y, A0, c0, A1, c1, Nat.zero_le _, rfl, rfl, by rw [HS.out.1, HS.out.2]; exact HM⟩
  case round =>
   clear HM 
   obtain ⟨k, Z, E0, e0, E1, e1, hk1, rfl, hZ, HM⟩ := hrel
   have hs := oL (b := false) (ev.take k) Y
   rw [← hZ, List.length_take, Nat.min_eq_left hk1] at hs
   have hs2 := hs.2; clear hs
   by_cases hlt : k < ev.length
   rotate_left
   ·
    have i1 : decide ((k : Int) < ((ev.length : Nat) : Int)) = false := by simp; omega
    have i2 : decide (k < ev.length) = false := by simpa using hlt
    have i3 : ev.length ≤ k := Nat.le_of_not_lt hlt
    have hk : k = ev.length := by omega
    rw [hk, List.take_length] at hZ
    have HZ := Lib.hid hZ
    clear hZ hk hs2
    go_wp2_with first | with_reducible refine sa ?_ | with_reducible refine lw HM.b2 U70 ?_
    refine yv HM.b0 HM.s0 ?_; clear HM; intro j6 HM
    go_wp2_with with_reducible refine sa ?_
    refine rc1 HM.b0 U70 ?_
    have e : cZ X false p out ev l = Z := by rw [HZ.out, HY.out]; rfl
    rw [e]
    have el : Z.line = Y.line := by rw [HZ.out]; exact (oL (b := false) ev Y).1
    refine ⟨E0, e0, E1, e1, Ba, da, Bl, dl, ?_, ?_⟩
    · rw [el]
    · rw [el]; exact HM.drop.drop.drop
   obtain ⟨ee, hd⟩ : ∃ d, ev[k] = d := ⟨_, rfl⟩
   have ho : Rd wr Ae (dC ev) := HM.r5.rd
   obtain ⟨bk, off, rfl, hrow⟩ := fX lV (by decide) ho k hlt
   rw [hd] at hrow
   have hne : bk ≠ q := fun e => HM.ne5 (by rw [← e]; rfl)
   have HE : Rg bk (off + k * 8) (dS ee) wr := ⟨(HM.r5.lt bk rfl).2, hrow wr (Below.refl _ _)⟩
   clear hrow ho
   have HZ := Lib.hid hZ
   have HD0 := Lib.hid hd
   have HS2 := Lib.hid hs2
   clear hZ hd hs2
   have i1 : decide ((k : Int) < ((ev.length : Nat) : Int)) = true := by simp; exact hlt
   have i2 : decide (k < ev.length) = true := decide_eq_true hlt
   by_cases a3 : (ee.kind : Int) = 1
   ·
    obtain ⟨f0, f1, F⟩ := fT a3; clear a3
    have f2 : wr.cell? ⟨bk, off + k * 8, none⟩ = some (.int .i64 ee.kind) := HE.2 0 _ rfl
    go_wp2_with with_reducible refine sa ?_
    refine sx 121 _ (tkL ((Z.put_h0 true)) (.slice E0 Z.g0.length e0) (.slice E1 Z.g1.length e1) (.slice Ba Y.line.length da) (.slice Bl Y.line.length dl)).toArray HM.b2 ?_
    intro f3 d3 a7
    clear f2
    replace HM := HM.s2 a7 d3
    replace HE := Rg.upd HE a7 hne
    clear a7 d3
    have f4 : f3.cell? ⟨bk, off + k * 8 + 1, none⟩ = some (.int .i64 ee.number) := HE.2 1 _ rfl
    go_wp2_with with_reducible refine sa ?_
    refine sx 117 _ (tkL (((Z.put_h0 true).put_n0 ee.number)) (.slice E0 Z.g0.length e0) (.slice E1 Z.g1.length e1) (.slice Ba Y.line.length da) (.slice Bl Y.line.length dl)).toArray HM.b2 ?_
    intro j7 d4 a8
    clear f4
    replace HM := HM.s2 a8 d4
    replace HE := Rg.upd HE a8 hne
    clear a8 d4
    go_wp2_with with_reducible refine sa ?_
    go_roundw
    have q0 := F.out
    have eZ : cH false Z ee = ((Z.put_h0 true).put_n0 ee.number) := by unfold cH; first | (simp [q0]; done) | (simp only [q0]; rfl) | (rw [if_pos (by assumption)]; rfl) | (rw [if_neg (by assumption), if_pos (by assumption)]; rfl) | (rw [if_neg (by assumption), if_neg (by assumption)]; rfl)
    case rel => exact ⟨k + 1, cH false Z ee, E0, e0, E1, e1, by omega, by go_num, by rw [cO _ _ _ _ hlt, HD0.out, ← HZ.out], by rw [eZ]; exact HM⟩
    case measure => simp [intOf]; omega
   obtain ⟨f0, f1, F⟩ := fF a3; clear a3
   by_cases a4 : (ee.kind : Int) = 2
   ·
    obtain ⟨f5, f6, I⟩ := fT a4; clear a4
    have f7 : wr.cell? ⟨bk, off + k * 8, none⟩ = some (.int .i64 ee.kind) := HE.2 0 _ rfl
    go_wp2_with with_reducible refine sa ?_
    refine sx 119 _ (tkL ((Z.put_a0 true)) (.slice E0 Z.g0.length e0) (.slice E1 Z.g1.length e1) (.slice Ba Y.line.length da) (.slice Bl Y.line.length dl)).toArray HM.b2 ?_
    intro j8 d5 a9
    clear f7
    replace HM := HM.s2 a9 d5
    replace HE := Rg.upd HE a9 hne
    clear a9 d5
    go_wp2_with with_reducible refine sa ?_
    go_roundw
    have q0 := F.out
    have q1 := I.out
    have eZ : cH false Z ee = (Z.put_a0 true) := by unfold cH; first | (simp [q0, q1]; done) | (simp only [q0, q1]; rfl) | (rw [if_pos (by assumption)]; rfl) | (rw [if_neg (by assumption), if_pos (by assumption)]; rfl) | (rw [if_neg (by assumption), if_neg (by assumption)]; rfl)
    case rel => exact ⟨k + 1, cH false Z ee, E0, e0, E1, e1, by omega, by go_num, by rw [cO _ _ _ _ hlt, HD0.out, ← HZ.out], by rw [eZ]; exact HM⟩
    case measure => simp [intOf]; omega
   obtain ⟨f5, f6, I⟩ := fF a4; clear a4
   have f8 : wr.cell? ⟨bk, off + k * 8, none⟩ = some (.int .i64 ee.kind) := HE.2 0 _ rfl
   go_wp2_with with_reducible refine sa ?_
   clear f8
   try simp only [nrm]
   refine jN 14 (fun J hW => ?_)
   replace HM := HM.drew; rw [← hW] at HM
   replace HE : Rg bk (off + k * 8) (dS ee) J := by rw [hW]; exact HE
   clear hW
   refine aV (v := ?_) 0 rfl ?_ ?_; rotate_left; (intro W K hK; go_simp; exact hK.out); simp only [nrm]
   refine aV (v := ?_) 1 rfl ?_ ?_; rotate_left; (intro W K hK; go_simp; exact hK.out); simp only [nrm]
   refine aV (v := ?_) 2 rfl ?_ ?_; rotate_left; (intro W K hK; go_simp; exact hK.out); simp only [nrm]
   refine aV (v := ?_) 3 rfl ?_ ?_; rotate_left; (intro W K hK; go_simp; exact hK.out); simp only [nrm]
   refine aV (v := ?_) 5 rfl ?_ ?_; rotate_left; (intro W K hK; go_simp; exact hK.out); simp only [nrm]
   refine aV (v := ?_) 6 rfl ?_ ?_; rotate_left; (intro W K hK; go_simp; exact hK.out); simp only [nrm]
   refine aV (v := ?_) 7 rfl ?_ ?_; rotate_left; (intro W K hK; go_simp; exact hK.out); simp only [nrm]
   refine aV (v := ?_) 11 rfl ?_ ?_; rotate_left; (intro W K hK; go_simp; exact hK.out); simp only [nrm]
   refine eV 4 8 rfl rfl (fun K hK => ?_) (fun K hK => ?_)
   ·
    have ld : J.cell? ⟨q, 123, none⟩ = some (.slice E0 Z.g0.length e0) := HM.b2.cell 123
    go_simp; refine hK.out _ _ ?_; clear hK K ld; try simp only [nrm]
    refine bP 8 rfl (fun K hK => ?_)
    rw [if_pos (show Region.wanted _ _ = true from rfl)]
    refine fG (aL (v := .agg (dS ee).toArray) rfl rfl (run_loadVar_mid J bk (off + k * 8) 80 [.int .i64 ee.kind, .int .i64 ee.number, .int .u64 (W64 ee.key), .bool ee.strong, .int .i64 ee.idn.adr.kind, .int .u64 (W64 ee.idn.adr.bits), .int .u64 (W64 ee.idn.irk), .int .i64 ee.reason] _ (eP HE.2 0 [.int .i64 ee.kind, .int .i64 ee.number, .int .u64 (W64 ee.key), .bool ee.strong, .int .i64 ee.idn.adr.kind, .int .u64 (W64 ee.idn.adr.bits), .int .u64 (W64 ee.idn.irk), .int .i64 ee.reason] rfl) U80 rfl (by kernel_rfl)) ?_)
    refine hK.out _ _ ?_; clear hK K; try simp only [nrm]
    refine bP 9 rfl (fun K hK => ?_)
    rw [if_pos (show Region.wanted _ _ = true from rfl)]
    refine dZ (ty := 80) (cs := (dS ee).toArray) (fun g => .slice (some ⟨g, 0, none⟩) 1 1) (by kernel_rfl) (fun f9 j9 g3 d6 b8 d7 => ?_)
    refine hK.out _ _ ?_; clear hK K; try simp only [nrm]
    replace HM := HM.alloc d6 b8 d7
    replace HE := Rg.to HE b8
    clear b8 d6 g3 d7
    refine bP 10 rfl (fun K hK => ?_)
    rw [if_pos (show Region.wanted _ _ = true from rfl)]
    refine qT ee HM rfl rfl HM.b0 (by have hh := HS2.out; rw [HS.out.1, HS.out.2] at hh; omega) (fun L O k0 HN => ?_)
    refine hK.out _ _ ?_; clear hK K HM; try simp only [nrm]
    have HM := HN; clear HN
    clear HE
    refine aV (v := ?_) 12 rfl ?_ ?_; rotate_left; (intro W K hK; go_simp; exact hK.out); simp only [nrm]
    refine bP 13 rfl (fun K hK => ?_)
    refine gE (S' := fun W => MR w W base ([rwL (.slice Bl Y.line.length dl) Y.line, rwA (.slice Ba Y.line.length da) Y.line, rwE (.slice L (Z.g0.length + 1) O) ((Z.g0 ++ [ee])), rwE (.slice E1 Z.g1.length e1) Z.g1, rwS (.slice Ao out.length co) out, rwE (.slice (some ⟨bk, off, none⟩) ev.length ce) ev]) ((f9, 80, (dS ee).toArray) :: (C, 70, (tkL tk0 (.slice none 0 0) (.slice none 0 0) (.slice none 0 0) (.slice none 0 0)).toArray) :: (z, 37, (prL p).toArray) :: (q, 70, (tkL Z (.slice L (Z.g0.length + 1) O) (.slice E1 Z.g1.length e1) (.slice Ba Y.line.length da) (.slice Bl Y.line.length dl)).toArray) :: bx)) (.slice L (Z.g0.length + 1) O) rfl (by obtain ⟨w9, h1, h2, h3⟩ := eT (P := Tryz.prog) (ty := 47) (o := 123) (v := .slice L (Z.g0.length + 1) O) HM.b3 rfl (by kernel_rfl) rfl (of_decide_eq_true rfl); exact ⟨w9, h1, HM.s3 h3 h2⟩) (fun k1 HN => ?_) hK rfl rfl rfl; clear hK K
    replace HM := HN; clear HN; try simp only [nrm]
    refine fE ?_
    go_wp2_with with_reducible refine sa ?_
    go_roundw
    have q0 := F.out
    have q1 := I.out
    have eZ : cH false Z ee = { Z with g0 := Z.g0 ++ [ee] } := by unfold cH; first | (simp [q0, q1]; done) | (simp only [q0, q1]; rfl) | (rw [if_pos (by assumption)]; rfl) | (rw [if_neg (by assumption), if_pos (by assumption)]; rfl) | (rw [if_neg (by assumption), if_neg (by assumption)]; rfl)
    case rel => exact ⟨k + 1, cH false Z ee, L, O, E1, e1, by omega, by go_num, by rw [cO _ _ _ _ hlt, HD0.out, ← HZ.out], by have hn : (cH false Z ee).g0.length = Z.g0.length + 1 := (by rw [eZ]; exact List.length_append); rw [hn, eZ]; exact HM.drop⟩
    case measure => simp [intOf]; omega
   rw [if_pos (show Region.wanted _ _ = true from rfl)]
   refine fG (aL (v := .agg (dS ee).toArray) rfl rfl (run_loadVar_mid J bk (off + k * 8) 80 [.int .i64 ee.kind, .int .i64 ee.number, .int .u64 (W64 ee.key), .bool ee.strong, .int .i64 ee.idn.adr.kind, .int .u64 (W64 ee.idn.adr.bits), .int .u64 (W64 ee.idn.irk), .int .i64 ee.reason] _ (eP HE.2 0 [.int .i64 ee.kind, .int .i64 ee.number, .int .u64 (W64 ee.key), .bool ee.strong, .int .i64 ee.idn.adr.kind, .int .u64 (W64 ee.idn.adr.bits), .int .u64 (W64 ee.idn.irk), .int .i64 ee.reason] rfl) U80 rfl (by kernel_rfl)) ?_)
   refine hK.out _ _ ?_; clear hK K; try simp only [nrm]
   refine eV 4 9 rfl rfl (fun K hK => ?_) (fun K hK => ?_)
   ·
    have ld : J.cell? ⟨q, 123, none⟩ = some (.slice E0 Z.g0.length e0) := HM.b2.cell 123
    go_simp; refine hK.out _ _ ?_; clear hK K ld; try simp only [nrm]
    refine bP 9 rfl (fun K hK => ?_)
    rw [if_pos (show Region.wanted _ _ = true from rfl)]
    refine dZ (ty := 80) (cs := (dS ee).toArray) (fun g => .slice (some ⟨g, 0, none⟩) 1 1) (by kernel_rfl) (fun g4 k2 g5 d8 b9 d9 => ?_)
    refine hK.out _ _ ?_; clear hK K; try simp only [nrm]
    replace HM := HM.alloc d8 b9 d9
    replace HE := Rg.to HE b9
    clear b9 d8 g5 d9
    refine bP 10 rfl (fun K hK => ?_)
    rw [if_pos (show Region.wanted _ _ = true from rfl)]
    refine qT ee HM rfl rfl HM.b0 (by have hh := HS2.out; rw [HS.out.1, HS.out.2] at hh; omega) (fun U a0 k3 HN => ?_)
    refine hK.out _ _ ?_; clear hK K HM; try simp only [nrm]
    have HM := HN; clear HN
    clear HE
    refine aV (v := ?_) 12 rfl ?_ ?_; rotate_left; (intro W K hK; go_simp; exact hK.out); simp only [nrm]
    refine bP 13 rfl (fun K hK => ?_)
    refine gE (S' := fun W => MR w W base ([rwL (.slice Bl Y.line.length dl) Y.line, rwA (.slice Ba Y.line.length da) Y.line, rwE (.slice U (Z.g0.length + 1) a0) ((Z.g0 ++ [ee])), rwE (.slice E1 Z.g1.length e1) Z.g1, rwS (.slice Ao out.length co) out, rwE (.slice (some ⟨bk, off, none⟩) ev.length ce) ev]) ((g4, 80, (dS ee).toArray) :: (C, 70, (tkL tk0 (.slice none 0 0) (.slice none 0 0) (.slice none 0 0) (.slice none 0 0)).toArray) :: (z, 37, (prL p).toArray) :: (q, 70, (tkL Z (.slice U (Z.g0.length + 1) a0) (.slice E1 Z.g1.length e1) (.slice Ba Y.line.length da) (.slice Bl Y.line.length dl)).toArray) :: bx)) (.slice U (Z.g0.length + 1) a0) rfl (by obtain ⟨w9, h1, h2, h3⟩ := eT (P := Tryz.prog) (ty := 47) (o := 123) (v := .slice U (Z.g0.length + 1) a0) HM.b3 rfl (by kernel_rfl) rfl (of_decide_eq_true rfl); exact ⟨w9, h1, HM.s3 h3 h2⟩) (fun k4 HN => ?_) hK rfl rfl rfl; clear hK K
    replace HM := HN; clear HN; try simp only [nrm]
    refine fE ?_
    go_wp2_with with_reducible refine sa ?_
    go_roundw
    have q0 := F.out
    have q1 := I.out
    have eZ : cH false Z ee = { Z with g0 := Z.g0 ++ [ee] } := by unfold cH; first | (simp [q0, q1]; done) | (simp only [q0, q1]; rfl) | (rw [if_pos (by assumption)]; rfl) | (rw [if_neg (by assumption), if_pos (by assumption)]; rfl) | (rw [if_neg (by assumption), if_neg (by assumption)]; rfl)
    case rel => exact ⟨k + 1, cH false Z ee, U, a0, E1, e1, by omega, by go_num, by rw [cO _ _ _ _ hlt, HD0.out, ← HZ.out], by have hn : (cH false Z ee).g0.length = Z.g0.length + 1 := (by rw [eZ]; exact List.length_append); rw [hn, eZ]; exact HM.drop⟩
    case measure => simp [intOf]; omega
   rw [if_pos (show Region.wanted _ _ = true from rfl)]
   refine dZ (ty := 80) (cs := (dS ee).toArray) (fun g => .slice (some ⟨g, 0, none⟩) 1 1) (by kernel_rfl) (fun g6 g7 g8 e2 c4 e3 => ?_)
   refine hK.out _ _ ?_; clear hK K; try simp only [nrm]
   replace HM := HM.alloc e2 c4 e3
   replace HE := Rg.to HE c4
   clear c4 e2 g8 e3
   refine bP 4 rfl (fun K hK => ?_)
   have ld : g7.cell? ⟨q, 123, none⟩ = some (.slice E0 Z.g0.length e0) := HM.b3.cell 123
   go_simp; refine hK.out _ _ ?_; clear hK K ld; try simp only [nrm]
   refine bP 10 rfl (fun K hK => ?_)
   rw [if_pos (show Region.wanted _ _ = true from rfl)]
   refine qT ee HM rfl rfl HM.b0 (by have hh := HS2.out; rw [HS.out.1, HS.out.2] at hh; omega) (fun a1 a2 k5 HN => ?_)
   refine hK.out _ _ ?_; clear hK K HM; try simp only [nrm]
   have HM := HN; clear HN
   clear HE
   refine aV (v := ?_) 12 rfl ?_ ?_; rotate_left; (intro W K hK; go_simp; exact hK.out); simp only [nrm]
   refine bP 13 rfl (fun K hK => ?_)
   refine gE (S' := fun W => MR w W base ([rwL (.slice Bl Y.line.length dl) Y.line, rwA (.slice Ba Y.line.length da) Y.line, rwE (.slice a1 (Z.g0.length + 1) a2) ((Z.g0 ++ [ee])), rwE (.slice E1 Z.g1.length e1) Z.g1, rwS (.slice Ao out.length co) out, rwE (.slice (some ⟨bk, off, none⟩) ev.length ce) ev]) ((g6, 80, (dS ee).toArray) :: (C, 70, (tkL tk0 (.slice none 0 0) (.slice none 0 0) (.slice none 0 0) (.slice none 0 0)).toArray) :: (z, 37, (prL p).toArray) :: (q, 70, (tkL Z (.slice a1 (Z.g0.length + 1) a2) (.slice E1 Z.g1.length e1) (.slice Ba Y.line.length da) (.slice Bl Y.line.length dl)).toArray) :: bx)) (.slice a1 (Z.g0.length + 1) a2) rfl (by obtain ⟨w9, h1, h2, h3⟩ := eT (P := Tryz.prog) (ty := 47) (o := 123) (v := .slice a1 (Z.g0.length + 1) a2) HM.b3 rfl (by kernel_rfl) rfl (of_decide_eq_true rfl); exact ⟨w9, h1, HM.s3 h3 h2⟩) (fun k6 HN => ?_) hK rfl rfl rfl; clear hK K
   replace HM := HN; clear HN; try simp only [nrm]
   refine fE ?_
   go_wp2_with with_reducible refine sa ?_
   go_roundw
   have q0 := F.out
   have q1 := I.out
   have eZ : cH false Z ee = { Z with g0 := Z.g0 ++ [ee] } := by unfold cH; first | (simp [q0, q1]; done) | (simp only [q0, q1]; rfl) | (rw [if_pos (by assumption)]; rfl) | (rw [if_neg (by assumption), if_pos (by assumption)]; rfl) | (rw [if_neg (by assumption), if_neg (by assumption)]; rfl)
   case rel => exact ⟨k + 1, cH false Z ee, a1, a2, E1, e1, by omega, by go_num, by rw [cO _ _ _ _ hlt, HD0.out, ← HZ.out], by have hn : (cH false Z ee).g0.length = Z.g0.length + 1 := (by rw [eZ]; exact List.length_append); rw [hn, eZ]; exact HM.drop⟩
   case measure => simp [intOf]; omega
set_option maxHeartbeats 8000000 in
theorem oR (X : Tk) (p : Pr) (out : List Sec) (ev : List Evt) (l : List Chg) (A0 : Option Addr) (c0 : Nat) (A1 : Option Addr) (c1 : Nat) (Aa : Option Addr) (ca : Nat) (Al : Option Addr) (cl : Nat) (Ao : Option Addr) (co : Nat) (Ae : Option Addr) (ce : Nat) (Ac : Option Addr) (cc : Nat) (base : Nat) (bx : List Bk) (w : World) (HM : MR w w base [rwL (.slice Al X.line.length cl) X.line, rwA (.slice Aa X.line.length ca) X.line, rwE (.slice A0 X.g0.length c0) X.g0, rwE (.slice A1 X.g1.length c1) X.g1, rwS (.slice Ao out.length co) out, rwE (.slice Ae ev.length ce) ev] bx) (hC : Rd w Ac (l.flatMap ID)) (hLB : l ≠ [] → ∀ ad, Ac = some ad → ad.block < base) (hl0 : l = []) (b0 : 0 ≤ X.sent) (b1 : X.sent ≤ 10000) (b2 : X.line.length ≤ 10000) (b3 : X.g0.length ≤ 10000) (b4 : X.g1.length ≤ 10000) (b5 : out.length ≤ 1000) (b6 : ev.length ≤ 1000) (b7 : l.length ≤ 1000) :
  Calls Tryz.prog 45 #[.agg (tkL X (.slice A0 X.g0.length c0) (.slice A1 X.g1.length c1) (.slice Aa X.line.length ca) (.slice Al X.line.length cl)).toArray, .int .i64 1, .agg (prL p).toArray, .slice Ao out.length co, .slice Ae ev.length ce, .slice Ac l.length cc] w (fun e w' => ∃ (A0 : Option Addr) (c0 : Nat) (A1 : Option Addr) (c1 : Nat) (Aa : Option Addr) (ca : Nat) (Al : Option Addr) (cl : Nat), e = .returned (.agg (tkL (cZ X true p out ev l) (.slice A0 (cZ X true p out ev l).g0.length c0) (.slice A1 (cZ X true p out ev l).g1.length c1) (.slice Aa (cZ X true p out ev l).line.length ca) (.slice Al (cZ X true p out ev l).line.length cl)).toArray) ∧ MR w w' base [rwL (.slice Al (cZ X true p out ev l).line.length cl) (cZ X true p out ev l).line, rwA (.slice Aa (cZ X true p out ev l).line.length ca) (cZ X true p out ev l).line, rwE (.slice A0 (cZ X true p out ev l).g0.length c0) (cZ X true p out ev l).g0, rwE (.slice A1 (cZ X true p out ev l).g1.length c1) (cZ X true p out ev l).g1, rwS (.slice Ao out.length co) out, rwE (.slice Ae ev.length ce) ev] bx) := by
 have HC := Lib.hid hC
 have HLB := Lib.hid hLB
 have HL0 := Lib.hid hl0
 clear hC hLB hl0
 go_enter Tryz.func45, Tryz.ntmps45
 go_wp2_with with_reducible refine sa ?_
 refine HM.nw (ty := 70) (cs := (tkL X (.slice A0 X.g0.length c0) (.slice A1 X.g1.length c1) (.slice Aa X.line.length ca) (.slice Al X.line.length cl)).toArray) ?_; clear HM; intro q g9 HM
 go_wp2_with with_reducible refine sa ?_
 refine HM.nw (ty := 37) (cs := (prL p).toArray) ?_; clear HM; intro z h6 HM
 go_wp2_with with_reducible refine sa ?_
 refine HM.nw (ty := 70) (cs := (tkL tk0 (.slice none 0 0) (.slice none 0 0) (.slice none 0 0) (.slice none 0 0)).toArray) ?_; clear HM; intro C h7 HM
 go_wp2_with first | with_reducible refine sa ?_ | with_reducible refine lw HM.b1 U37 ?_
 refine yp 58 (tkL ((X.put_s1 p)) (.slice A0 X.g0.length c0) (.slice A1 X.g1.length c1) (.slice Aa X.line.length ca) (.slice Al X.line.length cl)).toArray HM.b2 HM.s2 ?_; clear HM; intro h8 HM
 go_wp2_with with_reducible refine sa ?_
 try simp only [nrm]
 go_loopw [13] (fun i wr => ∃ (k : Nat) (Y : Tk) (Bl : Option Addr) (dl : Nat) (Ba : Option Addr) (da : Nat), k ≤ out.length ∧ i = .int .i64 k ∧ Y = (out.take k).foldl (kP l true) (X.put_s1 p) ∧ MR w wr base ([rwL (.slice Bl Y.line.length dl) Y.line, rwA (.slice Ba Y.line.length da) Y.line, rwE (.slice A0 X.g0.length c0) X.g0, rwE (.slice A1 X.g1.length c1) X.g1, rwS (.slice Ao out.length co) out, rwE (.slice Ae ev.length ce) ev]) ((C, 70, (tkL tk0 (.slice none 0 0) (.slice none 0 0) (.slice none 0 0) (.slice none 0 0)).toArray) :: (z, 37, (prL p).toArray) :: (q, 70, (tkL Y (.slice A0 X.g0.length c0) (.slice A1 X.g1.length c1) (.slice Ba Y.line.length da) (.slice Bl Y.line.length dl)).toArray) :: bx)) (fun i _ => out.length - (intOf i).toNat)
 case atStart => exact ⟨0, X.put_s1 p, Al, cl, Aa, ca, Nat.zero_le _, rfl, rfl, HM⟩
 case round =>
  clear HM 
  obtain ⟨k, Y, Bl, dl, Ba, da, hk0, rfl, hY, HM⟩ := hrel
  have hs := put_sent (l := l) (b := true) (out.take k) (X.put_s1 p)
  rw [← hY, List.length_take, Nat.min_eq_left hk0] at hs
  have hs1 : Y.sent = X.sent + (k : Int) := hs.1
  have hs2 : Y.line.length = X.line.length + k := hs.2.1
  have hs3 : Y.g0 = X.g0 := hs.2.2.1
  have hs4 : Y.g1 = X.g1 := hs.2.2.2
  clear hs
  by_cases hlt : k < out.length
  ·
   obtain ⟨d, hd⟩ : ∃ d, out[k] = d := ⟨_, rfl⟩
   have ho : Rd wr Ao (dG out) := HM.r4.rd
   obtain ⟨bk, off, rfl, hrow⟩ := fX mA (by decide) ho k hlt
   rw [hd] at hrow
   have HE := Lib.hid hrow
   have hB := Below.refl wr.heap.size wr
   clear hrow ho
   have sw : IntKind.i64.wrap (Y.sent + 1) = Y.sent + 1 := IntWalk.i64_in _ (by omega)
   have HY := Lib.hid hY
   have HD0 := Lib.hid hd
   have HS := Lib.hid (And.intro hs1 hs2)
   clear hY hd hs1 hs2 hs3 hs4
   have i1 : decide ((k : Int) < ((out.length : Nat) : Int)) = true := by simp; exact hlt
   have i2 : decide (k < out.length) = true := decide_eq_true hlt
   go_wp2_with first | with_reducible refine sa ?_ | ((with_reducible refine tL [.int .i64 d.kind, .int .i64 d.feat.io, .bool d.feat.oob, .bool d.feat.bond, .bool d.feat.mitm, .bool d.feat.sid, .bool d.feat.tid, .int .u32 (W32 d.pub), .int .u64 (W64 d.value), .int .i64 d.idn.adr.kind, .int .u64 (W64 d.idn.adr.bits), .int .u64 (W64 d.idn.irk), .int .i64 d.reason] ((HE.out _ hB)) ?_ U43 ?_ ?_ ?_); rfl; rfl; kernel_rfl)
   refine HM.nw (ty := 43) (cs := (aI cL).toArray) ?_; clear HM; intro e4 h9 HM
   go_wp2_with with_reducible refine sa ?_
   refine yv HM.b0 HM.s0 ?_; clear HM; intro i0 HM
   go_wp2_with with_reducible refine sa ?_
   try simp only [nrm]
   go_loopw [15] (fun i wr => ∃ (j : Nat) (D : Sec), j ≤ l.length ∧ i = .int .i64 j ∧ D = (l.take j).foldl (K2 Y.sent) d ∧ MR w wr base ([rwL (.slice Bl Y.line.length dl) Y.line, rwA (.slice Ba Y.line.length da) Y.line, rwE (.slice A0 X.g0.length c0) X.g0, rwE (.slice A1 X.g1.length c1) X.g1, rwS (.slice (some ⟨bk, off, none⟩) out.length co) out, rwE (.slice Ae ev.length ce) ev]) ((e4, 43, (aI D).toArray) :: (C, 70, (tkL tk0 (.slice none 0 0) (.slice none 0 0) (.slice none 0 0) (.slice none 0 0)).toArray) :: (z, 37, (prL p).toArray) :: (q, 70, (tkL Y (.slice A0 X.g0.length c0) (.slice A1 X.g1.length c1) (.slice Ba Y.line.length da) (.slice Bl Y.line.length dl)).toArray) :: bx)) (fun i _ => l.length - (intOf i).toNat)
   case atStart => exact ⟨0, d, Nat.zero_le _, rfl, rfl, HM⟩
   case round =>
    clear HM 
    obtain ⟨j, D, hj0, rfl, hD, HM⟩ := hrel
    by_cases hlj : j < l.length
    ·
     exact absurd hlj (by rw [HL0.out]; exact Nat.not_lt_zero _)
    have j1 : decide ((j : Int) < ((l.length : Nat) : Int)) = false := by simp; omega
    have j2 : decide (j < l.length) = false := by simpa using hlj
    have j3 : l.length ≤ j := Nat.le_of_not_lt hlj
    have hj : j = l.length := by omega
    rw [hj, List.take_length] at hD
    have HD := Lib.hid (show D = chg l Y.sent d from hD)
    clear hD hj
    have e5 := HM.b3.c 125 (.int .i64 Y.sent)
    go_wp2_with with_reducible refine sa ?_
    refine yk 125 (tkL ((Y.put_sent ((Y.sent + 1)))) (.slice A0 X.g0.length c0) (.slice A1 X.g1.length c1) (.slice Ba Y.line.length da) (.slice Bl Y.line.length dl)).toArray HM.b3 HM.s3 ?_; clear HM; intro i4 HM; clear e5
    have e6 := HM.b3.c 127 (.slice Bl Y.line.length dl)
    go_wp2_with first | with_reducible refine sa ?_ | with_reducible refine ld 0 (aI D) HM.b0 U43 ?_
    refine bF (ty := 43) (cs := (aI D).toArray) (fun g => .slice (some ⟨g, 0, none⟩) 1 1) rfl (by kernel_rfl) ?_
    intro i5 i6 e7 c5 c6 c7
    clear e6
    replace HM := HM.alloc c5 c6 c7
    clear c6 c5 e7 c7
    go_wp2_with with_reducible refine sa ?_
    unfold bA
    refine zM false D HM rfl rfl HM.b0 (by have hh := HS.out.2; omega) (fun a5 a6 i7 HN => ?_)
    replace HM := HN; clear HN
    go_wp2_with with_reducible refine sa ?_
    refine yk 127 (tkL ((Y.put_sent ((Y.sent + 1)))) (.slice A0 X.g0.length c0) (.slice A1 X.g1.length c1) (.slice Ba Y.line.length da) (.slice a5 (Y.line.length + 1) a6)).toArray HM.b4 HM.s4 ?_; clear HM; intro i8 HM
    have e8 := HM.b4.c 126 (.slice Ba Y.line.length da)
    go_wp2_with with_reducible refine sa ?_
    refine bF (ty := 3) (cs := #[.int .i64 0]) (fun g => .slice (some ⟨g, 0, none⟩) 1 1) rfl (by kernel_rfl) ?_
    intro i9 j0 e9 c8 c9 d0
    clear e8
    replace HM := HM.alloc c8 c9 d0
    clear c9 c8 e9 d0
    go_wp2_with with_reducible refine sa ?_
    unfold bA
    refine IA false D HM rfl rfl HM.b0 (by have hh := HS.out.2; omega) (fun d1 d2 j4 HN => ?_)
    replace HM := HN; clear HN
    go_wp2_with with_reducible refine sa ?_
    refine yk 126 (tkL ((Y.put_sent ((Y.sent + 1)))) (.slice A0 X.g0.length c0) (.slice A1 X.g1.length c1) (.slice d1 (Y.line.length + 1) d2) (.slice a5 (Y.line.length + 1) a6)).toArray HM.b5 HM.s5 ?_; clear HM; intro j5 HM
    go_wp2_with with_reducible refine sa ?_
    go_roundw
    case rel => exact ⟨k + 1, kP l true Y d, a5, a6, d1, d2, by omega, by go_num, by rw [cO _ _ _ _ hlt, HD0.out, ← HY.out], by have e := HD.out; subst e; have hn : (kP l true Y d).line.length = Y.line.length + 1 := List.length_append; rw [hn]; exact HM.drop.drop.drop⟩
    case measure => simp [intOf]; omega
  have i1 : decide ((k : Int) < ((out.length : Nat) : Int)) = false := by simp; omega
  have i2 : decide (k < out.length) = false := by simpa using hlt
  have i3 : out.length ≤ k := Nat.le_of_not_lt hlt
  have hk : k = out.length := by omega
  rw [hk, List.take_length] at hY
  have HY := Lib.hid hY
  have HS := Lib.hid (And.intro hs3 hs4)
  clear hY hs1 hs2 hk hs3 hs4
  go_wp2_with with_reducible refine sa ?_
  try simp only [nrm]
  go_loopw [16] (fun i wr => ∃ (k : Nat) (Z : Tk) (E0 : Option Addr) (e0 : Nat) (E1 : Option Addr) (e1 : Nat), k ≤ ev.length ∧ i = .int .i64 k ∧ Z = (ev.take k).foldl (cH true) Y ∧ MR w wr base ([rwL (.slice Bl Y.line.length dl) Y.line, rwA (.slice Ba Y.line.length da) Y.line, rwE (.slice E0 Z.g0.length e0) Z.g0, rwE (.slice E1 Z.g1.length e1) Z.g1, rwS (.slice Ao out.length co) out, rwE (.slice Ae ev.length ce) ev]) ((C, 70, (tkL tk0 (.slice none 0 0) (.slice none 0 0) (.slice none 0 0) (.slice none 0 0)).toArray) :: (z, 37, (prL p).toArray) :: (q, 70, (tkL Z (.slice E0 Z.g0.length e0) (.slice E1 Z.g1.length e1) (.slice Ba Y.line.length da) (.slice Bl Y.line.length dl)).toArray) :: bx)) (fun i _ => ev.length - (intOf i).toNat)
  case atStart => exact ⟨0, Y, A0, c0, A1, c1, Nat.zero_le _, rfl, rfl, by rw [HS.out.1, HS.out.2]; exact HM⟩
  case round =>
   clear HM 
   obtain ⟨k, Z, E0, e0, E1, e1, hk1, rfl, hZ, HM⟩ := hrel
   have hs := oL (b := true) (ev.take k) Y
   rw [← hZ, List.length_take, Nat.min_eq_left hk1] at hs
   have hs2 := hs.2; clear hs
   by_cases hlt : k < ev.length
   rotate_left
   ·
    have i1 : decide ((k : Int) < ((ev.length : Nat) : Int)) = false := by simp; omega
    have i2 : decide (k < ev.length) = false := by simpa using hlt
    have i3 : ev.length ≤ k := Nat.le_of_not_lt hlt
    have hk : k = ev.length := by omega
    rw [hk, List.take_length] at hZ
    have HZ := Lib.hid hZ
    clear hZ hk hs2
    go_wp2_with first | with_reducible refine sa ?_ | with_reducible refine lw HM.b2 U70 ?_
    refine yv HM.b0 HM.s0 ?_; clear HM; intro j6 HM
    go_wp2_with with_reducible refine sa ?_
    refine rc1 HM.b0 U70 ?_
    have e : cZ X true p out ev l = Z := by rw [HZ.out, HY.out]; rfl
    rw [e]
    have el : Z.line = Y.line := by rw [HZ.out]; exact (oL (b := true) ev Y).1
    refine ⟨E0, e0, E1, e1, Ba, da, Bl, dl, ?_, ?_⟩
    · rw [el]
    · rw [el]; exact HM.drop.drop.drop
   obtain ⟨ee, hd⟩ : ∃ d, ev[k] = d := ⟨_, rfl⟩
   have ho : Rd wr Ae (dC ev) := HM.r5.rd
   obtain ⟨bk, off, rfl, hrow⟩ := fX lV (by decide) ho k hlt
   rw [hd] at hrow
   have hne : bk ≠ q := fun e => HM.ne5 (by rw [← e]; rfl)
   have HE : Rg bk (off + k * 8) (dS ee) wr := ⟨(HM.r5.lt bk rfl).2, hrow wr (Below.refl _ _)⟩
   clear hrow ho
   have HZ := Lib.hid hZ
   have HD0 := Lib.hid hd
   have HS2 := Lib.hid hs2
   clear hZ hd hs2
   have i1 : decide ((k : Int) < ((ev.length : Nat) : Int)) = true := by simp; exact hlt
   have i2 : decide (k < ev.length) = true := decide_eq_true hlt
   by_cases a3 : (ee.kind : Int) = 1
   ·
    obtain ⟨f0, f1, F⟩ := fT a3; clear a3
    have f2 : wr.cell? ⟨bk, off + k * 8, none⟩ = some (.int .i64 ee.kind) := HE.2 0 _ rfl
    go_wp2_with with_reducible refine sa ?_
    refine sx 122 _ (tkL ((Z.put_h1 true)) (.slice E0 Z.g0.length e0) (.slice E1 Z.g1.length e1) (.slice Ba Y.line.length da) (.slice Bl Y.line.length dl)).toArray HM.b2 ?_
    intro f3 d3 a7
    clear f2
    replace HM := HM.s2 a7 d3
    replace HE := Rg.upd HE a7 hne
    clear a7 d3
    have f4 : f3.cell? ⟨bk, off + k * 8 + 1, none⟩ = some (.int .i64 ee.number) := HE.2 1 _ rfl
    go_wp2_with with_reducible refine sa ?_
    refine sx 118 _ (tkL (((Z.put_h1 true).put_n1 ee.number)) (.slice E0 Z.g0.length e0) (.slice E1 Z.g1.length e1) (.slice Ba Y.line.length da) (.slice Bl Y.line.length dl)).toArray HM.b2 ?_
    intro j7 d4 a8
    clear f4
    replace HM := HM.s2 a8 d4
    replace HE := Rg.upd HE a8 hne
    clear a8 d4
    go_wp2_with with_reducible refine sa ?_
    go_roundw
    have q0 := F.out
    have eZ : cH true Z ee = ((Z.put_h1 true).put_n1 ee.number) := by unfold cH; first | (simp [q0]; done) | (simp only [q0]; rfl) | (rw [if_pos (by assumption)]; rfl) | (rw [if_neg (by assumption), if_pos (by assumption)]; rfl) | (rw [if_neg (by assumption), if_neg (by assumption)]; rfl)
    case rel => exact ⟨k + 1, cH true Z ee, E0, e0, E1, e1, by omega, by go_num, by rw [cO _ _ _ _ hlt, HD0.out, ← HZ.out], by rw [eZ]; exact HM⟩
    case measure => simp [intOf]; omega
   obtain ⟨f0, f1, F⟩ := fF a3; clear a3
   by_cases a4 : (ee.kind : Int) = 2
   ·
    obtain ⟨f5, f6, I⟩ := fT a4; clear a4
    have f7 : wr.cell? ⟨bk, off + k * 8, none⟩ = some (.int .i64 ee.kind) := HE.2 0 _ rfl
    go_wp2_with with_reducible refine sa ?_
    refine sx 120 _ (tkL ((Z.put_a1 true)) (.slice E0 Z.g0.length e0) (.slice E1 Z.g1.length e1) (.slice Ba Y.line.length da) (.slice Bl Y.line.length dl)).toArray HM.b2 ?_
    intro j8 d5 a9
    clear f7
    replace HM := HM.s2 a9 d5
    replace HE := Rg.upd HE a9 hne
    clear a9 d5
    go_wp2_with with_reducible refine sa ?_
    go_roundw
    have q0 := F.out
    have q1 := I.out
    have eZ : cH true Z ee = (Z.put_a1 true) := by unfold cH; first | (simp [q0, q1]; done) | (simp only [q0, q1]; rfl) | (rw [if_pos (by assumption)]; rfl) | (rw [if_neg (by assumption), if_pos (by assumption)]; rfl) | (rw [if_neg (by assumption), if_neg (by assumption)]; rfl)
    case rel => exact ⟨k + 1, cH true Z ee, E0, e0, E1, e1, by omega, by go_num, by rw [cO _ _ _ _ hlt, HD0.out, ← HZ.out], by rw [eZ]; exact HM⟩
    case measure => simp [intOf]; omega
   obtain ⟨f5, f6, I⟩ := fF a4; clear a4
   have f8 : wr.cell? ⟨bk, off + k * 8, none⟩ = some (.int .i64 ee.kind) := HE.2 0 _ rfl
   go_wp2_with with_reducible refine sa ?_
   clear f8
   try simp only [nrm]
   refine jN 14 (fun J hW => ?_)
   replace HM := HM.drew; rw [← hW] at HM
   replace HE : Rg bk (off + k * 8) (dS ee) J := by rw [hW]; exact HE
   clear hW
   refine aV (v := ?_) 0 rfl ?_ ?_; rotate_left; (intro W K hK; go_simp; exact hK.out); simp only [nrm]
   refine aV (v := ?_) 1 rfl ?_ ?_; rotate_left; (intro W K hK; go_simp; exact hK.out); simp only [nrm]
   refine aV (v := ?_) 2 rfl ?_ ?_; rotate_left; (intro W K hK; go_simp; exact hK.out); simp only [nrm]
   refine aV (v := ?_) 3 rfl ?_ ?_; rotate_left; (intro W K hK; go_simp; exact hK.out); simp only [nrm]
   refine aV (v := ?_) 5 rfl ?_ ?_; rotate_left; (intro W K hK; go_simp; exact hK.out); simp only [nrm]
   refine aV (v := ?_) 6 rfl ?_ ?_; rotate_left; (intro W K hK; go_simp; exact hK.out); simp only [nrm]
   refine aV (v := ?_) 7 rfl ?_ ?_; rotate_left; (intro W K hK; go_simp; exact hK.out); simp only [nrm]
   refine aV (v := ?_) 11 rfl ?_ ?_; rotate_left; (intro W K hK; go_simp; exact hK.out); simp only [nrm]
   refine eV 4 8 rfl rfl (fun K hK => ?_) (fun K hK => ?_)
   ·
    have ld : J.cell? ⟨q, 124, none⟩ = some (.slice E1 Z.g1.length e1) := HM.b2.cell 124
    go_simp; refine hK.out _ _ ?_; clear hK K ld; try simp only [nrm]
    refine bP 8 rfl (fun K hK => ?_)
    rw [if_pos (show Region.wanted _ _ = true from rfl)]
    refine fG (aL (v := .agg (dS ee).toArray) rfl rfl (run_loadVar_mid J bk (off + k * 8) 80 [.int .i64 ee.kind, .int .i64 ee.number, .int .u64 (W64 ee.key), .bool ee.strong, .int .i64 ee.idn.adr.kind, .int .u64 (W64 ee.idn.adr.bits), .int .u64 (W64 ee.idn.irk), .int .i64 ee.reason] _ (eP HE.2 0 [.int .i64 ee.kind, .int .i64 ee.number, .int .u64 (W64 ee.key), .bool ee.strong, .int .i64 ee.idn.adr.kind, .int .u64 (W64 ee.idn.adr.bits), .int .u64 (W64 ee.idn.irk), .int .i64 ee.reason] rfl) U80 rfl (by kernel_rfl)) ?_)
    refine hK.out _ _ ?_; clear hK K; try simp only [nrm]
    refine bP 9 rfl (fun K hK => ?_)
    rw [if_pos (show Region.wanted _ _ = true from rfl)]
    refine dZ (ty := 80) (cs := (dS ee).toArray) (fun g => .slice (some ⟨g, 0, none⟩) 1 1) (by kernel_rfl) (fun f9 j9 g3 d6 b8 d7 => ?_)
    refine hK.out _ _ ?_; clear hK K; try simp only [nrm]
    replace HM := HM.alloc d6 b8 d7
    replace HE := Rg.to HE b8
    clear b8 d6 g3 d7
    refine bP 10 rfl (fun K hK => ?_)
    rw [if_pos (show Region.wanted _ _ = true from rfl)]
    refine rA ee HM rfl rfl HM.b0 (by have hh := HS2.out; rw [HS.out.1, HS.out.2] at hh; omega) (fun L O k0 HN => ?_)
    refine hK.out _ _ ?_; clear hK K HM; try simp only [nrm]
    have HM := HN; clear HN
    clear HE
    refine aV (v := ?_) 12 rfl ?_ ?_; rotate_left; (intro W K hK; go_simp; exact hK.out); simp only [nrm]
    refine bP 13 rfl (fun K hK => ?_)
    refine gE (S' := fun W => MR w W base ([rwL (.slice Bl Y.line.length dl) Y.line, rwA (.slice Ba Y.line.length da) Y.line, rwE (.slice E0 Z.g0.length e0) Z.g0, rwE (.slice L (Z.g1.length + 1) O) ((Z.g1 ++ [ee])), rwS (.slice Ao out.length co) out, rwE (.slice (some ⟨bk, off, none⟩) ev.length ce) ev]) ((f9, 80, (dS ee).toArray) :: (C, 70, (tkL tk0 (.slice none 0 0) (.slice none 0 0) (.slice none 0 0) (.slice none 0 0)).toArray) :: (z, 37, (prL p).toArray) :: (q, 70, (tkL Z (.slice E0 Z.g0.length e0) (.slice L (Z.g1.length + 1) O) (.slice Ba Y.line.length da) (.slice Bl Y.line.length dl)).toArray) :: bx)) (.slice L (Z.g1.length + 1) O) rfl (by obtain ⟨w9, h1, h2, h3⟩ := eT (P := Tryz.prog) (ty := 47) (o := 124) (v := .slice L (Z.g1.length + 1) O) HM.b3 rfl (by kernel_rfl) rfl (of_decide_eq_true rfl); exact ⟨w9, h1, HM.s3 h3 h2⟩) (fun k1 HN => ?_) hK rfl rfl rfl; clear hK K
    replace HM := HN; clear HN; try simp only [nrm]
    refine fE ?_
    go_wp2_with with_reducible refine sa ?_
    go_roundw
    have q0 := F.out
    have q1 := I.out
    have eZ : cH true Z ee = { Z with g1 := Z.g1 ++ [ee] } := by unfold cH; first | (simp [q0, q1]; done) | (simp only [q0, q1]; rfl) | (rw [if_pos (by assumption)]; rfl) | (rw [if_neg (by assumption), if_pos (by assumption)]; rfl) | (rw [if_neg (by assumption), if_neg (by assumption)]; rfl)
    case rel => exact ⟨k + 1, cH true Z ee, E0, e0, L, O, by omega, by go_num, by rw [cO _ _ _ _ hlt, HD0.out, ← HZ.out], by have hn : (cH true Z ee).g1.length = Z.g1.length + 1 := (by rw [eZ]; exact List.length_append); rw [hn, eZ]; exact HM.drop⟩
    case measure => simp [intOf]; omega
   rw [if_pos (show Region.wanted _ _ = true from rfl)]
   refine fG (aL (v := .agg (dS ee).toArray) rfl rfl (run_loadVar_mid J bk (off + k * 8) 80 [.int .i64 ee.kind, .int .i64 ee.number, .int .u64 (W64 ee.key), .bool ee.strong, .int .i64 ee.idn.adr.kind, .int .u64 (W64 ee.idn.adr.bits), .int .u64 (W64 ee.idn.irk), .int .i64 ee.reason] _ (eP HE.2 0 [.int .i64 ee.kind, .int .i64 ee.number, .int .u64 (W64 ee.key), .bool ee.strong, .int .i64 ee.idn.adr.kind, .int .u64 (W64 ee.idn.adr.bits), .int .u64 (W64 ee.idn.irk), .int .i64 ee.reason] rfl) U80 rfl (by kernel_rfl)) ?_)
   refine hK.out _ _ ?_; clear hK K; try simp only [nrm]
   refine eV 4 9 rfl rfl (fun K hK => ?_) (fun K hK => ?_)
   ·
    have ld : J.cell? ⟨q, 124, none⟩ = some (.slice E1 Z.g1.length e1) := HM.b2.cell 124
    go_simp; refine hK.out _ _ ?_; clear hK K ld; try simp only [nrm]
    refine bP 9 rfl (fun K hK => ?_)
    rw [if_pos (show Region.wanted _ _ = true from rfl)]
    refine dZ (ty := 80) (cs := (dS ee).toArray) (fun g => .slice (some ⟨g, 0, none⟩) 1 1) (by kernel_rfl) (fun g4 k2 g5 d8 b9 d9 => ?_)
    refine hK.out _ _ ?_; clear hK K; try simp only [nrm]
    replace HM := HM.alloc d8 b9 d9
    replace HE := Rg.to HE b9
    clear b9 d8 g5 d9
    refine bP 10 rfl (fun K hK => ?_)
    rw [if_pos (show Region.wanted _ _ = true from rfl)]
    refine rA ee HM rfl rfl HM.b0 (by have hh := HS2.out; rw [HS.out.1, HS.out.2] at hh; omega) (fun U a0 k3 HN => ?_)
    refine hK.out _ _ ?_; clear hK K HM; try simp only [nrm]
    have HM := HN; clear HN
    clear HE
    refine aV (v := ?_) 12 rfl ?_ ?_; rotate_left; (intro W K hK; go_simp; exact hK.out); simp only [nrm]
    refine bP 13 rfl (fun K hK => ?_)
    refine gE (S' := fun W => MR w W base ([rwL (.slice Bl Y.line.length dl) Y.line, rwA (.slice Ba Y.line.length da) Y.line, rwE (.slice E0 Z.g0.length e0) Z.g0, rwE (.slice U (Z.g1.length + 1) a0) ((Z.g1 ++ [ee])), rwS (.slice Ao out.length co) out, rwE (.slice (some ⟨bk, off, none⟩) ev.length ce) ev]) ((g4, 80, (dS ee).toArray) :: (C, 70, (tkL tk0 (.slice none 0 0) (.slice none 0 0) (.slice none 0 0) (.slice none 0 0)).toArray) :: (z, 37, (prL p).toArray) :: (q, 70, (tkL Z (.slice E0 Z.g0.length e0) (.slice U (Z.g1.length + 1) a0) (.slice Ba Y.line.length da) (.slice Bl Y.line.length dl)).toArray) :: bx)) (.slice U (Z.g1.length + 1) a0) rfl (by obtain ⟨w9, h1, h2, h3⟩ := eT (P := Tryz.prog) (ty := 47) (o := 124) (v := .slice U (Z.g1.length + 1) a0) HM.b3 rfl (by kernel_rfl) rfl (of_decide_eq_true rfl); exact ⟨w9, h1, HM.s3 h3 h2⟩) (fun k4 HN => ?_) hK rfl rfl rfl; clear hK K
    replace HM := HN; clear HN; try simp only [nrm]
    refine fE ?_
    go_wp2_with with_reducible refine sa ?_
    go_roundw
    have q0 := F.out
    have q1 := I.out
    have eZ : cH true Z ee = { Z with g1 := Z.g1 ++ [ee] } := by unfold cH; first | (simp [q0, q1]; done) | (simp only [q0, q1]; rfl) | (rw [if_pos (by assumption)]; rfl) | (rw [if_neg (by assumption), if_pos (by assumption)]; rfl) | (rw [if_neg (by assumption), if_neg (by assumption)]; rfl)
    case rel => exact ⟨k + 1, cH true Z ee, E0, e0, U, a0, by omega, by go_num, by rw [cO _ _ _ _ hlt, HD0.out, ← HZ.out], by have hn : (cH true Z ee).g1.length = Z.g1.length + 1 := (by rw [eZ]; exact List.length_append); rw [hn, eZ]; exact HM.drop⟩
    case measure => simp [intOf]; omega
   rw [if_pos (show Region.wanted _ _ = true from rfl)]
   refine dZ (ty := 80) (cs := (dS ee).toArray) (fun g => .slice (some ⟨g, 0, none⟩) 1 1) (by kernel_rfl) (fun g6 g7 g8 e2 c4 e3 => ?_)
   refine hK.out _ _ ?_; clear hK K; try simp only [nrm]
   replace HM := HM.alloc e2 c4 e3
   replace HE := Rg.to HE c4
   clear c4 e2 g8 e3
   refine bP 4 rfl (fun K hK => ?_)
   have ld : g7.cell? ⟨q, 124, none⟩ = some (.slice E1 Z.g1.length e1) := HM.b3.cell 124
   go_simp; refine hK.out _ _ ?_; clear hK K ld; try simp only [nrm]
   refine bP 10 rfl (fun K hK => ?_)
   rw [if_pos (show Region.wanted _ _ = true from rfl)]
   refine rA ee HM rfl rfl HM.b0 (by have hh := HS2.out; rw [HS.out.1, HS.out.2] at hh; omega) (fun a1 a2 k5 HN => ?_)
   refine hK.out _ _ ?_; clear hK K HM; try simp only [nrm]
   have HM := HN; clear HN
   clear HE
   refine aV (v := ?_) 12 rfl ?_ ?_; rotate_left; (intro W K hK; go_simp; exact hK.out); simp only [nrm]
   refine bP 13 rfl (fun K hK => ?_)
   refine gE (S' := fun W => MR w W base ([rwL (.slice Bl Y.line.length dl) Y.line, rwA (.slice Ba Y.line.length da) Y.line, rwE (.slice E0 Z.g0.length e0) Z.g0, rwE (.slice a1 (Z.g1.length + 1) a2) ((Z.g1 ++ [ee])), rwS (.slice Ao out.length co) out, rwE (.slice (some ⟨bk, off, none⟩) ev.length ce) ev]) ((g6, 80, (dS ee).toArray) :: (C, 70, (tkL tk0 (.slice none 0 0) (.slice none 0 0) (.slice none 0 0) (.slice none 0 0)).toArray) :: (z, 37, (prL p).toArray) :: (q, 70, (tkL Z (.slice E0 Z.g0.length e0) (.slice a1 (Z.g1.length + 1) a2) (.slice Ba Y.line.length da) (.slice Bl Y.line.length dl)).toArray) :: bx)) (.slice a1 (Z.g1.length + 1) a2) rfl (by obtain ⟨w9, h1, h2, h3⟩ := eT (P := Tryz.prog) (ty := 47) (o := 124) (v := .slice a1 (Z.g1.length + 1) a2) HM.b3 rfl (by kernel_rfl) rfl (of_decide_eq_true rfl); exact ⟨w9, h1, HM.s3 h3 h2⟩) (fun k6 HN => ?_) hK rfl rfl rfl; clear hK K
   replace HM := HN; clear HN; try simp only [nrm]
   refine fE ?_
   go_wp2_with with_reducible refine sa ?_
   go_roundw
   have q0 := F.out
   have q1 := I.out
   have eZ : cH true Z ee = { Z with g1 := Z.g1 ++ [ee] } := by unfold cH; first | (simp [q0, q1]; done) | (simp only [q0, q1]; rfl) | (rw [if_pos (by assumption)]; rfl) | (rw [if_neg (by assumption), if_pos (by assumption)]; rfl) | (rw [if_neg (by assumption), if_neg (by assumption)]; rfl)
   case rel => exact ⟨k + 1, cH true Z ee, E0, e0, a1, a2, by omega, by go_num, by rw [cO _ _ _ _ hlt, HD0.out, ← HZ.out], by have hn : (cH true Z ee).g1.length = Z.g1.length + 1 := (by rw [eZ]; exact List.length_append); rw [hn, eZ]; exact HM.drop⟩
   case measure => simp [intOf]; omega
end Go.Proofs.YtihmbcnccdiecaaGreatDoor
