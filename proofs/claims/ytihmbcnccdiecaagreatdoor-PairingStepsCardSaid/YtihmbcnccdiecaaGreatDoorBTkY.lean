/- Part of the proofs of the laws of pairing. -/
import Derived.Test.YtihmbcnccdiecaaGreatDoorBSdIe
import Derived.Test.YtihmbcnccdiecaaGreatDoorBSdIs
import Derived.Test.YtihmbcnccdiecaaGreatDoorBSdIu
import Derived.Test.YtihmbcnccdiecaaGreatDoorBSdL
import Derived.Test.YtihmbcnccdiecaaGreatDoorBSdN
import Derived.Test.YtihmbcnccdiecaaGreatDoorBTkP
namespace Go.Proofs.YtihmbcnccdiecaaGreatDoor
set_option maxRecDepth 100000
set_option linter.unusedVariables false
set_option linter.unusedSimpArgs false
open Go.ChangeShapes Go.WideShapes Go.ChangeAt Go.RowKit
section
variable {w0 W W' : World} {base : Nat} {rs rs' : List Rw} {bx : List Bk}
theorem GZ {A : Option Addr} {xs : List Value} (h : Rd W A xs) (hx : xs ≠ []) : ∀ ad, A = some ad → ad.block < W.heap.size := by
  intro ad ha
  obtain ⟨u, hu⟩ : ∃ u, xs[0]? = some u := by
    cases xs with
    | nil => exact absurd rfl hx
    | cons u _ => exact ⟨u, rfl⟩
  obtain ⟨ad2, h1, h2, _⟩ := h 0 u hu
  rw [ha] at h1
  rw [Option.some.inj h1]
  exact h2
theorem MR.rsub (h : MR w0 W base rs bx) (hs : rs'.Sublist rs) : MR w0 W base rs' bx :=
  ⟨h.pre, h.below, h.low, fun r hr => h.rows r (hs.subset hr), h.ap.sublist hs, fun b hb => ⟨(h.box b hb).1, (h.box b hb).2.1, fun r hr => (h.box b hb).2.2 r (hs.subset hr)⟩, h.nd⟩
theorem CQ {e t : TypeId} {size n k g : Nat} {v : Value} {xs : List Value} {cs : Array Value} (h : W.ownsRow k e size v n xs) (hG : Blk W g t cs) (ht : t ≠ e) : v.ownBlock ≠ some g := by
  intro e1
  rcases h.2 with ⟨rfl, _⟩ | ⟨g2, cap2, cur2, rfl, _, hg2, _⟩
  · simp [Value.ownBlock] at e1
  · have : g2 = g := by simpa [Value.ownBlock] using e1
    subst this
    have := hG
    unfold Blk at this
    rw [hg2] at this
    injection this with this
    injection this with _ h2 _
    exact ht h2.symm
theorem cR {e t : TypeId} {size n k g : Nat} {v : Value} {xs : List Value} {cs : Array Value} (h : W.ownsRow k e size v n xs) (hG : Blk W g t cs) (ht : t ≠ e) (hU : Upd g W W') : W'.ownsRow k e size v n xs := tV h hU (CQ h hG ht)
theorem MR.join {vo ve : Value} {out : List Sec} {ev : List Evt} (h : MR w0 W base rs bx) (hb : Below W.heap.size W W') (ho : W'.ownsRow W.heap.size dE 13 vo out.length (dG out)) (he : W'.ownsRow W.heap.size dK 8 ve ev.length (dC ev)) :
    MR w0 W' base (rs ++ [rwS vo out, rwE ve ev]) bx := by
  have h' := h.to hb
  refine ⟨h.pre, h'.below, h'.low, fun r hr => ?_, List.pairwise_append.2 ⟨h.ap, List.pairwise_cons.2 ⟨fun s hs k hk e2 => ?_, List.pairwise_singleton _ _⟩, fun r hr s hs k hk e2 => ?_⟩, fun b hb2 => ⟨(h'.box b hb2).1, (h'.box b hb2).2.1, fun r hr => ?_⟩, h.nd⟩
  · rcases List.mem_append.1 hr with hr | hr
    · exact h'.rows r hr
    · simp only [List.mem_cons, List.not_mem_nil, or_false] at hr
      rcases hr with rfl | rfl
      · exact (aZ.of ho).mono h.low
      · exact (aZ.of he).mono h.low
  · rw [List.mem_singleton] at hs
    subst hs
    have hk' : vo.ownBlock = some k := hk
    have e3 : ve.ownBlock = some k := e2
    rcases rF ho he (by decide) with q | q
    · rw [e3] at q; cases q
    · exact q (e3.trans hk'.symm)
  · have hlt := ((h.rows r hr).lt k hk).2
    simp only [List.mem_cons, List.not_mem_nil, or_false] at hs
    rcases hs with rfl | rfl
    · have := (ho.lt k e2).1; omega
    · have := (he.lt k e2).1; omega
  · rcases List.mem_append.1 hr with hr | hr
    · exact (h'.box b hb2).2.2 r hr
    · have hlt := (h.box b hb2).1.lt
      simp only [List.mem_cons, List.not_mem_nil, or_false] at hr
      rcases hr with rfl | rfl
      · intro e2; have := (ho.lt b.1 e2).1; omega
      · intro e2; have := (he.lt b.1 e2).1; omega
theorem MR.join1 {vo ve : Value} {out : List Sec} {ev : List Evt} {g : Nat} {ty : TypeId} {cs : Array Value} (h : MR w0 W base rs bx) (hb : Below W.heap.size W W') (ho : W'.ownsRow W.heap.size dE 13 vo out.length (dG out)) (he : W'.ownsRow W.heap.size dK 8 ve ev.length (dC ev))
    (hG : Blk W' g ty cs) (hg : W.heap.size ≤ g) (t1 : ty ≠ dE) (t2 : ty ≠ dK) : MR w0 W' base (rs ++ [rwS vo out, rwE ve ev]) ((g, ty, cs) :: bx) := by
  have h2 := h.join hb ho he
  refine ⟨h2.pre, h2.below, h2.low, h2.rows, h2.ap, fun b hb2 => ?_, List.pairwise_cons.2 ⟨fun b hb2 => ?_, h2.nd⟩⟩
  · rcases List.mem_cons.1 hb2 with rfl | hb2
    · refine ⟨hG, Nat.le_trans h.low hg, fun r hr => ?_⟩
      rcases List.mem_append.1 hr with hr | hr
      · intro e2; have := ((h.rows r hr).lt _ e2).2; dsimp only at this; omega
      · simp only [List.mem_cons, List.not_mem_nil, or_false] at hr
        rcases hr with rfl | rfl
        · exact CQ ho hG t1
        · exact CQ he hG t2
    · exact h2.box b hb2
  · have := (h.box b hb2).1.lt
    show g ≠ b.1
    omega
theorem MR.nob (h : MR w0 W base rs bx) : MR w0 W base rs [] := ⟨h.pre, h.below, h.low, h.rows, h.ap, by simp, .nil⟩
theorem MR.joinM (h : MR w0 W base rs bx) (k : MR W W' W.heap.size rs' []) : MR w0 W' base (rs ++ rs') bx := by
  have h' := h.to k.below
  refine ⟨h.pre, h'.below, h'.low, fun r hr => ?_, List.pairwise_append.2 ⟨h.ap, k.ap, fun r hr s hs j hj e2 => ?_⟩, fun b hb2 => ⟨(h'.box b hb2).1, (h'.box b hb2).2.1, fun r hr => ?_⟩, h.nd⟩
  · rcases List.mem_append.1 hr with hr | hr
    · exact h'.rows r hr
    · exact (k.rows r hr).mono h.low
  · have hlt := ((h.rows r hr).lt j hj).2
    have := ((k.rows s hs).lt j e2).1
    omega
  · rcases List.mem_append.1 hr with hr | hr
    · exact (h'.box b hb2).2.2 r hr
    · have hlt := (h.box b hb2).1.lt
      intro e2
      have := ((k.rows r hr).lt b.1 e2).1
      omega
theorem aM {k : Nat} {e : TypeId} {size n : Nat} {v : Value} {xs : List Value} (h : W.ownsRow k e size v n xs) : ∃ A c, v = .slice A n c := by
  obtain ⟨A, c, e, _⟩ := (aZ.of h).slice
  exact ⟨A, c, e⟩
end
theorem oJ (c : Cfg) (h : (cP c).2 = 0) (w : World) (HL : bW w) : Calls Tryz.prog 5 #[.agg (cT c).toArray] w fun e w' => e = .returned (.tuple #[.agg (prL (aY c)).toArray, .int .i64 0]) ∧ Below w.heap.size w w' := by
  have k := BI c w HL
  rw [oA c h, h] at k
  exact k
theorem xY (c : Cfg) (hr : c.role = 0) (w : World) (HL : bW w) : Calls Tryz.prog 23 #[.agg (prL (aY c)).toArray, .int .i64 0] w (fun e w' => oV w w' (gW c) [{ cL with kind := 1, feat := c.feat }] 0 e) := by
  have k := qB (aY c) 0 w HL (by show (0 : Int) ≤ 0; decide) (by show (0 : Int) ≤ 60; decide)
  have e : bX (aY c) 0 = (gW c, [{ cL with kind := 1, feat := c.feat }], 0) := by
    unfold bX
    rw [if_neg]
    · rfl
    · rintro (h | h)
      · exact h hr
      · exact h rfl
  rw [e] at k
  exact k
theorem yV (X : Tk) (v0 v1 va vl : Value) (common : Int) (w : World) (HL : bW w) :
  Calls Tryz.prog 46 #[.agg (tkL X v0 v1 va vl).toArray, .int .i64 0, .int .i64 common] w (fun e w' => e = .returned (.int .i64 (X.answer false common)) ∧ Below w.heap.size w w') := by
 have HM := MR.start HL
 obtain ⟨base, hbs⟩ : ∃ b, w.heap.size = b := ⟨_, rfl⟩
 rw [hbs] at HM
 go_enter Tryz.func46, Tryz.ntmps46
 go_wp2_with with_reducible refine so ?_
 refine HM.nw (ty := 70) (cs := (tkL X v0 v1 va vl).toArray) ?_; clear HM; intro a0 a1 HM
 by_cases z : (X.s0.method : Int) = 2
 rotate_left
 ·
  obtain ⟨L, O, q⟩ := fF z; clear z
  rcases J : X.h1 with _ | _
  ·
   have a2 := HM.b0.c 21 (.int .i64 X.s0.method)
   have a3 := HM.b0.c 122 (.bool X.h1)
   go_wp2_with with_reducible refine so ?_
   go_returns
   have q0 := q.out
   have er : X.answer false common = common := by unfold Tk.answer Tk.side; simp [q0, J]
   rw [er]; first | exact ⟨rfl, HM.below⟩ | (rw [hbs]; exact ⟨rfl, HM.below⟩)
  have a4 := HM.b0.c 21 (.int .i64 X.s0.method)
  have a5 := HM.b0.c 122 (.bool X.h1)
  have a6 := HM.b0.c 118 (.int .i64 X.n1)
  go_wp2_with with_reducible refine so ?_
  go_returns
  have q0 := q.out
  have er : X.answer false common = X.n1 := by unfold Tk.answer Tk.side; simp [q0, J]
  rw [er]; first | exact ⟨rfl, HM.below⟩ | (rw [hbs]; exact ⟨rfl, HM.below⟩)
 obtain ⟨L, O, q⟩ := fT z; clear z
 rcases C : X.h0 with _ | _
 ·
  have a7 := HM.b0.c 21 (.int .i64 X.s0.method)
  have a8 := HM.b0.c 121 (.bool X.h0)
  go_wp2_with with_reducible refine so ?_
  go_returns
  have q0 := q.out
  have er : X.answer false common = 0 := by unfold Tk.answer Tk.side; simp [q0, C]
  rw [er]; first | exact ⟨rfl, HM.below⟩ | (rw [hbs]; exact ⟨rfl, HM.below⟩)
 rcases F : X.h1 with _ | _
 ·
  have a9 := HM.b0.c 21 (.int .i64 X.s0.method)
  have b1 := HM.b0.c 121 (.bool X.h0)
  have b2 := HM.b0.c 122 (.bool X.h1)
  go_wp2_with with_reducible refine so ?_
  go_returns
  have q0 := q.out
  have er : X.answer false common = 0 := by unfold Tk.answer Tk.side; simp [q0, C, F]
  rw [er]; first | exact ⟨rfl, HM.below⟩ | (rw [hbs]; exact ⟨rfl, HM.below⟩)
 by_cases D : (X.n0 : Int) = X.n1
 ·
  obtain ⟨U, Z, I⟩ := fT D; clear D
  have b3 := HM.b0.c 21 (.int .i64 X.s0.method)
  have b4 := HM.b0.c 121 (.bool X.h0)
  have b5 := HM.b0.c 122 (.bool X.h1)
  have b6 := HM.b0.c 117 (.int .i64 X.n0)
  have b7 := HM.b0.c 118 (.int .i64 X.n1)
  go_wp2_with with_reducible refine so ?_
  go_returns
  have q0 := q.out
  have q3 := I.out
  have er : X.answer false common = 1 := by unfold Tk.answer Tk.side; simp [q0, C, F, q3]
  rw [er]; first | exact ⟨rfl, HM.below⟩ | (rw [hbs]; exact ⟨rfl, HM.below⟩)
 obtain ⟨U, Z, I⟩ := fF D; clear D
 have b8 := HM.b0.c 21 (.int .i64 X.s0.method)
 have b9 := HM.b0.c 121 (.bool X.h0)
 have c0 := HM.b0.c 122 (.bool X.h1)
 have c4 := HM.b0.c 117 (.int .i64 X.n0)
 have c5 := HM.b0.c 118 (.int .i64 X.n1)
 go_wp2_with with_reducible refine so ?_
 go_returns
 have q0 := q.out
 have q3 := I.out
 have er : X.answer false common = 0 := by unfold Tk.answer Tk.side; simp [q0, C, F, q3]
 rw [er]; first | exact ⟨rfl, HM.below⟩ | (rw [hbs]; exact ⟨rfl, HM.below⟩)
theorem rR (X : Tk) (v0 v1 va vl : Value) (common : Int) (w : World) (HL : bW w) :
  Calls Tryz.prog 46 #[.agg (tkL X v0 v1 va vl).toArray, .int .i64 1, .int .i64 common] w (fun e w' => e = .returned (.int .i64 (X.answer true common)) ∧ Below w.heap.size w w') := by
 have HM := MR.start HL
 obtain ⟨base, hbs⟩ : ∃ b, w.heap.size = b := ⟨_, rfl⟩
 rw [hbs] at HM
 go_enter Tryz.func46, Tryz.ntmps46
 go_wp2_with with_reducible refine so ?_
 refine HM.nw (ty := 70) (cs := (tkL X v0 v1 va vl).toArray) ?_; clear HM; intro a0 a1 HM
 by_cases z : (X.s1.method : Int) = 2
 rotate_left
 ·
  obtain ⟨L, O, q⟩ := fF z; clear z
  rcases J : X.h0 with _ | _
  ·
   have a2 := HM.b0.c 79 (.int .i64 X.s1.method)
   have a3 := HM.b0.c 121 (.bool X.h0)
   go_wp2_with with_reducible refine so ?_
   go_returns
   have q0 := q.out
   have er : X.answer true common = common := by unfold Tk.answer Tk.side; simp [q0, J]
   rw [er]; first | exact ⟨rfl, HM.below⟩ | (rw [hbs]; exact ⟨rfl, HM.below⟩)
  have a4 := HM.b0.c 79 (.int .i64 X.s1.method)
  have a5 := HM.b0.c 121 (.bool X.h0)
  have a6 := HM.b0.c 117 (.int .i64 X.n0)
  go_wp2_with with_reducible refine so ?_
  go_returns
  have q0 := q.out
  have er : X.answer true common = X.n0 := by unfold Tk.answer Tk.side; simp [q0, J]
  rw [er]; first | exact ⟨rfl, HM.below⟩ | (rw [hbs]; exact ⟨rfl, HM.below⟩)
 obtain ⟨L, O, q⟩ := fT z; clear z
 rcases C : X.h0 with _ | _
 ·
  have a7 := HM.b0.c 79 (.int .i64 X.s1.method)
  have a8 := HM.b0.c 121 (.bool X.h0)
  go_wp2_with with_reducible refine so ?_
  go_returns
  have q0 := q.out
  have er : X.answer true common = 0 := by unfold Tk.answer Tk.side; simp [q0, C]
  rw [er]; first | exact ⟨rfl, HM.below⟩ | (rw [hbs]; exact ⟨rfl, HM.below⟩)
 rcases F : X.h1 with _ | _
 ·
  have a9 := HM.b0.c 79 (.int .i64 X.s1.method)
  have b1 := HM.b0.c 121 (.bool X.h0)
  have b2 := HM.b0.c 122 (.bool X.h1)
  go_wp2_with with_reducible refine so ?_
  go_returns
  have q0 := q.out
  have er : X.answer true common = 0 := by unfold Tk.answer Tk.side; simp [q0, C, F]
  rw [er]; first | exact ⟨rfl, HM.below⟩ | (rw [hbs]; exact ⟨rfl, HM.below⟩)
 by_cases D : (X.n0 : Int) = X.n1
 ·
  obtain ⟨U, Z, I⟩ := fT D; clear D
  have b3 := HM.b0.c 79 (.int .i64 X.s1.method)
  have b4 := HM.b0.c 121 (.bool X.h0)
  have b5 := HM.b0.c 122 (.bool X.h1)
  have b6 := HM.b0.c 117 (.int .i64 X.n0)
  have b7 := HM.b0.c 118 (.int .i64 X.n1)
  go_wp2_with with_reducible refine so ?_
  go_returns
  have q0 := q.out
  have q3 := I.out
  have er : X.answer true common = 1 := by unfold Tk.answer Tk.side; simp [q0, C, F, q3]
  rw [er]; first | exact ⟨rfl, HM.below⟩ | (rw [hbs]; exact ⟨rfl, HM.below⟩)
 obtain ⟨U, Z, I⟩ := fF D; clear D
 have b8 := HM.b0.c 79 (.int .i64 X.s1.method)
 have b9 := HM.b0.c 121 (.bool X.h0)
 have c0 := HM.b0.c 122 (.bool X.h1)
 have c4 := HM.b0.c 117 (.int .i64 X.n0)
 have c5 := HM.b0.c 118 (.int .i64 X.n1)
 go_wp2_with with_reducible refine so ?_
 go_returns
 have q0 := q.out
 have q3 := I.out
 have er : X.answer true common = 0 := by unfold Tk.answer Tk.side; simp [q0, C, F, q3]
 rw [er]; first | exact ⟨rfl, HM.below⟩ | (rw [hbs]; exact ⟨rfl, HM.below⟩)
end Go.Proofs.YtihmbcnccdiecaaGreatDoor
