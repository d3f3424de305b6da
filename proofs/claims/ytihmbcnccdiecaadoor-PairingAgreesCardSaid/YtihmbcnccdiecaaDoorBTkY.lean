/- Part of the proofs of the laws of pairing. -/
import Derived.Test.YtihmbcnccdiecaaDoorA2
import Derived.Test.YtihmbcnccdiecaaDoorBLowB
import Derived.Test.YtihmbcnccdiecaaDoorBLowC
import Derived.Test.YtihmbcnccdiecaaDoorBSdA
import Derived.Test.YtihmbcnccdiecaaDoorBSdB
import Derived.Test.YtihmbcnccdiecaaDoorBSdC
import Derived.Test.YtihmbcnccdiecaaDoorBSdD
import Derived.Test.YtihmbcnccdiecaaDoorBSdE
import Derived.Test.YtihmbcnccdiecaaDoorBSdF
import Derived.Test.YtihmbcnccdiecaaDoorBSdG
import Derived.Test.YtihmbcnccdiecaaDoorBSdH
import Derived.Test.YtihmbcnccdiecaaDoorBSdIe
import Derived.Test.YtihmbcnccdiecaaDoorBSdIs
import Derived.Test.YtihmbcnccdiecaaDoorBSdIu
import Derived.Test.YtihmbcnccdiecaaDoorBSdJ
import Derived.Test.YtihmbcnccdiecaaDoorBSdK
import Derived.Test.YtihmbcnccdiecaaDoorBSdL
import Derived.Test.YtihmbcnccdiecaaDoorBSdM
import Derived.Test.YtihmbcnccdiecaaDoorBSdN
import Derived.Test.YtihmbcnccdiecaaDoorBTkP
namespace Go.Proofs.YtihmbcnccdiecaaDoor
set_option maxRecDepth 100000
open Go.ChangeShapes Go.WideShapes Go.ChangeAt Go.RowKit
set_option linter.unusedVariables false
set_option linter.unusedSimpArgs false
section
variable {w0 W W' : World} {base : Nat} {rs rs' : List Rw} {bx : List Bk}
theorem rd_lt {A : Option Addr} {xs : List Value} (h : Rd W A xs) (hx : xs ≠ []) : ∀ ad, A = some ad → ad.block < W.heap.size := by
  intro ad ha
  obtain ⟨u, hu⟩ : ∃ u, xs[0]? = some u := by
    cases xs with
    | nil => exact absurd rfl hx
    | cons u _ => exact ⟨u, rfl⟩
  obtain ⟨ad2, h1, h2, _⟩ := h 0 u hu
  rw [ha] at h1
  rw [Option.some.inj h1]
  exact h2
theorem MR.rsub (h : MR w0 W base rs bx) (hs : rs'.Sublist rs) : MR w0 W base rs' bx :=
  ⟨h.pre, h.below, h.low, fun r hr => h.rows r (hs.subset hr), h.ap.sublist hs, fun b hb => ⟨(h.box b hb).1, (h.box b hb).2.1, fun r hr => (h.box b hb).2.2 r (hs.subset hr)⟩, h.nd⟩
theorem own_ty {e t : TypeId} {size n k g : Nat} {v : Value} {xs : List Value} {cs : Array Value} (h : W.ownsRow k e size v n xs) (hG : Blk W g t cs) (ht : t ≠ e) : v.ownBlock ≠ some g := by
  intro e1
  rcases h.2 with ⟨rfl, _⟩ | ⟨g2, cap2, cur2, rfl, _, hg2, _⟩
  · simp [Value.ownBlock] at e1
  · have : g2 = g := by simpa [Value.ownBlock] using e1
    subst this
    have := hG
    unfold Blk at this
    rw [hg2] at this
    injection this with this
    injection this with _ h2 _
    exact ht h2.symm
theorem own_upd_ty {e t : TypeId} {size n k g : Nat} {v : Value} {xs : List Value} {cs : Array Value} (h : W.ownsRow k e size v n xs) (hG : Blk W g t cs) (ht : t ≠ e) (hU : Upd g W W') : W'.ownsRow k e size v n xs := own_updB h hU (own_ty h hG ht)
theorem MR.join {vo ve : Value} {out : List Sec} {ev : List Evt} (h : MR w0 W base rs bx) (hb : Below W.heap.size W W') (ho : W'.ownsRow W.heap.size SecT 13 vo out.length (secs out)) (he : W'.ownsRow W.heap.size EvtT 8 ve ev.length (evts ev)) :
    MR w0 W' base (rs ++ [rwS vo out, rwE ve ev]) bx := by
  have h' := h.to hb
  refine ⟨h.pre, h'.below, h'.low, fun r hr => ?_, List.pairwise_append.2 ⟨h.ap, List.pairwise_cons.2 ⟨fun s hs k hk e2 => ?_, List.pairwise_singleton _ _⟩, fun r hr s hs k hk e2 => ?_⟩, fun b hb2 => ⟨(h'.box b hb2).1, (h'.box b hb2).2.1, fun r hr => ?_⟩, h.nd⟩
  · rcases List.mem_append.1 hr with hr | hr
    · exact h'.rows r hr
    · simp only [List.mem_cons, List.not_mem_nil, or_false] at hr
      rcases hr with rfl | rfl
      · exact (ownsAt.of ho).mono h.low
      · exact (ownsAt.of he).mono h.low
  · rw [List.mem_singleton] at hs
    subst hs
    have hk' : vo.ownBlock = some k := hk
    have e3 : ve.ownBlock = some k := e2
    rcases own_apart ho he (by decide) with q | q
    · rw [e3] at q; cases q
    · exact q (e3.trans hk'.symm)
  · have hlt := ((h.rows r hr).lt k hk).2
    simp only [List.mem_cons, List.not_mem_nil, or_false] at hs
    rcases hs with rfl | rfl
    · have := (ho.lt k e2).1; omega
    · have := (he.lt k e2).1; omega
  · rcases List.mem_append.1 hr with hr | hr
    · exact (h'.box b hb2).2.2 r hr
    · have hlt := (h.box b hb2).1.lt
      simp only [List.mem_cons, List.not_mem_nil, or_false] at hr
      rcases hr with rfl | rfl
      · intro e2; have := (ho.lt b.1 e2).1; omega
      · intro e2; have := (he.lt b.1 e2).1; omega
theorem MR.join1 {vo ve : Value} {out : List Sec} {ev : List Evt} {g : Nat} {ty : TypeId} {cs : Array Value} (h : MR w0 W base rs bx) (hb : Below W.heap.size W W') (ho : W'.ownsRow W.heap.size SecT 13 vo out.length (secs out)) (he : W'.ownsRow W.heap.size EvtT 8 ve ev.length (evts ev))
    (hG : Blk W' g ty cs) (hg : W.heap.size ≤ g) (t1 : ty ≠ SecT) (t2 : ty ≠ EvtT) : MR w0 W' base (rs ++ [rwS vo out, rwE ve ev]) ((g, ty, cs) :: bx) := by
  have h2 := h.join hb ho he
  refine ⟨h2.pre, h2.below, h2.low, h2.rows, h2.ap, fun b hb2 => ?_, List.pairwise_cons.2 ⟨fun b hb2 => ?_, h2.nd⟩⟩
  · rcases List.mem_cons.1 hb2 with rfl | hb2
    · refine ⟨hG, Nat.le_trans h.low hg, fun r hr => ?_⟩
      rcases List.mem_append.1 hr with hr | hr
      · intro e2; have := ((h.rows r hr).lt _ e2).2; dsimp only at this; omega
      · simp only [List.mem_cons, List.not_mem_nil, or_false] at hr
        rcases hr with rfl | rfl
        · exact own_ty ho hG t1
        · exact own_ty he hG t2
    · exact h2.box b hb2
  · have := (h.box b hb2).1.lt
    show g ≠ b.1
    omega
theorem MR.nob (h : MR w0 W base rs bx) : MR w0 W base rs [] := ⟨h.pre, h.below, h.low, h.rows, h.ap, by simp, .nil⟩
theorem MR.joinM (h : MR w0 W base rs bx) (k : MR W W' W.heap.size rs' []) : MR w0 W' base (rs ++ rs') bx := by
  have h' := h.to k.below
  refine ⟨h.pre, h'.below, h'.low, fun r hr => ?_, List.pairwise_append.2 ⟨h.ap, k.ap, fun r hr s hs j hj e2 => ?_⟩, fun b hb2 => ⟨(h'.box b hb2).1, (h'.box b hb2).2.1, fun r hr => ?_⟩, h.nd⟩
  · rcases List.mem_append.1 hr with hr | hr
    · exact h'.rows r hr
    · exact (k.rows r hr).mono h.low
  · have hlt := ((h.rows r hr).lt j hj).2
    have := ((k.rows s hs).lt j e2).1
    omega
  · rcases List.mem_append.1 hr with hr | hr
    · exact (h'.box b hb2).2.2 r hr
    · have hlt := (h.box b hb2).1.lt
      intro e2
      have := ((k.rows r hr).lt b.1 e2).1
      omega
theorem own_slice_of {k : Nat} {e : TypeId} {size n : Nat} {v : Value} {xs : List Value} (h : W.ownsRow k e size v n xs) : ∃ A c, v = .slice A n c := by
  obtain ⟨A, c, e, _⟩ := (ownsAt.of h).slice
  exact ⟨A, c, e⟩
end
theorem pa_New_ok (c : Cfg) (h : (newP c).2 = 0) (w : World) (HL : Laid w) : Calls Tryd.prog 8 #[.agg (cfgL c).toArray] w fun e w' => e = .returned (.tuple #[.agg (prL (begunP c)).toArray, .int .i64 0]) ∧ Below w.heap.size w w' := by
  have k := pa_New c w HL
  rw [newP_ok c h, h] at k
  exact k
theorem pa_Start_ok (c : Cfg) (hr : c.role = 0) (w : World) (HL : Laid w) : Calls Tryd.prog 25 #[.agg (prL (begunP c)).toArray, .int .i64 0] w (fun e w' => OutS w w' (askedP c) [{ sec0 with kind := 1, feat := c.feat }] 0 e) := by
  have k := pa_Start (begunP c) 0 w HL (by show (0 : Int) ≤ 0; decide) (by show (0 : Int) ≤ 60; decide)
  have e : startP (begunP c) 0 = (askedP c, [{ sec0 with kind := 1, feat := c.feat }], 0) := by
    unfold startP
    rw [if_neg]
    · rfl
    · rintro (h | h)
      · exact h hr
      · exact h rfl
  rw [e] at k
  exact k
theorem tk_answer_f (X : Tk) (v0 v1 va vl : Value) (common : Int) (w : World) (HL : Laid w) :
  Calls Tryd.prog 32 #[.agg (tkL X v0 v1 va vl).toArray, .int .i64 0, .int .i64 common] w (fun e w' => e = .returned (.int .i64 (X.answer false common)) ∧ Below w.heap.size w w') := by
 have HM := MR.start HL
 obtain ⟨base, hbs⟩ : ∃ b, w.heap.size = b := ⟨_, rfl⟩
 rw [hbs] at HM
 go_enter Tryd.func32, Tryd.ntmps32
 go_wp2_with (with_reducible refine so ?_)
 refine HM.nw (ty := 58) (cs := (tkL X v0 v1 va vl).toArray) ?_; clear HM; intro g_1 w_2 HM
 by_cases hc_7 : (X.s0.method : Int) = 2
 ·
  obtain ⟨ec_7, ec_7n, kc_7⟩ := fT hc_7; clear hc_7
  rcases hc_8 : X.h0 with _ | _
  ·
   skip
   have ld_9 := HM.b0.c 21 (.int .i64 X.s0.method)
   have ld_10 := HM.b0.c 121 (.bool X.h0)
   go_wp2_with (with_reducible refine so ?_)
   go_returns
   have q0 := kc_7.out
   have er : X.answer false common = 0 := by unfold Tk.answer Tk.side; simp [q0, hc_8]
   rw [er]; first | exact ⟨rfl, HM.below⟩ | (rw [hbs]; exact ⟨rfl, HM.below⟩)
  skip
  rcases hc_11 : X.h1 with _ | _
  ·
   skip
   have ld_12 := HM.b0.c 21 (.int .i64 X.s0.method)
   have ld_13 := HM.b0.c 121 (.bool X.h0)
   have ld_14 := HM.b0.c 122 (.bool X.h1)
   go_wp2_with (with_reducible refine so ?_)
   go_returns
   have q0 := kc_7.out
   have er : X.answer false common = 0 := by unfold Tk.answer Tk.side; simp [q0, hc_8, hc_11]
   rw [er]; first | exact ⟨rfl, HM.below⟩ | (rw [hbs]; exact ⟨rfl, HM.below⟩)
  skip
  by_cases hc_15 : (X.n0 : Int) = X.n1
  ·
   obtain ⟨ec_15, ec_15n, kc_15⟩ := fT hc_15; clear hc_15
   have ld_16 := HM.b0.c 21 (.int .i64 X.s0.method)
   have ld_17 := HM.b0.c 121 (.bool X.h0)
   have ld_18 := HM.b0.c 122 (.bool X.h1)
   have ld_19 := HM.b0.c 117 (.int .i64 X.n0)
   have ld_20 := HM.b0.c 118 (.int .i64 X.n1)
   go_wp2_with (with_reducible refine so ?_)
   go_returns
   have q0 := kc_7.out
   have q3 := kc_15.out
   have er : X.answer false common = 1 := by unfold Tk.answer Tk.side; simp [q0, hc_8, hc_11, q3]
   rw [er]; first | exact ⟨rfl, HM.below⟩ | (rw [hbs]; exact ⟨rfl, HM.below⟩)
  obtain ⟨ec_15, ec_15n, kc_15⟩ := fF hc_15; clear hc_15
  have ld_21 := HM.b0.c 21 (.int .i64 X.s0.method)
  have ld_22 := HM.b0.c 121 (.bool X.h0)
  have ld_23 := HM.b0.c 122 (.bool X.h1)
  have ld_24 := HM.b0.c 117 (.int .i64 X.n0)
  have ld_25 := HM.b0.c 118 (.int .i64 X.n1)
  go_wp2_with (with_reducible refine so ?_)
  go_returns
  have q0 := kc_7.out
  have q3 := kc_15.out
  have er : X.answer false common = 0 := by unfold Tk.answer Tk.side; simp [q0, hc_8, hc_11, q3]
  rw [er]; first | exact ⟨rfl, HM.below⟩ | (rw [hbs]; exact ⟨rfl, HM.below⟩)
 obtain ⟨ec_7, ec_7n, kc_7⟩ := fF hc_7; clear hc_7
 rcases hc_26 : X.h1 with _ | _
 ·
  skip
  have ld_27 := HM.b0.c 21 (.int .i64 X.s0.method)
  have ld_28 := HM.b0.c 122 (.bool X.h1)
  go_wp2_with (with_reducible refine so ?_)
  go_returns
  have q0 := kc_7.out
  have er : X.answer false common = common := by unfold Tk.answer Tk.side; simp [q0, hc_26]
  rw [er]; first | exact ⟨rfl, HM.below⟩ | (rw [hbs]; exact ⟨rfl, HM.below⟩)
 skip
 have ld_29 := HM.b0.c 21 (.int .i64 X.s0.method)
 have ld_30 := HM.b0.c 122 (.bool X.h1)
 have ld_31 := HM.b0.c 118 (.int .i64 X.n1)
 go_wp2_with (with_reducible refine so ?_)
 go_returns
 have q0 := kc_7.out
 have er : X.answer false common = X.n1 := by unfold Tk.answer Tk.side; simp [q0, hc_26]
 rw [er]; first | exact ⟨rfl, HM.below⟩ | (rw [hbs]; exact ⟨rfl, HM.below⟩)
theorem tk_answer_t (X : Tk) (v0 v1 va vl : Value) (common : Int) (w : World) (HL : Laid w) :
  Calls Tryd.prog 32 #[.agg (tkL X v0 v1 va vl).toArray, .int .i64 1, .int .i64 common] w (fun e w' => e = .returned (.int .i64 (X.answer true common)) ∧ Below w.heap.size w w') := by
 have HM := MR.start HL
 obtain ⟨base, hbs⟩ : ∃ b, w.heap.size = b := ⟨_, rfl⟩
 rw [hbs] at HM
 go_enter Tryd.func32, Tryd.ntmps32
 go_wp2_with (with_reducible refine so ?_)
 refine HM.nw (ty := 58) (cs := (tkL X v0 v1 va vl).toArray) ?_; clear HM; intro g_1 w_2 HM
 by_cases hc_7 : (X.s1.method : Int) = 2
 ·
  obtain ⟨ec_7, ec_7n, kc_7⟩ := fT hc_7; clear hc_7
  rcases hc_8 : X.h0 with _ | _
  ·
   skip
   have ld_9 := HM.b0.c 79 (.int .i64 X.s1.method)
   have ld_10 := HM.b0.c 121 (.bool X.h0)
   go_wp2_with (with_reducible refine so ?_)
   go_returns
   have q0 := kc_7.out
   have er : X.answer true common = 0 := by unfold Tk.answer Tk.side; simp [q0, hc_8]
   rw [er]; first | exact ⟨rfl, HM.below⟩ | (rw [hbs]; exact ⟨rfl, HM.below⟩)
  skip
  rcases hc_11 : X.h1 with _ | _
  ·
   skip
   have ld_12 := HM.b0.c 79 (.int .i64 X.s1.method)
   have ld_13 := HM.b0.c 121 (.bool X.h0)
   have ld_14 := HM.b0.c 122 (.bool X.h1)
   go_wp2_with (with_reducible refine so ?_)
   go_returns
   have q0 := kc_7.out
   have er : X.answer true common = 0 := by unfold Tk.answer Tk.side; simp [q0, hc_8, hc_11]
   rw [er]; first | exact ⟨rfl, HM.below⟩ | (rw [hbs]; exact ⟨rfl, HM.below⟩)
  skip
  by_cases hc_15 : (X.n0 : Int) = X.n1
  ·
   obtain ⟨ec_15, ec_15n, kc_15⟩ := fT hc_15; clear hc_15
   have ld_16 := HM.b0.c 79 (.int .i64 X.s1.method)
   have ld_17 := HM.b0.c 121 (.bool X.h0)
   have ld_18 := HM.b0.c 122 (.bool X.h1)
   have ld_19 := HM.b0.c 117 (.int .i64 X.n0)
   have ld_20 := HM.b0.c 118 (.int .i64 X.n1)
   go_wp2_with (with_reducible refine so ?_)
   go_returns
   have q0 := kc_7.out
   have q3 := kc_15.out
   have er : X.answer true common = 1 := by unfold Tk.answer Tk.side; simp [q0, hc_8, hc_11, q3]
   rw [er]; first | exact ⟨rfl, HM.below⟩ | (rw [hbs]; exact ⟨rfl, HM.below⟩)
  obtain ⟨ec_15, ec_15n, kc_15⟩ := fF hc_15; clear hc_15
  have ld_21 := HM.b0.c 79 (.int .i64 X.s1.method)
  have ld_22 := HM.b0.c 121 (.bool X.h0)
  have ld_23 := HM.b0.c 122 (.bool X.h1)
  have ld_24 := HM.b0.c 117 (.int .i64 X.n0)
  have ld_25 := HM.b0.c 118 (.int .i64 X.n1)
  go_wp2_with (with_reducible refine so ?_)
  go_returns
  have q0 := kc_7.out
  have q3 := kc_15.out
  have er : X.answer true common = 0 := by unfold Tk.answer Tk.side; simp [q0, hc_8, hc_11, q3]
  rw [er]; first | exact ⟨rfl, HM.below⟩ | (rw [hbs]; exact ⟨rfl, HM.below⟩)
 obtain ⟨ec_7, ec_7n, kc_7⟩ := fF hc_7; clear hc_7
 rcases hc_26 : X.h0 with _ | _
 ·
  skip
  have ld_27 := HM.b0.c 79 (.int .i64 X.s1.method)
  have ld_28 := HM.b0.c 121 (.bool X.h0)
  go_wp2_with (with_reducible refine so ?_)
  go_returns
  have q0 := kc_7.out
  have er : X.answer true common = common := by unfold Tk.answer Tk.side; simp [q0, hc_26]
  rw [er]; first | exact ⟨rfl, HM.below⟩ | (rw [hbs]; exact ⟨rfl, HM.below⟩)
 skip
 have ld_29 := HM.b0.c 79 (.int .i64 X.s1.method)
 have ld_30 := HM.b0.c 121 (.bool X.h0)
 have ld_31 := HM.b0.c 117 (.int .i64 X.n0)
 go_wp2_with (with_reducible refine so ?_)
 go_returns
 have q0 := kc_7.out
 have er : X.answer true common = X.n0 := by unfold Tk.answer Tk.side; simp [q0, hc_26]
 rw [er]; first | exact ⟨rfl, HM.below⟩ | (rw [hbs]; exact ⟨rfl, HM.below⟩)
end Go.Proofs.YtihmbcnccdiecaaDoor
