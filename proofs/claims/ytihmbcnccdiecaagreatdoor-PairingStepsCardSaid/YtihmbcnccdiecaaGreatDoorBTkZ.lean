/- Part of the proofs of the laws of pairing. -/
import Derived.Test.YtihmbcnccdiecaaGreatDoorBTkY
namespace Go.Proofs.YtihmbcnccdiecaaGreatDoor
set_option maxRecDepth 100000
set_option linter.unusedVariables false
set_option linter.unusedSimpArgs false
open Go.ChangeShapes Go.WideShapes Go.ChangeAt Go.RowKit
section
variable {w0 W W' : World} {base : Nat} {rs : List Rw} {bx : List Bk}
theorem MR.r2 {a b r : Rw} (h : MR w0 W base (a :: b :: r :: rs) bx) : aZ W base r.e r.size r.v r.n r.xs := h.rows r (by simp)
theorem MR.r3 {a b c r : Rw} (h : MR w0 W base (a :: b :: c :: r :: rs) bx) : aZ W base r.e r.size r.v r.n r.xs := h.rows r (by simp)
theorem MR.pop2 {a b c d x y : Rw} (h : MR w0 W base [a, b, c, d, x, y] bx) : MR w0 W base [a, b, c, d] bx := h.rsub (List.sublist_append_left [a, b, c, d] [x, y])
theorem aZ.head {e : TypeId} {size n c : Nat} {A : Option Addr} {x xs : List Value} (h : aZ W base e size (.slice A n c) n (x ++ xs)) (hx : 0 < x.length) : ∃ b off, A = some ⟨b, off, none⟩ ∧ Rg b off x W := by
  rcases h.2 with ⟨_, q2⟩ | ⟨g, off, cap, cur, q1, q2, q3, q4, q5, q6, q7⟩
  · have := h.1
    rw [q2, List.length_append] at this
    omega
  · injection q1 with q1 _ _
    refine ⟨g, off, q1, (Array.getElem?_eq_some_iff.1 q3).1, fun j u hu => ?_⟩
    have hr := h.rd
    have hj : (x ++ xs)[j]? = some u := by
      rw [List.getElem?_append_left (List.getElem?_eq_some_iff.1 hu).1]
      exact hu
    obtain ⟨ad, e1, _, e3⟩ := hr j u hj
    rw [q1] at e1
    rw [← Option.some.inj e1, Addr.add_lit] at e3
    exact e3
theorem eQ {P : Program} {o : Oper} {a : Act} {w w' : World} {ty : TypeId} {x y : Operand} {ad : Addr} {v : Value} {K : Act → World → Prop} {Q : Exit → Act → World → Prop} (hop : o.op = .store ty x y)
    (hx : a.eval x = .pointer (some ad)) (hy : a.eval y = v) (hrun : (storeVar ty ad v).run P w = .ok () w') (h : K (a.put o.dst undef) w') : Oper.wp P o a w K Q := by
  unfold Oper.wp execOp
  simp only [hop, hx, hy, Instr.storeAt, Instr.sureAddr, Sem.run_bind, Sem.run_pure, Result.andThen_ok, hrun]
  exact h
theorem dJ (h0 g n : Nat) (ty : TypeId) : aO fun W => h0 ≤ g ∧ ∃ cs, cs.size = n ∧ Blk W g ty cs := fun W W' h hb => ⟨h.1, h.2.elim fun cs k => ⟨cs, k.1, k.2.to hb k.2.lt⟩⟩
theorem EQ {cs : Array Value} {vs : List Value} (h : cs.size = vs.length) : jR cs 0 vs = vs.toArray := by
  unfold jR
  rw [List.drop_eq_nil_of_le (by simp [h])]
  simp
theorem dW {P : Program} {g : Nat} {ty t : TypeId} {cs : Array Value} {vs : List Value} (hG : Blk W g t cs) (hc : cs.size = vs.length) (hi : (P.info? ty).map (·.size) = some vs.toArray.size) (h1 : vs.all (·.oneCell') = true) :
    ∃ w', (storeVar ty ⟨g, 0, none⟩ (.agg vs.toArray)).run P W = .ok () w' ∧ Blk w' g t vs.toArray ∧ Upd g W w' := by
  obtain ⟨w', h2, h3, h4⟩ := lD (P := P) (o := 0) hG hi (by rw [← Array.all_toList]; exact h1) (by simp; omega)
  exact ⟨w', h2, by rw [← EQ hc]; exact h3, h4⟩
theorem MR.popL {c : Bool} {d : Sec} {rest : List (Bool × Sec)} {A : Option Addr} {m : Nat} (h : MR w0 W base (rwL (.slice A (rest.length + 1) m) ((c, d) :: rest) :: rs) bx) :
    MR w0 W base (rwL (.slice (if m = 1 then A else A.map (·.add 13)) rest.length (m - 1)) rest :: rs) bx := by
  have h0 : aZ W base dE 13 (.slice A (rest.length + 1) m) (rest.length + 1) (aI d ++ dG (rest.map Prod.snd)) := h.row0
  have h1 := h0.tail rfl
  exact h.rset (r' := rwL (.slice (if m = 1 then A else A.map (·.add 13)) rest.length (m - 1)) rest) h1.1 h1.2
theorem MR.popA {c : Bool} {d : Sec} {rest : List (Bool × Sec)} {r0 : Rw} {B : Option Addr} {n : Nat} (h : MR w0 W base (r0 :: rwA (.slice B (rest.length + 1) n) ((c, d) :: rest) :: rs) bx) :
    MR w0 W base (r0 :: rwA (.slice (if n = 1 then B else B.map (·.add 1)) rest.length (n - 1)) rest :: rs) bx := by
  have h0 : aZ W base 3 1 (.slice B (rest.length + 1) n) (rest.length + 1) ([.int .i64 (pA c)] ++ rest.map fun e => .int .i64 (pA e.1)) := h.rswap.row0
  have h1 := h0.tail rfl
  exact (h.rswap.rset (r' := rwA (.slice (if n = 1 then B else B.map (·.add 1)) rest.length (n - 1)) rest) h1.1 h1.2).rswap
theorem MR.headL {c : Bool} {d : Sec} {rest : List (Bool × Sec)} {A : Option Addr} {m : Nat} (h : MR w0 W base (rwL (.slice A (rest.length + 1) m) ((c, d) :: rest) :: rs) bx) : ∃ b off, A = some ⟨b, off, none⟩ ∧ Rg b off (aI d) W := by
  have h0 : aZ W base dE 13 (.slice A (rest.length + 1) m) (rest.length + 1) (aI d ++ dG (rest.map Prod.snd)) := h.row0
  exact h0.head (by rw [mA]; decide)
theorem MR.headA {c : Bool} {d : Sec} {rest : List (Bool × Sec)} {r0 : Rw} {B : Option Addr} {n : Nat} (h : MR w0 W base (r0 :: rwA (.slice B (rest.length + 1) n) ((c, d) :: rest) :: rs) bx) : ∃ b off, B = some ⟨b, off, none⟩ ∧ Rg b off [.int .i64 (pA c)] W := by
  have h0 : aZ W base 3 1 (.slice B (rest.length + 1) n) (rest.length + 1) ([.int .i64 (pA c)] ++ rest.map fun e => .int .i64 (pA e.1)) := h.rswap.row0
  exact h0.head Nat.zero_lt_one
section
variable {ops : Array Oper} {rest : List Oper} {dst : Option Tmp} {t tt : TypeId} {x y : Operand} {pos : String} {after : Array Edge} {a : Act} {Q : Exit → Act → World → Prop} {A : Option Addr} {n c size : Nat} {P : Program}
theorem kU (hx : a.eval x = .slice A (n + 1) c) (hy : a.eval y = .int .i64 1) (ht : P.underlying t = some (.slice (P.elem t))) (hs : ∀ W, (sizeOf (P.elem t)).run P W = .ok size W)
    (h : ∀ A' c', (if c = 1 then A else A.map (·.add size)) = A' → c - 1 = c' → wpList P ops Q rest (a.put dst (.slice A' n c')) W) :
    wpList P ops Q ({ dst := dst, op := .slice t x (some y) none none, type := tt, pos := pos, after := after, guard := none } :: rest) a W := by
  refine wpList_plain rfl fun K hK => ?_
  unfold Oper.wp execOp
  simp only [hx, hy, Option.map_some, Option.map_none, Sem.run_bind, run_sliceAt_slice W t _ _ _ _ ht, run_slice_l W t A (n + 1) c ht .i64 1 (by decide) (by omega), hs, Result.andThen_ok, Sem.run_pure, sliced]
  have e := hK _ _ (h _ _ rfl rfl)
  simpa [Oper.upon] using e
end
theorem mF (p : Pr) (d : Sec) (n : Int) (s : Stp) (hs : bN p d n = s) (hi : Inv p) (w : World) (HL : bW w) : Calls Tryz.prog 26 #[.agg (prL p).toArray, .agg (aI d).toArray, .int .i64 n] w (fun e w' => jF w w' s.p s.out s.ev e) := by
  have h := uX p d n w HL hi.round.1 (by have := hi.round.2; omega)
  rw [kH _ _ _ hi, hs] at h
  exact h
theorem lP (p : Pr) (a n : Int) (s : Stp) (hs : bZ p a n = s) (hi : Inv p) (w : World) (HL : bW w) : Calls Tryz.prog 27 #[.agg (prL p).toArray, .int .i64 a, .int .i64 n] w (fun e w' => jF w w' s.p s.out s.ev e) := by
  have h := C9 p a n w HL hi.round.1 (by have := hi.round.2; omega)
  rw [oK, hs] at h
  exact h
theorem DF (p : Pr) (n : Int) (s : Stp) (hs : dX p n = s) (hi : Inv p) (w : World) (HL : bW w) : Calls Tryz.prog 28 #[.agg (prL p).toArray, .int .i64 n] w (fun e w' => jF w w' s.p s.out s.ev e) := by
  have h := qH p n w HL hi.round.1 (by have := hi.round.2; omega)
  rw [rI, hs] at h
  exact h
end
theorem BA {k : Nat} (hk : k ≤ 400) (L : List (Bool × Sec)) : (k < 400 ∧ ∃ d rest, L = (false, d) :: rest) ∨ (k < 400 ∧ ∃ d rest, L = (true, d) :: rest) ∨ (k < 400 ∧ L = []) ∨ k = 400 := by
  rcases Nat.lt_or_ge k 400 with h | h
  · rcases L with _ | ⟨⟨b, d⟩, rest⟩
    · exact .inr (.inr (.inl ⟨h, rfl⟩))
    · cases b
      · exact .inl ⟨h, d, rest, rfl⟩
      · exact .inr (.inl ⟨h, d, rest, rfl⟩)
  · exact .inr (.inr (.inr (by omega)))
theorem I7 {l : List Chg} (h : l ≠ []) : l.flatMap ID ≠ [] := by
  cases l with
  | nil => exact absurd rfl h
  | cons c l => simp [ID]
set_option maxHeartbeats 16000000 in
theorem BH (a b : Cfg) (l : List Chg) (Ac : Option Addr) (cc : Nat) (common : Int) (w : World) (HL : bW w) (hC : Rd w Ac (l.flatMap ID)) (b7 : l.length ≤ 1000) (hl0 : l = []) (na0 : (cP a).2 = 0) (nb0 : (cP b).2 = 0) (ra0 : a.role = 0) (rb0 : b.role = 1) :
  Calls Tryz.prog 24 #[.agg (cT a).toArray, .agg (cT b).toArray, .slice Ac l.length cc, .int .i64 common] w (fun e w' => ∃ (A0 : Option Addr) (c0 : Nat) (A1 : Option Addr) (c1 : Nat) (va vl : Value), e = .returned (.agg (tkL (iU a b l common) (.slice A0 (iU a b l common).g0.length c0) (.slice A1 (iU a b l common).g1.length c1) va vl).toArray) ∧ va.oneCell' = true ∧ vl.oneCell' = true ∧ MR w w' w.heap.size [rwE (.slice A0 (iU a b l common).g0.length c0) (iU a b l common).g0, rwE (.slice A1 (iU a b l common).g1.length c1) (iU a b l common).g1] []) := by
 have HM : MR w w w.heap.size [rwL (.slice none 0 0) [], rwA (.slice none 0 0) [], rwE (.slice none 0 0) [], rwE (.slice none 0 0) []] [] := ((((MR.start HL).rnil dK 8).rnil dK 8).rnil 3 1).rnil dE 13
 have HLT : l ≠ [] → ∀ ad, Ac = some ad → ad.block < w.heap.size := fun hl ad ha => GZ hC (I7 hl) ad ha
 obtain ⟨base, hbs⟩ : ∃ b, w.heap.size = b := ⟨_, rfl⟩
 rw [hbs] at HM HLT
 have HCC := Lib.hid (fun (W : World) (hb : Below base w W) => Rd.to hC (by rw [hbs]; exact hb))
 have HLB := Lib.hid HLT
 have HL0 := Lib.hid hl0
 have hbs1 := Lib.hid hbs
 have na := Lib.hid na0
 have nb := Lib.hid nb0
 have ra := Lib.hid ra0
 have rb := Lib.hid rb0
 have era : ((a.role : Int) == 0) = true := by rw [ra0]; rfl
 have eran : ((a.role : Int) != 0) = false := by rw [ra0]; rfl
 have erb : ((b.role : Int) == 1) = true := by rw [rb0]; rfl
 have erbn : ((b.role : Int) != 1) = false := by rw [rb0]; rfl
 have HSM0 := Lib.hid (show Sm ((tk0.put_ok true).put_s1 (aY b)) 0 from ⟨Int.le_refl 0, Int.le_refl 0, Nat.le_refl 0, Nat.le_refl 0, Nat.le_refl 0⟩)
 have HLN0 := Lib.hid (show Ln ⟨gW a, [{ cL with kind := 1, feat := a.feat }], []⟩ 2 1 from ⟨by simp, by simp⟩)
 clear na0 nb0 ra0 rb0 hC HL hbs HLT hl0
 go_enter Tryz.func24, Tryz.ntmps24
 go_wp2_with (with_reducible refine sc ?_)
 refine HM.nw (ty := 34) (cs := (cT a).toArray) ?_; clear HM; intro g_1 w_2 HM
 go_wp2_with (with_reducible refine sc ?_)
 refine HM.nw (ty := 34) (cs := (cT b).toArray) ?_; clear HM; intro g_7 w_8 HM
 go_wp2_with (with_reducible refine sc ?_)
 refine HM.nw (ty := 70) (cs := (tkL tk0 (.slice none 0 0) (.slice none 0 0) (.slice none 0 0) (.slice none 0 0)).toArray) ?_; clear HM; intro g_13 w_14 HM
 go_wp2_with (with_reducible refine sc ?_)
 refine HM.nw (ty := 70) (cs := (tkL tk0 (.slice none 0 0) (.slice none 0 0) (.slice none 0 0) (.slice none 0 0)).toArray) ?_; clear HM; intro g_19 w_20 HM
 go_wp2_with (first | (with_reducible refine sc ?_) | (with_reducible refine ld 0 (cT a) HM.b3 Tryz.underlying34 ?_))
 refine (oJ a na.out _ HM.laid).mono ?_; rintro e w_26 ⟨rfl, hb_27⟩
 replace HM := HM.to hb_27
 clear hb_27
 go_wp2_with (with_reducible refine sc ?_)
 refine HM.nw (ty := 37) (cs := (prL pr0).toArray) ?_; clear HM; intro g_28 w_29 HM
 go_wp2_with (with_reducible refine sc ?_)
 refine sv (prL (aY a)).toArray HM.b0 ?_
 intro w_34 G_36 hU_35
 replace HM := HM.s0 hU_35 G_36
 clear hU_35 G_36
 go_wp2_with (first | (with_reducible refine sc ?_) | (with_reducible refine ld 0 (cT b) HM.b3 Tryz.underlying34 ?_))
 refine (oJ b nb.out _ HM.laid).mono ?_; rintro e w_38 ⟨rfl, hb_39⟩
 replace HM := HM.to hb_39
 clear hb_39
 go_wp2_with (with_reducible refine sc ?_)
 refine HM.nw (ty := 37) (cs := (prL pr0).toArray) ?_; clear HM; intro g_40 w_41 HM
 go_wp2_with (with_reducible refine sc ?_)
 refine sv (prL (aY b)).toArray HM.b0 ?_
 intro w_46 G_48 hU_47
 replace HM := HM.s0 hU_47 G_48
 clear hU_47 G_48
 have ld_49 := HM.b5.c 0 (.int .i64 a.role)
 have ld_50 := HM.b4.c 0 (.int .i64 b.role)
 go_wp2_with (with_reducible refine sc ?_)
 refine sx 116 (.bool true) (tkL ((tk0.put_ok true)) (.slice none 0 0) (.slice none 0 0) (.slice none 0 0) (.slice none 0 0)).toArray HM.b2 ?_
 intro w_51 G_53 hU_52
 clear ld_49 ld_50
 replace HM := HM.s2 hU_52 G_53
 clear hU_52 G_53
 go_wp2_with (first | (with_reducible refine sc ?_) | (with_reducible refine ld 0 (prL (aY b)) HM.b0 Tryz.underlying37 ?_))
 refine sw 58 (prL (((tk0.put_ok true).put_s1 ((aY b)))).s1).toArray (tkL (((tk0.put_ok true).put_s1 ((aY b)))) (.slice none 0 0) (.slice none 0 0) (.slice none 0 0) (.slice none 0 0)).toArray HM.b2 ?_
 intro w_55 G_57 hU_56
 replace HM := HM.s2 hU_56 G_57
 clear hU_56 G_57
 go_wp2_with (first | (with_reducible refine sc ?_) | (with_reducible refine ld 0 (prL (aY a)) HM.b1 Tryz.underlying37 ?_))
 refine (xY a ra.out _ HM.laid).mono ?_; rintro e w_61 ⟨vo, rfl, hb_62, ho⟩
 obtain ⟨A_58, c_59, rfl⟩ := aM ho
 replace HM := HM.join hb_62 ho (ev := []) (World.ownsRow_nil _ _ _ _); clear hb_62 ho
 dsimp only [List.cons_append, List.nil_append] at HM
 go_wp2_with (with_reducible refine sc ?_)
 refine sv (prL (gW a)).toArray HM.b1 ?_
 intro w_63 G_65 hU_64
 replace HM := HM.s1 hU_64 G_65
 clear hU_64 G_65
 go_wp2_with (first | (with_reducible refine sc ?_) | (with_reducible refine ld 0 (tkL (((tk0.put_ok true).put_s1 ((aY b)))) (.slice none 0 0) (.slice none 0 0) (.slice none 0 0) (.slice none 0 0)) HM.b2 Tryz.underlying70 ?_) | (with_reducible refine ld 0 (prL (gW a)) HM.b1 Tryz.underlying37 ?_))
 refine (oQ (((tk0.put_ok true).put_s1 ((aY b)))) ((gW a)) ([{ cL with kind := 1, feat := a.feat }]) ([]) l none 0 none 0 none 0 none 0 A_58 c_59 none 0 Ac cc base _ _ HM.here (HCC.out _ HM.below) HLB.out HL0.out (by have h := HSM0.out.s0; exact h) (by have h := HSM0.out.s1; omega) (by have h := HSM0.out.ln; omega) (by have h := HSM0.out.g0; omega) (by have h := HSM0.out.g1; omega) (by have h := HLN0.out.1; exact Nat.le_trans h (by decide)) (by have h := HLN0.out.2; exact Nat.le_trans h (by decide)) b7).mono ?_; rintro e w_77 ⟨A_66, c_67, A_68, c_69, A_70, c_71, A_72, c_73, rfl, hb_78⟩
 replace HM := (HM.trans hb_78).pop2; clear hb_78
 generalize hY : cZ (((tk0.put_ok true).put_s1 ((aY b)))) false ((gW a)) ([{ cL with kind := 1, feat := a.feat }]) ([]) l = Y_74 at HM ⊢
 have hY_74 := Lib.hid hY; clear hY
 have hrun0 := Lib.hid (show nM a b l = Y_74 from hY_74.out)
 go_wp2_with (with_reducible refine sc ?_)
 refine sv (tkL Y_74 (.slice A_66 Y_74.g0.length c_67) (.slice A_68 Y_74.g1.length c_69) (.slice A_70 Y_74.line.length c_71) (.slice A_72 Y_74.line.length c_73)).toArray HM.b2 ?_
 intro w_79 G_81 hU_80
 replace HM := HM.s2 hU_80 G_81
 clear hU_80 G_81
 go_wp2_with (with_reducible refine sc ?_)
 try simp only [nrm]
 go_loopw [16] (fun i wr => ∃ (k : Nat) (Y : Tk) (A0 : Option Addr) (c0 : Nat) (A1 : Option Addr) (c1 : Nat) (Aa : Option Addr) (ca : Nat) (Al : Option Addr) (cl : Nat), k ≤ 400 ∧ i = .int .i64 k ∧ mZ l common (nM a b l) k Y ∧ oU Y ∧ Sm Y (2 + 4 * k) ∧ MR w wr base ([rwL (.slice Al Y.line.length cl) Y.line, rwA (.slice Aa Y.line.length ca) Y.line, rwE (.slice A0 Y.g0.length c0) Y.g0, rwE (.slice A1 Y.g1.length c1) Y.g1]) ((g_40, 37, (prL (aY b)).toArray) :: (g_28, 37, (prL (gW a)).toArray) :: (g_19, 70, (tkL Y (.slice A0 Y.g0.length c0) (.slice A1 Y.g1.length c1) (.slice Aa Y.line.length ca) (.slice Al Y.line.length cl)).toArray) :: (g_13, 70, (tkL tk0 (.slice none 0 0) (.slice none 0 0) (.slice none 0 0) (.slice none 0 0)).toArray) :: (g_7, 34, (cT b).toArray) :: (g_1, 34, (cT a).toArray) :: [])) (fun i _ => 400 - (intOf i).toNat)
 case atStart => exact ⟨0, Y_74, A_66, c_67, A_68, c_69, A_70, c_71, A_72, c_73, Nat.zero_le _, rfl, by rw [← hrun0.out]; exact FV _ _ _, by rw [← hrun0.out]; exact EK l na.out nb.out ra.out, by rw [← hrun0.out]; exact yX a b, HM⟩
 case round =>
  clear HM 
  obtain ⟨k, Y, A0, c0, A1, c1, Aa, ca, Al, cl, hk0, rfl, hR, hI, hSm, HM⟩ := hrel
  have HR := Lib.hid hR; have HI := Lib.hid hI; have HS := Lib.hid hSm; clear hR hI hSm
  rcases BA hk0 Y.line with ⟨hk, d, rest, hl⟩ | ⟨hk, d, rest, hl⟩ | ⟨hk, hl⟩ | hk
  ·
   have i1 : decide ((k : Int) < 400) = true := by simp <;> omega
   have i2 : decide (k < 400) = true := decide_eq_true hk
   obtain ⟨SS, hs9⟩ : ∃ z, bN Y.s0 d (k : Int) = z := ⟨_, rfl⟩
   have hSS := Lib.hid hs9
   have HLN := Lib.hid (show Ln SS 2 1 by rw [← hs9]; exact uU _ _ _)
   clear hs9
   rw [hl] at HM
   dsimp only [List.length_cons] at HM
   have HL2 := Lib.hid hl
   clear hl
   obtain ⟨bl, ol, rfl, HLr⟩ := HM.headL
   obtain ⟨ba, oa, rfl, HAr0⟩ := HM.headA
   have HAr : Rg ba oa [.int .i64 0] wr := HAr0
   clear HAr0
   have HSX := Lib.hid (show Sm (Y.put_line rest) (2 + 4 * k) from ⟨HS.out.s0, HS.out.s1, by have h := HS.out.ln; rw [HL2.out] at h; rw [List.length_cons] at h; show rest.length ≤ _; omega, HS.out.g0, HS.out.g1⟩)
   have i4 : decide ((0 : Int) < (rest.length : Int) + 1) = true := by simp <;> omega
   have i5 : decide (0 < rest.length + 1) = true := by simp
   have i6 : decide ((0 : Int) < ((rest.length + 1 : Nat) : Int)) = true := by simp <;> omega
   have ld_82 := HM.b2.c 127 (.slice ((some ⟨bl, ol, none⟩)) (rest.length + 1) cl)
   go_wp2_with (with_reducible refine sc ?_)
   clear ld_82
   try simp only [nrm]
   have hst : aO fun W => Below wr.heap.size wr W := aJ _ _ (Nat.le_refl _)
   refine aD (fun W => Below wr.heap.size wr W) 11 hst (Below.refl _ _).drew ?_
   refine aA 0 hst ?_
   refine bS 1 (.slice ((some ⟨ba, oa, none⟩)) (rest.length + 1) ca) hst (fun W hS => (HM.to hS).b2.cell 126) ?_
   refine aA 2 hst ?_
   refine bH (v := ?_) 3 hst (fun _ h => h) rfl ?_ ?_; rotate_left; (intro W hS K hK; have ld : W.cell? ⟨ba, oa, none⟩ = some (.int .i64 0) := (Rg.to HAr hS).2 0 _ rfl; clear hS; go_simp; exact hK.out _ (Below.refl _ _)); simp only [nrm]
   refine aA 4 hst ?_
   refine bS 5 (.slice ((some ⟨bl, ol, none⟩)) (rest.length + 1) cl) hst (fun W hS => (HM.to hS).b2.cell 127) ?_
   refine aA 6 hst ?_
   refine bH (v := .agg (aI d).toArray) 7 hst (fun _ h => h) rfl (fun W hS K hK => aL rfl rfl (run_loadVar_mid W bl (ol) 43 (aI d) _ (eP (Rg.to HLr hS).2 0 (aI d) rfl) Tryz.underlying43 rfl (by kernel_rfl)) (hK.out _ (Below.refl _ _))) ?_; simp only [nrm]
   refine eK 8 rfl (fun W hS K hK => ?_)
   rw [if_pos (show Region.wanted _ _ = true from rfl)]
   refine dZ (ty := 43) (cs := (aI cL).toArray) (fun g => .pointer (some ⟨g, 0, none⟩)) (by kernel_rfl) (fun g_83 W2 z l hb G => ?_)
   have hst2 : aO fun W => Below wr.heap.size wr W ∧ ∃ cs, cs.size = 13 ∧ Blk W g_83 43 cs := fun W W' h hb => ⟨hst W W' h.1 hb, let ⟨cs, h1, h2⟩ := h.2; ⟨cs, h1, h2.to hb h2.lt⟩⟩
   have hg : wr.heap.size ≤ g_83 := Nat.le_trans hS.size l
   refine hK.out _ _ _ _ (fun _ h => h.1) hst2 (fun _ h => h) ⟨hS.trans (hb.mono hS.size), _, rfl, G⟩ ?_
   clear hK K hb l z G hS hst
   have hst := hst2; clear hst2
   try simp only [nrm]
   refine aA 9 hst ?_
   refine eK 10 rfl (fun W hS K hK => ?_)
   rw [if_pos (show Region.wanted _ _ = true from rfl)]
   obtain ⟨hS1, cs, hcs, hG⟩ := hS
   obtain ⟨W2, hrun, hG2, hU⟩ := dW (P := Tryz.prog) (ty := 43) (vs := aI d) hG hcs (by kernel_rfl) rfl
   refine eQ rfl rfl rfl hrun ?_
   refine hK.out _ (fun W => Below wr.heap.size wr W ∧ Blk W g_83 43 (aI d).toArray) _ _ (fun W h => ⟨h.1, _, rfl, h.2⟩) (aB (aJ _ _ (Nat.le_refl _)) (aW _ _ _)) (fun _ h => h) ⟨hU.below hS1 hg, hG2⟩ ?_
   clear hK K hrun hG2 hU hG hcs cs hS1 hst; have hst : aO fun W => Below wr.heap.size wr W ∧ Blk W g_83 43 (aI d).toArray := aB (aJ _ _ (Nat.le_refl _)) (aW _ _ _); try simp only [nrm]
   refine aE (fun w_84 hS => ?_)
   replace HM := HM.alloc hg hS.1 hS.2; clear hS hg hst
   have ld_85 := HM.b3.c 126 (.slice ((some ⟨ba, oa, none⟩)) (rest.length + 1) ca)
   go_wp2_with (with_reducible refine sc ?_)
   unfold bA
   refine kU (size := 1) rfl rfl (by kernel_rfl) (fun W => by kernel_rfl) (fun A_86 c_87 hA_88 hc_89 => ?_)
   clear ld_85
   replace HM := HM.popA; rw [hA_88, hc_89] at HM; clear hA_88 hc_89
   go_wp2_with (with_reducible refine sc ?_)
   refine sx 126 (.slice A_86 rest.length c_87) (tkL Y (.slice A0 Y.g0.length c0) (.slice A1 Y.g1.length c1) (.slice A_86 rest.length c_87) (.slice ((some ⟨bl, ol, none⟩)) (rest.length + 1) cl)).toArray HM.b3 ?_
   intro w_90 G_92 hU_91
   replace HM := HM.s3 hU_91 G_92
   clear hU_91 G_92
   have ld_93 := HM.b3.c 127 (.slice ((some ⟨bl, ol, none⟩)) (rest.length + 1) cl)
   go_wp2_with (with_reducible refine sc ?_)
   unfold bA
   refine kU (size := 13) rfl rfl (by kernel_rfl) (fun W => by kernel_rfl) (fun A_94 c_95 hA_96 hc_97 => ?_)
   clear ld_93
   replace HM := HM.popL; rw [hA_96, hc_97] at HM; clear hA_96 hc_97
   go_wp2_with (with_reducible refine sc ?_)
   refine sx 127 (.slice A_94 rest.length c_95) (tkL ((Y.put_line rest)) (.slice A0 Y.g0.length c0) (.slice A1 Y.g1.length c1) (.slice A_86 rest.length c_87) (.slice A_94 rest.length c_95)).toArray HM.b3 ?_
   intro w_98 G_100 hU_99
   replace HM := HM.s3 hU_99 G_100
   clear hU_99 G_100
   clear HLr HAr
   go_wp2_with (with_reducible refine sc ?_)
   try simp only [nrm]
   go_cut [19, 20, 21] from 187 (fun v19 v20 v21 WX => ∃ (g_101 : Nat) (A_102 : Option Addr) (c_103 : Nat) (A_104 : Option Addr) (c_105 : Nat), v19 = .pointer (some ⟨g_101, 0, none⟩) ∧ v20 = .slice A_102 SS.out.length c_103 ∧ v21 = .slice A_104 SS.ev.length c_105 ∧ MR w WX base ([rwL (.slice A_94 rest.length c_95) rest, rwA (.slice A_86 rest.length c_87) rest, rwE (.slice A0 Y.g0.length c0) Y.g0, rwE (.slice A1 Y.g1.length c1) Y.g1, rwS (.slice A_102 SS.out.length c_103) SS.out, rwE (.slice A_104 SS.ev.length c_105) SS.ev]) ((g_101, 37, (prL SS.p).toArray) :: (g_83, 43, (aI d).toArray) :: (g_40, 37, (prL (aY b)).toArray) :: (g_28, 37, (prL (gW a)).toArray) :: (g_19, 70, (tkL ((Y.put_line rest)) (.slice A0 Y.g0.length c0) (.slice A1 Y.g1.length c1) (.slice A_86 rest.length c_87) (.slice A_94 rest.length c_95)).toArray) :: (g_13, 70, (tkL tk0 (.slice none 0 0) (.slice none 0 0) (.slice none 0 0) (.slice none 0 0)).toArray) :: (g_7, 34, (cT b).toArray) :: (g_1, 34, (cT a).toArray) :: []))
   case first =>
    go_wp2_with (with_reducible refine sc ?_)
    try simp only [nrm]
    have hst : aO fun W => Below w_98.heap.size w_98 W := aJ _ _ (Nat.le_refl _)
    refine aD (fun W => Below w_98.heap.size w_98 W) 15 hst (Below.refl _ _).drew ?_
    refine aA 0 hst ?_
    refine aA 1 hst ?_
    refine aA 2 hst ?_
    refine dA 3 0 (prL Y.s0) (fun W hS => (HM.to hS).b3) Tryz.underlying37 hst ?_
    refine dA 4 0 (aI d) (fun W hS => (HM.to hS).b0) Tryz.underlying43 hst ?_
    refine aA 5 hst ?_
    refine mE 6 11 hst rfl rfl ?_ ?_
    ·
     intro W hS K hK
     go_simp; refine (mF Y.s0 d (k : Int) SS hSS.out (HI.out false) W (HM.to hS).laid).mono ?_; rintro e w9 ⟨vo, ve, rfl, hb, ho, he⟩; obtain ⟨A1, c1, rfl⟩ := aM ho; obtain ⟨A2, c2, rfl⟩ := aM he
     refine hK.out (fun W => W.ownsRow w_98.heap.size dE 13 (.slice A1 SS.out.length c1) SS.out.length (dG SS.out) ∧ W.ownsRow w_98.heap.size dK 8 (.slice A2 SS.ev.length c2) SS.ev.length (dC SS.ev)) _ _ (aB (aK _ _ _ _ _ _) (aK _ _ _ _ _ _)) hb ⟨dH ho hS.size, dH he hS.size⟩ (fun hst => ?_)
     clear hK K hb ho he
     try simp only [nrm]
     clear hS
     refine aA 7 hst ?_
     refine aA 8 hst ?_
     refine aA 9 hst ?_
     refine aA 10 hst ?_
     refine eH 11 hst rfl ?_; intro W hS K hK
     have hg : w_98.heap.size ≤ w_98.heap.size := Nat.le_refl _; clear hg
     rw [if_pos (show Region.wanted _ _ = true from rfl)]
     refine dZ (ty := 37) (cs := (prL pr0).toArray) (fun g => .pointer (some ⟨g, 0, none⟩)) (by kernel_rfl) (fun gg W2 z lg hb G => ?_)
     refine hK.out (fun W => w_98.heap.size ≤ gg ∧ ∃ cs, cs.size = 58 ∧ Blk W gg 37 cs) _ _ (dJ _ _ _ _) hb ⟨Nat.le_trans hS.1.size lg, _, rfl, G⟩ (fun hst => ?_)
     clear hK K hb lg z G
     try simp only [nrm]
     clear hS
     refine eK 12 rfl (fun W hS K hK => ?_)
     rw [if_pos (show Region.wanted _ _ = true from rfl)]
     obtain ⟨⟨hS1, ho, he⟩, hg, cs, hcs, hG⟩ := hS
     obtain ⟨W2, hrun, hG2, hU⟩ := dW (P := Tryz.prog) (ty := 37) (vs := prL SS.p) hG hcs (by kernel_rfl) rfl
     refine eQ rfl rfl rfl hrun ?_
     refine hK.out _ (fun W => Below w_98.heap.size w_98 W ∧ (W.ownsRow w_98.heap.size dE 13 (.slice A1 SS.out.length c1) SS.out.length (dG SS.out) ∧ W.ownsRow w_98.heap.size dK 8 (.slice A2 SS.ev.length c2) SS.ev.length (dC SS.ev)) ∧ w_98.heap.size ≤ gg ∧ Blk W gg 37 (prL SS.p).toArray) _ _ (fun W h => ⟨⟨h.1, h.2.1⟩, h.2.2.1, _, rfl, h.2.2.2⟩) (aB (aJ _ _ (Nat.le_refl _)) (aB (aB (aK _ _ _ _ _ _) (aK _ _ _ _ _ _)) (aB (bJ _) (aW _ _ _)))) (fun _ h => h) ⟨hU.below hS1 hg, ⟨cR ho hG (by decide) hU, cR he hG (by decide) hU⟩, hg, hG2⟩ ?_
     clear hK K hrun hG2 hU hG hcs cs hS1 ho he hst; have hst : aO fun W => Below w_98.heap.size w_98 W ∧ (W.ownsRow w_98.heap.size dE 13 (.slice A1 SS.out.length c1) SS.out.length (dG SS.out) ∧ W.ownsRow w_98.heap.size dK 8 (.slice A2 SS.ev.length c2) SS.ev.length (dC SS.ev)) ∧ w_98.heap.size ≤ gg ∧ Blk W gg 37 (prL SS.p).toArray := aB (aJ _ _ (Nat.le_refl _)) (aB (aB (aK _ _ _ _ _ _) (aK _ _ _ _ _ _)) (aB (bJ _) (aW _ _ _))); try simp only [nrm]
     refine aA 13 hst ?_
     refine aA 14 hst ?_
     refine aE (fun W5 hS => ?_)
     obtain ⟨hS1, ⟨ho, he⟩, hg2, hG⟩ := hS
     replace HM := HM.join1 hS1 ho he hG hg2 (by decide) (by decide); clear hst
     go_wp2_with fail
     go_meet
     case rel => exact ⟨gg, A1, c1, A2, c2, rfl, rfl, rfl, HM⟩
    intro W hS K hK
    rw [if_pos (show Region.wanted _ _ = true from rfl)]
    refine dZ (ty := 37) (cs := (prL pr0).toArray) (fun g => .pointer (some ⟨g, 0, none⟩)) (by kernel_rfl) (fun gg W2 z lg hb G => ?_)
    refine hK.out (fun W => w_98.heap.size ≤ gg ∧ ∃ cs, cs.size = 58 ∧ Blk W gg 37 cs) _ _ (dJ _ _ _ _) hb ⟨Nat.le_trans hS.size lg, _, rfl, G⟩ (fun hst => ?_)
    clear hK K hb lg z G
    try simp only [nrm]
    clear hS
    refine eH 6 hst rfl ?_; intro W hS K hK
    go_simp; refine (mF Y.s0 d (k : Int) SS hSS.out (HI.out false) W (HM.to hS.1).laid).mono ?_; rintro e w9 ⟨vo, ve, rfl, hb, ho, he⟩; obtain ⟨A1, c1, rfl⟩ := aM ho; obtain ⟨A2, c2, rfl⟩ := aM he
    refine hK.out (fun W => W.ownsRow w_98.heap.size dE 13 (.slice A1 SS.out.length c1) SS.out.length (dG SS.out) ∧ W.ownsRow w_98.heap.size dK 8 (.slice A2 SS.ev.length c2) SS.ev.length (dC SS.ev)) _ _ (aB (aK _ _ _ _ _ _) (aK _ _ _ _ _ _)) hb ⟨dH ho hS.1.size, dH he hS.1.size⟩ (fun hst => ?_)
    clear hK K hb ho he
    try simp only [nrm]
    clear hS
    refine aA 7 hst ?_
    refine aA 8 hst ?_
    refine aA 9 hst ?_
    refine aA 10 hst ?_
    refine eK 12 rfl (fun W hS K hK => ?_)
    rw [if_pos (show Region.wanted _ _ = true from rfl)]
    obtain ⟨⟨hS1, hg, cs, hcs, hG⟩, ho, he⟩ := hS
    obtain ⟨W2, hrun, hG2, hU⟩ := dW (P := Tryz.prog) (ty := 37) (vs := prL SS.p) hG hcs (by kernel_rfl) rfl
    refine eQ rfl rfl rfl hrun ?_
    refine hK.out _ (fun W => Below w_98.heap.size w_98 W ∧ (W.ownsRow w_98.heap.size dE 13 (.slice A1 SS.out.length c1) SS.out.length (dG SS.out) ∧ W.ownsRow w_98.heap.size dK 8 (.slice A2 SS.ev.length c2) SS.ev.length (dC SS.ev)) ∧ w_98.heap.size ≤ gg ∧ Blk W gg 37 (prL SS.p).toArray) _ _ (fun W h => ⟨⟨h.1, h.2.2.1, _, rfl, h.2.2.2⟩, h.2.1⟩) (aB (aJ _ _ (Nat.le_refl _)) (aB (aB (aK _ _ _ _ _ _) (aK _ _ _ _ _ _)) (aB (bJ _) (aW _ _ _)))) (fun _ h => h) ⟨hU.below hS1 hg, ⟨cR ho hG (by decide) hU, cR he hG (by decide) hU⟩, hg, hG2⟩ ?_
    clear hK K hrun hG2 hU hG hcs cs hS1 ho he hst; have hst : aO fun W => Below w_98.heap.size w_98 W ∧ (W.ownsRow w_98.heap.size dE 13 (.slice A1 SS.out.length c1) SS.out.length (dG SS.out) ∧ W.ownsRow w_98.heap.size dK 8 (.slice A2 SS.ev.length c2) SS.ev.length (dC SS.ev)) ∧ w_98.heap.size ≤ gg ∧ Blk W gg 37 (prL SS.p).toArray := aB (aJ _ _ (Nat.le_refl _)) (aB (aB (aK _ _ _ _ _ _) (aK _ _ _ _ _ _)) (aB (bJ _) (aW _ _ _))); try simp only [nrm]
    refine aA 13 hst ?_
    refine aA 14 hst ?_
    refine aE (fun W5 hS => ?_)
    obtain ⟨hS1, ⟨ho, he⟩, hg2, hG⟩ := hS
    replace HM := HM.join1 hS1 ho he hG hg2 (by decide) (by decide); clear hst
    go_wp2_with fail
    go_meet
    case rel => exact ⟨gg, A1, c1, A2, c2, rfl, rfl, rfl, HM⟩
   case rest =>
    obtain ⟨g_101, A_102, c_103, A_104, c_105, rfl, rfl, rfl, HMM⟩ := hcut; clear HM; have HM := HMM; clear HMM
    go_wp2_with (first | (with_reducible refine sc ?_) | (with_reducible refine ld 0 (tkL ((Y.put_line rest)) (.slice A0 Y.g0.length c0) (.slice A1 Y.g1.length c1) (.slice A_86 rest.length c_87) (.slice A_94 rest.length c_95)) HM.b4 Tryz.underlying70 ?_) | (with_reducible refine ld 0 (prL SS.p) HM.b0 Tryz.underlying37 ?_))
    refine (oQ ((Y.put_line rest)) SS.p SS.out SS.ev l A0 c0 A1 c1 A_86 c_87 A_94 c_95 A_102 c_103 A_104 c_105 Ac cc base _ _ HM.here (HCC.out _ HM.below) HLB.out HL0.out (by have h := HSX.out.s0; exact h) (by have h := HSX.out.s1; omega) (by have h := HSX.out.ln; omega) (by have h := HSX.out.g0; omega) (by have h := HSX.out.g1; omega) (by have h := HLN.out.1; exact Nat.le_trans h (by decide)) (by have h := HLN.out.2; exact Nat.le_trans h (by decide)) b7).mono ?_; rintro e w_117 ⟨A_106, c_107, A_108, c_109, A_110, c_111, A_112, c_113, rfl, hb_118⟩
    replace HM := (HM.trans hb_118).pop2; clear hb_118
    generalize hY : cZ ((Y.put_line rest)) false SS.p SS.out SS.ev l = Y_114 at HM ⊢
    have hY_114 := Lib.hid hY; clear hY
    go_wp2_with (with_reducible refine sc ?_)
    refine sv (tkL Y_114 (.slice A_106 Y_114.g0.length c_107) (.slice A_108 Y_114.g1.length c_109) (.slice A_110 Y_114.line.length c_111) (.slice A_112 Y_114.line.length c_113)).toArray HM.b4 ?_
    intro w_119 G_121 hU_120
    replace HM := HM.s4 hU_120 G_121
    clear hU_120 G_121
    go_wp2_with (with_reducible refine sc ?_)
    go_roundw
    have hst9 : jS l false (Y.put_line rest) SS = Y_114 := hY_114.out
    have hrd := tQ (l := l) (common := common) hk HI.out HL2.out hSS.out
    rw [hst9] at hrd
    have hsm := HSX.out.step (l := l) (b := false) (x' := Y.put_line rest) HLN.out rfl (Nat.le_refl _) rfl rfl
    rw [hst9] at hsm
    case rel => exact ⟨k + 1, Y_114, A_106, c_107, A_108, c_109, A_110, c_111, A_112, c_113, by omega, by go_num, HR.out.step hk hrd.1, hrd.2, ⟨hsm.s0, by have := hsm.s1; omega, by have := hsm.ln; omega, by have := hsm.g0; omega, by have := hsm.g1; omega⟩, HM.drop.drop⟩
    case measure => simp [intOf]; omega
  ·
   have i1 : decide ((k : Int) < 400) = true := by simp <;> omega
   have i2 : decide (k < 400) = true := decide_eq_true hk
   obtain ⟨SS, hs9⟩ : ∃ z, bN Y.s1 d (k : Int) = z := ⟨_, rfl⟩
   have hSS := Lib.hid hs9
   have HLN := Lib.hid (show Ln SS 2 1 by rw [← hs9]; exact uU _ _ _)
   clear hs9
   rw [hl] at HM
   dsimp only [List.length_cons] at HM
   have HL2 := Lib.hid hl
   clear hl
   obtain ⟨bl, ol, rfl, HLr⟩ := HM.headL
   obtain ⟨ba, oa, rfl, HAr0⟩ := HM.headA
   have HAr : Rg ba oa [.int .i64 1] wr := HAr0
   clear HAr0
   have HSX := Lib.hid (show Sm (Y.put_line rest) (2 + 4 * k) from ⟨HS.out.s0, HS.out.s1, by have h := HS.out.ln; rw [HL2.out] at h; rw [List.length_cons] at h; show rest.length ≤ _; omega, HS.out.g0, HS.out.g1⟩)
   have i4 : decide ((0 : Int) < (rest.length : Int) + 1) = true := by simp <;> omega
   have i5 : decide (0 < rest.length + 1) = true := by simp
   have i6 : decide ((0 : Int) < ((rest.length + 1 : Nat) : Int)) = true := by simp <;> omega
   have ld_122 := HM.b2.c 127 (.slice ((some ⟨bl, ol, none⟩)) (rest.length + 1) cl)
   go_wp2_with (with_reducible refine sc ?_)
   clear ld_122
   try simp only [nrm]
   have hst : aO fun W => Below wr.heap.size wr W := aJ _ _ (Nat.le_refl _)
   refine aD (fun W => Below wr.heap.size wr W) 11 hst (Below.refl _ _).drew ?_
   refine aA 0 hst ?_
   refine bS 1 (.slice ((some ⟨ba, oa, none⟩)) (rest.length + 1) ca) hst (fun W hS => (HM.to hS).b2.cell 126) ?_
   refine aA 2 hst ?_
   refine bH (v := ?_) 3 hst (fun _ h => h) rfl ?_ ?_; rotate_left; (intro W hS K hK; have ld : W.cell? ⟨ba, oa, none⟩ = some (.int .i64 1) := (Rg.to HAr hS).2 0 _ rfl; clear hS; go_simp; exact hK.out _ (Below.refl _ _)); simp only [nrm]
   refine aA 4 hst ?_
   refine bS 5 (.slice ((some ⟨bl, ol, none⟩)) (rest.length + 1) cl) hst (fun W hS => (HM.to hS).b2.cell 127) ?_
   refine aA 6 hst ?_
   refine bH (v := .agg (aI d).toArray) 7 hst (fun _ h => h) rfl (fun W hS K hK => aL rfl rfl (run_loadVar_mid W bl (ol) 43 (aI d) _ (eP (Rg.to HLr hS).2 0 (aI d) rfl) Tryz.underlying43 rfl (by kernel_rfl)) (hK.out _ (Below.refl _ _))) ?_; simp only [nrm]
   refine eK 8 rfl (fun W hS K hK => ?_)
   rw [if_pos (show Region.wanted _ _ = true from rfl)]
   refine dZ (ty := 43) (cs := (aI cL).toArray) (fun g => .pointer (some ⟨g, 0, none⟩)) (by kernel_rfl) (fun g_123 W2 z l hb G => ?_)
   have hst2 : aO fun W => Below wr.heap.size wr W ∧ ∃ cs, cs.size = 13 ∧ Blk W g_123 43 cs := fun W W' h hb => ⟨hst W W' h.1 hb, let ⟨cs, h1, h2⟩ := h.2; ⟨cs, h1, h2.to hb h2.lt⟩⟩
   have hg : wr.heap.size ≤ g_123 := Nat.le_trans hS.size l
   refine hK.out _ _ _ _ (fun _ h => h.1) hst2 (fun _ h => h) ⟨hS.trans (hb.mono hS.size), _, rfl, G⟩ ?_
   clear hK K hb l z G hS hst
   have hst := hst2; clear hst2
   try simp only [nrm]
   refine aA 9 hst ?_
   refine eK 10 rfl (fun W hS K hK => ?_)
   rw [if_pos (show Region.wanted _ _ = true from rfl)]
   obtain ⟨hS1, cs, hcs, hG⟩ := hS
   obtain ⟨W2, hrun, hG2, hU⟩ := dW (P := Tryz.prog) (ty := 43) (vs := aI d) hG hcs (by kernel_rfl) rfl
   refine eQ rfl rfl rfl hrun ?_
   refine hK.out _ (fun W => Below wr.heap.size wr W ∧ Blk W g_123 43 (aI d).toArray) _ _ (fun W h => ⟨h.1, _, rfl, h.2⟩) (aB (aJ _ _ (Nat.le_refl _)) (aW _ _ _)) (fun _ h => h) ⟨hU.below hS1 hg, hG2⟩ ?_
   clear hK K hrun hG2 hU hG hcs cs hS1 hst; have hst : aO fun W => Below wr.heap.size wr W ∧ Blk W g_123 43 (aI d).toArray := aB (aJ _ _ (Nat.le_refl _)) (aW _ _ _); try simp only [nrm]
   refine aE (fun w_124 hS => ?_)
   replace HM := HM.alloc hg hS.1 hS.2; clear hS hg hst
   have ld_125 := HM.b3.c 126 (.slice ((some ⟨ba, oa, none⟩)) (rest.length + 1) ca)
   go_wp2_with (with_reducible refine sc ?_)
   unfold bA
   refine kU (size := 1) rfl rfl (by kernel_rfl) (fun W => by kernel_rfl) (fun A_126 c_127 hA_128 hc_129 => ?_)
   clear ld_125
   replace HM := HM.popA; rw [hA_128, hc_129] at HM; clear hA_128 hc_129
   go_wp2_with (with_reducible refine sc ?_)
   refine sx 126 (.slice A_126 rest.length c_127) (tkL Y (.slice A0 Y.g0.length c0) (.slice A1 Y.g1.length c1) (.slice A_126 rest.length c_127) (.slice ((some ⟨bl, ol, none⟩)) (rest.length + 1) cl)).toArray HM.b3 ?_
   intro w_130 G_132 hU_131
   replace HM := HM.s3 hU_131 G_132
   clear hU_131 G_132
   have ld_133 := HM.b3.c 127 (.slice ((some ⟨bl, ol, none⟩)) (rest.length + 1) cl)
   go_wp2_with (with_reducible refine sc ?_)
   unfold bA
   refine kU (size := 13) rfl rfl (by kernel_rfl) (fun W => by kernel_rfl) (fun A_134 c_135 hA_136 hc_137 => ?_)
   clear ld_133
   replace HM := HM.popL; rw [hA_136, hc_137] at HM; clear hA_136 hc_137
   go_wp2_with (with_reducible refine sc ?_)
   refine sx 127 (.slice A_134 rest.length c_135) (tkL ((Y.put_line rest)) (.slice A0 Y.g0.length c0) (.slice A1 Y.g1.length c1) (.slice A_126 rest.length c_127) (.slice A_134 rest.length c_135)).toArray HM.b3 ?_
   intro w_138 G_140 hU_139
   replace HM := HM.s3 hU_139 G_140
   clear hU_139 G_140
   clear HLr HAr
   go_wp2_with (with_reducible refine sc ?_)
   try simp only [nrm]
   go_cut [19, 20, 21] from 187 (fun v19 v20 v21 WX => ∃ (g_141 : Nat) (A_142 : Option Addr) (c_143 : Nat) (A_144 : Option Addr) (c_145 : Nat), v19 = .pointer (some ⟨g_141, 0, none⟩) ∧ v20 = .slice A_142 SS.out.length c_143 ∧ v21 = .slice A_144 SS.ev.length c_145 ∧ MR w WX base ([rwL (.slice A_134 rest.length c_135) rest, rwA (.slice A_126 rest.length c_127) rest, rwE (.slice A0 Y.g0.length c0) Y.g0, rwE (.slice A1 Y.g1.length c1) Y.g1, rwS (.slice A_142 SS.out.length c_143) SS.out, rwE (.slice A_144 SS.ev.length c_145) SS.ev]) ((g_141, 37, (prL SS.p).toArray) :: (g_123, 43, (aI d).toArray) :: (g_40, 37, (prL (aY b)).toArray) :: (g_28, 37, (prL (gW a)).toArray) :: (g_19, 70, (tkL ((Y.put_line rest)) (.slice A0 Y.g0.length c0) (.slice A1 Y.g1.length c1) (.slice A_126 rest.length c_127) (.slice A_134 rest.length c_135)).toArray) :: (g_13, 70, (tkL tk0 (.slice none 0 0) (.slice none 0 0) (.slice none 0 0) (.slice none 0 0)).toArray) :: (g_7, 34, (cT b).toArray) :: (g_1, 34, (cT a).toArray) :: []))
   case first =>
    go_wp2_with (with_reducible refine sc ?_)
    try simp only [nrm]
    have hst : aO fun W => Below w_138.heap.size w_138 W := aJ _ _ (Nat.le_refl _)
    refine aD (fun W => Below w_138.heap.size w_138 W) 15 hst (Below.refl _ _).drew ?_
    refine aA 0 hst ?_
    refine aA 1 hst ?_
    refine aA 2 hst ?_
    refine dA 3 58 (prL Y.s1) (fun W hS => (HM.to hS).b3) Tryz.underlying37 hst ?_
    refine dA 4 0 (aI d) (fun W hS => (HM.to hS).b0) Tryz.underlying43 hst ?_
    refine aA 5 hst ?_
    refine mE 6 11 hst rfl rfl ?_ ?_
    ·
     intro W hS K hK
     go_simp; refine (mF Y.s1 d (k : Int) SS hSS.out (HI.out true) W (HM.to hS).laid).mono ?_; rintro e w9 ⟨vo, ve, rfl, hb, ho, he⟩; obtain ⟨A1, c1, rfl⟩ := aM ho; obtain ⟨A2, c2, rfl⟩ := aM he
     refine hK.out (fun W => W.ownsRow w_138.heap.size dE 13 (.slice A1 SS.out.length c1) SS.out.length (dG SS.out) ∧ W.ownsRow w_138.heap.size dK 8 (.slice A2 SS.ev.length c2) SS.ev.length (dC SS.ev)) _ _ (aB (aK _ _ _ _ _ _) (aK _ _ _ _ _ _)) hb ⟨dH ho hS.size, dH he hS.size⟩ (fun hst => ?_)
     clear hK K hb ho he
     try simp only [nrm]
     clear hS
     refine aA 7 hst ?_
     refine aA 8 hst ?_
     refine aA 9 hst ?_
     refine aA 10 hst ?_
     refine eH 11 hst rfl ?_; intro W hS K hK
     have hg : w_138.heap.size ≤ w_138.heap.size := Nat.le_refl _; clear hg
     rw [if_pos (show Region.wanted _ _ = true from rfl)]
     refine dZ (ty := 37) (cs := (prL pr0).toArray) (fun g => .pointer (some ⟨g, 0, none⟩)) (by kernel_rfl) (fun gg W2 z lg hb G => ?_)
     refine hK.out (fun W => w_138.heap.size ≤ gg ∧ ∃ cs, cs.size = 58 ∧ Blk W gg 37 cs) _ _ (dJ _ _ _ _) hb ⟨Nat.le_trans hS.1.size lg, _, rfl, G⟩ (fun hst => ?_)
     clear hK K hb lg z G
     try simp only [nrm]
     clear hS
     refine eK 12 rfl (fun W hS K hK => ?_)
     rw [if_pos (show Region.wanted _ _ = true from rfl)]
     obtain ⟨⟨hS1, ho, he⟩, hg, cs, hcs, hG⟩ := hS
     obtain ⟨W2, hrun, hG2, hU⟩ := dW (P := Tryz.prog) (ty := 37) (vs := prL SS.p) hG hcs (by kernel_rfl) rfl
     refine eQ rfl rfl rfl hrun ?_
     refine hK.out _ (fun W => Below w_138.heap.size w_138 W ∧ (W.ownsRow w_138.heap.size dE 13 (.slice A1 SS.out.length c1) SS.out.length (dG SS.out) ∧ W.ownsRow w_138.heap.size dK 8 (.slice A2 SS.ev.length c2) SS.ev.length (dC SS.ev)) ∧ w_138.heap.size ≤ gg ∧ Blk W gg 37 (prL SS.p).toArray) _ _ (fun W h => ⟨⟨h.1, h.2.1⟩, h.2.2.1, _, rfl, h.2.2.2⟩) (aB (aJ _ _ (Nat.le_refl _)) (aB (aB (aK _ _ _ _ _ _) (aK _ _ _ _ _ _)) (aB (bJ _) (aW _ _ _)))) (fun _ h => h) ⟨hU.below hS1 hg, ⟨cR ho hG (by decide) hU, cR he hG (by decide) hU⟩, hg, hG2⟩ ?_
     clear hK K hrun hG2 hU hG hcs cs hS1 ho he hst; have hst : aO fun W => Below w_138.heap.size w_138 W ∧ (W.ownsRow w_138.heap.size dE 13 (.slice A1 SS.out.length c1) SS.out.length (dG SS.out) ∧ W.ownsRow w_138.heap.size dK 8 (.slice A2 SS.ev.length c2) SS.ev.length (dC SS.ev)) ∧ w_138.heap.size ≤ gg ∧ Blk W gg 37 (prL SS.p).toArray := aB (aJ _ _ (Nat.le_refl _)) (aB (aB (aK _ _ _ _ _ _) (aK _ _ _ _ _ _)) (aB (bJ _) (aW _ _ _))); try simp only [nrm]
     refine aA 13 hst ?_
     refine aA 14 hst ?_
     refine aE (fun W5 hS => ?_)
     obtain ⟨hS1, ⟨ho, he⟩, hg2, hG⟩ := hS
     replace HM := HM.join1 hS1 ho he hG hg2 (by decide) (by decide); clear hst
     go_wp2_with fail
     go_meet
     case rel => exact ⟨gg, A1, c1, A2, c2, rfl, rfl, rfl, HM⟩
    intro W hS K hK
    rw [if_pos (show Region.wanted _ _ = true from rfl)]
    refine dZ (ty := 37) (cs := (prL pr0).toArray) (fun g => .pointer (some ⟨g, 0, none⟩)) (by kernel_rfl) (fun gg W2 z lg hb G => ?_)
    refine hK.out (fun W => w_138.heap.size ≤ gg ∧ ∃ cs, cs.size = 58 ∧ Blk W gg 37 cs) _ _ (dJ _ _ _ _) hb ⟨Nat.le_trans hS.size lg, _, rfl, G⟩ (fun hst => ?_)
    clear hK K hb lg z G
    try simp only [nrm]
    clear hS
    refine eH 6 hst rfl ?_; intro W hS K hK
    go_simp; refine (mF Y.s1 d (k : Int) SS hSS.out (HI.out true) W (HM.to hS.1).laid).mono ?_; rintro e w9 ⟨vo, ve, rfl, hb, ho, he⟩; obtain ⟨A1, c1, rfl⟩ := aM ho; obtain ⟨A2, c2, rfl⟩ := aM he
    refine hK.out (fun W => W.ownsRow w_138.heap.size dE 13 (.slice A1 SS.out.length c1) SS.out.length (dG SS.out) ∧ W.ownsRow w_138.heap.size dK 8 (.slice A2 SS.ev.length c2) SS.ev.length (dC SS.ev)) _ _ (aB (aK _ _ _ _ _ _) (aK _ _ _ _ _ _)) hb ⟨dH ho hS.1.size, dH he hS.1.size⟩ (fun hst => ?_)
    clear hK K hb ho he
    try simp only [nrm]
    clear hS
    refine aA 7 hst ?_
    refine aA 8 hst ?_
    refine aA 9 hst ?_
    refine aA 10 hst ?_
    refine eK 12 rfl (fun W hS K hK => ?_)
    rw [if_pos (show Region.wanted _ _ = true from rfl)]
    obtain ⟨⟨hS1, hg, cs, hcs, hG⟩, ho, he⟩ := hS
    obtain ⟨W2, hrun, hG2, hU⟩ := dW (P := Tryz.prog) (ty := 37) (vs := prL SS.p) hG hcs (by kernel_rfl) rfl
    refine eQ rfl rfl rfl hrun ?_
    refine hK.out _ (fun W => Below w_138.heap.size w_138 W ∧ (W.ownsRow w_138.heap.size dE 13 (.slice A1 SS.out.length c1) SS.out.length (dG SS.out) ∧ W.ownsRow w_138.heap.size dK 8 (.slice A2 SS.ev.length c2) SS.ev.length (dC SS.ev)) ∧ w_138.heap.size ≤ gg ∧ Blk W gg 37 (prL SS.p).toArray) _ _ (fun W h => ⟨⟨h.1, h.2.2.1, _, rfl, h.2.2.2⟩, h.2.1⟩) (aB (aJ _ _ (Nat.le_refl _)) (aB (aB (aK _ _ _ _ _ _) (aK _ _ _ _ _ _)) (aB (bJ _) (aW _ _ _)))) (fun _ h => h) ⟨hU.below hS1 hg, ⟨cR ho hG (by decide) hU, cR he hG (by decide) hU⟩, hg, hG2⟩ ?_
    clear hK K hrun hG2 hU hG hcs cs hS1 ho he hst; have hst : aO fun W => Below w_138.heap.size w_138 W ∧ (W.ownsRow w_138.heap.size dE 13 (.slice A1 SS.out.length c1) SS.out.length (dG SS.out) ∧ W.ownsRow w_138.heap.size dK 8 (.slice A2 SS.ev.length c2) SS.ev.length (dC SS.ev)) ∧ w_138.heap.size ≤ gg ∧ Blk W gg 37 (prL SS.p).toArray := aB (aJ _ _ (Nat.le_refl _)) (aB (aB (aK _ _ _ _ _ _) (aK _ _ _ _ _ _)) (aB (bJ _) (aW _ _ _))); try simp only [nrm]
    refine aA 13 hst ?_
    refine aA 14 hst ?_
    refine aE (fun W5 hS => ?_)
    obtain ⟨hS1, ⟨ho, he⟩, hg2, hG⟩ := hS
    replace HM := HM.join1 hS1 ho he hG hg2 (by decide) (by decide); clear hst
    go_wp2_with fail
    go_meet
    case rel => exact ⟨gg, A1, c1, A2, c2, rfl, rfl, rfl, HM⟩
   case rest =>
    obtain ⟨g_141, A_142, c_143, A_144, c_145, rfl, rfl, rfl, HMM⟩ := hcut; clear HM; have HM := HMM; clear HMM
    go_wp2_with (first | (with_reducible refine sc ?_) | (with_reducible refine ld 0 (tkL ((Y.put_line rest)) (.slice A0 Y.g0.length c0) (.slice A1 Y.g1.length c1) (.slice A_126 rest.length c_127) (.slice A_134 rest.length c_135)) HM.b4 Tryz.underlying70 ?_) | (with_reducible refine ld 0 (prL SS.p) HM.b0 Tryz.underlying37 ?_))
    refine (oR ((Y.put_line rest)) SS.p SS.out SS.ev l A0 c0 A1 c1 A_126 c_127 A_134 c_135 A_142 c_143 A_144 c_145 Ac cc base _ _ HM.here (HCC.out _ HM.below) HLB.out HL0.out (by have h := HSX.out.s0; exact h) (by have h := HSX.out.s1; omega) (by have h := HSX.out.ln; omega) (by have h := HSX.out.g0; omega) (by have h := HSX.out.g1; omega) (by have h := HLN.out.1; exact Nat.le_trans h (by decide)) (by have h := HLN.out.2; exact Nat.le_trans h (by decide)) b7).mono ?_; rintro e w_157 ⟨A_146, c_147, A_148, c_149, A_150, c_151, A_152, c_153, rfl, hb_158⟩
    replace HM := (HM.trans hb_158).pop2; clear hb_158
    generalize hY : cZ ((Y.put_line rest)) true SS.p SS.out SS.ev l = Y_154 at HM ⊢
    have hY_154 := Lib.hid hY; clear hY
    go_wp2_with (with_reducible refine sc ?_)
    refine sv (tkL Y_154 (.slice A_146 Y_154.g0.length c_147) (.slice A_148 Y_154.g1.length c_149) (.slice A_150 Y_154.line.length c_151) (.slice A_152 Y_154.line.length c_153)).toArray HM.b4 ?_
    intro w_159 G_161 hU_160
    replace HM := HM.s4 hU_160 G_161
    clear hU_160 G_161
    go_wp2_with (with_reducible refine sc ?_)
    go_roundw
    have hst9 : jS l true (Y.put_line rest) SS = Y_154 := hY_154.out
    have hrd := tQ (l := l) (common := common) hk HI.out HL2.out hSS.out
    rw [hst9] at hrd
    have hsm := HSX.out.step (l := l) (b := true) (x' := Y.put_line rest) HLN.out rfl (Nat.le_refl _) rfl rfl
    rw [hst9] at hsm
    case rel => exact ⟨k + 1, Y_154, A_146, c_147, A_148, c_149, A_150, c_151, A_152, c_153, by omega, by go_num, HR.out.step hk hrd.1, hrd.2, ⟨hsm.s0, by have := hsm.s1; omega, by have := hsm.ln; omega, by have := hsm.g0; omega, by have := hsm.g1; omega⟩, HM.drop.drop⟩
    case measure => simp [intOf]; omega
  ·
   have i1 : decide ((k : Int) < 400) = true := by simp <;> omega
   have i2 : decide (k < 400) = true := decide_eq_true hk
   have i4 : decide ((0 : Int) < ((Y.line.length : Nat) : Int)) = false := by rw [hl]; rfl
   have i5 : decide (0 < Y.line.length) = false := by rw [hl]; rfl
   have HL2 := Lib.hid hl
   clear hl
   have ld_162 := HM.b2.c 127 (.slice Al Y.line.length cl)
   go_wp2_with (with_reducible refine sc ?_)
   clear ld_162
   refine wp_loop_rounds 3 ?_
   rw [rounds_succ]
   by_cases hc_163 : (Y.s0.phase : Int) = 4
   ·
    obtain ⟨ec_163, ec_163n, kc_163⟩ := fT hc_163; clear hc_163
    obtain ⟨SU0, hs9⟩ : ∃ z, bZ Y.s0 (Y.answer false common) (k : Int) = z := ⟨_, rfl⟩
    have hSU0 := Lib.hid hs9
    have HLN := Lib.hid (show Ln SU0 2 1 by rw [← hs9]; exact wK _ _ _)
    clear hs9
    have ld_164 := HM.b2.c 19 (.int .i64 Y.s0.phase)
    go_wp2_with (with_reducible refine sc ?_)
    clear ld_164
    try simp only [nrm]
    go_cut [24, 25, 26] from 187 (fun v24 v25 v26 WX => ∃ (g_165 : Nat) (A_166 : Option Addr) (c_167 : Nat) (A_168 : Option Addr) (c_169 : Nat), v24 = .pointer (some ⟨g_165, 0, none⟩) ∧ v25 = .slice A_166 SU0.out.length c_167 ∧ v26 = .slice A_168 SU0.ev.length c_169 ∧ MR w WX base ([rwL (.slice Al Y.line.length cl) Y.line, rwA (.slice Aa Y.line.length ca) Y.line, rwE (.slice A0 Y.g0.length c0) Y.g0, rwE (.slice A1 Y.g1.length c1) Y.g1, rwS (.slice A_166 SU0.out.length c_167) SU0.out, rwE (.slice A_168 SU0.ev.length c_169) SU0.ev]) ((g_165, 37, (prL SU0.p).toArray) :: (g_40, 37, (prL (aY b)).toArray) :: (g_28, 37, (prL (gW a)).toArray) :: (g_19, 70, (tkL Y (.slice A0 Y.g0.length c0) (.slice A1 Y.g1.length c1) (.slice Aa Y.line.length ca) (.slice Al Y.line.length cl)).toArray) :: (g_13, 70, (tkL tk0 (.slice none 0 0) (.slice none 0 0) (.slice none 0 0) (.slice none 0 0)).toArray) :: (g_7, 34, (cT b).toArray) :: (g_1, 34, (cT a).toArray) :: []))
    case first =>
     go_wp2_with (with_reducible refine sc ?_)
     try simp only [nrm]
     have hst : aO fun W => Below wr.heap.size wr W := aJ _ _ (Nat.le_refl _)
     refine aD (fun W => Below wr.heap.size wr W) 18 hst (Below.refl _ _).drew ?_
     refine aA 0 hst ?_
     refine aA 1 hst ?_
     refine aA 2 hst ?_
     refine dA 3 0 (prL Y.s0) (fun W hS => (HM.to hS).b2) Tryz.underlying37 hst ?_
     refine dA 4 0 (tkL Y (.slice A0 Y.g0.length c0) (.slice A1 Y.g1.length c1) (.slice Aa Y.line.length ca) (.slice Al Y.line.length cl)) (fun W hS => (HM.to hS).b2) Tryz.underlying70 hst ?_
     refine aA 5 hst ?_
     refine aA 6 hst ?_
     refine bH (v := .int .i64 ((Y.answer false common))) 7 hst (fun _ h => h) rfl (fun W hS K hK => ?_) ?_
     · go_simp; refine (yV Y _ _ _ _ common W (HM.to hS).laid).mono ?_; rintro e w9 ⟨rfl, hb⟩; refine fI.mk ?_; exact hK.out _ hb
     simp only [nrm]
     refine aA 8 hst ?_
     refine mE 9 14 hst rfl rfl ?_ ?_
     ·
      intro W hS K hK
      go_simp; refine (lP Y.s0 (Y.answer false common) (k : Int) SU0 hSU0.out (HI.out false) W (HM.to hS).laid).mono ?_; rintro e w9 ⟨vo, ve, rfl, hb, ho, he⟩; obtain ⟨A1, c1, rfl⟩ := aM ho; obtain ⟨A2, c2, rfl⟩ := aM he
      refine hK.out (fun W => W.ownsRow wr.heap.size dE 13 (.slice A1 SU0.out.length c1) SU0.out.length (dG SU0.out) ∧ W.ownsRow wr.heap.size dK 8 (.slice A2 SU0.ev.length c2) SU0.ev.length (dC SU0.ev)) _ _ (aB (aK _ _ _ _ _ _) (aK _ _ _ _ _ _)) hb ⟨dH ho hS.size, dH he hS.size⟩ (fun hst => ?_)
      clear hK K hb ho he
      try simp only [nrm]
      clear hS
      refine aA 10 hst ?_
      refine aA 11 hst ?_
      refine aA 12 hst ?_
      refine aA 13 hst ?_
      refine eH 14 hst rfl ?_; intro W hS K hK
      have hg : wr.heap.size ≤ wr.heap.size := Nat.le_refl _; clear hg
      rw [if_pos (show Region.wanted _ _ = true from rfl)]
      refine dZ (ty := 37) (cs := (prL pr0).toArray) (fun g => .pointer (some ⟨g, 0, none⟩)) (by kernel_rfl) (fun gg W2 z lg hb G => ?_)
      refine hK.out (fun W => wr.heap.size ≤ gg ∧ ∃ cs, cs.size = 58 ∧ Blk W gg 37 cs) _ _ (dJ _ _ _ _) hb ⟨Nat.le_trans hS.1.size lg, _, rfl, G⟩ (fun hst => ?_)
      clear hK K hb lg z G
      try simp only [nrm]
      clear hS
      refine eK 15 rfl (fun W hS K hK => ?_)
      rw [if_pos (show Region.wanted _ _ = true from rfl)]
      obtain ⟨⟨hS1, ho, he⟩, hg, cs, hcs, hG⟩ := hS
      obtain ⟨W2, hrun, hG2, hU⟩ := dW (P := Tryz.prog) (ty := 37) (vs := prL SU0.p) hG hcs (by kernel_rfl) rfl
      refine eQ rfl rfl rfl hrun ?_
      refine hK.out _ (fun W => Below wr.heap.size wr W ∧ (W.ownsRow wr.heap.size dE 13 (.slice A1 SU0.out.length c1) SU0.out.length (dG SU0.out) ∧ W.ownsRow wr.heap.size dK 8 (.slice A2 SU0.ev.length c2) SU0.ev.length (dC SU0.ev)) ∧ wr.heap.size ≤ gg ∧ Blk W gg 37 (prL SU0.p).toArray) _ _ (fun W h => ⟨⟨h.1, h.2.1⟩, h.2.2.1, _, rfl, h.2.2.2⟩) (aB (aJ _ _ (Nat.le_refl _)) (aB (aB (aK _ _ _ _ _ _) (aK _ _ _ _ _ _)) (aB (bJ _) (aW _ _ _)))) (fun _ h => h) ⟨hU.below hS1 hg, ⟨cR ho hG (by decide) hU, cR he hG (by decide) hU⟩, hg, hG2⟩ ?_
      clear hK K hrun hG2 hU hG hcs cs hS1 ho he hst; have hst : aO fun W => Below wr.heap.size wr W ∧ (W.ownsRow wr.heap.size dE 13 (.slice A1 SU0.out.length c1) SU0.out.length (dG SU0.out) ∧ W.ownsRow wr.heap.size dK 8 (.slice A2 SU0.ev.length c2) SU0.ev.length (dC SU0.ev)) ∧ wr.heap.size ≤ gg ∧ Blk W gg 37 (prL SU0.p).toArray := aB (aJ _ _ (Nat.le_refl _)) (aB (aB (aK _ _ _ _ _ _) (aK _ _ _ _ _ _)) (aB (bJ _) (aW _ _ _))); try simp only [nrm]
      refine aA 16 hst ?_
      refine aA 17 hst ?_
      refine aE (fun W5 hS => ?_)
      obtain ⟨hS1, ⟨ho, he⟩, hg2, hG⟩ := hS
      replace HM := HM.join1 hS1 ho he hG hg2 (by decide) (by decide); clear hst
      go_wp2_with fail
      go_meet
      case rel => exact ⟨gg, A1, c1, A2, c2, rfl, rfl, rfl, HM⟩
     intro W hS K hK
     rw [if_pos (show Region.wanted _ _ = true from rfl)]
     refine dZ (ty := 37) (cs := (prL pr0).toArray) (fun g => .pointer (some ⟨g, 0, none⟩)) (by kernel_rfl) (fun gg W2 z lg hb G => ?_)
     refine hK.out (fun W => wr.heap.size ≤ gg ∧ ∃ cs, cs.size = 58 ∧ Blk W gg 37 cs) _ _ (dJ _ _ _ _) hb ⟨Nat.le_trans hS.size lg, _, rfl, G⟩ (fun hst => ?_)
     clear hK K hb lg z G
     try simp only [nrm]
     clear hS
     refine eH 9 hst rfl ?_; intro W hS K hK
     go_simp; refine (lP Y.s0 (Y.answer false common) (k : Int) SU0 hSU0.out (HI.out false) W (HM.to hS.1).laid).mono ?_; rintro e w9 ⟨vo, ve, rfl, hb, ho, he⟩; obtain ⟨A1, c1, rfl⟩ := aM ho; obtain ⟨A2, c2, rfl⟩ := aM he
     refine hK.out (fun W => W.ownsRow wr.heap.size dE 13 (.slice A1 SU0.out.length c1) SU0.out.length (dG SU0.out) ∧ W.ownsRow wr.heap.size dK 8 (.slice A2 SU0.ev.length c2) SU0.ev.length (dC SU0.ev)) _ _ (aB (aK _ _ _ _ _ _) (aK _ _ _ _ _ _)) hb ⟨dH ho hS.1.size, dH he hS.1.size⟩ (fun hst => ?_)
     clear hK K hb ho he
     try simp only [nrm]
     clear hS
     refine aA 10 hst ?_
     refine aA 11 hst ?_
     refine aA 12 hst ?_
     refine aA 13 hst ?_
     refine eK 15 rfl (fun W hS K hK => ?_)
     rw [if_pos (show Region.wanted _ _ = true from rfl)]
     obtain ⟨⟨hS1, hg, cs, hcs, hG⟩, ho, he⟩ := hS
     obtain ⟨W2, hrun, hG2, hU⟩ := dW (P := Tryz.prog) (ty := 37) (vs := prL SU0.p) hG hcs (by kernel_rfl) rfl
     refine eQ rfl rfl rfl hrun ?_
     refine hK.out _ (fun W => Below wr.heap.size wr W ∧ (W.ownsRow wr.heap.size dE 13 (.slice A1 SU0.out.length c1) SU0.out.length (dG SU0.out) ∧ W.ownsRow wr.heap.size dK 8 (.slice A2 SU0.ev.length c2) SU0.ev.length (dC SU0.ev)) ∧ wr.heap.size ≤ gg ∧ Blk W gg 37 (prL SU0.p).toArray) _ _ (fun W h => ⟨⟨h.1, h.2.2.1, _, rfl, h.2.2.2⟩, h.2.1⟩) (aB (aJ _ _ (Nat.le_refl _)) (aB (aB (aK _ _ _ _ _ _) (aK _ _ _ _ _ _)) (aB (bJ _) (aW _ _ _)))) (fun _ h => h) ⟨hU.below hS1 hg, ⟨cR ho hG (by decide) hU, cR he hG (by decide) hU⟩, hg, hG2⟩ ?_
     clear hK K hrun hG2 hU hG hcs cs hS1 ho he hst; have hst : aO fun W => Below wr.heap.size wr W ∧ (W.ownsRow wr.heap.size dE 13 (.slice A1 SU0.out.length c1) SU0.out.length (dG SU0.out) ∧ W.ownsRow wr.heap.size dK 8 (.slice A2 SU0.ev.length c2) SU0.ev.length (dC SU0.ev)) ∧ wr.heap.size ≤ gg ∧ Blk W gg 37 (prL SU0.p).toArray := aB (aJ _ _ (Nat.le_refl _)) (aB (aB (aK _ _ _ _ _ _) (aK _ _ _ _ _ _)) (aB (bJ _) (aW _ _ _))); try simp only [nrm]
     refine aA 16 hst ?_
     refine aA 17 hst ?_
     refine aE (fun W5 hS => ?_)
     obtain ⟨hS1, ⟨ho, he⟩, hg2, hG⟩ := hS
     replace HM := HM.join1 hS1 ho he hG hg2 (by decide) (by decide); clear hst
     go_wp2_with fail
     go_meet
     case rel => exact ⟨gg, A1, c1, A2, c2, rfl, rfl, rfl, HM⟩
    case rest =>
     obtain ⟨g_165, A_166, c_167, A_168, c_169, rfl, rfl, rfl, HMM⟩ := hcut; clear HM; have HM := HMM; clear HMM
     go_wp2_with (first | (with_reducible refine sc ?_) | (with_reducible refine ld 0 (tkL Y (.slice A0 Y.g0.length c0) (.slice A1 Y.g1.length c1) (.slice Aa Y.line.length ca) (.slice Al Y.line.length cl)) HM.b3 Tryz.underlying70 ?_) | (with_reducible refine ld 0 (prL SU0.p) HM.b0 Tryz.underlying37 ?_))
     refine (oQ Y SU0.p SU0.out SU0.ev l A0 c0 A1 c1 Aa ca Al cl A_166 c_167 A_168 c_169 Ac cc base _ _ HM.here (HCC.out _ HM.below) HLB.out HL0.out (by have h := HS.out.s0; exact h) (by have h := HS.out.s1; omega) (by have h := HS.out.ln; omega) (by have h := HS.out.g0; omega) (by have h := HS.out.g1; omega) (by have h := HLN.out.1; exact Nat.le_trans h (by decide)) (by have h := HLN.out.2; exact Nat.le_trans h (by decide)) b7).mono ?_; rintro e w_181 ⟨A_170, c_171, A_172, c_173, A_174, c_175, A_176, c_177, rfl, hb_182⟩
     replace HM := (HM.trans hb_182).pop2; clear hb_182
     generalize hY : cZ Y false SU0.p SU0.out SU0.ev l = Y_178 at HM ⊢
     have hY_178 := Lib.hid hY; clear hY
     have HI1 := Lib.hid (show oU Y_178 by have h := (kK (l := l) (common := common) false hk HI.out kc_163.out).2; rw [show bZ (Y.side false) (Y.answer false common) (k : Int) = SU0 from hSU0.out] at h; rw [← hY_178.out]; exact h)
     have HS1 := Lib.hid (show Sm Y_178 _ by rw [← hY_178.out]; exact HS.out.step (l := l) (b := false) (x' := Y) HLN.out rfl (Nat.le_refl _) rfl rfl)
     go_wp2_with (with_reducible refine sc ?_)
     refine sv (tkL Y_178 (.slice A_170 Y_178.g0.length c_171) (.slice A_172 Y_178.g1.length c_173) (.slice A_174 Y_178.line.length c_175) (.slice A_176 Y_178.line.length c_177)).toArray HM.b3 ?_
     intro w_183 G_185 hU_184
     replace HM := HM.s3 hU_184 G_185
     clear hU_184 G_185
     go_wp2_with (with_reducible refine sc ?_)
     rw [rounds_succ]
     by_cases hc_186 : (Y_178.s1.phase : Int) = 4
     ·
      obtain ⟨ec_186, ec_186n, kc_186⟩ := fT hc_186; clear hc_186
      obtain ⟨SU1, hs9⟩ : ∃ z, bZ Y_178.s1 (Y_178.answer true common) (k : Int) = z := ⟨_, rfl⟩
      have hSU1 := Lib.hid hs9
      clear HLN; have HLN := Lib.hid (show Ln SU1 2 1 by rw [← hs9]; exact wK _ _ _)
      clear hs9
      have ld_187 := HM.b3.c 77 (.int .i64 Y_178.s1.phase)
      go_wp2_with (with_reducible refine sc ?_)
      clear ld_187
      try simp only [nrm]
      go_cut [24, 25, 26] from 187 (fun v24 v25 v26 WX => ∃ (g_188 : Nat) (A_189 : Option Addr) (c_190 : Nat) (A_191 : Option Addr) (c_192 : Nat), v24 = .pointer (some ⟨g_188, 0, none⟩) ∧ v25 = .slice A_189 SU1.out.length c_190 ∧ v26 = .slice A_191 SU1.ev.length c_192 ∧ MR w WX base ([rwL (.slice A_176 Y_178.line.length c_177) Y_178.line, rwA (.slice A_174 Y_178.line.length c_175) Y_178.line, rwE (.slice A_170 Y_178.g0.length c_171) Y_178.g0, rwE (.slice A_172 Y_178.g1.length c_173) Y_178.g1, rwS (.slice A_189 SU1.out.length c_190) SU1.out, rwE (.slice A_191 SU1.ev.length c_192) SU1.ev]) ((g_188, 37, (prL SU1.p).toArray) :: (g_165, 37, (prL SU0.p).toArray) :: (g_40, 37, (prL (aY b)).toArray) :: (g_28, 37, (prL (gW a)).toArray) :: (g_19, 70, (tkL Y_178 (.slice A_170 Y_178.g0.length c_171) (.slice A_172 Y_178.g1.length c_173) (.slice A_174 Y_178.line.length c_175) (.slice A_176 Y_178.line.length c_177)).toArray) :: (g_13, 70, (tkL tk0 (.slice none 0 0) (.slice none 0 0) (.slice none 0 0) (.slice none 0 0)).toArray) :: (g_7, 34, (cT b).toArray) :: (g_1, 34, (cT a).toArray) :: []))
      case first =>
       go_wp2_with (with_reducible refine sc ?_)
       try simp only [nrm]
       have hst : aO fun W => Below w_183.heap.size w_183 W := aJ _ _ (Nat.le_refl _)
       refine aD (fun W => Below w_183.heap.size w_183 W) 18 hst (Below.refl _ _).drew ?_
       refine aA 0 hst ?_
       refine aA 1 hst ?_
       refine aA 2 hst ?_
       refine dA 3 58 (prL Y_178.s1) (fun W hS => (HM.to hS).b3) Tryz.underlying37 hst ?_
       refine dA 4 0 (tkL Y_178 (.slice A_170 Y_178.g0.length c_171) (.slice A_172 Y_178.g1.length c_173) (.slice A_174 Y_178.line.length c_175) (.slice A_176 Y_178.line.length c_177)) (fun W hS => (HM.to hS).b3) Tryz.underlying70 hst ?_
       refine aA 5 hst ?_
       refine aA 6 hst ?_
       refine bH (v := .int .i64 ((Y_178.answer true common))) 7 hst (fun _ h => h) rfl (fun W hS K hK => ?_) ?_
       · go_simp; refine (rR Y_178 _ _ _ _ common W (HM.to hS).laid).mono ?_; rintro e w9 ⟨rfl, hb⟩; refine fI.mk ?_; exact hK.out _ hb
       simp only [nrm]
       refine aA 8 hst ?_
       refine mE 9 14 hst rfl rfl ?_ ?_
       ·
        intro W hS K hK
        go_simp; refine (lP Y_178.s1 (Y_178.answer true common) (k : Int) SU1 hSU1.out (HI1.out true) W (HM.to hS).laid).mono ?_; rintro e w9 ⟨vo, ve, rfl, hb, ho, he⟩; obtain ⟨A1, c1, rfl⟩ := aM ho; obtain ⟨A2, c2, rfl⟩ := aM he
        refine hK.out (fun W => W.ownsRow w_183.heap.size dE 13 (.slice A1 SU1.out.length c1) SU1.out.length (dG SU1.out) ∧ W.ownsRow w_183.heap.size dK 8 (.slice A2 SU1.ev.length c2) SU1.ev.length (dC SU1.ev)) _ _ (aB (aK _ _ _ _ _ _) (aK _ _ _ _ _ _)) hb ⟨dH ho hS.size, dH he hS.size⟩ (fun hst => ?_)
        clear hK K hb ho he
        try simp only [nrm]
        clear hS
        refine aA 10 hst ?_
        refine aA 11 hst ?_
        refine aA 12 hst ?_
        refine aA 13 hst ?_
        refine eH 14 hst rfl ?_; intro W hS K hK
        have hg : w_183.heap.size ≤ w_183.heap.size := Nat.le_refl _; clear hg
        rw [if_pos (show Region.wanted _ _ = true from rfl)]
        refine dZ (ty := 37) (cs := (prL pr0).toArray) (fun g => .pointer (some ⟨g, 0, none⟩)) (by kernel_rfl) (fun gg W2 z lg hb G => ?_)
        refine hK.out (fun W => w_183.heap.size ≤ gg ∧ ∃ cs, cs.size = 58 ∧ Blk W gg 37 cs) _ _ (dJ _ _ _ _) hb ⟨Nat.le_trans hS.1.size lg, _, rfl, G⟩ (fun hst => ?_)
        clear hK K hb lg z G
        try simp only [nrm]
        clear hS
        refine eK 15 rfl (fun W hS K hK => ?_)
        rw [if_pos (show Region.wanted _ _ = true from rfl)]
        obtain ⟨⟨hS1, ho, he⟩, hg, cs, hcs, hG⟩ := hS
        obtain ⟨W2, hrun, hG2, hU⟩ := dW (P := Tryz.prog) (ty := 37) (vs := prL SU1.p) hG hcs (by kernel_rfl) rfl
        refine eQ rfl rfl rfl hrun ?_
        refine hK.out _ (fun W => Below w_183.heap.size w_183 W ∧ (W.ownsRow w_183.heap.size dE 13 (.slice A1 SU1.out.length c1) SU1.out.length (dG SU1.out) ∧ W.ownsRow w_183.heap.size dK 8 (.slice A2 SU1.ev.length c2) SU1.ev.length (dC SU1.ev)) ∧ w_183.heap.size ≤ gg ∧ Blk W gg 37 (prL SU1.p).toArray) _ _ (fun W h => ⟨⟨h.1, h.2.1⟩, h.2.2.1, _, rfl, h.2.2.2⟩) (aB (aJ _ _ (Nat.le_refl _)) (aB (aB (aK _ _ _ _ _ _) (aK _ _ _ _ _ _)) (aB (bJ _) (aW _ _ _)))) (fun _ h => h) ⟨hU.below hS1 hg, ⟨cR ho hG (by decide) hU, cR he hG (by decide) hU⟩, hg, hG2⟩ ?_
        clear hK K hrun hG2 hU hG hcs cs hS1 ho he hst; have hst : aO fun W => Below w_183.heap.size w_183 W ∧ (W.ownsRow w_183.heap.size dE 13 (.slice A1 SU1.out.length c1) SU1.out.length (dG SU1.out) ∧ W.ownsRow w_183.heap.size dK 8 (.slice A2 SU1.ev.length c2) SU1.ev.length (dC SU1.ev)) ∧ w_183.heap.size ≤ gg ∧ Blk W gg 37 (prL SU1.p).toArray := aB (aJ _ _ (Nat.le_refl _)) (aB (aB (aK _ _ _ _ _ _) (aK _ _ _ _ _ _)) (aB (bJ _) (aW _ _ _))); try simp only [nrm]
        refine aA 16 hst ?_
        refine aA 17 hst ?_
        refine aE (fun W5 hS => ?_)
        obtain ⟨hS1, ⟨ho, he⟩, hg2, hG⟩ := hS
        replace HM := HM.join1 hS1 ho he hG hg2 (by decide) (by decide); clear hst
        go_wp2_with fail
        go_meet
        case rel => exact ⟨gg, A1, c1, A2, c2, rfl, rfl, rfl, HM⟩
       intro W hS K hK
       rw [if_pos (show Region.wanted _ _ = true from rfl)]
       refine dZ (ty := 37) (cs := (prL pr0).toArray) (fun g => .pointer (some ⟨g, 0, none⟩)) (by kernel_rfl) (fun gg W2 z lg hb G => ?_)
       refine hK.out (fun W => w_183.heap.size ≤ gg ∧ ∃ cs, cs.size = 58 ∧ Blk W gg 37 cs) _ _ (dJ _ _ _ _) hb ⟨Nat.le_trans hS.size lg, _, rfl, G⟩ (fun hst => ?_)
       clear hK K hb lg z G
       try simp only [nrm]
       clear hS
       refine eH 9 hst rfl ?_; intro W hS K hK
       go_simp; refine (lP Y_178.s1 (Y_178.answer true common) (k : Int) SU1 hSU1.out (HI1.out true) W (HM.to hS.1).laid).mono ?_; rintro e w9 ⟨vo, ve, rfl, hb, ho, he⟩; obtain ⟨A1, c1, rfl⟩ := aM ho; obtain ⟨A2, c2, rfl⟩ := aM he
       refine hK.out (fun W => W.ownsRow w_183.heap.size dE 13 (.slice A1 SU1.out.length c1) SU1.out.length (dG SU1.out) ∧ W.ownsRow w_183.heap.size dK 8 (.slice A2 SU1.ev.length c2) SU1.ev.length (dC SU1.ev)) _ _ (aB (aK _ _ _ _ _ _) (aK _ _ _ _ _ _)) hb ⟨dH ho hS.1.size, dH he hS.1.size⟩ (fun hst => ?_)
       clear hK K hb ho he
       try simp only [nrm]
       clear hS
       refine aA 10 hst ?_
       refine aA 11 hst ?_
       refine aA 12 hst ?_
       refine aA 13 hst ?_
       refine eK 15 rfl (fun W hS K hK => ?_)
       rw [if_pos (show Region.wanted _ _ = true from rfl)]
       obtain ⟨⟨hS1, hg, cs, hcs, hG⟩, ho, he⟩ := hS
       obtain ⟨W2, hrun, hG2, hU⟩ := dW (P := Tryz.prog) (ty := 37) (vs := prL SU1.p) hG hcs (by kernel_rfl) rfl
       refine eQ rfl rfl rfl hrun ?_
       refine hK.out _ (fun W => Below w_183.heap.size w_183 W ∧ (W.ownsRow w_183.heap.size dE 13 (.slice A1 SU1.out.length c1) SU1.out.length (dG SU1.out) ∧ W.ownsRow w_183.heap.size dK 8 (.slice A2 SU1.ev.length c2) SU1.ev.length (dC SU1.ev)) ∧ w_183.heap.size ≤ gg ∧ Blk W gg 37 (prL SU1.p).toArray) _ _ (fun W h => ⟨⟨h.1, h.2.2.1, _, rfl, h.2.2.2⟩, h.2.1⟩) (aB (aJ _ _ (Nat.le_refl _)) (aB (aB (aK _ _ _ _ _ _) (aK _ _ _ _ _ _)) (aB (bJ _) (aW _ _ _)))) (fun _ h => h) ⟨hU.below hS1 hg, ⟨cR ho hG (by decide) hU, cR he hG (by decide) hU⟩, hg, hG2⟩ ?_
       clear hK K hrun hG2 hU hG hcs cs hS1 ho he hst; have hst : aO fun W => Below w_183.heap.size w_183 W ∧ (W.ownsRow w_183.heap.size dE 13 (.slice A1 SU1.out.length c1) SU1.out.length (dG SU1.out) ∧ W.ownsRow w_183.heap.size dK 8 (.slice A2 SU1.ev.length c2) SU1.ev.length (dC SU1.ev)) ∧ w_183.heap.size ≤ gg ∧ Blk W gg 37 (prL SU1.p).toArray := aB (aJ _ _ (Nat.le_refl _)) (aB (aB (aK _ _ _ _ _ _) (aK _ _ _ _ _ _)) (aB (bJ _) (aW _ _ _))); try simp only [nrm]
       refine aA 16 hst ?_
       refine aA 17 hst ?_
       refine aE (fun W5 hS => ?_)
       obtain ⟨hS1, ⟨ho, he⟩, hg2, hG⟩ := hS
       replace HM := HM.join1 hS1 ho he hG hg2 (by decide) (by decide); clear hst
       go_wp2_with fail
       go_meet
       case rel => exact ⟨gg, A1, c1, A2, c2, rfl, rfl, rfl, HM⟩
      case rest =>
       obtain ⟨g_188, A_189, c_190, A_191, c_192, rfl, rfl, rfl, HMM⟩ := hcut; clear HM; have HM := HMM; clear HMM
       go_wp2_with (first | (with_reducible refine sc ?_) | (with_reducible refine ld 0 (tkL Y_178 (.slice A_170 Y_178.g0.length c_171) (.slice A_172 Y_178.g1.length c_173) (.slice A_174 Y_178.line.length c_175) (.slice A_176 Y_178.line.length c_177)) HM.b4 Tryz.underlying70 ?_) | (with_reducible refine ld 0 (prL SU1.p) HM.b0 Tryz.underlying37 ?_))
       refine (oR Y_178 SU1.p SU1.out SU1.ev l A_170 c_171 A_172 c_173 A_174 c_175 A_176 c_177 A_189 c_190 A_191 c_192 Ac cc base _ _ HM.here (HCC.out _ HM.below) HLB.out HL0.out (by have h := HS1.out.s0; exact h) (by have h := HS1.out.s1; omega) (by have h := HS1.out.ln; omega) (by have h := HS1.out.g0; omega) (by have h := HS1.out.g1; omega) (by have h := HLN.out.1; exact Nat.le_trans h (by decide)) (by have h := HLN.out.2; exact Nat.le_trans h (by decide)) b7).mono ?_; rintro e w_204 ⟨A_193, c_194, A_195, c_196, A_197, c_198, A_199, c_200, rfl, hb_205⟩
       replace HM := (HM.trans hb_205).pop2; clear hb_205
       generalize hY : cZ Y_178 true SU1.p SU1.out SU1.ev l = Y_201 at HM ⊢
       have hY_201 := Lib.hid hY; clear hY
       have HI2 := Lib.hid (show oU Y_201 by have h := (kK (l := l) (common := common) true hk HI1.out kc_186.out).2; rw [show bZ (Y_178.side true) (Y_178.answer true common) (k : Int) = SU1 from hSU1.out] at h; rw [← hY_201.out]; exact h)
       have HS2 := Lib.hid (show Sm Y_201 _ by rw [← hY_201.out]; exact HS1.out.step (l := l) (b := true) (x' := Y_178) HLN.out rfl (Nat.le_refl _) rfl rfl)
       go_wp2_with (with_reducible refine sc ?_)
       refine sv (tkL Y_201 (.slice A_193 Y_201.g0.length c_194) (.slice A_195 Y_201.g1.length c_196) (.slice A_197 Y_201.line.length c_198) (.slice A_199 Y_201.line.length c_200)).toArray HM.b4 ?_
       intro w_206 G_208 hU_207
       replace HM := HM.s4 hU_207 G_208
       clear hU_207 G_208
       go_wp2_with (with_reducible refine sc ?_)
       rw [rounds_succ]
       go_wp2_with (with_reducible refine sc ?_)
       go_roundw
       have q0 := kc_163.out
       have q1 := kc_186.out
       have u0 : iB l common (k : Int) false Y = Y_178 := by rw [(kK false hk HI.out q0).1, show bZ (Y.side false) (Y.answer false common) (k : Int) = SU0 from hSU0.out]; exact hY_178.out
       have u1 : iB l common (k : Int) true Y_178 = Y_201 := by rw [(kK true hk HI1.out q1).1, show bZ (Y_178.side true) (Y_178.answer true common) (k : Int) = SU1 from hSU1.out]; exact hY_201.out
       have hrd := pG (l := l) (common := common) (k := k) HL2.out (by first | exact .inl q0 | (rw [u0]; exact .inr q1))
       rw [u0, u1] at hrd
       case rel => exact ⟨k + 1, Y_201, A_193, c_194, A_195, c_196, A_197, c_198, A_199, c_200, by omega, by go_num, HR.out.step hk hrd, HI2.out, ⟨HS2.out.s0, by have := HS2.out.s1; omega, by have := HS2.out.ln; omega, by have := HS2.out.g0; omega, by have := HS2.out.g1; omega⟩, HM.drop.drop⟩
       case measure => simp [intOf]; omega
     obtain ⟨ec_186, ec_186n, kc_186⟩ := fF hc_186; clear hc_186
     have ld_209 := HM.b3.c 77 (.int .i64 Y_178.s1.phase)
     go_wp2_with (with_reducible refine sc ?_)
     clear ld_209
     rw [rounds_succ]
     go_wp2_with (with_reducible refine sc ?_)
     go_roundw
     have q0 := kc_163.out
     have q1 := kc_186.out
     have u0 : iB l common (k : Int) false Y = Y_178 := by rw [(kK false hk HI.out q0).1, show bZ (Y.side false) (Y.answer false common) (k : Int) = SU0 from hSU0.out]; exact hY_178.out
     have u1 : iB l common (k : Int) true Y_178 = Y_178 := DE true q1
     have hrd := pG (l := l) (common := common) (k := k) HL2.out (by first | exact .inl q0 | (rw [u0]; exact .inr q1))
     rw [u0, u1] at hrd
     case rel => exact ⟨k + 1, Y_178, A_170, c_171, A_172, c_173, A_174, c_175, A_176, c_177, by omega, by go_num, HR.out.step hk hrd, HI1.out, ⟨HS1.out.s0, by have := HS1.out.s1; omega, by have := HS1.out.ln; omega, by have := HS1.out.g0; omega, by have := HS1.out.g1; omega⟩, HM.drop⟩
     case measure => simp [intOf]; omega
   obtain ⟨ec_163, ec_163n, kc_163⟩ := fF hc_163; clear hc_163
   have ld_210 := HM.b2.c 19 (.int .i64 Y.s0.phase)
   go_wp2_with (with_reducible refine sc ?_)
   clear ld_210
   rw [rounds_succ]
   by_cases hc_211 : (Y.s1.phase : Int) = 4
   ·
    obtain ⟨ec_211, ec_211n, kc_211⟩ := fT hc_211; clear hc_211
    obtain ⟨SU1, hs9⟩ : ∃ z, bZ Y.s1 (Y.answer true common) (k : Int) = z := ⟨_, rfl⟩
    have hSU1 := Lib.hid hs9
    have HLN := Lib.hid (show Ln SU1 2 1 by rw [← hs9]; exact wK _ _ _)
    clear hs9
    have ld_212 := HM.b2.c 77 (.int .i64 Y.s1.phase)
    go_wp2_with (with_reducible refine sc ?_)
    clear ld_212
    try simp only [nrm]
    go_cut [24, 25, 26] from 187 (fun v24 v25 v26 WX => ∃ (g_213 : Nat) (A_214 : Option Addr) (c_215 : Nat) (A_216 : Option Addr) (c_217 : Nat), v24 = .pointer (some ⟨g_213, 0, none⟩) ∧ v25 = .slice A_214 SU1.out.length c_215 ∧ v26 = .slice A_216 SU1.ev.length c_217 ∧ MR w WX base ([rwL (.slice Al Y.line.length cl) Y.line, rwA (.slice Aa Y.line.length ca) Y.line, rwE (.slice A0 Y.g0.length c0) Y.g0, rwE (.slice A1 Y.g1.length c1) Y.g1, rwS (.slice A_214 SU1.out.length c_215) SU1.out, rwE (.slice A_216 SU1.ev.length c_217) SU1.ev]) ((g_213, 37, (prL SU1.p).toArray) :: (g_40, 37, (prL (aY b)).toArray) :: (g_28, 37, (prL (gW a)).toArray) :: (g_19, 70, (tkL Y (.slice A0 Y.g0.length c0) (.slice A1 Y.g1.length c1) (.slice Aa Y.line.length ca) (.slice Al Y.line.length cl)).toArray) :: (g_13, 70, (tkL tk0 (.slice none 0 0) (.slice none 0 0) (.slice none 0 0) (.slice none 0 0)).toArray) :: (g_7, 34, (cT b).toArray) :: (g_1, 34, (cT a).toArray) :: []))
    case first =>
     go_wp2_with (with_reducible refine sc ?_)
     try simp only [nrm]
     have hst : aO fun W => Below wr.heap.size wr W := aJ _ _ (Nat.le_refl _)
     refine aD (fun W => Below wr.heap.size wr W) 18 hst (Below.refl _ _).drew ?_
     refine aA 0 hst ?_
     refine aA 1 hst ?_
     refine aA 2 hst ?_
     refine dA 3 58 (prL Y.s1) (fun W hS => (HM.to hS).b2) Tryz.underlying37 hst ?_
     refine dA 4 0 (tkL Y (.slice A0 Y.g0.length c0) (.slice A1 Y.g1.length c1) (.slice Aa Y.line.length ca) (.slice Al Y.line.length cl)) (fun W hS => (HM.to hS).b2) Tryz.underlying70 hst ?_
     refine aA 5 hst ?_
     refine aA 6 hst ?_
     refine bH (v := .int .i64 ((Y.answer true common))) 7 hst (fun _ h => h) rfl (fun W hS K hK => ?_) ?_
     · go_simp; refine (rR Y _ _ _ _ common W (HM.to hS).laid).mono ?_; rintro e w9 ⟨rfl, hb⟩; refine fI.mk ?_; exact hK.out _ hb
     simp only [nrm]
     refine aA 8 hst ?_
     refine mE 9 14 hst rfl rfl ?_ ?_
     ·
      intro W hS K hK
      go_simp; refine (lP Y.s1 (Y.answer true common) (k : Int) SU1 hSU1.out (HI.out true) W (HM.to hS).laid).mono ?_; rintro e w9 ⟨vo, ve, rfl, hb, ho, he⟩; obtain ⟨A1, c1, rfl⟩ := aM ho; obtain ⟨A2, c2, rfl⟩ := aM he
      refine hK.out (fun W => W.ownsRow wr.heap.size dE 13 (.slice A1 SU1.out.length c1) SU1.out.length (dG SU1.out) ∧ W.ownsRow wr.heap.size dK 8 (.slice A2 SU1.ev.length c2) SU1.ev.length (dC SU1.ev)) _ _ (aB (aK _ _ _ _ _ _) (aK _ _ _ _ _ _)) hb ⟨dH ho hS.size, dH he hS.size⟩ (fun hst => ?_)
      clear hK K hb ho he
      try simp only [nrm]
      clear hS
      refine aA 10 hst ?_
      refine aA 11 hst ?_
      refine aA 12 hst ?_
      refine aA 13 hst ?_
      refine eH 14 hst rfl ?_; intro W hS K hK
      have hg : wr.heap.size ≤ wr.heap.size := Nat.le_refl _; clear hg
      rw [if_pos (show Region.wanted _ _ = true from rfl)]
      refine dZ (ty := 37) (cs := (prL pr0).toArray) (fun g => .pointer (some ⟨g, 0, none⟩)) (by kernel_rfl) (fun gg W2 z lg hb G => ?_)
      refine hK.out (fun W => wr.heap.size ≤ gg ∧ ∃ cs, cs.size = 58 ∧ Blk W gg 37 cs) _ _ (dJ _ _ _ _) hb ⟨Nat.le_trans hS.1.size lg, _, rfl, G⟩ (fun hst => ?_)
      clear hK K hb lg z G
      try simp only [nrm]
      clear hS
      refine eK 15 rfl (fun W hS K hK => ?_)
      rw [if_pos (show Region.wanted _ _ = true from rfl)]
      obtain ⟨⟨hS1, ho, he⟩, hg, cs, hcs, hG⟩ := hS
      obtain ⟨W2, hrun, hG2, hU⟩ := dW (P := Tryz.prog) (ty := 37) (vs := prL SU1.p) hG hcs (by kernel_rfl) rfl
      refine eQ rfl rfl rfl hrun ?_
      refine hK.out _ (fun W => Below wr.heap.size wr W ∧ (W.ownsRow wr.heap.size dE 13 (.slice A1 SU1.out.length c1) SU1.out.length (dG SU1.out) ∧ W.ownsRow wr.heap.size dK 8 (.slice A2 SU1.ev.length c2) SU1.ev.length (dC SU1.ev)) ∧ wr.heap.size ≤ gg ∧ Blk W gg 37 (prL SU1.p).toArray) _ _ (fun W h => ⟨⟨h.1, h.2.1⟩, h.2.2.1, _, rfl, h.2.2.2⟩) (aB (aJ _ _ (Nat.le_refl _)) (aB (aB (aK _ _ _ _ _ _) (aK _ _ _ _ _ _)) (aB (bJ _) (aW _ _ _)))) (fun _ h => h) ⟨hU.below hS1 hg, ⟨cR ho hG (by decide) hU, cR he hG (by decide) hU⟩, hg, hG2⟩ ?_
      clear hK K hrun hG2 hU hG hcs cs hS1 ho he hst; have hst : aO fun W => Below wr.heap.size wr W ∧ (W.ownsRow wr.heap.size dE 13 (.slice A1 SU1.out.length c1) SU1.out.length (dG SU1.out) ∧ W.ownsRow wr.heap.size dK 8 (.slice A2 SU1.ev.length c2) SU1.ev.length (dC SU1.ev)) ∧ wr.heap.size ≤ gg ∧ Blk W gg 37 (prL SU1.p).toArray := aB (aJ _ _ (Nat.le_refl _)) (aB (aB (aK _ _ _ _ _ _) (aK _ _ _ _ _ _)) (aB (bJ _) (aW _ _ _))); try simp only [nrm]
      refine aA 16 hst ?_
      refine aA 17 hst ?_
      refine aE (fun W5 hS => ?_)
      obtain ⟨hS1, ⟨ho, he⟩, hg2, hG⟩ := hS
      replace HM := HM.join1 hS1 ho he hG hg2 (by decide) (by decide); clear hst
      go_wp2_with fail
      go_meet
      case rel => exact ⟨gg, A1, c1, A2, c2, rfl, rfl, rfl, HM⟩
     intro W hS K hK
     rw [if_pos (show Region.wanted _ _ = true from rfl)]
     refine dZ (ty := 37) (cs := (prL pr0).toArray) (fun g => .pointer (some ⟨g, 0, none⟩)) (by kernel_rfl) (fun gg W2 z lg hb G => ?_)
     refine hK.out (fun W => wr.heap.size ≤ gg ∧ ∃ cs, cs.size = 58 ∧ Blk W gg 37 cs) _ _ (dJ _ _ _ _) hb ⟨Nat.le_trans hS.size lg, _, rfl, G⟩ (fun hst => ?_)
     clear hK K hb lg z G
     try simp only [nrm]
     clear hS
     refine eH 9 hst rfl ?_; intro W hS K hK
     go_simp; refine (lP Y.s1 (Y.answer true common) (k : Int) SU1 hSU1.out (HI.out true) W (HM.to hS.1).laid).mono ?_; rintro e w9 ⟨vo, ve, rfl, hb, ho, he⟩; obtain ⟨A1, c1, rfl⟩ := aM ho; obtain ⟨A2, c2, rfl⟩ := aM he
     refine hK.out (fun W => W.ownsRow wr.heap.size dE 13 (.slice A1 SU1.out.length c1) SU1.out.length (dG SU1.out) ∧ W.ownsRow wr.heap.size dK 8 (.slice A2 SU1.ev.length c2) SU1.ev.length (dC SU1.ev)) _ _ (aB (aK _ _ _ _ _ _) (aK _ _ _ _ _ _)) hb ⟨dH ho hS.1.size, dH he hS.1.size⟩ (fun hst => ?_)
     clear hK K hb ho he
     try simp only [nrm]
     clear hS
     refine aA 10 hst ?_
     refine aA 11 hst ?_
     refine aA 12 hst ?_
     refine aA 13 hst ?_
     refine eK 15 rfl (fun W hS K hK => ?_)
     rw [if_pos (show Region.wanted _ _ = true from rfl)]
     obtain ⟨⟨hS1, hg, cs, hcs, hG⟩, ho, he⟩ := hS
     obtain ⟨W2, hrun, hG2, hU⟩ := dW (P := Tryz.prog) (ty := 37) (vs := prL SU1.p) hG hcs (by kernel_rfl) rfl
     refine eQ rfl rfl rfl hrun ?_
     refine hK.out _ (fun W => Below wr.heap.size wr W ∧ (W.ownsRow wr.heap.size dE 13 (.slice A1 SU1.out.length c1) SU1.out.length (dG SU1.out) ∧ W.ownsRow wr.heap.size dK 8 (.slice A2 SU1.ev.length c2) SU1.ev.length (dC SU1.ev)) ∧ wr.heap.size ≤ gg ∧ Blk W gg 37 (prL SU1.p).toArray) _ _ (fun W h => ⟨⟨h.1, h.2.2.1, _, rfl, h.2.2.2⟩, h.2.1⟩) (aB (aJ _ _ (Nat.le_refl _)) (aB (aB (aK _ _ _ _ _ _) (aK _ _ _ _ _ _)) (aB (bJ _) (aW _ _ _)))) (fun _ h => h) ⟨hU.below hS1 hg, ⟨cR ho hG (by decide) hU, cR he hG (by decide) hU⟩, hg, hG2⟩ ?_
     clear hK K hrun hG2 hU hG hcs cs hS1 ho he hst; have hst : aO fun W => Below wr.heap.size wr W ∧ (W.ownsRow wr.heap.size dE 13 (.slice A1 SU1.out.length c1) SU1.out.length (dG SU1.out) ∧ W.ownsRow wr.heap.size dK 8 (.slice A2 SU1.ev.length c2) SU1.ev.length (dC SU1.ev)) ∧ wr.heap.size ≤ gg ∧ Blk W gg 37 (prL SU1.p).toArray := aB (aJ _ _ (Nat.le_refl _)) (aB (aB (aK _ _ _ _ _ _) (aK _ _ _ _ _ _)) (aB (bJ _) (aW _ _ _))); try simp only [nrm]
     refine aA 16 hst ?_
     refine aA 17 hst ?_
     refine aE (fun W5 hS => ?_)
     obtain ⟨hS1, ⟨ho, he⟩, hg2, hG⟩ := hS
     replace HM := HM.join1 hS1 ho he hG hg2 (by decide) (by decide); clear hst
     go_wp2_with fail
     go_meet
     case rel => exact ⟨gg, A1, c1, A2, c2, rfl, rfl, rfl, HM⟩
    case rest =>
     obtain ⟨g_213, A_214, c_215, A_216, c_217, rfl, rfl, rfl, HMM⟩ := hcut; clear HM; have HM := HMM; clear HMM
     go_wp2_with (first | (with_reducible refine sc ?_) | (with_reducible refine ld 0 (tkL Y (.slice A0 Y.g0.length c0) (.slice A1 Y.g1.length c1) (.slice Aa Y.line.length ca) (.slice Al Y.line.length cl)) HM.b3 Tryz.underlying70 ?_) | (with_reducible refine ld 0 (prL SU1.p) HM.b0 Tryz.underlying37 ?_))
     refine (oR Y SU1.p SU1.out SU1.ev l A0 c0 A1 c1 Aa ca Al cl A_214 c_215 A_216 c_217 Ac cc base _ _ HM.here (HCC.out _ HM.below) HLB.out HL0.out (by have h := HS.out.s0; exact h) (by have h := HS.out.s1; omega) (by have h := HS.out.ln; omega) (by have h := HS.out.g0; omega) (by have h := HS.out.g1; omega) (by have h := HLN.out.1; exact Nat.le_trans h (by decide)) (by have h := HLN.out.2; exact Nat.le_trans h (by decide)) b7).mono ?_; rintro e w_229 ⟨A_218, c_219, A_220, c_221, A_222, c_223, A_224, c_225, rfl, hb_230⟩
     replace HM := (HM.trans hb_230).pop2; clear hb_230
     generalize hY : cZ Y true SU1.p SU1.out SU1.ev l = Y_226 at HM ⊢
     have hY_226 := Lib.hid hY; clear hY
     have HI1 := Lib.hid (show oU Y_226 by have h := (kK (l := l) (common := common) true hk HI.out kc_211.out).2; rw [show bZ (Y.side true) (Y.answer true common) (k : Int) = SU1 from hSU1.out] at h; rw [← hY_226.out]; exact h)
     have HS1 := Lib.hid (show Sm Y_226 _ by rw [← hY_226.out]; exact HS.out.step (l := l) (b := true) (x' := Y) HLN.out rfl (Nat.le_refl _) rfl rfl)
     go_wp2_with (with_reducible refine sc ?_)
     refine sv (tkL Y_226 (.slice A_218 Y_226.g0.length c_219) (.slice A_220 Y_226.g1.length c_221) (.slice A_222 Y_226.line.length c_223) (.slice A_224 Y_226.line.length c_225)).toArray HM.b3 ?_
     intro w_231 G_233 hU_232
     replace HM := HM.s3 hU_232 G_233
     clear hU_232 G_233
     go_wp2_with (with_reducible refine sc ?_)
     rw [rounds_succ]
     go_wp2_with (with_reducible refine sc ?_)
     go_roundw
     have q0 := kc_163.out
     have q1 := kc_211.out
     have u0 : iB l common (k : Int) false Y = Y := DE false q0
     have u1 : iB l common (k : Int) true Y = Y_226 := by rw [(kK true hk HI.out q1).1, show bZ (Y.side true) (Y.answer true common) (k : Int) = SU1 from hSU1.out]; exact hY_226.out
     have hrd := pG (l := l) (common := common) (k := k) HL2.out (by first | exact .inl q0 | (rw [u0]; exact .inr q1))
     rw [u0, u1] at hrd
     case rel => exact ⟨k + 1, Y_226, A_218, c_219, A_220, c_221, A_222, c_223, A_224, c_225, by omega, by go_num, HR.out.step hk hrd, HI1.out, ⟨HS1.out.s0, by have := HS1.out.s1; omega, by have := HS1.out.ln; omega, by have := HS1.out.g0; omega, by have := HS1.out.g1; omega⟩, HM.drop⟩
     case measure => simp [intOf]; omega
   obtain ⟨ec_211, ec_211n, kc_211⟩ := fF hc_211; clear hc_211
   have ld_234 := HM.b2.c 77 (.int .i64 Y.s1.phase)
   go_wp2_with (with_reducible refine sc ?_)
   clear ld_234
   rw [rounds_succ]
   by_cases hc_235 : (Y.s0.phase : Int) = 6
   ·
    obtain ⟨ec_235, ec_235n, kc_235⟩ := fT hc_235; clear hc_235
    by_cases hc_236 : (Y.s1.phase : Int) = 6
    ·
     obtain ⟨ec_236, ec_236n, kc_236⟩ := fT hc_236; clear hc_236
     have ld_237 := HM.b2.c 19 (.int .i64 Y.s0.phase)
     have ld_238 := HM.b2.c 77 (.int .i64 Y.s1.phase)
     go_wp2_with (with_reducible refine sc ?_)
     clear ld_237 ld_238
     refine wp_loop_rounds 3 ?_
     rw [rounds_succ]
     go_wp2_with (first | (with_reducible refine sc ?_) | (with_reducible refine ld 0 (prL Y.s0) HM.b2 Tryz.underlying37 ?_))
     obtain ⟨SE0, hs9⟩ : ∃ z, dX Y.s0 (k : Int) = z := ⟨_, rfl⟩
     have hSE0 := Lib.hid hs9
     have HLN := Lib.hid (show Ln SE0 2 1 by rw [← hs9]; exact G2 _ _)
     clear hs9
     refine (DF Y.s0 (k : Int) SE0 hSE0.out (HI.out false) _ HM.laid).mono ?_; rintro e w_244 ⟨vo, ve, rfl, hb_245, ho, he⟩
     obtain ⟨A_239, c_240, rfl⟩ := aM ho
     obtain ⟨A_241, c_242, rfl⟩ := aM he
     replace HM := HM.join hb_245 ho he; clear hb_245 ho he
     dsimp only [List.cons_append, List.nil_append] at HM
     go_wp2_with (with_reducible refine sc ?_)
     refine HM.nw (ty := 37) (cs := (prL pr0).toArray) ?_; clear HM; intro g_246 w_247 HM
     go_wp2_with (with_reducible refine sc ?_)
     refine sv (prL SE0.p).toArray HM.b0 ?_
     intro w_252 G_254 hU_253
     replace HM := HM.s0 hU_253 G_254
     clear hU_253 G_254
     go_wp2_with (first | (with_reducible refine sc ?_) | (with_reducible refine ld 0 (tkL Y (.slice A0 Y.g0.length c0) (.slice A1 Y.g1.length c1) (.slice Aa Y.line.length ca) (.slice Al Y.line.length cl)) HM.b3 Tryz.underlying70 ?_) | (with_reducible refine ld 0 (prL SE0.p) HM.b0 Tryz.underlying37 ?_))
     refine (oQ Y SE0.p SE0.out SE0.ev l A0 c0 A1 c1 Aa ca Al cl A_239 c_240 A_241 c_242 Ac cc base _ _ HM.here (HCC.out _ HM.below) HLB.out HL0.out (by have h := HS.out.s0; exact h) (by have h := HS.out.s1; omega) (by have h := HS.out.ln; omega) (by have h := HS.out.g0; omega) (by have h := HS.out.g1; omega) (by have h := HLN.out.1; exact Nat.le_trans h (by decide)) (by have h := HLN.out.2; exact Nat.le_trans h (by decide)) b7).mono ?_; rintro e w_266 ⟨A_255, c_256, A_257, c_258, A_259, c_260, A_261, c_262, rfl, hb_267⟩
     replace HM := (HM.trans hb_267).pop2; clear hb_267
     generalize hY : cZ Y false SE0.p SE0.out SE0.ev l = Y_263 at HM ⊢
     have hY_263 := Lib.hid hY; clear hY
     have HI1 := Lib.hid (show oU Y_263 by have h := yW (l := l) false hk HI.out; rw [show Y.side false = Y.s0 from rfl, hSE0.out] at h; rw [← hY_263.out]; exact h)
     have HS1 := Lib.hid (show Sm Y_263 _ by rw [← hY_263.out]; exact HS.out.step (l := l) (b := false) (x' := Y) HLN.out rfl (Nat.le_refl _) rfl rfl)
     clear HLN
     go_wp2_with (with_reducible refine sc ?_)
     refine sv (tkL Y_263 (.slice A_255 Y_263.g0.length c_256) (.slice A_257 Y_263.g1.length c_258) (.slice A_259 Y_263.line.length c_260) (.slice A_261 Y_263.line.length c_262)).toArray HM.b3 ?_
     intro w_268 G_270 hU_269
     replace HM := HM.s3 hU_269 G_270
     clear hU_269 G_270
     go_wp2_with (with_reducible refine sc ?_)
     rw [rounds_succ]
     go_wp2_with (first | (with_reducible refine sc ?_) | (with_reducible refine ld 58 (prL Y_263.s1) HM.b3 Tryz.underlying37 ?_))
     obtain ⟨SE1, hs9⟩ : ∃ z, dX Y_263.s1 (k : Int) = z := ⟨_, rfl⟩
     have hSE1 := Lib.hid hs9
     have HLN := Lib.hid (show Ln SE1 2 1 by rw [← hs9]; exact G2 _ _)
     clear hs9
     refine (DF Y_263.s1 (k : Int) SE1 hSE1.out (HI1.out true) _ HM.laid).mono ?_; rintro e w_276 ⟨vo, ve, rfl, hb_277, ho, he⟩
     obtain ⟨A_271, c_272, rfl⟩ := aM ho
     obtain ⟨A_273, c_274, rfl⟩ := aM he
     replace HM := HM.join hb_277 ho he; clear hb_277 ho he
     dsimp only [List.cons_append, List.nil_append] at HM
     go_wp2_with (with_reducible refine sc ?_)
     refine HM.nw (ty := 37) (cs := (prL pr0).toArray) ?_; clear HM; intro g_278 w_279 HM
     go_wp2_with (with_reducible refine sc ?_)
     refine sv (prL SE1.p).toArray HM.b0 ?_
     intro w_284 G_286 hU_285
     replace HM := HM.s0 hU_285 G_286
     clear hU_285 G_286
     go_wp2_with (first | (with_reducible refine sc ?_) | (with_reducible refine ld 0 (tkL Y_263 (.slice A_255 Y_263.g0.length c_256) (.slice A_257 Y_263.g1.length c_258) (.slice A_259 Y_263.line.length c_260) (.slice A_261 Y_263.line.length c_262)) HM.b4 Tryz.underlying70 ?_) | (with_reducible refine ld 0 (prL SE1.p) HM.b0 Tryz.underlying37 ?_))
     refine (oR Y_263 SE1.p SE1.out SE1.ev l A_255 c_256 A_257 c_258 A_259 c_260 A_261 c_262 A_271 c_272 A_273 c_274 Ac cc base _ _ HM.here (HCC.out _ HM.below) HLB.out HL0.out (by have h := HS1.out.s0; exact h) (by have h := HS1.out.s1; omega) (by have h := HS1.out.ln; omega) (by have h := HS1.out.g0; omega) (by have h := HS1.out.g1; omega) (by have h := HLN.out.1; exact Nat.le_trans h (by decide)) (by have h := HLN.out.2; exact Nat.le_trans h (by decide)) b7).mono ?_; rintro e w_298 ⟨A_287, c_288, A_289, c_290, A_291, c_292, A_293, c_294, rfl, hb_299⟩
     replace HM := (HM.trans hb_299).pop2; clear hb_299
     generalize hY : cZ Y_263 true SE1.p SE1.out SE1.ev l = Y_295 at HM ⊢
     have hY_295 := Lib.hid hY; clear hY
     go_wp2_with (with_reducible refine sc ?_)
     refine sv (tkL Y_295 (.slice A_287 Y_295.g0.length c_288) (.slice A_289 Y_295.g1.length c_290) (.slice A_291 Y_295.line.length c_292) (.slice A_293 Y_295.line.length c_294)).toArray HM.b4 ?_
     intro w_300 G_302 hU_301
     replace HM := HM.s4 hU_301 G_302
     clear hU_301 G_302
     go_wp2_with (with_reducible refine sc ?_)
     rw [rounds_succ]
     go_wp2_with (with_reducible refine sc ?_)
     go_roundw
     have e1 : jS l false Y SE0 = Y_263 := hY_263.out
     have e2 : jS l true Y_263 SE1 = Y_295 := hY_295.out
     have q0 := kc_163.out
     have q1 := kc_211.out
     have q2 := kc_235.out
     have q3 := kc_236.out
     have hrd := D5 (l := l) (common := common) (k := k) HL2.out q2 q3
     rw [hSE0.out, e1, hSE1.out, e2] at hrd
     have i9 : oU Y_295 := by have h := yW (l := l) true hk HI1.out; rw [show Y_263.side true = Y_263.s1 from rfl, hSE1.out, e2] at h; exact h
     have hsm := HS1.out.step (l := l) (b := true) (x' := Y_263) HLN.out rfl (Nat.le_refl _) rfl rfl
     rw [e2] at hsm
     case rel => exact ⟨k + 1, Y_295, A_287, c_288, A_289, c_290, A_291, c_292, A_293, c_294, by omega, by go_num, HR.out.step hk hrd, i9, ⟨hsm.s0, by have := hsm.s1; omega, by have := hsm.ln; omega, by have := hsm.g0; omega, by have := hsm.g1; omega⟩, HM.drop.drop⟩
     case measure => simp [intOf]; omega
    obtain ⟨ec_236, ec_236n, kc_236⟩ := fF hc_236; clear hc_236
    have ld_303 := HM.b2.c 19 (.int .i64 Y.s0.phase)
    have ld_304 := HM.b2.c 77 (.int .i64 Y.s1.phase)
    go_wp2_with (first | (with_reducible refine sc ?_) | (with_reducible refine ld 0 (tkL Y (.slice A0 Y.g0.length c0) (.slice A1 Y.g1.length c1) (.slice Aa Y.line.length ca) (.slice Al Y.line.length cl)) HM.b2 Tryz.underlying70 ?_))
    refine sv (tkL Y (.slice A0 Y.g0.length c0) (.slice A1 Y.g1.length c1) (.slice Aa Y.line.length ca) (.slice Al Y.line.length cl)).toArray HM.b3 ?_
    intro w_306 G_308 hU_307
    clear ld_303 ld_304
    replace HM := HM.s3 hU_307 G_308
    clear hU_307 G_308
    go_wp2_with (with_reducible refine sc ?_)
    refine bodyPost_ret (wM rfl rfl (fV HM.b3 Tryz.underlying70 rfl (by kernel_rfl))) rfl ?_
    have q0 := kc_163.out
    have q1 := kc_211.out
    have q2 := kc_235.out
    have q3 := kc_236.out
    have hn := tF (l := l) (common := common) (k := k) HL2.out q0 q1 (by rintro ⟨h0, h1⟩; exact absurd h1 q3)
    have e9 := (sN (l := l) (common := common) na.out nb.out ra.out rb.out).trans (HR.out.stop hn)
    rw [e9]; exact ⟨A0, c0, A1, c1, _, _, rfl, rfl, rfl, by rw [hbs1.out]; exact (HM.rsub (List.Sublist.cons _ (List.Sublist.cons _ (List.Sublist.refl _)))).nob⟩
   obtain ⟨ec_235, ec_235n, kc_235⟩ := fF hc_235; clear hc_235
   have ld_309 := HM.b2.c 19 (.int .i64 Y.s0.phase)
   go_wp2_with (first | (with_reducible refine sc ?_) | (with_reducible refine ld 0 (tkL Y (.slice A0 Y.g0.length c0) (.slice A1 Y.g1.length c1) (.slice Aa Y.line.length ca) (.slice Al Y.line.length cl)) HM.b2 Tryz.underlying70 ?_))
   refine sv (tkL Y (.slice A0 Y.g0.length c0) (.slice A1 Y.g1.length c1) (.slice Aa Y.line.length ca) (.slice Al Y.line.length cl)).toArray HM.b3 ?_
   intro w_311 G_313 hU_312
   clear ld_309
   replace HM := HM.s3 hU_312 G_313
   clear hU_312 G_313
   go_wp2_with (with_reducible refine sc ?_)
   refine bodyPost_ret (wM rfl rfl (fV HM.b3 Tryz.underlying70 rfl (by kernel_rfl))) rfl ?_
   have q0 := kc_163.out
   have q1 := kc_211.out
   have q2 := kc_235.out
   have hn := tF (l := l) (common := common) (k := k) HL2.out q0 q1 (by rintro ⟨h0, h1⟩; exact absurd h0 q2)
   have e9 := (sN (l := l) (common := common) na.out nb.out ra.out rb.out).trans (HR.out.stop hn)
   rw [e9]; exact ⟨A0, c0, A1, c1, _, _, rfl, rfl, rfl, by rw [hbs1.out]; exact (HM.rsub (List.Sublist.cons _ (List.Sublist.cons _ (List.Sublist.refl _)))).nob⟩
  have i1 : decide ((k : Int) < 400) = false := by simp <;> omega
  have i2 : decide (k < 400) = false := by simp <;> omega
  have hk2 : 400 ≤ k := by omega
  clear hk
  go_wp2_with (first | (with_reducible refine sc ?_) | (with_reducible refine ld 0 (tkL Y (.slice A0 Y.g0.length c0) (.slice A1 Y.g1.length c1) (.slice Aa Y.line.length ca) (.slice Al Y.line.length cl)) HM.b2 Tryz.underlying70 ?_))
  refine sv (tkL Y (.slice A0 Y.g0.length c0) (.slice A1 Y.g1.length c1) (.slice Aa Y.line.length ca) (.slice Al Y.line.length cl)).toArray HM.b3 ?_
  intro w_315 G_317 hU_316
  replace HM := HM.s3 hU_316 G_317
  clear hU_316 G_317
  go_wp2_with (with_reducible refine sc ?_)
  refine bodyPost_ret (wM rfl rfl (fV HM.b3 Tryz.underlying70 rfl (by kernel_rfl))) rfl ?_
  have e9 := (sN (l := l) (common := common) na.out nb.out ra.out rb.out).trans (HR.out.full hk2)
  rw [e9]; exact ⟨A0, c0, A1, c1, _, _, rfl, rfl, rfl, by rw [hbs1.out]; exact (HM.rsub (List.Sublist.cons _ (List.Sublist.cons _ (List.Sublist.refl _)))).nob⟩
end Go.Proofs.YtihmbcnccdiecaaGreatDoor
