/- Part of the proofs of the laws of pairing. -/
import Derived.Test.YtihmbcnccdiecaaGreatDoorBAct
import Derived.Test.YtihmbcnccdiecaaGreatDoorBRsT
namespace Go.Proofs.YtihmbcnccdiecaaGreatDoor
set_option maxRecDepth 100000
set_option linter.unusedVariables false
set_option linter.unusedSimpArgs false
open Go.ChangeShapes Go.WideShapes Go.ChangeAt Go.RowKit
theorem EY (p : Pr) (d : Sec) (now : Int) (w : World) (HL : bW w) (hi : Inv p) (hk : Pk6 p) :
    Calls Tryz.prog 31 #[.agg (prL p).toArray, .agg (aI d).toArray, .int .i64 now] w (fun e w' => jF w w' (bU p d now).1 (bU p d now).2.1 (bU p d now).2.2 e) := by
  rw [kH p d now hi]
  exact EW p d now w HL (fun h3 hp => ⟨hi.pass h3 hp, hk h3 hp⟩) hi.round.1 (by have := hi.round.2; omega) (by have := hi.round.2; omega)
theorem IY (p : Pr) (answer now : Int) (w : World) (HL : bW w) (hi : Inv p) (hk : Pk6 p) :
    Calls Tryz.prog 32 #[.agg (prL p).toArray, .int .i64 answer, .int .i64 now] w (fun e w' => jF w w' (fU p answer now).1 (fU p answer now).2.1 (fU p answer now).2.2 e) := by
  rw [oK p answer now]
  exact JN p answer now w HL hi.round.1 (by have := hi.round.2; omega)
theorem wL (p : Pr) (now : Int) (w : World) (HL : bW w) (hi : Inv p) (hk : Pk6 p) :
    Calls Tryz.prog 33 #[.agg (prL p).toArray, .int .i64 now] w (fun e w' => jF w w' (kD p now).1 (kD p now).2.1 (kD p now).2.2 e) := by
  rw [rI p now]
  exact wV p now w HL
theorem FH (p : Pr) (now : Int) (w : World) (HL : bW w) (hi : Inv p) (hk : Pk6 p) (hn : 0 ≤ now ∧ now ≤ 1099511627776) :
    Calls Tryz.prog 34 #[.agg (prL p).toArray, .int .i64 now] w (fun e w' => pS w w' (kJ p now).1 (kJ p now).2 e) := by
  rw [CH p now hi hn]
  exact D8 p now w HL hi.since.1 hn.2
set_option maxHeartbeats 2000000 in
theorem GJ (p : Pr) (x : qJ) (w : World) (HL : bW w) (hiv : Inv p) (hkv : Pk6 p) (hnv : 0 ≤ x.now ∧ x.now ≤ 1099511627776) :
  Calls Tryz.prog 9 #[.agg (prL p).toArray, .agg (opL x).toArray] w (fun e w' => qY w w' (gU p x).p (gU p x).out (gU p x).ev (gU p x).er e) := by
 have HM := MR.start HL
 obtain ⟨base, hbs⟩ : ∃ b, w.heap.size = b := ⟨_, rfl⟩
 rw [hbs] at HM
 have hi := Lib.hid hiv
 have hk := Lib.hid hkv
 have hn := Lib.hid hnv
 clear hiv hkv hnv
 go_enter Tryz.func9, Tryz.ntmps9
 go_wp2_with with_reducible refine so ?_
 refine HM.nw (ty := 37) (cs := (prL p).toArray) ?_; clear HM; intro c7 c8 HM
 go_wp2_with with_reducible refine so ?_
 refine HM.nw (ty := 45) (cs := (opL x).toArray) ?_; clear HM; intro c9 d0 HM
 go_wp2_with with_reducible refine so ?_
 refine HM.nw (ty := 37) (cs := (prL pr0).toArray) ?_; clear HM; intro d1 d2 HM
 by_cases C : (x.kind : Int) = 0
 ·
  obtain ⟨a2, a3, q⟩ := fT C; clear C
  have a4 := HM.b1.c 0 (.int .i64 x.kind)
  have a5 := HM.b1.c 15 (.int .i64 x.now)
  go_wp2_with first | with_reducible refine so ?_ | with_reducible refine lw HM.b2 U37 ?_
  refine (GY p x.now _ HM.laid).mono ?_; rintro e d3 ⟨vo, rfl, O, ho⟩
  clear a4 a5
  obtain ⟨d4, d5, rfl⟩ := aM ho
  replace HM := HM.join O ho (ev := []) (World.ownsRow_nil _ _ _ _); clear O ho
  dsimp only [List.cons_append, List.nil_append] at HM
  go_wp2_with with_reducible refine so ?_
  refine HM.nw (ty := 37) (cs := (prL pr0).toArray) ?_; clear HM; intro d6 d7 HM
  go_wp2_with with_reducible refine so ?_
  refine yv HM.b0 HM.s0 ?_; clear HM; intro d8 HM
  go_wp2_with first | with_reducible refine so ?_ | with_reducible refine lw HM.b0 U37 ?_
  refine yv HM.b1 HM.s1 ?_; clear HM; intro d9 HM
  go_wp2_with with_reducible refine so ?_
  refine bodyPost_ret (eG rfl rfl (fV HM.b1 U37 rfl (by kernel_rfl))) rfl ?_
  have q0 := q.out
  have es : gU p x = ⟨(bX p x.now).1, (bX p x.now).2.1, [], (bX p x.now).2.2⟩ := by unfold gU; simp [q0]
  unfold qY; rw [es, hbs]; exact ⟨_, _, _, _, rfl, HM.nob⟩
 obtain ⟨a2, a3, q⟩ := fF C; clear C
 by_cases D : (x.kind : Int) = 1
 ·
  obtain ⟨a6, a7, z⟩ := fT D; clear D
  have a8 := HM.b1.c 0 (.int .i64 x.kind)
  have a9 := HM.b1.c 15 (.int .i64 x.now)
  go_wp2_with first | with_reducible refine so ?_ | with_reducible refine lw HM.b2 U37 ?_ | with_reducible refine ld 1 (aI x.pdu) HM.b1 U43 ?_
  refine (EY p x.pdu x.now _ HM.laid hi.out hk.out).mono ?_; rintro e e0 ⟨vo, ve, rfl, U, ho, he⟩
  clear a8 a9
  obtain ⟨e1, e2, rfl⟩ := aM ho
  obtain ⟨e3, e4, rfl⟩ := aM he
  replace HM := HM.join U ho he; clear U ho he
  dsimp only [List.cons_append, List.nil_append] at HM
  go_wp2_with with_reducible refine so ?_
  refine HM.nw (ty := 37) (cs := (prL pr0).toArray) ?_; clear HM; intro e5 e6 HM
  go_wp2_with with_reducible refine so ?_
  refine yv HM.b0 HM.s0 ?_; clear HM; intro e7 HM
  go_wp2_with first | with_reducible refine so ?_ | with_reducible refine lw HM.b0 U37 ?_
  refine yv HM.b1 HM.s1 ?_; clear HM; intro e8 HM
  go_wp2_with with_reducible refine so ?_
  refine bodyPost_ret (eG rfl rfl (fV HM.b1 U37 rfl (by kernel_rfl))) rfl ?_
  have q0 := q.out
  have q1 := z.out
  have es : gU p x = ⟨(bU p x.pdu x.now).1, (bU p x.pdu x.now).2.1, (bU p x.pdu x.now).2.2, 0⟩ := by unfold gU; simp [q0, q1]
  unfold qY; rw [es, hbs]; exact ⟨_, _, _, _, rfl, HM.nob⟩
 obtain ⟨a6, a7, z⟩ := fF D; clear D
 by_cases F : (x.kind : Int) = 2
 ·
  obtain ⟨b3, b4, I⟩ := fT F; clear F
  have b5 := HM.b1.c 0 (.int .i64 x.kind)
  have b6 := HM.b1.c 14 (.int .i64 x.answer)
  have b7 := HM.b1.c 15 (.int .i64 x.now)
  go_wp2_with first | with_reducible refine so ?_ | with_reducible refine lw HM.b2 U37 ?_
  refine (IY p x.answer x.now _ HM.laid hi.out hk.out).mono ?_; rintro e e9 ⟨vo, ve, rfl, Z, ho, he⟩
  clear b5 b6 b7
  obtain ⟨f0, f1, rfl⟩ := aM ho
  obtain ⟨f2, f3, rfl⟩ := aM he
  replace HM := HM.join Z ho he; clear Z ho he
  dsimp only [List.cons_append, List.nil_append] at HM
  go_wp2_with with_reducible refine so ?_
  refine HM.nw (ty := 37) (cs := (prL pr0).toArray) ?_; clear HM; intro f4 f5 HM
  go_wp2_with with_reducible refine so ?_
  refine yv HM.b0 HM.s0 ?_; clear HM; intro f6 HM
  go_wp2_with first | with_reducible refine so ?_ | with_reducible refine lw HM.b0 U37 ?_
  refine yv HM.b1 HM.s1 ?_; clear HM; intro f7 HM
  go_wp2_with with_reducible refine so ?_
  refine bodyPost_ret (eG rfl rfl (fV HM.b1 U37 rfl (by kernel_rfl))) rfl ?_
  have q0 := q.out
  have q1 := z.out
  have q2 := I.out
  have es : gU p x = ⟨(fU p x.answer x.now).1, (fU p x.answer x.now).2.1, (fU p x.answer x.now).2.2, 0⟩ := by unfold gU; simp [q0, q1, q2]
  unfold qY; rw [es, hbs]; exact ⟨_, _, _, _, rfl, HM.nob⟩
 obtain ⟨b3, b4, I⟩ := fF F; clear F
 by_cases J : (x.kind : Int) = 3
 ·
  obtain ⟨b8, b9, L⟩ := fT J; clear J
  have c0 := HM.b1.c 0 (.int .i64 x.kind)
  have c4 := HM.b1.c 15 (.int .i64 x.now)
  go_wp2_with first | with_reducible refine so ?_ | with_reducible refine lw HM.b2 U37 ?_
  refine (wL p x.now _ HM.laid hi.out hk.out).mono ?_; rintro e f8 ⟨vo, ve, rfl, a0, ho, he⟩
  clear c0 c4
  obtain ⟨f9, g0, rfl⟩ := aM ho
  obtain ⟨g3, g4, rfl⟩ := aM he
  replace HM := HM.join a0 ho he; clear a0 ho he
  dsimp only [List.cons_append, List.nil_append] at HM
  go_wp2_with with_reducible refine so ?_
  refine HM.nw (ty := 37) (cs := (prL pr0).toArray) ?_; clear HM; intro g5 g6 HM
  go_wp2_with with_reducible refine so ?_
  refine yv HM.b0 HM.s0 ?_; clear HM; intro g7 HM
  go_wp2_with first | with_reducible refine so ?_ | with_reducible refine lw HM.b0 U37 ?_
  refine yv HM.b1 HM.s1 ?_; clear HM; intro g8 HM
  go_wp2_with with_reducible refine so ?_
  refine bodyPost_ret (eG rfl rfl (fV HM.b1 U37 rfl (by kernel_rfl))) rfl ?_
  have q0 := q.out
  have q1 := z.out
  have q2 := I.out
  have q3 := L.out
  have es : gU p x = ⟨(kD p x.now).1, (kD p x.now).2.1, (kD p x.now).2.2, 0⟩ := by unfold gU; simp [q0, q1, q2, q3]
  unfold qY; rw [es, hbs]; exact ⟨_, _, _, _, rfl, HM.nob⟩
 obtain ⟨b8, b9, L⟩ := fF J; clear J
 have c5 := HM.b1.c 0 (.int .i64 x.kind)
 have c6 := HM.b1.c 15 (.int .i64 x.now)
 go_wp2_with first | with_reducible refine so ?_ | with_reducible refine lw HM.b2 U37 ?_
 refine (FH p x.now _ HM.laid hi.out hk.out hn.out).mono ?_; rintro e g9 ⟨ve, rfl, a1, he⟩
 clear c5 c6
 obtain ⟨h6, h7, rfl⟩ := aM he
 replace HM := HM.join a1 (out := []) (World.ownsRow_nil _ _ _ _) he; clear a1 he
 dsimp only [List.cons_append, List.nil_append] at HM
 go_wp2_with with_reducible refine so ?_
 refine HM.nw (ty := 37) (cs := (prL pr0).toArray) ?_; clear HM; intro h8 h9 HM
 go_wp2_with with_reducible refine so ?_
 refine yv HM.b0 HM.s0 ?_; clear HM; intro i0 HM
 go_wp2_with first | with_reducible refine so ?_ | with_reducible refine lw HM.b0 U37 ?_
 refine yv HM.b1 HM.s1 ?_; clear HM; intro i1 HM
 go_wp2_with with_reducible refine so ?_
 refine bodyPost_ret (eG rfl rfl (fV HM.b1 U37 rfl (by kernel_rfl))) rfl ?_
 have q0 := q.out
 have q1 := z.out
 have q2 := I.out
 have q3 := L.out
 have es : gU p x = ⟨(kJ p x.now).1, [], (kJ p x.now).2, 0⟩ := by unfold gU; simp [q0, q1, q2, q3]
 unfold qY; rw [es, hbs]; exact ⟨_, _, _, _, rfl, HM.nob⟩
def KL (w w' : World) (a : xJ) (e : Ending) : Prop :=
  ∃ A1 c1 A2 c2, e = .returned (.tuple #[.agg (prL a.p).toArray, .slice A1 a.out.length c1, .slice A2 a.ev.length c2, .int .i64 a.er]) ∧ Below w.heap.size w w' ∧ aZ w' w.heap.size dE 13 (.slice A1 a.out.length c1) a.out.length (dG a.out) ∧ aZ w' w.heap.size dK 8 (.slice A2 a.ev.length c2) a.ev.length (dC a.ev)
theorem CY {w w' : World} {a : xJ} {e : Ending} (h : qY w w' a.p a.out a.ev a.er e) : KL w w' a e := by
  obtain ⟨A1, c1, A2, c2, rfl, hm⟩ := h
  exact ⟨A1, c1, A2, c2, rfl, hm.below, hm.rows _ List.mem_cons_self, hm.rows _ (List.mem_cons_of_mem _ List.mem_cons_self)⟩
theorem DD (p : Pr) (x : qJ) (a : xJ) (ha : gU p x = a) (w : World) (HL : bW w) (hi : Inv p) : Calls Tryz.prog 8 #[.agg (prL p).toArray, .agg (opL x).toArray] w (fun e w' => KL w w' a e) := by
  subst ha
  exact (JW p x w HL hi).mono fun e w' h => CY h
theorem zA (p : Pr) (x : qJ) (a : xJ) (ha : gU p x = a) (w : World) (HL : bW w) (hi : Inv p) (hk : Pk6 p) (hn : 0 ≤ x.now ∧ x.now ≤ 1099511627776) : Calls Tryz.prog 9 #[.agg (prL p).toArray, .agg (opL x).toArray] w (fun e w' => KL w w' a e) := by
  subst ha
  exact (GJ p x w HL hi hk hn).mono fun e w' h => CY h
theorem K3 {p : Pr} (x : qJ) (hi : Inv p) (hk : Pk6 p) (h0 : 0 ≤ x.now) (h1 : x.now ≤ 1099511627776) : Pk6 (gU p x).p := by
  unfold gU
  (repeat' split)
  · exact IL p x.now hk
  · rw [kH p x.pdu x.now hi]; exact ES p x.pdu x.now hk
  · rw [oK]; exact JV p x.answer x.now hk
  · rw [rI]; exact KO p x.now hk
  · rw [CH p x.now hi ⟨h0, h1⟩]; exact LD p x.now hk
theorem aZ.len {W : World} {base n size : Nat} {e : TypeId} {v : Value} {xs : List Value} (h : aZ W base e size v n xs) : n ≤ maxLen := by
  rcases h.2 with ⟨_, h⟩ | ⟨g, off, cap, cur, _, _, _, h1, h2, _⟩
  · rw [h]; exact Nat.zero_le _
  · omega
theorem cN (k : Nat) (e : TypeId) (size : Nat) (v : Value) (n : Nat) (xs : List Value) : aO fun W => aZ W k e size v n xs := fun w w' h hb => h.to hb
theorem aZ.upd_ty {W W' : World} {e t : TypeId} {size n k g : Nat} {v : Value} {xs : List Value} {cs : Array Value} (h : aZ W k e size v n xs) (hG : Blk W g t cs) (ht : t ≠ e) (hU : Upd g W W') : aZ W' k e size v n xs := by
  refine h.upd hU fun e1 => ?_
  rcases h.2 with ⟨rfl, _⟩ | ⟨g2, off, cap2, cur2, rfl, _, hg2, _⟩
  · simp [Value.ownBlock] at e1
  · have : g2 = g := by simpa [Value.ownBlock] using e1
    subst this
    have := hG
    unfold Blk at this
    rw [hg2] at this
    injection this with this
    injection this with _ h2 _
    exact ht h2.symm
end Go.Proofs.YtihmbcnccdiecaaGreatDoor
