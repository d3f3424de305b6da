/- Part of the proofs of the laws of pairing. -/
import Derived.Test.YtihmbcnccdiecaaGreatDoorBSdIx
import Derived.Test.YtihmbcnccdiecaaGreatDoorBTkY
namespace Go.Proofs.YtihmbcnccdiecaaGreatDoor
set_option maxRecDepth 100000
set_option linter.unusedVariables false
set_option linter.unusedSimpArgs false
open Go.ChangeShapes Go.WideShapes Go.ChangeAt Go.RowKit
structure qJ where
  kind : Int
  pdu : Sec
  answer : Int
  now : Int
def opL (x : qJ) : List Value := [.int .i64 x.kind, .int .i64 x.pdu.kind, .int .i64 x.pdu.feat.io, .bool x.pdu.feat.oob, .bool x.pdu.feat.bond, .bool x.pdu.feat.mitm, .bool x.pdu.feat.sid, .bool x.pdu.feat.tid, .int .u32 (W32 x.pdu.pub), .int .u64 (W64 x.pdu.value), .int .i64 x.pdu.idn.adr.kind, .int .u64 (W64 x.pdu.idn.adr.bits), .int .u64 (W64 x.pdu.idn.irk), .int .i64 x.pdu.reason, .int .i64 x.answer, .int .i64 x.now]
theorem I6 (x : qJ) : (opL x).length = 16 := rfl
def opR (r : iI) : qJ := ⟨r.kind, ⟨r.pdu_kind, ⟨r.pdu_feat_io, r.pdu_feat_oob, r.pdu_feat_bond, r.pdu_feat_mitm, r.pdu_feat_sid, r.pdu_feat_tid⟩, r.pdu_pub, r.pdu_value, ⟨⟨r.pdu_idn_adr_kind, r.pdu_idn_adr_bits⟩, r.pdu_idn_irk⟩, r.pdu_reason⟩, r.answer, r.now⟩
theorem D2 (rs : List iI) : rs.flatMap iI.cells = (rs.map opR).flatMap opL := by rw [List.flatMap_map]; rfl
structure xJ where
  p : Pr
  out : List Sec
  ev : List Evt
  er : Int
def gU (p : Pr) (x : qJ) : xJ :=
  if x.kind = 0 then ⟨(bX p x.now).1, (bX p x.now).2.1, [], (bX p x.now).2.2⟩
  else if x.kind = 1 then ⟨(bU p x.pdu x.now).1, (bU p x.pdu x.now).2.1, (bU p x.pdu x.now).2.2, 0⟩
  else if x.kind = 2 then ⟨(fU p x.answer x.now).1, (fU p x.answer x.now).2.1, (fU p x.answer x.now).2.2, 0⟩
  else if x.kind = 3 then ⟨(kD p x.now).1, (kD p x.now).2.1, (kD p x.now).2.2, 0⟩
  else ⟨(kJ p x.now).1, [], (kJ p x.now).2, 0⟩
section
theorem eG {P : Program} {fn : Func} {s u u2 u3 : Tmp} {t : TypeId} {tmps : Array Value} {ad : Addr} {v : Value} {w : World} (h : fn.results = #[.cell s t, .tmp u, .tmp u2, .tmp u3]) (hs : tmps.getD s undef = .pointer (some ad)) (hl : (loadVar t ad).run P w = .ok v w) :
    (results fn tmps).run P w = .ok (.tuple #[v, tmps.getD u undef, tmps.getD u2 undef, tmps.getD u3 undef]) w := by
  have hs' : tmps[s]?.getD undef = .pointer (some ad) := by simpa using hs
  simp [results, h, hs', hl, asAddr]
end
def qY (w w' : World) (q : Pr) (out : List Sec) (ev : List Evt) (er : Int) (e : Ending) : Prop :=
  ∃ A1 c1 A2 c2, e = .returned (.tuple #[.agg (prL q).toArray, .slice A1 out.length c1, .slice A2 ev.length c2, .int .i64 er]) ∧ MR w w' w.heap.size [rwS (.slice A1 out.length c1) out, rwE (.slice A2 ev.length c2) ev] []
set_option maxHeartbeats 2000000 in
theorem JW (p : Pr) (x : qJ) (w : World) (HL : bW w) (hiv : Inv p) :
  Calls Tryz.prog 8 #[.agg (prL p).toArray, .agg (opL x).toArray] w (fun e w' => qY w w' (gU p x).p (gU p x).out (gU p x).ev (gU p x).er e) := by
 have HM := MR.start HL
 obtain ⟨base, hbs⟩ : ∃ b, w.heap.size = b := ⟨_, rfl⟩
 rw [hbs] at HM
 have hi := Lib.hid hiv
 clear hiv
 go_enter Tryz.func8, Tryz.ntmps8
 go_wp2_with with_reducible refine so ?_
 refine HM.nw (ty := 37) (cs := (prL p).toArray) ?_; clear HM; intro c7 c8 HM
 go_wp2_with with_reducible refine so ?_
 refine HM.nw (ty := 45) (cs := (opL x).toArray) ?_; clear HM; intro c9 d0 HM
 go_wp2_with with_reducible refine so ?_
 refine HM.nw (ty := 37) (cs := (prL pr0).toArray) ?_; clear HM; intro d1 d2 HM
 by_cases C : (x.kind : Int) = 0
 ·
  obtain ⟨a2, a3, q⟩ := fT C; clear C
  have a4 := HM.b1.c 0 (.int .i64 x.kind)
  have a5 := HM.b1.c 15 (.int .i64 x.now)
  go_wp2_with first | with_reducible refine so ?_ | with_reducible refine lw HM.b2 U37 ?_
  refine (qB p x.now _ HM.laid hi.out.round.1 (by have := hi.out.round.2; omega)).mono ?_; rintro e d3 ⟨vo, rfl, O, ho⟩
  clear a4 a5
  obtain ⟨d4, d5, rfl⟩ := aM ho
  replace HM := HM.join O ho (ev := []) (World.ownsRow_nil _ _ _ _); clear O ho
  dsimp only [List.cons_append, List.nil_append] at HM
  go_wp2_with with_reducible refine so ?_
  refine HM.nw (ty := 37) (cs := (prL pr0).toArray) ?_; clear HM; intro d6 d7 HM
  go_wp2_with with_reducible refine so ?_
  refine yv HM.b0 HM.s0 ?_; clear HM; intro d8 HM
  go_wp2_with first | with_reducible refine so ?_ | with_reducible refine lw HM.b0 U37 ?_
  refine yv HM.b1 HM.s1 ?_; clear HM; intro d9 HM
  go_wp2_with with_reducible refine so ?_
  refine bodyPost_ret (eG rfl rfl (fV HM.b1 U37 rfl (by kernel_rfl))) rfl ?_
  have q0 := q.out
  have es : gU p x = ⟨(bX p x.now).1, (bX p x.now).2.1, [], (bX p x.now).2.2⟩ := by unfold gU; simp [q0]
  unfold qY; rw [es, hbs]; exact ⟨_, _, _, _, rfl, HM.nob⟩
 obtain ⟨a2, a3, q⟩ := fF C; clear C
 by_cases D : (x.kind : Int) = 1
 ·
  obtain ⟨a6, a7, z⟩ := fT D; clear D
  have a8 := HM.b1.c 0 (.int .i64 x.kind)
  have a9 := HM.b1.c 15 (.int .i64 x.now)
  go_wp2_with first | with_reducible refine so ?_ | with_reducible refine lw HM.b2 U37 ?_ | with_reducible refine ld 1 (aI x.pdu) HM.b1 U43 ?_
  refine (uX p x.pdu x.now _ HM.laid hi.out.round.1 (by have := hi.out.round.2; omega)).mono ?_; rintro e e0 ⟨vo, ve, rfl, U, ho, he⟩
  clear a8 a9
  obtain ⟨e1, e2, rfl⟩ := aM ho
  obtain ⟨e3, e4, rfl⟩ := aM he
  replace HM := HM.join U ho he; clear U ho he
  dsimp only [List.cons_append, List.nil_append] at HM
  go_wp2_with with_reducible refine so ?_
  refine HM.nw (ty := 37) (cs := (prL pr0).toArray) ?_; clear HM; intro e5 e6 HM
  go_wp2_with with_reducible refine so ?_
  refine yv HM.b0 HM.s0 ?_; clear HM; intro e7 HM
  go_wp2_with first | with_reducible refine so ?_ | with_reducible refine lw HM.b0 U37 ?_
  refine yv HM.b1 HM.s1 ?_; clear HM; intro e8 HM
  go_wp2_with with_reducible refine so ?_
  refine bodyPost_ret (eG rfl rfl (fV HM.b1 U37 rfl (by kernel_rfl))) rfl ?_
  have q0 := q.out
  have q1 := z.out
  have es : gU p x = ⟨(bU p x.pdu x.now).1, (bU p x.pdu x.now).2.1, (bU p x.pdu x.now).2.2, 0⟩ := by unfold gU; simp [q0, q1]
  unfold qY; rw [es, hbs]; exact ⟨_, _, _, _, rfl, HM.nob⟩
 obtain ⟨a6, a7, z⟩ := fF D; clear D
 by_cases F : (x.kind : Int) = 2
 ·
  obtain ⟨b3, b4, I⟩ := fT F; clear F
  have b5 := HM.b1.c 0 (.int .i64 x.kind)
  have b6 := HM.b1.c 14 (.int .i64 x.answer)
  have b7 := HM.b1.c 15 (.int .i64 x.now)
  go_wp2_with first | with_reducible refine so ?_ | with_reducible refine lw HM.b2 U37 ?_
  refine (C9 p x.answer x.now _ HM.laid hi.out.round.1 (by have := hi.out.round.2; omega)).mono ?_; rintro e e9 ⟨vo, ve, rfl, Z, ho, he⟩
  clear b5 b6 b7
  obtain ⟨f0, f1, rfl⟩ := aM ho
  obtain ⟨f2, f3, rfl⟩ := aM he
  replace HM := HM.join Z ho he; clear Z ho he
  dsimp only [List.cons_append, List.nil_append] at HM
  go_wp2_with with_reducible refine so ?_
  refine HM.nw (ty := 37) (cs := (prL pr0).toArray) ?_; clear HM; intro f4 f5 HM
  go_wp2_with with_reducible refine so ?_
  refine yv HM.b0 HM.s0 ?_; clear HM; intro f6 HM
  go_wp2_with first | with_reducible refine so ?_ | with_reducible refine lw HM.b0 U37 ?_
  refine yv HM.b1 HM.s1 ?_; clear HM; intro f7 HM
  go_wp2_with with_reducible refine so ?_
  refine bodyPost_ret (eG rfl rfl (fV HM.b1 U37 rfl (by kernel_rfl))) rfl ?_
  have q0 := q.out
  have q1 := z.out
  have q2 := I.out
  have es : gU p x = ⟨(fU p x.answer x.now).1, (fU p x.answer x.now).2.1, (fU p x.answer x.now).2.2, 0⟩ := by unfold gU; simp [q0, q1, q2]
  unfold qY; rw [es, hbs]; exact ⟨_, _, _, _, rfl, HM.nob⟩
 obtain ⟨b3, b4, I⟩ := fF F; clear F
 by_cases J : (x.kind : Int) = 3
 ·
  obtain ⟨b8, b9, L⟩ := fT J; clear J
  have c0 := HM.b1.c 0 (.int .i64 x.kind)
  have c4 := HM.b1.c 15 (.int .i64 x.now)
  go_wp2_with first | with_reducible refine so ?_ | with_reducible refine lw HM.b2 U37 ?_
  refine (qH p x.now _ HM.laid hi.out.round.1 (by have := hi.out.round.2; omega)).mono ?_; rintro e f8 ⟨vo, ve, rfl, a0, ho, he⟩
  clear c0 c4
  obtain ⟨f9, g0, rfl⟩ := aM ho
  obtain ⟨g3, g4, rfl⟩ := aM he
  replace HM := HM.join a0 ho he; clear a0 ho he
  dsimp only [List.cons_append, List.nil_append] at HM
  go_wp2_with with_reducible refine so ?_
  refine HM.nw (ty := 37) (cs := (prL pr0).toArray) ?_; clear HM; intro g5 g6 HM
  go_wp2_with with_reducible refine so ?_
  refine yv HM.b0 HM.s0 ?_; clear HM; intro g7 HM
  go_wp2_with first | with_reducible refine so ?_ | with_reducible refine lw HM.b0 U37 ?_
  refine yv HM.b1 HM.s1 ?_; clear HM; intro g8 HM
  go_wp2_with with_reducible refine so ?_
  refine bodyPost_ret (eG rfl rfl (fV HM.b1 U37 rfl (by kernel_rfl))) rfl ?_
  have q0 := q.out
  have q1 := z.out
  have q2 := I.out
  have q3 := L.out
  have es : gU p x = ⟨(kD p x.now).1, (kD p x.now).2.1, (kD p x.now).2.2, 0⟩ := by unfold gU; simp [q0, q1, q2, q3]
  unfold qY; rw [es, hbs]; exact ⟨_, _, _, _, rfl, HM.nob⟩
 obtain ⟨b8, b9, L⟩ := fF J; clear J
 have c5 := HM.b1.c 0 (.int .i64 x.kind)
 have c6 := HM.b1.c 15 (.int .i64 x.now)
 go_wp2_with first | with_reducible refine so ?_ | with_reducible refine lw HM.b2 U37 ?_
 refine (EN p x.now _ HM.laid hi.out.round.1 (by have := hi.out.round.2; omega) hi.out.since.1 hi.out.since.2).mono ?_; rintro e g9 ⟨ve, rfl, a1, he⟩
 clear c5 c6
 obtain ⟨h6, h7, rfl⟩ := aM he
 replace HM := HM.join a1 (out := []) (World.ownsRow_nil _ _ _ _) he; clear a1 he
 dsimp only [List.cons_append, List.nil_append] at HM
 go_wp2_with with_reducible refine so ?_
 refine HM.nw (ty := 37) (cs := (prL pr0).toArray) ?_; clear HM; intro h8 h9 HM
 go_wp2_with with_reducible refine so ?_
 refine yv HM.b0 HM.s0 ?_; clear HM; intro i0 HM
 go_wp2_with first | with_reducible refine so ?_ | with_reducible refine lw HM.b0 U37 ?_
 refine yv HM.b1 HM.s1 ?_; clear HM; intro i1 HM
 go_wp2_with with_reducible refine so ?_
 refine bodyPost_ret (eG rfl rfl (fV HM.b1 U37 rfl (by kernel_rfl))) rfl ?_
 have q0 := q.out
 have q1 := z.out
 have q2 := I.out
 have q3 := L.out
 have es : gU p x = ⟨(kJ p x.now).1, [], (kJ p x.now).2, 0⟩ := by unfold gU; simp [q0, q1, q2, q3]
 unfold qY; rw [es, hbs]; exact ⟨_, _, _, _, rfl, HM.nob⟩
end Go.Proofs.YtihmbcnccdiecaaGreatDoor
