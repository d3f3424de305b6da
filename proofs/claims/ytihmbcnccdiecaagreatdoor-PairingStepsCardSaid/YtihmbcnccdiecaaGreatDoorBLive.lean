/- Part of the proofs of the laws of pairing. -/
import Derived.Test.YtihmbcnccdiecaaGreatDoorBTkU
import Derived.Test.YtihmbcnccdiecaaGreatDoorBTkV
import Derived.Test.YtihmbcnccdiecaaGreatDoorBTkZ
namespace Go.Proofs.YtihmbcnccdiecaaGreatDoor
set_option maxRecDepth 100000
set_option linter.unusedVariables false
set_option linter.unusedSimpArgs false
open Go.ChangeShapes Go.WideShapes Go.ChangeAt Go.RowKit
theorem tY (X : Tk) (hd : X.done false = true) (A : Option Addr) (c : Nat) (v1 va vl : Value) (w : World) (HL : bW w) (hr : Rd w A (dC X.g0)) : Calls Tryz.prog 25 #[.agg (tkL X (.slice A X.g0.length c) v1 va vl).toArray, .int .i64 0] w (fun e w' => e = .returned (.bool true) ∧ Below w.heap.size w w') := by
  obtain ⟨ee, hg⟩ := G3 hd
  rw [hg] at hr ⊢
  obtain ⟨bk, off, rfl, hrow⟩ := fX lV (by decide) (show Rd w A ([ee].flatMap dS) from hr) 0 Nat.zero_lt_one
  have h := AQ X ee bk off c v1 va vl w HL hg ⟨GZ hr (by simp [dC, dS]) _ rfl, by have h := hrow w (Below.refl _ _); simpa using h⟩
  rw [hd] at h
  exact h
theorem tX (X : Tk) (hd : X.done true = true) (A : Option Addr) (c : Nat) (v0 va vl : Value) (w : World) (HL : bW w) (hr : Rd w A (dC X.g1)) : Calls Tryz.prog 25 #[.agg (tkL X v0 (.slice A X.g1.length c) va vl).toArray, .int .i64 1] w (fun e w' => e = .returned (.bool true) ∧ Below w.heap.size w w') := by
  obtain ⟨ee, hg⟩ := E4 hd
  rw [hg] at hr ⊢
  obtain ⟨bk, off, rfl, hrow⟩ := fX lV (by decide) (show Rd w A ([ee].flatMap dS) from hr) 0 Nat.zero_lt_one
  have h := CM X ee bk off c v0 va vl w HL hg ⟨GZ hr (by simp [dC, dS]) _ rfl, by have h := hrow w (Below.refl _ _); simpa using h⟩
  rw [hd] at h
  exact h
theorem JG (x : Tk) {q0 q1 qa ql : Value} (h0 : q0.oneCell' = true) (h1 : q1.oneCell' = true) (h2 : qa.oneCell' = true) (h3 : ql.oneCell' = true) : (tkL x q0 q1 qa ql).all (·.oneCell') = true := by
  simp only [tkL, List.all_cons, List.all_nil, h0, h1, h2, h3]
  rfl
theorem MR.h0 {w0 W : World} {base : Nat} {rs : List Rw} {bx : List Bk} {A : Option Addr} {c : Nat} {d : Sec} (h : MR w0 W base (rwS (.slice A 1 c) [d] :: rs) bx) : ∃ b off, A = some ⟨b, off, none⟩ ∧ Rg b off (aI d) W := by
  have h0 : aZ W base dE 13 (.slice A 1 c) 1 (aI d ++ []) := h.row0
  exact h0.head (by rw [mA]; decide)
abbrev cX : Cfg := lQ 0 3
abbrev jX : Pr := { aY cX with since := 4, req := cX.feat, phase := 1 }
abbrev rX : Sec := { cL with kind := 1, feat := cX.feat }
theorem EG : bX (aY cX) 4 = (jX, [rX], 0) := by
  unfold bX
  rw [if_neg (by rintro (h | h); exact h rfl; exact h rfl)]
  rfl
theorem D9 : bX jX 5 = (jX, [], 9) := by
  unfold bX
  rw [if_pos (.inr (by decide))]
theorem DY (w : World) (HL : bW w) : Calls Tryz.prog 23 #[.agg (prL (aY cX)).toArray, .int .i64 4] w (fun e w' => oV w w' jX [rX] 0 e) := by
  have k := qB (aY cX) 4 w HL (by show (0 : Int) ≤ 0; decide) (by show (0 : Int) ≤ 60; decide)
  rw [EG] at k
  exact k
theorem FF (w : World) (HL : bW w) : Calls Tryz.prog 23 #[.agg (prL jX).toArray, .int .i64 5] w (fun e w' => oV w w' jX [] 9 e) := by
  have k := qB jX 5 w HL (by show (0 : Int) ≤ 0; decide) (by show (0 : Int) ≤ 60; decide)
  rw [D9] at k
  exact k
theorem AJ (w : World) (HL : bW w) : Calls Tryz.prog 5 #[.agg (cT { pN with role := 2 }).toArray] w fun e w' => e = .returned (.tuple #[.agg (prL pr0).toArray, .int .i64 5]) ∧ Below w.heap.size w w' := by
  have k := BI { pN with role := 2 } w HL
  rw [wT] at k
  exact k
theorem hv4 {x : Tk} (h : (x.done false && x.done true && decide (x.s0.ltk = x.s1.ltk) && decide (x.s0.idn.irk = 5#64)) = true) : x.done false = true ∧ x.done true = true ∧ x.s0.ltk = x.s1.ltk ∧ x.s0.idn.irk = 5#64 := by
  simp only [Bool.and_eq_true, decide_eq_true_eq] at h
  exact ⟨h.1.1.1, h.1.1.2, h.1.2, h.2⟩
set_option maxHeartbeats 4000000 in
theorem xA  (w : World) (HL : bW w) :
  Calls Tryz.prog 7 #[] w (fun e w' => e = .returned (.bool true) ∧ Below w.heap.size w w') := by
 have HM := MR.start HL
 obtain ⟨base, hbs⟩ : ∃ b, w.heap.size = b := ⟨_, rfl⟩
 rw [hbs] at HM
 go_enter Tryz.func7, Tryz.ntmps7
 go_wp2_with with_reducible refine sb ?_
 unfold bA
 refine aN [(0, .int .i64 2)] (cT { pN with role := 2 }).toArray (by first | rfl | (simp only [List.map_toArray, List.map_cons, List.map_nil]; done) | (simp only [List.map_toArray, List.map_cons, List.map_nil]; rfl)) (by kernel_rfl) ?_
 go_wp2_with with_reducible refine sb ?_
 refine bt HM.to (AJ _ HM.laid) ?_; clear HM; intro a1 HM
 go_wp2_with with_reducible refine sb ?_
 refine HM.nw (ty := 37) (cs := (prL pr0).toArray) ?_; clear HM; intro a2 a3 HM
 go_wp2_with with_reducible refine sb ?_
 refine yv HM.b0 HM.s0 ?_; clear HM; intro a4 HM
 go_wp2_with with_reducible refine sb ?_
 refine bt HM.to (sQ _ HM.laid) ?_; clear HM; intro a5 HM
 go_wp2_with with_reducible refine sb ?_
 refine bt HM.to (oJ cX GB _ HM.laid) ?_; clear HM; intro a6 HM
 go_wp2_with with_reducible refine sb ?_
 refine HM.nw (ty := 37) (cs := (prL pr0).toArray) ?_; clear HM; intro a7 a8 HM
 go_wp2_with with_reducible refine sb ?_
 refine yp 0 (prL (aY cX)).toArray HM.b0 HM.s0 ?_; clear HM; intro a9 HM
 go_wp2_with first | with_reducible refine sb ?_ | with_reducible refine ld 0 [.int .i64 ((aY cX).cfg.role), .int .i64 ((aY cX).cfg.feat.io), .bool ((aY cX).cfg.feat.oob), .bool ((aY cX).cfg.feat.bond), .bool ((aY cX).cfg.feat.mitm), .bool ((aY cX).cfg.feat.sid), .bool ((aY cX).cfg.feat.tid), .int .i64 ((aY cX).cfg.own.kind), .int .u64 (W64 (aY cX).cfg.own.bits), .int .i64 ((aY cX).cfg.peer.kind), .int .u64 (W64 (aY cX).cfg.peer.bits), .int .i64 ((aY cX).cfg.idn.adr.kind), .int .u64 (W64 (aY cX).cfg.idn.adr.bits), .int .u64 (W64 (aY cX).cfg.idn.irk), .int .u32 (W32 (aY cX).cfg.secret), .int .u64 (W64 (aY cX).cfg.seed), .int .u64 (W64 (aY cX).cfg.mine), .int .u64 (W64 (aY cX).cfg.oob.value), .int .u64 (W64 (aY cX).cfg.oob.random), .int .i64 ((aY cX).phase), .int .i64 ((aY cX).since), .int .i64 ((aY cX).method), .int .i64 ((aY cX).peer.io), .bool ((aY cX).peer.oob), .bool ((aY cX).peer.bond), .bool ((aY cX).peer.mitm), .bool ((aY cX).peer.sid), .bool ((aY cX).peer.tid), .int .i64 ((aY cX).req.io), .bool ((aY cX).req.oob), .bool ((aY cX).req.bond), .bool ((aY cX).req.mitm), .bool ((aY cX).req.sid), .bool ((aY cX).req.tid), .int .i64 ((aY cX).res.io), .bool ((aY cX).res.oob), .bool ((aY cX).res.bond), .bool ((aY cX).res.mitm), .bool ((aY cX).res.sid), .bool ((aY cX).res.tid), .int .u32 (W32 (aY cX).peerKey), .int .u32 (W32 (aY cX).shared), .int .u64 (W64 (aY cX).nonce), .int .u64 (W64 (aY cX).other), .int .u64 (W64 (aY cX).commit), .bool ((aY cX).have_), .int .i64 (-1), .int .i64 ((aY cX).round), .bool ((aY cX).agreed), .int .u64 (W64 (aY cX).checkIn), .bool ((aY cX).haveIn), .bool ((aY cX).crypt), .int .u64 (W64 (aY cX).ltk), .int .i64 ((aY cX).idn.adr.kind), .int .u64 (W64 (aY cX).idn.adr.bits), .int .u64 (W64 (aY cX).idn.irk), .int .i64 ((aY cX).drawn), .int .i64 ((aY cX).reason)] HM.b0 U37 ?_
 refine (DY _ HM.laid).mono ?_; rintro e b3 ⟨vo, rfl, C, ho⟩
 obtain ⟨A4, c4, rfl⟩ := aM ho
 replace HM := HM.join C ho (ev := []) (World.ownsRow_nil _ _ _ _); clear C ho
 dsimp only [List.cons_append, List.nil_append] at HM
 go_wp2_with with_reducible refine sb ?_
 refine HM.nw (ty := 37) (cs := (prL pr0).toArray) ?_; clear HM; intro b4 b5 HM
 go_wp2_with with_reducible refine sb ?_
 refine yp 0 (prL jX).toArray HM.b0 HM.s0 ?_; clear HM; intro b6 HM
 go_wp2_with first | with_reducible refine sb ?_ | with_reducible refine ld 0 [.int .i64 jX.cfg.role, .int .i64 jX.cfg.feat.io, .bool jX.cfg.feat.oob, .bool jX.cfg.feat.bond, .bool jX.cfg.feat.mitm, .bool jX.cfg.feat.sid, .bool jX.cfg.feat.tid, .int .i64 jX.cfg.own.kind, .int .u64 (W64 jX.cfg.own.bits), .int .i64 jX.cfg.peer.kind, .int .u64 (W64 jX.cfg.peer.bits), .int .i64 jX.cfg.idn.adr.kind, .int .u64 (W64 jX.cfg.idn.adr.bits), .int .u64 (W64 jX.cfg.idn.irk), .int .u32 (W32 jX.cfg.secret), .int .u64 (W64 jX.cfg.seed), .int .u64 (W64 jX.cfg.mine), .int .u64 (W64 jX.cfg.oob.value), .int .u64 (W64 jX.cfg.oob.random), .int .i64 1, .int .i64 4, .int .i64 jX.method, .int .i64 jX.peer.io, .bool jX.peer.oob, .bool jX.peer.bond, .bool jX.peer.mitm, .bool jX.peer.sid, .bool jX.peer.tid, .int .i64 jX.req.io, .bool jX.req.oob, .bool jX.req.bond, .bool jX.req.mitm, .bool jX.req.sid, .bool jX.req.tid, .int .i64 jX.res.io, .bool jX.res.oob, .bool jX.res.bond, .bool jX.res.mitm, .bool jX.res.sid, .bool jX.res.tid, .int .u32 (W32 jX.peerKey), .int .u32 (W32 jX.shared), .int .u64 (W64 jX.nonce), .int .u64 (W64 jX.other), .int .u64 (W64 jX.commit), .bool jX.have_, .int .i64 (-1), .int .i64 jX.round, .bool jX.agreed, .int .u64 (W64 jX.checkIn), .bool jX.haveIn, .bool jX.crypt, .int .u64 (W64 jX.ltk), .int .i64 jX.idn.adr.kind, .int .u64 (W64 jX.idn.adr.bits), .int .u64 (W64 jX.idn.irk), .int .i64 jX.drawn, .int .i64 jX.reason] HM.b0 U37 ?_
 refine (FF _ HM.laid).mono ?_; rintro e b7 ⟨vo, rfl, D, ho⟩
 obtain ⟨A5, c5, rfl⟩ := aM ho; clear ho
 replace HM := HM.to D; clear D
 go_wp2_with with_reducible refine sb ?_
 refine HM.nw (ty := 37) (cs := (prL pr0).toArray) ?_; clear HM; intro b8 b9 HM
 go_wp2_with with_reducible refine sb ?_
 refine yp 0 (prL jX).toArray HM.b0 HM.s0 ?_; clear HM; intro L HM
 obtain ⟨bk, off, rfl, HE⟩ := HM.h0
 have O := HM.b2.c 46 (.int .i64 (-1))
 have U : L.cell? ⟨bk, off, none⟩ = some (.int .i64 1) := HE.2 0 _ rfl
 have Z := HM.b1.c 19 (.int .i64 1)
 have a0 := HM.b1.c 20 (.int .i64 4)
 go_wp2_with with_reducible refine sb ?_
 refine (sQ _ HM.laid).mono ?_; rintro e c0 ⟨rfl, q⟩
 clear O U Z a0
 replace HM := HM.to q
 replace HE := Rg.to HE q
 clear q
 go_wp2_with with_reducible refine sb ?_
 refine (CJ _ HM.laid).mono ?_; rintro e c6 ⟨rfl, z⟩
 replace HM := HM.to z
 replace HE := Rg.to HE z
 clear z
 go_wp2_with with_reducible refine sb ?_
 have HV := D1
 refine (BH (lQ 0 3) (lQ 1 3) [] none 0 0 _ HM.laid (Rd.nil _ _) (by decide) rfl (by decide +kernel) (by decide +kernel) rfl rfl).mono ?_; rintro e c7 ⟨P0, d0, P1, d1, va, vl, rfl, ho1, ho2, F⟩
 clear HE; replace HM := HM.rdrop.rdrop.joinM F; clear F
 dsimp only [List.nil_append] at HM
 have O1 := Lib.hid ho1; have O2 := Lib.hid ho2; clear ho1 ho2
 generalize iU (lQ 0 3) (lQ 1 3) [] 0 = XL at HM HV ⊢
 obtain ⟨hv0, hv1, hv2, hv3⟩ := hv4 HV; clear HV
 have HV0 := Lib.hid hv0; have HV1 := Lib.hid hv1; clear hv0 hv1
 have y2 : (W64 XL.s0.ltk == W64 XL.s1.ltk) = true := by rw [hv2]; simp
 have y3 : (W64 XL.s0.idn.irk == 5) = true := by rw [hv3]; rfl
 clear hv2 hv3
 go_wp2_with with_reducible refine sb ?_
 refine HM.nw (ty := 70) (cs := (tkL tk0 (.slice none 0 0) (.slice none 0 0) (.slice none 0 0) (.slice none 0 0)).toArray) ?_; clear HM; intro c8 c9 HM
 go_wp2_with with_reducible refine sb ?_
 unfold bA
 refine lW 0 (tkL XL (.slice P0 XL.g0.length d0) (.slice P1 XL.g1.length d1) va vl).toArray (tkL XL (.slice P0 XL.g0.length d0) (.slice P1 XL.g1.length d1) va vl).toArray HM.b0 rfl rfl (by kernel_rfl) (JG XL rfl rfl O1.out O2.out) (of_decide_eq_true rfl) (by kernel_rfl) ?_
 intro d2 I J
 replace HM := HM.s0 J I
 clear J I
 go_wp2_with first | with_reducible refine sb ?_ | with_reducible refine lw HM.b0 U70 ?_ | ((with_reducible refine bI 0 (tkL XL (.slice P0 XL.g0.length d0) (.slice P1 XL.g1.length d1) va vl) HM.b0 ?_ ?_ U70 ?_ ?_ ?_ ?_); rfl; rfl; rfl; kernel_rfl; rfl)
 refine bt HM.to (tY XL HV0.out _ _ _ _ _ _ HM.laid HM.row0.rd) ?_; clear HM; intro d3 HM
 go_wp2_with first | with_reducible refine sb ?_ | with_reducible refine lw HM.b0 U70 ?_ | ((with_reducible refine bI 0 (tkL XL (.slice P0 XL.g0.length d0) (.slice P1 XL.g1.length d1) va vl) HM.b0 ?_ ?_ U70 ?_ ?_ ?_ ?_); rfl; rfl; rfl; kernel_rfl; rfl)
 refine bt HM.to (tX XL HV1.out _ _ _ _ _ _ HM.laid HM.rswap.row0.rd) ?_; clear HM; intro d4 HM
 have d5 := HM.b0.c 52 (.int .u64 (W64 XL.s0.ltk))
 have d6 := HM.b0.c 110 (.int .u64 (W64 XL.s1.ltk))
 have d7 := HM.b0.c 55 (.int .u64 (W64 XL.s0.idn.irk))
 go_wp2_with with_reducible refine sb ?_
 go_returns
 refine ⟨?_, by first | exact HM.below | (rw [hbs]; exact HM.below)⟩
 rfl
end Go.Proofs.YtihmbcnccdiecaaGreatDoor
