/- Part of the proofs of the laws of pairing. -/
import Derived.Test.YtihmbcnccdiecaaDoorA2
import Derived.Test.YtihmbcnccdiecaaDoorBLowB
import Derived.Test.YtihmbcnccdiecaaDoorBLowC
import Derived.Test.YtihmbcnccdiecaaDoorBSdA
import Derived.Test.YtihmbcnccdiecaaDoorBSdB
import Derived.Test.YtihmbcnccdiecaaDoorBSdC
import Derived.Test.YtihmbcnccdiecaaDoorBSdD
import Derived.Test.YtihmbcnccdiecaaDoorBSdE
import Derived.Test.YtihmbcnccdiecaaDoorBSdF
import Derived.Test.YtihmbcnccdiecaaDoorBSdG
import Derived.Test.YtihmbcnccdiecaaDoorBSdH
import Derived.Test.YtihmbcnccdiecaaDoorBSdIe
import Derived.Test.YtihmbcnccdiecaaDoorBSdIs
import Derived.Test.YtihmbcnccdiecaaDoorBSdIu
import Derived.Test.YtihmbcnccdiecaaDoorBSdJ
import Derived.Test.YtihmbcnccdiecaaDoorBSdK
import Derived.Test.YtihmbcnccdiecaaDoorBSdL
import Derived.Test.YtihmbcnccdiecaaDoorBSdM
import Derived.Test.YtihmbcnccdiecaaDoorBSdN
import Derived.Test.YtihmbcnccdiecaaDoorBTkP
import Derived.Test.YtihmbcnccdiecaaDoorBTkU
import Derived.Test.YtihmbcnccdiecaaDoorBTkV
import Derived.Test.YtihmbcnccdiecaaDoorBTkW
import Derived.Test.YtihmbcnccdiecaaDoorBTkY
import Derived.Test.YtihmbcnccdiecaaDoorBTkZ
namespace Go.Proofs.YtihmbcnccdiecaaDoor
set_option maxRecDepth 100000
open Go.ChangeShapes Go.WideShapes Go.ChangeAt Go.RowKit
set_option linter.unusedVariables false
set_option linter.unusedSimpArgs false
theorem tk_done_yes_f (X : Tk) (hd : X.done false = true) (A : Option Addr) (c : Nat) (v1 va vl : Value) (w : World) (HL : Laid w) (hr : Rd w A (evts X.g0)) : Calls Tryd.prog 14 #[.agg (tkL X (.slice A X.g0.length c) v1 va vl).toArray, .int .i64 0] w (fun e w' => e = .returned (.bool true) ∧ Below w.heap.size w w') := by
  obtain ⟨ee, hg⟩ := done_one hd
  rw [hg] at hr ⊢
  obtain ⟨bk, off, rfl, hrow⟩ := srow_open evtL_len (by decide) (show Rd w A ([ee].flatMap evtL) from hr) 0 Nat.zero_lt_one
  have h := tk_done1_f X ee bk off c v1 va vl w HL hg ⟨rd_lt hr (by simp [evts, evtL]) _ rfl, by have h := hrow w (Below.refl _ _); simpa using h⟩
  rw [hd] at h
  exact h
theorem tk_done_yes_t (X : Tk) (hd : X.done true = true) (A : Option Addr) (c : Nat) (v0 va vl : Value) (w : World) (HL : Laid w) (hr : Rd w A (evts X.g1)) : Calls Tryd.prog 14 #[.agg (tkL X v0 (.slice A X.g1.length c) va vl).toArray, .int .i64 1] w (fun e w' => e = .returned (.bool true) ∧ Below w.heap.size w w') := by
  obtain ⟨ee, hg⟩ := done_one1 hd
  rw [hg] at hr ⊢
  obtain ⟨bk, off, rfl, hrow⟩ := srow_open evtL_len (by decide) (show Rd w A ([ee].flatMap evtL) from hr) 0 Nat.zero_lt_one
  have h := tk_done1_t X ee bk off c v0 va vl w HL hg ⟨rd_lt hr (by simp [evts, evtL]) _ rfl, by have h := hrow w (Below.refl _ _); simpa using h⟩
  rw [hd] at h
  exact h
theorem tkL_one (x : Tk) {q0 q1 qa ql : Value} (h0 : q0.oneCell' = true) (h1 : q1.oneCell' = true) (h2 : qa.oneCell' = true) (h3 : ql.oneCell' = true) : (tkL x q0 q1 qa ql).all (·.oneCell') = true := by
  simp only [tkL, List.all_cons, List.all_nil, h0, h1, h2, h3]
  rfl
theorem MR.h0 {w0 W : World} {base : Nat} {rs : List Rw} {bx : List Bk} {A : Option Addr} {c : Nat} {d : Sec} (h : MR w0 W base (rwS (.slice A 1 c) [d] :: rs) bx) : ∃ b off, A = some ⟨b, off, none⟩ ∧ Rg b off (secL d) W := by
  have h0 : ownsAt W base SecT 13 (.slice A 1 c) 1 (secL d ++ []) := h.row0
  exact h0.head (by rw [secL_len]; decide)
abbrev cX : Cfg := cfgX 0 3
abbrev jX : Pr := { begunP cX with since := 4, req := cX.feat, phase := 1 }
abbrev rX : Sec := { sec0 with kind := 1, feat := cX.feat }
theorem start_one : startP (begunP cX) 4 = (jX, [rX], 0) := by
  unfold startP
  rw [if_neg (by rintro (h | h); exact h rfl; exact h rfl)]
  rfl
theorem start_two : startP jX 5 = (jX, [], 9) := by
  unfold startP
  rw [if_pos (.inr (by decide))]
theorem pa_Start1 (w : World) (HL : Laid w) : Calls Tryd.prog 25 #[.agg (prL (begunP cX)).toArray, .int .i64 4] w (fun e w' => OutS w w' jX [rX] 0 e) := by
  have k := pa_Start (begunP cX) 4 w HL (by show (0 : Int) ≤ 0; decide) (by show (0 : Int) ≤ 60; decide)
  rw [start_one] at k
  exact k
theorem pa_Start2 (w : World) (HL : Laid w) : Calls Tryd.prog 25 #[.agg (prL jX).toArray, .int .i64 5] w (fun e w' => OutS w w' jX [] 9 e) := by
  have k := pa_Start jX 5 w HL (by show (0 : Int) ≤ 0; decide) (by show (0 : Int) ≤ 60; decide)
  rw [start_two] at k
  exact k
theorem pa_Refused (w : World) (HL : Laid w) : Calls Tryd.prog 8 #[.agg (cfgL { cfg0 with role := 2 }).toArray] w fun e w' => e = .returned (.tuple #[.agg (prL pr0).toArray, .int .i64 5]) ∧ Below w.heap.size w w' := by
  have k := pa_New { cfg0 with role := 2 } w HL
  rw [live_refused] at k
  exact k
theorem hv4 {x : Tk} (h : (x.done false && x.done true && decide (x.s0.ltk = x.s1.ltk) && decide (x.s0.idn.irk = 5#64)) = true) : x.done false = true ∧ x.done true = true ∧ x.s0.ltk = x.s1.ltk ∧ x.s0.idn.irk = 5#64 := by
  simp only [Bool.and_eq_true, decide_eq_true_eq] at h
  exact ⟨h.1.1.1, h.1.1.2, h.1.2, h.2⟩
set_option maxHeartbeats 4000000 in
theorem lives38  (w : World) (HL : Laid w) :
  Calls Tryd.prog 9 #[] w (fun e w' => e = .returned (.bool true) ∧ Below w.heap.size w w') := by
 have HM := MR.start HL
 obtain ⟨base, hbs⟩ : ∃ b, w.heap.size = b := ⟨_, rfl⟩
 rw [hbs] at HM
 go_enter Tryd.func9, Tryd.ntmps9
 go_wp2_with (with_reducible refine sb ?_)
 unfold Kept
 refine wpList_bld [(0, .int .i64 2)] (cfgL { cfg0 with role := 2 }).toArray (by first | rfl | (simp only [List.map_toArray, List.map_cons, List.map_nil]; done) | (simp only [List.map_toArray, List.map_cons, List.map_nil]; rfl)) (by kernel_rfl) ?_
 go_wp2_with (with_reducible refine sb ?_)
 refine (pa_Refused _ HM.laid).mono ?_; rintro e w_1 ⟨rfl, hb_2⟩
 replace HM := HM.to hb_2
 clear hb_2
 go_wp2_with (with_reducible refine sb ?_)
 refine HM.nw (ty := 37) (cs := (prL pr0).toArray) ?_; clear HM; intro g_3 w_4 HM
 go_wp2_with (with_reducible refine sb ?_)
 refine sv (prL pr0).toArray HM.b0 ?_
 intro w_9 G_11 hU_10
 replace HM := HM.s0 hU_10 G_11
 clear hU_10 G_11
 go_wp2_with (with_reducible refine sb ?_)
 refine (tk_config0 _ HM.laid).mono ?_; rintro e w_12 ⟨rfl, hb_13⟩
 replace HM := HM.to hb_13
 clear hb_13
 go_wp2_with (with_reducible refine sb ?_)
 refine (pa_New_ok cX live_new _ HM.laid).mono ?_; rintro e w_14 ⟨rfl, hb_15⟩
 replace HM := HM.to hb_15
 clear hb_15
 go_wp2_with (with_reducible refine sb ?_)
 refine HM.nw (ty := 37) (cs := (prL pr0).toArray) ?_; clear HM; intro g_16 w_17 HM
 go_wp2_with (with_reducible refine sb ?_)
 refine sw 0 #[.int .i64 ((begunP cX).cfg.role), .int .i64 ((begunP cX).cfg.feat.io), .bool ((begunP cX).cfg.feat.oob), .bool ((begunP cX).cfg.feat.bond), .bool ((begunP cX).cfg.feat.mitm), .bool ((begunP cX).cfg.feat.sid), .bool ((begunP cX).cfg.feat.tid), .int .i64 ((begunP cX).cfg.own.kind), .int .u64 (W64 (begunP cX).cfg.own.bits), .int .i64 ((begunP cX).cfg.peer.kind), .int .u64 (W64 (begunP cX).cfg.peer.bits), .int .i64 ((begunP cX).cfg.idn.adr.kind), .int .u64 (W64 (begunP cX).cfg.idn.adr.bits), .int .u64 (W64 (begunP cX).cfg.idn.irk), .int .u32 (W32 (begunP cX).cfg.secret), .int .u64 (W64 (begunP cX).cfg.seed), .int .u64 (W64 (begunP cX).cfg.mine), .int .u64 (W64 (begunP cX).cfg.oob.value), .int .u64 (W64 (begunP cX).cfg.oob.random), .int .i64 ((begunP cX).phase), .int .i64 ((begunP cX).since), .int .i64 ((begunP cX).method), .int .i64 ((begunP cX).peer.io), .bool ((begunP cX).peer.oob), .bool ((begunP cX).peer.bond), .bool ((begunP cX).peer.mitm), .bool ((begunP cX).peer.sid), .bool ((begunP cX).peer.tid), .int .i64 ((begunP cX).req.io), .bool ((begunP cX).req.oob), .bool ((begunP cX).req.bond), .bool ((begunP cX).req.mitm), .bool ((begunP cX).req.sid), .bool ((begunP cX).req.tid), .int .i64 ((begunP cX).res.io), .bool ((begunP cX).res.oob), .bool ((begunP cX).res.bond), .bool ((begunP cX).res.mitm), .bool ((begunP cX).res.sid), .bool ((begunP cX).res.tid), .int .u32 (W32 (begunP cX).peerKey), .int .u32 (W32 (begunP cX).shared), .int .u64 (W64 (begunP cX).nonce), .int .u64 (W64 (begunP cX).other), .int .u64 (W64 (begunP cX).commit), .bool ((begunP cX).have_), .int .i64 (-1), .int .i64 ((begunP cX).round), .bool ((begunP cX).agreed), .int .u64 (W64 (begunP cX).checkIn), .bool ((begunP cX).haveIn), .bool ((begunP cX).crypt), .int .u64 (W64 (begunP cX).ltk), .int .i64 ((begunP cX).idn.adr.kind), .int .u64 (W64 (begunP cX).idn.adr.bits), .int .u64 (W64 (begunP cX).idn.irk), .int .i64 ((begunP cX).drawn), .int .i64 ((begunP cX).reason)] (prL (begunP cX)).toArray HM.b0 ?_
 intro w_22 G_24 hU_23
 replace HM := HM.s0 hU_23 G_24
 clear hU_23 G_24
 go_wp2_with (first | (with_reducible refine sb ?_) | (with_reducible refine ld 0 [.int .i64 ((begunP cX).cfg.role), .int .i64 ((begunP cX).cfg.feat.io), .bool ((begunP cX).cfg.feat.oob), .bool ((begunP cX).cfg.feat.bond), .bool ((begunP cX).cfg.feat.mitm), .bool ((begunP cX).cfg.feat.sid), .bool ((begunP cX).cfg.feat.tid), .int .i64 ((begunP cX).cfg.own.kind), .int .u64 (W64 (begunP cX).cfg.own.bits), .int .i64 ((begunP cX).cfg.peer.kind), .int .u64 (W64 (begunP cX).cfg.peer.bits), .int .i64 ((begunP cX).cfg.idn.adr.kind), .int .u64 (W64 (begunP cX).cfg.idn.adr.bits), .int .u64 (W64 (begunP cX).cfg.idn.irk), .int .u32 (W32 (begunP cX).cfg.secret), .int .u64 (W64 (begunP cX).cfg.seed), .int .u64 (W64 (begunP cX).cfg.mine), .int .u64 (W64 (begunP cX).cfg.oob.value), .int .u64 (W64 (begunP cX).cfg.oob.random), .int .i64 ((begunP cX).phase), .int .i64 ((begunP cX).since), .int .i64 ((begunP cX).method), .int .i64 ((begunP cX).peer.io), .bool ((begunP cX).peer.oob), .bool ((begunP cX).peer.bond), .bool ((begunP cX).peer.mitm), .bool ((begunP cX).peer.sid), .bool ((begunP cX).peer.tid), .int .i64 ((begunP cX).req.io), .bool ((begunP cX).req.oob), .bool ((begunP cX).req.bond), .bool ((begunP cX).req.mitm), .bool ((begunP cX).req.sid), .bool ((begunP cX).req.tid), .int .i64 ((begunP cX).res.io), .bool ((begunP cX).res.oob), .bool ((begunP cX).res.bond), .bool ((begunP cX).res.mitm), .bool ((begunP cX).res.sid), .bool ((begunP cX).res.tid), .int .u32 (W32 (begunP cX).peerKey), .int .u32 (W32 (begunP cX).shared), .int .u64 (W64 (begunP cX).nonce), .int .u64 (W64 (begunP cX).other), .int .u64 (W64 (begunP cX).commit), .bool ((begunP cX).have_), .int .i64 (-1), .int .i64 ((begunP cX).round), .bool ((begunP cX).agreed), .int .u64 (W64 (begunP cX).checkIn), .bool ((begunP cX).haveIn), .bool ((begunP cX).crypt), .int .u64 (W64 (begunP cX).ltk), .int .i64 ((begunP cX).idn.adr.kind), .int .u64 (W64 (begunP cX).idn.adr.bits), .int .u64 (W64 (begunP cX).idn.irk), .int .i64 ((begunP cX).drawn), .int .i64 ((begunP cX).reason)] HM.b0 Tryd.underlying37 ?_))
 refine (pa_Start1 _ HM.laid).mono ?_; rintro e w_28 ⟨vo, rfl, hb_29, ho⟩
 obtain ⟨A4, c4, rfl⟩ := own_slice_of ho
 replace HM := HM.join hb_29 ho (ev := []) (World.ownsRow_nil _ _ _ _); clear hb_29 ho
 dsimp only [List.cons_append, List.nil_append] at HM
 go_wp2_with (with_reducible refine sb ?_)
 refine HM.nw (ty := 37) (cs := (prL pr0).toArray) ?_; clear HM; intro g_30 w_31 HM
 go_wp2_with (with_reducible refine sb ?_)
 refine sw 0 #[.int .i64 jX.cfg.role, .int .i64 jX.cfg.feat.io, .bool jX.cfg.feat.oob, .bool jX.cfg.feat.bond, .bool jX.cfg.feat.mitm, .bool jX.cfg.feat.sid, .bool jX.cfg.feat.tid, .int .i64 jX.cfg.own.kind, .int .u64 (W64 jX.cfg.own.bits), .int .i64 jX.cfg.peer.kind, .int .u64 (W64 jX.cfg.peer.bits), .int .i64 jX.cfg.idn.adr.kind, .int .u64 (W64 jX.cfg.idn.adr.bits), .int .u64 (W64 jX.cfg.idn.irk), .int .u32 (W32 jX.cfg.secret), .int .u64 (W64 jX.cfg.seed), .int .u64 (W64 jX.cfg.mine), .int .u64 (W64 jX.cfg.oob.value), .int .u64 (W64 jX.cfg.oob.random), .int .i64 1, .int .i64 4, .int .i64 jX.method, .int .i64 jX.peer.io, .bool jX.peer.oob, .bool jX.peer.bond, .bool jX.peer.mitm, .bool jX.peer.sid, .bool jX.peer.tid, .int .i64 jX.req.io, .bool jX.req.oob, .bool jX.req.bond, .bool jX.req.mitm, .bool jX.req.sid, .bool jX.req.tid, .int .i64 jX.res.io, .bool jX.res.oob, .bool jX.res.bond, .bool jX.res.mitm, .bool jX.res.sid, .bool jX.res.tid, .int .u32 (W32 jX.peerKey), .int .u32 (W32 jX.shared), .int .u64 (W64 jX.nonce), .int .u64 (W64 jX.other), .int .u64 (W64 jX.commit), .bool jX.have_, .int .i64 (-1), .int .i64 jX.round, .bool jX.agreed, .int .u64 (W64 jX.checkIn), .bool jX.haveIn, .bool jX.crypt, .int .u64 (W64 jX.ltk), .int .i64 jX.idn.adr.kind, .int .u64 (W64 jX.idn.adr.bits), .int .u64 (W64 jX.idn.irk), .int .i64 jX.drawn, .int .i64 jX.reason] (prL jX).toArray HM.b0 ?_
 intro w_36 G_38 hU_37
 replace HM := HM.s0 hU_37 G_38
 clear hU_37 G_38
 go_wp2_with (first | (with_reducible refine sb ?_) | (with_reducible refine ld 0 [.int .i64 jX.cfg.role, .int .i64 jX.cfg.feat.io, .bool jX.cfg.feat.oob, .bool jX.cfg.feat.bond, .bool jX.cfg.feat.mitm, .bool jX.cfg.feat.sid, .bool jX.cfg.feat.tid, .int .i64 jX.cfg.own.kind, .int .u64 (W64 jX.cfg.own.bits), .int .i64 jX.cfg.peer.kind, .int .u64 (W64 jX.cfg.peer.bits), .int .i64 jX.cfg.idn.adr.kind, .int .u64 (W64 jX.cfg.idn.adr.bits), .int .u64 (W64 jX.cfg.idn.irk), .int .u32 (W32 jX.cfg.secret), .int .u64 (W64 jX.cfg.seed), .int .u64 (W64 jX.cfg.mine), .int .u64 (W64 jX.cfg.oob.value), .int .u64 (W64 jX.cfg.oob.random), .int .i64 1, .int .i64 4, .int .i64 jX.method, .int .i64 jX.peer.io, .bool jX.peer.oob, .bool jX.peer.bond, .bool jX.peer.mitm, .bool jX.peer.sid, .bool jX.peer.tid, .int .i64 jX.req.io, .bool jX.req.oob, .bool jX.req.bond, .bool jX.req.mitm, .bool jX.req.sid, .bool jX.req.tid, .int .i64 jX.res.io, .bool jX.res.oob, .bool jX.res.bond, .bool jX.res.mitm, .bool jX.res.sid, .bool jX.res.tid, .int .u32 (W32 jX.peerKey), .int .u32 (W32 jX.shared), .int .u64 (W64 jX.nonce), .int .u64 (W64 jX.other), .int .u64 (W64 jX.commit), .bool jX.have_, .int .i64 (-1), .int .i64 jX.round, .bool jX.agreed, .int .u64 (W64 jX.checkIn), .bool jX.haveIn, .bool jX.crypt, .int .u64 (W64 jX.ltk), .int .i64 jX.idn.adr.kind, .int .u64 (W64 jX.idn.adr.bits), .int .u64 (W64 jX.idn.irk), .int .i64 jX.drawn, .int .i64 jX.reason] HM.b0 Tryd.underlying37 ?_))
 refine (pa_Start2 _ HM.laid).mono ?_; rintro e w_40 ⟨vo, rfl, hb_41, ho⟩
 obtain ⟨A5, c5, rfl⟩ := own_slice_of ho; clear ho
 replace HM := HM.to hb_41; clear hb_41
 go_wp2_with (with_reducible refine sb ?_)
 refine HM.nw (ty := 37) (cs := (prL pr0).toArray) ?_; clear HM; intro g_42 w_43 HM
 go_wp2_with (with_reducible refine sb ?_)
 refine sw 0 #[.int .i64 jX.cfg.role, .int .i64 jX.cfg.feat.io, .bool jX.cfg.feat.oob, .bool jX.cfg.feat.bond, .bool jX.cfg.feat.mitm, .bool jX.cfg.feat.sid, .bool jX.cfg.feat.tid, .int .i64 jX.cfg.own.kind, .int .u64 (W64 jX.cfg.own.bits), .int .i64 jX.cfg.peer.kind, .int .u64 (W64 jX.cfg.peer.bits), .int .i64 jX.cfg.idn.adr.kind, .int .u64 (W64 jX.cfg.idn.adr.bits), .int .u64 (W64 jX.cfg.idn.irk), .int .u32 (W32 jX.cfg.secret), .int .u64 (W64 jX.cfg.seed), .int .u64 (W64 jX.cfg.mine), .int .u64 (W64 jX.cfg.oob.value), .int .u64 (W64 jX.cfg.oob.random), .int .i64 1, .int .i64 4, .int .i64 jX.method, .int .i64 jX.peer.io, .bool jX.peer.oob, .bool jX.peer.bond, .bool jX.peer.mitm, .bool jX.peer.sid, .bool jX.peer.tid, .int .i64 jX.req.io, .bool jX.req.oob, .bool jX.req.bond, .bool jX.req.mitm, .bool jX.req.sid, .bool jX.req.tid, .int .i64 jX.res.io, .bool jX.res.oob, .bool jX.res.bond, .bool jX.res.mitm, .bool jX.res.sid, .bool jX.res.tid, .int .u32 (W32 jX.peerKey), .int .u32 (W32 jX.shared), .int .u64 (W64 jX.nonce), .int .u64 (W64 jX.other), .int .u64 (W64 jX.commit), .bool jX.have_, .int .i64 (-1), .int .i64 jX.round, .bool jX.agreed, .int .u64 (W64 jX.checkIn), .bool jX.haveIn, .bool jX.crypt, .int .u64 (W64 jX.ltk), .int .i64 jX.idn.adr.kind, .int .u64 (W64 jX.idn.adr.bits), .int .u64 (W64 jX.idn.irk), .int .i64 jX.drawn, .int .i64 jX.reason] (prL jX).toArray HM.b0 ?_
 intro w_48 G_50 hU_49
 replace HM := HM.s0 hU_49 G_50
 clear hU_49 G_50
 obtain ⟨bk, off, rfl, HE⟩ := HM.h0
 have ld_51 := HM.b2.c 46 (.int .i64 (-1))
 have ld_52 : w_48.cell? ⟨bk, off, none⟩ = some (.int .i64 1) := HE.2 0 _ rfl
 have ld_53 := HM.b1.c 19 (.int .i64 1)
 have ld_54 := HM.b1.c 20 (.int .i64 4)
 go_wp2_with (with_reducible refine sb ?_)
 refine (tk_config0 _ HM.laid).mono ?_; rintro e w_55 ⟨rfl, hb_56⟩
 clear ld_51 ld_52 ld_53 ld_54
 replace HM := HM.to hb_56
 replace HE := Rg.to HE hb_56
 clear hb_56
 go_wp2_with (with_reducible refine sb ?_)
 refine (tk_config1 _ HM.laid).mono ?_; rintro e w_57 ⟨rfl, hb_58⟩
 replace HM := HM.to hb_58
 replace HE := Rg.to HE hb_58
 clear hb_58
 go_wp2_with (with_reducible refine sb ?_)
 have HV := live_done
 refine (tk_play (cfgX 0 3) (cfgX 1 3) [] none 0 0 _ HM.laid (Rd.nil _ _) (by decide)).mono ?_; rintro e w_59 ⟨P0, d0, P1, d1, va, vl, rfl, ho1, ho2, hb_60⟩
 clear HE; replace HM := HM.rdrop.rdrop.joinM hb_60; clear hb_60
 dsimp only [List.nil_append] at HM
 have O1 := Lib.hid ho1; have O2 := Lib.hid ho2; clear ho1 ho2
 generalize playT (cfgX 0 3) (cfgX 1 3) [] 0 = XL at HM HV ⊢
 obtain ⟨hv0, hv1, hv2, hv3⟩ := hv4 HV; clear HV
 have HV0 := Lib.hid hv0; have HV1 := Lib.hid hv1; clear hv0 hv1
 have y2 : (W64 XL.s0.ltk == W64 XL.s1.ltk) = true := by rw [hv2]; simp
 have y3 : (W64 XL.s0.idn.irk == 5) = true := by rw [hv3]; rfl
 clear hv2 hv3
 go_wp2_with (with_reducible refine sb ?_)
 refine HM.nw (ty := 58) (cs := (tkL tk0 (.slice none 0 0) (.slice none 0 0) (.slice none 0 0) (.slice none 0 0)).toArray) ?_; clear HM; intro g_61 w_62 HM
 go_wp2_with (with_reducible refine sb ?_)
 unfold Kept
 refine wpList_st 0 (tkL XL (.slice P0 XL.g0.length d0) (.slice P1 XL.g1.length d1) va vl).toArray (tkL XL (.slice P0 XL.g0.length d0) (.slice P1 XL.g1.length d1) va vl).toArray HM.b0 rfl rfl (by kernel_rfl) (tkL_one XL rfl rfl O1.out O2.out) (of_decide_eq_true rfl) (by kernel_rfl) ?_
 intro w_67 G_69 hU_68
 replace HM := HM.s0 hU_68 G_69
 clear hU_68 G_69
 go_wp2_with (first | (with_reducible refine sb ?_) | (with_reducible refine ld 0 (tkL XL (.slice P0 XL.g0.length d0) (.slice P1 XL.g1.length d1) va vl) HM.b0 Tryd.underlying58 ?_) | ((with_reducible refine wpList_ldg 0 (tkL XL (.slice P0 XL.g0.length d0) (.slice P1 XL.g1.length d1) va vl) HM.b0 ?_ ?_ Tryd.underlying58 ?_ ?_ ?_ ?_); rfl; rfl; rfl; kernel_rfl; rfl))
 refine (tk_done_yes_f XL HV0.out _ _ _ _ _ _ HM.laid HM.row0.rd).mono ?_; rintro e w_71 ⟨rfl, hb_72⟩
 replace HM := HM.to hb_72
 clear hb_72
 go_wp2_with (first | (with_reducible refine sb ?_) | (with_reducible refine ld 0 (tkL XL (.slice P0 XL.g0.length d0) (.slice P1 XL.g1.length d1) va vl) HM.b0 Tryd.underlying58 ?_) | ((with_reducible refine wpList_ldg 0 (tkL XL (.slice P0 XL.g0.length d0) (.slice P1 XL.g1.length d1) va vl) HM.b0 ?_ ?_ Tryd.underlying58 ?_ ?_ ?_ ?_); rfl; rfl; rfl; kernel_rfl; rfl))
 refine (tk_done_yes_t XL HV1.out _ _ _ _ _ _ HM.laid HM.rswap.row0.rd).mono ?_; rintro e w_74 ⟨rfl, hb_75⟩
 replace HM := HM.to hb_75
 clear hb_75
 have ld_76 := HM.b0.c 52 (.int .u64 (W64 XL.s0.ltk))
 have ld_77 := HM.b0.c 110 (.int .u64 (W64 XL.s1.ltk))
 have ld_78 := HM.b0.c 55 (.int .u64 (W64 XL.s0.idn.irk))
 go_wp2_with (with_reducible refine sb ?_)
 go_returns
 refine ⟨?_, by first | exact HM.below | (rw [hbs]; exact HM.below)⟩
 rfl
end Go.Proofs.YtihmbcnccdiecaaDoor
