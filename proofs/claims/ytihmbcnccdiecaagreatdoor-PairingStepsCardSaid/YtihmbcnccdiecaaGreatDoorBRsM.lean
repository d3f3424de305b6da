/- Part of the proofs of the laws of pairing. -/
import Derived.Test.YtihmbcnccdiecaaGreatDoorBSdC
namespace Go.Proofs.YtihmbcnccdiecaaGreatDoor
set_option maxRecDepth 100000
set_option linter.unusedVariables false
set_option linter.unusedSimpArgs false
open Go.ChangeShapes Go.WideShapes Go.ChangeAt Go.RowKit
def stL (s : Stp) (v u : Value) : List Value := [.int .i64 s.p.cfg.role, .int .i64 s.p.cfg.feat.io, .bool s.p.cfg.feat.oob, .bool s.p.cfg.feat.bond, .bool s.p.cfg.feat.mitm, .bool s.p.cfg.feat.sid, .bool s.p.cfg.feat.tid, .int .i64 s.p.cfg.own.kind, .int .u64 (W64 s.p.cfg.own.bits), .int .i64 s.p.cfg.peer.kind, .int .u64 (W64 s.p.cfg.peer.bits), .int .i64 s.p.cfg.idn.adr.kind, .int .u64 (W64 s.p.cfg.idn.adr.bits), .int .u64 (W64 s.p.cfg.idn.irk), .int .u32 (W32 s.p.cfg.secret), .int .u64 (W64 s.p.cfg.seed), .int .u64 (W64 s.p.cfg.mine), .int .u64 (W64 s.p.cfg.oob.value), .int .u64 (W64 s.p.cfg.oob.random), .int .i64 s.p.phase, .int .i64 s.p.since, .int .i64 s.p.method, .int .i64 s.p.peer.io, .bool s.p.peer.oob, .bool s.p.peer.bond, .bool s.p.peer.mitm, .bool s.p.peer.sid, .bool s.p.peer.tid, .int .i64 s.p.req.io, .bool s.p.req.oob, .bool s.p.req.bond, .bool s.p.req.mitm, .bool s.p.req.sid, .bool s.p.req.tid, .int .i64 s.p.res.io, .bool s.p.res.oob, .bool s.p.res.bond, .bool s.p.res.mitm, .bool s.p.res.sid, .bool s.p.res.tid, .int .u32 (W32 s.p.peerKey), .int .u32 (W32 s.p.shared), .int .u64 (W64 s.p.nonce), .int .u64 (W64 s.p.other), .int .u64 (W64 s.p.commit), .bool s.p.have_, .int .i64 s.p.passkey, .int .i64 s.p.round, .bool s.p.agreed, .int .u64 (W64 s.p.checkIn), .bool s.p.haveIn, .bool s.p.crypt, .int .u64 (W64 s.p.ltk), .int .i64 s.p.idn.adr.kind, .int .u64 (W64 s.p.idn.adr.bits), .int .u64 (W64 s.p.idn.irk), .int .i64 s.p.drawn, .int .i64 s.p.reason, v, u]
abbrev LZ : TypeId := 106
def fY : Stp := ⟨pr0, [], []⟩
def Stp.put_cfg (s : Stp) (x : Cfg) : Stp := { s with p := { s.p with cfg := x } }
def Stp.put_phase (s : Stp) (x : Int) : Stp := { s with p := { s.p with phase := x } }
def Stp.put_since (s : Stp) (x : Int) : Stp := { s with p := { s.p with since := x } }
def Stp.put_method (s : Stp) (x : Int) : Stp := { s with p := { s.p with method := x } }
def Stp.put_peer (s : Stp) (x : fQ) : Stp := { s with p := { s.p with peer := x } }
def Stp.put_req (s : Stp) (x : fQ) : Stp := { s with p := { s.p with req := x } }
def Stp.put_res (s : Stp) (x : fQ) : Stp := { s with p := { s.p with res := x } }
def Stp.put_peerKey (s : Stp) (x : BitVec 32) : Stp := { s with p := { s.p with peerKey := x } }
def Stp.put_shared (s : Stp) (x : BitVec 32) : Stp := { s with p := { s.p with shared := x } }
def Stp.put_nonce (s : Stp) (x : BitVec 64) : Stp := { s with p := { s.p with nonce := x } }
def Stp.put_other (s : Stp) (x : BitVec 64) : Stp := { s with p := { s.p with other := x } }
def Stp.put_commit (s : Stp) (x : BitVec 64) : Stp := { s with p := { s.p with commit := x } }
def Stp.put_have_ (s : Stp) (x : Bool) : Stp := { s with p := { s.p with have_ := x } }
def Stp.put_passkey (s : Stp) (x : Int) : Stp := { s with p := { s.p with passkey := x } }
def Stp.put_round (s : Stp) (x : Int) : Stp := { s with p := { s.p with round := x } }
def Stp.put_agreed (s : Stp) (x : Bool) : Stp := { s with p := { s.p with agreed := x } }
def Stp.put_checkIn (s : Stp) (x : BitVec 64) : Stp := { s with p := { s.p with checkIn := x } }
def Stp.put_haveIn (s : Stp) (x : Bool) : Stp := { s with p := { s.p with haveIn := x } }
def Stp.put_crypt (s : Stp) (x : Bool) : Stp := { s with p := { s.p with crypt := x } }
def Stp.put_ltk (s : Stp) (x : BitVec 64) : Stp := { s with p := { s.p with ltk := x } }
def Stp.put_idn (s : Stp) (x : Idn) : Stp := { s with p := { s.p with idn := x } }
def Stp.put_drawn (s : Stp) (x : Int) : Stp := { s with p := { s.p with drawn := x } }
def Stp.put_reason (s : Stp) (x : Int) : Stp := { s with p := { s.p with reason := x } }
def Stp.put_out (s : Stp) (x : List Sec) : Stp := { s with out := x }
def Stp.put_ev (s : Stp) (x : List Evt) : Stp := { s with ev := x }
section
variable {w0 W w w' : World} {base : Nat} {S : List Sec} {E : List Evt} {v u : Value} {bx : List Bk}
theorem Mem.oneS {k : Nat} (d : Sec) (h : Mem w0 W base S E v u ((k, dE, (aI d).toArray) :: bx)) : Mem w0 W base [d] E (.slice (some ⟨k, 0, none⟩) 1 1) u bx := by
  have n1 := List.pairwise_cons.1 h.nd
  have hk := h.box _ List.mem_cons_self
  have ho := xG (base := base) (n := 1) hk.1 hk.2.1 (by unfold maxLen; omega) 13 rfl
  refine ⟨h.pre, h.below, h.low, ?_, h.told, fun b hm => ⟨(h.box b (List.mem_cons_of_mem _ hm)).1, (h.box b (List.mem_cons_of_mem _ hm)).2.1, fun e2 => ?_, (h.box b (List.mem_cons_of_mem _ hm)).2.2.2⟩, n1.2⟩
  · show W.ownsRow base dE 13 _ 1 (dG [d])
    unfold dG
    rw [List.flatMap_cons, List.flatMap_nil, List.append_nil]
    exact ho
  · simp [Value.ownBlock] at e2
    exact n1.1 b hm e2
theorem Mem.none (h : Mem w0 W base S E v u bx) : Mem w0 W base [] [] (.slice none 0 0) (.slice none 0 0) bx :=
  ⟨h.pre, h.below, h.low, World.ownsRow_nil _ _ _ _, World.ownsRow_nil _ _ _ _, fun b hm => ⟨(h.box b hm).1, (h.box b hm).2.1, by simp [Value.ownBlock], by simp [Value.ownBlock]⟩, h.nd⟩
theorem FX {k : Nat} {e : TypeId} {size n : Nat} {v : Value} {xs : List Value} (h : W.ownsRow k e size v n xs) : ∃ A c, v = .slice A n c := by
  rcases h.2 with ⟨rfl, rfl, _⟩ | ⟨g, cap, cur, rfl, _⟩
  · exact ⟨_, _, rfl⟩
  · exact ⟨_, _, rfl⟩
theorem Mem.vs (h : Mem w0 W base S E v u bx) : ∃ A c, v = .slice A S.length c := FX h.sent
theorem Mem.us (h : Mem w0 W base S E v u bx) : ∃ A c, u = .slice A E.length c := FX h.told
theorem Mem.vn (h : Mem w0 W base S E v u bx) : ∃ A n c, Hid (n = S.length) ∧ v = .slice A n c := let ⟨A, c, e⟩ := h.vs; ⟨A, _, c, Lib.hid rfl, e⟩
theorem Mem.un (h : Mem w0 W base S E v u bx) : ∃ A n c, Hid (n = E.length) ∧ u = .slice A n c := let ⟨A, c, e⟩ := h.us; ⟨A, _, c, Lib.hid rfl, e⟩
def gJ (w w' : World) (base : Nat) (S : Stp) (bx : List Bk) (e : Ending) : Prop :=
  ∃ A c B d, e = .returned (.agg (stL S (.slice A S.out.length c) (.slice B S.ev.length d)).toArray) ∧ Mem w w' base S.out S.ev (.slice A S.out.length c) (.slice B S.ev.length d) bx
theorem Mem.perm {bx' : List Bk} (h : Mem w0 W base S E v u bx) (hp : bx.Perm bx') : Mem w0 W base S E v u bx' :=
  ⟨h.pre, h.below, h.low, h.sent, h.told, fun b hm => h.box b (hp.mem_iff.2 hm), (hp.pairwise_iff (fun e => Ne.symm e)).1 h.nd⟩
theorem Mem.s3 {W' : World} {k : Nat} {ty : TypeId} {cs cs' : Array Value} {a b c : Bk} (h : Mem w0 W base S E v u (a :: b :: c :: (k, ty, cs) :: bx)) (hU : Upd k W W') (hG : Blk W' k ty cs') : Mem w0 W' base S E v u (a :: b :: c :: (k, ty, cs') :: bx) :=
  ((h.perm (List.perm_middle (l₁ := [a, b, c]))).s0 hU hG).perm (List.perm_middle (l₁ := [a, b, c])).symm
theorem Mem.s4 {W' : World} {k : Nat} {ty : TypeId} {cs cs' : Array Value} {a b c d : Bk} (h : Mem w0 W base S E v u (a :: b :: c :: d :: (k, ty, cs) :: bx)) (hU : Upd k W W') (hG : Blk W' k ty cs') : Mem w0 W' base S E v u (a :: b :: c :: d :: (k, ty, cs') :: bx) :=
  ((h.perm (List.perm_middle (l₁ := [a, b, c, d]))).s0 hU hG).perm (List.perm_middle (l₁ := [a, b, c, d])).symm
theorem Mem.b5 {k : Nat} {ty : TypeId} {cs : Array Value} {a b c d e : Bk} (h : Mem w0 W base S E v u (a :: b :: c :: d :: e :: (k, ty, cs) :: bx)) : Blk W k ty cs := h.drop.b4
abbrev sn {α : Type} (l : List α) (x : α) : List α := l ++ [x]
def IT (o : Oper) : Bool := qQ 2 o || match o.op, o.guard with | .build t _, none => t == LZ | _, _ => false
theorem sy {P : Program} {ops : Array Oper} {Q : Exit → Act → World → Prop} {a : Act} {w : World} {o : Oper} {rest : List Oper} (h : bA (wpList P ops Q (o :: rest) a w)) (hs : IT o = true := by with_unfolding_all rfl) : wpList P ops Q (o :: rest) a w := h
def mkS (p : Pr) (o : List Sec) (e : List Evt) : Stp := ⟨p, o, e⟩
theorem ln9 {p : Prop} (h : p := by first | assumption | omega | decide | (simp only [Stp.put_cfg, Stp.put_phase, Stp.put_since, Stp.put_method, Stp.put_peer, Stp.put_req, Stp.put_res, Stp.put_peerKey, Stp.put_shared, Stp.put_nonce, Stp.put_other, Stp.put_commit, Stp.put_have_, Stp.put_passkey, Stp.put_round, Stp.put_agreed, Stp.put_checkIn, Stp.put_haveIn, Stp.put_crypt, Stp.put_ltk, Stp.put_idn, Stp.put_drawn, Stp.put_reason, Stp.put_out, Stp.put_ev, sn, mkS, aC, cE, dQ, eR, eX, cK, fL, cS, cF, iL, tJ, List.length_nil, List.length_cons]; first | done | omega) | (simp only [Stp.put_cfg, Stp.put_phase, Stp.put_since, Stp.put_method, Stp.put_peer, Stp.put_req, Stp.put_res, Stp.put_peerKey, Stp.put_shared, Stp.put_nonce, Stp.put_other, Stp.put_commit, Stp.put_have_, Stp.put_passkey, Stp.put_round, Stp.put_agreed, Stp.put_checkIn, Stp.put_haveIn, Stp.put_crypt, Stp.put_ltk, Stp.put_idn, Stp.put_drawn, Stp.put_reason, Stp.put_out, Stp.put_ev, sn, mkS, aC, cE, dQ, eR, eX, cK, fL, cS, cF, iL]; (repeat' split) <;> simp only [tJ, List.length_nil, List.length_cons] <;> omega)) : p := h
theorem es8 {α : Sort _} {a b : α} (h : a = b := by ((try dsimp only); (repeat' (split <;> (first | (exfalso; rename_i hh; first | exact absurd (by assumption) hh | exact absurd hh (by assumption) | exact absurd hh (bnt (by assumption)) | exact absurd hh (bnf (by assumption)) | exact hh ⟨by assumption, by assumption⟩ | exact hh ⟨by assumption, by assumption, by assumption⟩ | exact hh ⟨by assumption, by assumption, by assumption, by assumption⟩ | exact hh (.inl (by assumption)) | exact hh (.inr (by assumption)) | exact hh (.inr (.inl (by assumption))) | exact hh (.inr (.inr (by assumption))) | exact absurd (by assumption) hh.2 | exact absurd (by assumption) hh.1 | exact absurd (by assumption) hh.2.2 | exact absurd hh.1 (by assumption) | exact absurd hh.1 (bnt (by assumption)) | exact absurd hh.1 (bnf (by assumption)) | exact absurd hh.2 (by assumption) | exact absurd hh.2 (bnt (by assumption)) | exact absurd hh.2 (bnf (by assumption)) | exact absurd hh.2.1 (by assumption) | exact absurd hh.2.1 (bnt (by assumption)) | exact absurd hh.2.1 (bnf (by assumption)) | exact absurd hh.2.2 (by assumption) | exact absurd hh.2.2 (bnt (by assumption)) | exact absurd hh.2.2 (bnf (by assumption)) | exact absurd hh.2.2.1 (by assumption) | exact absurd hh.2.2.1 (bnt (by assumption)) | exact absurd hh.2.2.1 (bnf (by assumption)) | exact absurd hh.2.2.2 (by assumption) | exact absurd hh.2.2.2 (bnt (by assumption)) | exact absurd hh.2.2.2 (bnf (by assumption)) | (rcases hh with hh | hh | hh <;> first | exact absurd (by assumption) hh | exact absurd hh (by assumption) | exact absurd hh (bnt (by assumption)) | exact absurd hh (bnf (by assumption)) | omega) | (rcases hh with hh | hh <;> first | exact absurd (by assumption) hh | exact absurd hh (by assumption) | exact absurd hh (bnt (by assumption)) | exact absurd hh (bnf (by assumption)) | omega) | exact hh rfl | exact absurd hh (by decide) | omega) | skip))); all_goals rfl)) : a = b := h
theorem AC (s : Stp) : (cF s).out.length ≤ s.out.length + 1 := by
  unfold cF
  dsimp only
  split
  · unfold dQ; simp
  · exact Nat.le_succ _
def LK (w w' : World) (base : Nat) (S : Stp) (x : Value) (bx : List Bk) (e : Ending) : Prop :=
  ∃ A c B d, e = .returned (.tuple #[.agg (stL S (.slice A S.out.length c) (.slice B S.ev.length d)).toArray, x]) ∧ Mem w w' base S.out S.ev (.slice A S.out.length c) (.slice B S.ev.length d) bx
theorem bs {P : Program} {f : FuncId} {args : Array Value} {w0 W : World} {base : Nat} {S : List Sec} {E : List Evt} {v u : Value} {bx bx' : List Bk} {T : Stp} {R : Ending → World → Prop} (m : Mem w0 W base S E v u bx') (h : Calls P f args W fun e w' => gJ W w' base T bx e)
    (k : ∀ A c B d w', Mem w0 w' base T.out T.ev (.slice A T.out.length c) (.slice B T.ev.length d) bx → R (.returned (.agg (stL T (.slice A T.out.length c) (.slice B T.ev.length d)).toArray)) w') : Calls P f args W R :=
  h.mono fun e w' ⟨A, c, B, d, he, hn⟩ => he ▸ k A c B d w' (m.trans hn)
theorem stE {S T : Stp} {A B : Option Addr} {c d : Nat} (es : S = T) (h : Mem w w' base T.out T.ev (.slice A T.out.length c) (.slice B T.ev.length d) bx) :
    gJ w w' base S bx (.returned (.agg (stL T (.slice A T.out.length c) (.slice B T.ev.length d)).toArray)) := by subst es; exact ⟨_, _, _, _, rfl, h⟩
end
end Go.Proofs.YtihmbcnccdiecaaGreatDoor
