/- Part of the proofs of the laws of pairing. -/
import Derived.Test.YtihmbcnccdiecaaDoorA2
import Derived.Test.YtihmbcnccdiecaaDoorCACKS
import Derived.Test.YtihmbcnccdiecaaDoorCAKS
import Derived.Test.YtihmbcnccdiecaaDoorCCKS
namespace Go.Proofs.YtihmbcnccdiecaaDoor
def bwd (k : BitVec 64) (l r : BitVec 32) : Nat → BitVec 32 × BitVec 32
  | 0 => (l, r)
  | n + 1 => ((bwd k l r n).2 ^^^ rnd k (7 - n : Nat) (bwd k l r n).1, (bwd k l r n).1)
def unmix (k x : BitVec 64) : BitVec 64 := joinW (bwd k (hiW x) (loW x) 8).1 (bwd k (hiW x) (loW x) 8).2
theorem hi_join (l r : BitVec 32) : hiW (joinW l r) = l := by
  unfold hiW joinW
  apply BitVec.eq_of_getLsbD_eq
  intro i hi
  rw [BitVec.getLsbD_setWidth, BitVec.getLsbD_ushiftRight, BitVec.getLsbD_or, BitVec.getLsbD_shiftLeft, BitVec.getLsbD_setWidth, BitVec.getLsbD_setWidth]
  have := BitVec.getLsbD_of_ge r (32 + i) (by omega)
  rw [this, show 32 + i - 32 = i by omega]
  have h1 : 32 + i < 64 := by omega
  have h2 : i < 64 := by omega
  simp [hi, h1, h2]
theorem lo_join (l r : BitVec 32) : loW (joinW l r) = r := by
  unfold loW joinW
  apply BitVec.eq_of_getLsbD_eq
  intro i hi
  rw [BitVec.getLsbD_setWidth, BitVec.getLsbD_or, BitVec.getLsbD_shiftLeft, BitVec.getLsbD_setWidth, BitVec.getLsbD_setWidth]
  simp [hi]
  omega
theorem join_halves (x : BitVec 64) : joinW (hiW x) (loW x) = x := by
  unfold hiW loW joinW
  apply BitVec.eq_of_getLsbD_eq
  intro i hi
  rw [BitVec.getLsbD_or, BitVec.getLsbD_shiftLeft, BitVec.getLsbD_setWidth, BitVec.getLsbD_setWidth, BitVec.getLsbD_setWidth, BitVec.getLsbD_setWidth, BitVec.getLsbD_ushiftRight]
  by_cases h : i < 32
  · simp [h, hi]
  · rw [show 32 + (i - 32) = i by omega]
    have : i - 32 < 32 := by omega
    simp [h, hi, this]
    omega
theorem fwd_succ (k : BitVec 64) (l r : BitVec 32) (n : Nat) : fwd k l r (n + 1) = ((fwd k l r n).2, (fwd k l r n).1 ^^^ rnd k n (fwd k l r n).2) := rfl
theorem bwd_succ (k : BitVec 64) (l r : BitVec 32) (n : Nat) : bwd k l r (n + 1) = ((bwd k l r n).2 ^^^ rnd k (7 - n : Nat) (bwd k l r n).1, (bwd k l r n).1) := rfl
theorem bwd_fwd (k : BitVec 64) (l r : BitVec 32) (n : Nat) (h : n ≤ 8) : bwd k (fwd k l r 8).1 (fwd k l r 8).2 n = fwd k l r (8 - n) := by
  induction n with
  | zero => rfl
  | succ n ih =>
    have ih := ih (by omega)
    obtain ⟨m, hm⟩ : ∃ m, 8 - n = m + 1 := ⟨7 - n, by omega⟩
    have e : 8 - (n + 1) = m := by omega
    have e2 : 7 - n = m := by omega
    rw [hm] at ih
    rw [e]
    rw [bwd_succ, ih, e2, fwd_succ]
    simp only [BitVec.xor_assoc, BitVec.xor_self, BitVec.xor_zero]
theorem unmix_mix (k x : BitVec 64) : unmix k (mix k x) = x := by
  have h := bwd_fwd k (hiW x) (loW x) 8 (by omega)
  unfold unmix mix
  rw [hi_join, lo_join, h]
  exact join_halves x
theorem mix_inj (k x y : BitVec 64) : (mix k x == mix k y) = (x == y) := by
  rw [Bool.eq_iff_iff, beq_iff_eq, beq_iff_eq]
  exact ⟨fun h => by rw [← unmix_mix k x, h, unmix_mix], fun h => by rw [h]⟩
end Go.Proofs.YtihmbcnccdiecaaDoor
namespace Go.Proofs.YtihmbcnccdiecaaDoor
theorem setWidth_inj32 {x y : BitVec 32} (h : x.setWidth 64 = y.setWidth 64) : x = y := by
  have := congrArg BitVec.toNat h
  simp only [BitVec.toNat_setWidth] at this
  apply BitVec.eq_of_toNat_eq
  have h1 := x.isLt
  have h2 := y.isLt
  omega
theorem check_inj (s t : BitVec 32) (n r f x y : BitVec 64) : (checkK s n r f x y == checkK t n r f x y) = (s == t) := by
  unfold checkK
  rw [mix_inj, Bool.eq_iff_iff, beq_iff_eq, beq_iff_eq]
  exact ⟨setWidth_inj32, fun h => by rw [h]⟩
end Go.Proofs.YtihmbcnccdiecaaDoor
namespace Go.Proofs.YtihmbcnccdiecaaDoor
set_option maxRecDepth 100000
set_option linter.unusedVariables false
set_option linter.unusedSimpArgs false
def conf (v : BitVec 64) : Sec := { sec0 with kind := 3, value := v }
def rand (v : BitVec 64) : Sec := { sec0 with kind := 4, value := v }
def chkS (v : BitVec 64) : Sec := { sec0 with kind := 13, value := v }
def idS (i : Idn) : Sec := { sec0 with kind := 8, idn := i }
def shwE (n : Int) : Evt := { evt0 with kind := 1, number := n }
def askE : Evt := { evt0 with kind := 2 }
theorem sec_conf (v : BitVec 64) : secK (conf v) = 0 := by simp [secK, usedK, conf, sec0]
theorem sec_rand (v : BitVec 64) : secK (rand v) = 0 := by simp [secK, usedK, rand, sec0]
theorem sec_chk (v : BitVec 64) : secK (chkS v) = 0 := by simp [secK, usedK, chkS, sec0]
theorem sec_pub (v : BitVec 32) : secK (pubS v) = 0 := by simp [secK, usedK, pubS, sec0]
theorem sec_id (i : Idn) (h : idnK i = 0) : secK (idS i) = 0 := by simp [secK, usedK, idS, sec0, h]
theorem hand_known {p : Pr} {d : Sec} {n : Int} (h7 : p.phase < 7) (hs : secK d = 0) (hk : d.kind ≠ 5) : handleR p d n = knownR p d n := by
  unfold handleR
  rw [if_neg (by omega), if_neg (by simp [hs]), if_pos hk]
theorem hand_pass {p : Pr} {d : Sec} {n : Int} (h3 : p.phase = 3) (hs : secK d = 0) (hk : d.kind ≠ 5) (hp : isPass p.method = true) : handleR p d n = roundsR p d n := by
  have h6 : p.method ≠ 6 := by have := pass_range hp; omega
  rw [hand_known (by omega) hs hk]
  unfold knownR
  rw [if_neg (by omega), if_neg (by omega), if_neg (by omega), if_pos h3, if_neg h6, if_pos hp]
theorem hand_simple {p : Pr} {d : Sec} {n : Int} (h3 : p.phase = 3) (hs : secK d = 0) (hk : d.kind ≠ 5) (hp : isPass p.method = false) (h6 : p.method ≠ 6) : handleR p d n = simpleR p d n := by
  rw [hand_known (by omega) hs hk]
  unfold knownR
  rw [if_neg (by omega), if_neg (by omega), if_neg (by omega), if_pos h3, if_neg h6, if_neg (by simp [hp])]
theorem hand_oob {p : Pr} {d : Sec} {n : Int} (h3 : p.phase = 3) (hs : secK d = 0) (hk : d.kind ≠ 5) (h6 : p.method = 6) : handleR p d n = outsideR p d n := by
  rw [hand_known (by omega) hs hk]
  unfold knownR
  rw [if_neg (by omega), if_neg (by omega), if_neg (by omega), if_pos h3, if_pos h6]
theorem hand_wait {p : Pr} {d : Sec} {n : Int} (h4 : p.phase = 4) (hs : secK d = 0) (hk : d.kind ≠ 5) : handleR p d n = waitingR p d n := by
  rw [hand_known (by omega) hs hk]
  unfold knownR
  rw [if_neg (by omega), if_neg (by omega), if_neg (by omega), if_neg (by omega), if_pos h4]
theorem hand_check {p : Pr} {v : BitVec 64} {n : Int} (h5 : p.phase = 5) : handleR p (chkS v) n = checkedR p (acceptR p n) v n := by
  rw [hand_known (by omega) (sec_chk v) (by simp [chkS])]
  unfold knownR
  rw [if_neg (by omega), if_neg (by omega), if_neg (by omega), if_neg (by omega), if_neg (by omega), if_pos h5, if_pos (by simp [chkS])]
  rfl
theorem hand_pub {p : Pr} {k : BitVec 32} {n : Int} (h2 : p.phase = 2) : handleR p (pubS k) n = publicR p (pubS k) n := by
  rw [hand_known (by omega) (sec_pub k) (by simp [pubS])]
  unfold knownR
  rw [if_neg (by omega), if_neg (by omega), if_pos h2, if_pos (by simp [pubS])]
theorem hand_id {p : Pr} {d : Sec} {n : Int} (h6 : p.phase = 6) (hs : secK d = 0) (hk : d.kind ≠ 5) : handleR p d n = identityR p d n := by
  rw [hand_known (by omega) hs hk]
  unfold knownR
  rw [if_neg (by omega), if_neg (by omega), if_neg (by omega), if_neg (by omega), if_neg (by omega), if_neg (by omega), if_pos h6]
section
variable {p : Pr} {F : Fx} {V : Vx}
theorem Sx.in1 (h : Sx p F V) (hr : F.c.role = 1) : initR p = false := by unfold initR; rw [h.cfg, hr]; rfl
theorem Sx.in0 (h : Sx p F V) (hr : F.c.role = 0) : initR p = true := by unfold initR; rw [h.cfg, hr]; rfl
def cmV (F : Fx) (no : BitVec 64) (z : BitVec 8) : BitVec 64 := commitK (pubK F.c.secret) F.pk no z
theorem fresh_sx {s : Stp} (h : Sx s.p F V) : Sx (freshR s).p F (V.fresh F) := by
  refine ⟨h.cfg, h.meth, h.peer, h.req, h.res, h.pk, h.sh, h.hin, h.cry, h.idn, h.ph, h.hv, h.cm, ?_, h.ot, h.pw, h.rd, ?_⟩
  · show drawK s.p.cfg.seed s.p.drawn = _
    rw [h.cfg, h.dr]; rfl
  · show bump s.p.drawn = _
    rw [h.dr]; rfl
theorem commit_sx {s : Stp} (h : Sx s.p F V) (z : BitVec 8) (hz : roundR (freshR s).p = z) : ∃ q, commitR s = ⟨q, s.out ++ [conf (cmV F (V.fresh F).no z)], s.ev⟩ ∧ Sx q F (V.fresh F) := by
  have hf := fresh_sx h
  refine ⟨(freshR s).p, ?_, hf⟩
  unfold commitR sendR
  rw [hz, hf.no, hf.pk]
  show (⟨(freshR s).p, s.out ++ [conf (commitK (ownR (freshR s).p) F.pk (V.fresh F).no z)], s.ev⟩ : Stp) = _
  unfold ownR
  rw [hf.cfg]
  rfl
theorem proceed_sx {s : Stp} (h : Sx s.p F V) : ∃ q, Sx q F { V with ph := 5 } ∧ proceedR s = ⟨q, if F.c.role = 0 then s.out ++ [chkS (ownCheckR q)] else s.out, s.ev⟩ := by
  refine ⟨{ s.p with phase := 5 }, ⟨h.cfg, h.meth, h.peer, h.req, h.res, h.pk, h.sh, h.hin, h.cry, h.idn, rfl, h.hv, h.cm, h.no, h.ot, h.pw, h.rd, h.dr⟩, ?_⟩
  unfold proceedR
  have : initR { s.p with phase := 5 } = decide (F.c.role = 0) := by unfold initR; rw [show ({ s.p with phase := 5 } : Pr).cfg = F.c from h.cfg]
  by_cases hr : F.c.role = 0
  · rw [if_pos hr]
    simp only [this, hr, decide_true, if_true]
    rfl
  · rw [if_neg hr]
    simp only [this, hr, decide_false, if_false, Bool.false_eq_true]
theorem take_1 (h : Sx p F V) (hp : isPass F.m = true) (hr : F.c.role = 1) (h3 : V.ph = 3) (hh : V.hv = false) (v : BitVec 64) (n : Int) :
    ∃ q, handleR p (conf v) n = ⟨q, [conf (cmV F (V.fresh F).no (zK V.pw V.rd))], []⟩ ∧ Sx q F { V.fresh F with hv := true, cm := v } := by
  rw [hand_pass (h.ph.trans h3) (sec_conf v) (by simp [conf]) (by rw [h.meth]; exact hp)]
  unfold roundsR
  simp only [show (conf v).kind = 3 from rfl, h.hv, hh, h.in1 hr, true_and, if_true, if_false, Bool.false_eq_true]
  have h2 : Sx ({ p with since := n, commit := v, have_ := true } : Pr) F { V with hv := true, cm := v } := ⟨h.cfg, h.meth, h.peer, h.req, h.res, h.pk, h.sh, h.hin, h.cry, h.idn, h.ph, rfl, rfl, h.no, h.ot, h.pw, h.rd, h.dr⟩
  exact commit_sx (s := ⟨{ p with since := n, commit := v, have_ := true }, [], []⟩) h2 _ ((fresh_sx (s := ⟨{ p with since := n, commit := v, have_ := true }, [], []⟩) h2).z hp)
theorem take_0 (h : Sx p F V) (hp : isPass F.m = true) (hr : F.c.role = 0) (h3 : V.ph = 3) (hh : V.hv = false) (v : BitVec 64) (n : Int) :
    ∃ q, handleR p (conf v) n = ⟨q, [rand V.no], []⟩ ∧ Sx q F { V with hv := true, cm := v } := by
  rw [hand_pass (h.ph.trans h3) (sec_conf v) (by simp [conf]) (by rw [h.meth]; exact hp)]
  unfold roundsR
  simp only [show (conf v).kind = 3 from rfl, h.hv, hh, h.in0 hr, true_and, if_true]
  exact ⟨{ p with since := n, commit := v, have_ := true }, by rw [← h.no]; rfl, ⟨h.cfg, h.meth, h.peer, h.req, h.res, h.pk, h.sh, h.hin, h.cry, h.idn, h.ph, rfl, rfl, h.no, h.ot, h.pw, h.rd, h.dr⟩⟩
theorem opens_sx (h : Sx p F V) (z : BitVec 8) (hz : roundR p = z) (v : BitVec 64) : opensR p v = decide (commitK F.pk (pubK F.c.secret) v z = V.cm) := by
  unfold opensR ownR
  rw [hz, h.pk, h.cfg, h.cm]
theorem open_1 (h : Sx p F V) (hp : isPass F.m = true) (hr : F.c.role = 1) (h3 : V.ph = 3) (hh : V.hv = true) (v : BitVec 64) (n : Int) :
    (commitK F.pk (pubK F.c.secret) v (zK V.pw V.rd) ≠ V.cm ∧ handleR p (rand v) n = failR p 4 n) ∨ (commitK F.pk (pubK F.c.secret) v (zK V.pw V.rd) = V.cm ∧
    ∃ q, handleR p (rand v) n = ⟨q, [rand V.no], []⟩ ∧ Sx q F { V with hv := false, cm := 0#64, ot := v, rd := V.rd + 1, ph := if V.rd + 1 = 20 then 5 else 3 }) := by
  rw [hand_pass (h.ph.trans h3) (sec_rand v) (by simp [rand]) (by rw [h.meth]; exact hp)]
  unfold roundsR
  rw [opens_sx h _ (h.z hp)]
  simp only [show (rand v).kind = 4 from rfl, show (rand v).value = v from rfl, show ¬ (4 : Int) = 3 by decide, h.hv, hh, h.in1 hr, false_and, if_false, Bool.false_eq_true, ne_eq, not_true_eq_false, Bool.true_eq_false, or_self]
  by_cases hc : commitK F.pk (pubK F.c.secret) v (zK V.pw V.rd) = V.cm
  · right
    refine ⟨hc, ?_⟩
    simp only [hc, decide_true, Bool.true_eq_false, if_false]
    have h2 : Sx ({ p with since := n, have_ := false, commit := 0#64, other := v, round := p.round + 1 } : Pr) F { V with hv := false, cm := 0#64, ot := v, rd := V.rd + 1 } :=
      ⟨h.cfg, h.meth, h.peer, h.req, h.res, h.pk, h.sh, h.hin, h.cry, h.idn, h.ph, rfl, rfl, h.no, rfl, h.pw, by show p.round + 1 = _; rw [h.rd], h.dr⟩
    by_cases h20 : V.rd + 1 = 20
    · simp only [show (sendR ⟨{ p with since := n, have_ := false, commit := 0#64, other := v, round := p.round + 1 }, [], []⟩ 4 p.nonce).p.round = 20 from h2.rd.trans h20, h20, if_true, openedR, acceptR]
      obtain ⟨q, hq, e⟩ := proceed_sx (s := sendR ⟨{ p with since := n, have_ := false, commit := 0#64, other := v, round := p.round + 1 }, [], []⟩ 4 p.nonce) h2
      refine ⟨q, ?_, ?_⟩
      · rw [e, hr]
        rw [← h.no]
        rfl
      · rw [h20] at hq; exact hq
    · simp only [show ¬ (sendR ⟨{ p with since := n, have_ := false, commit := 0#64, other := v, round := p.round + 1 }, [], []⟩ 4 p.nonce).p.round = 20 from fun e => h20 (h2.rd.symm.trans e), h20, if_false, openedR, acceptR]
      refine ⟨{ p with since := n, have_ := false, commit := 0#64, other := v, round := p.round + 1 }, by rw [← h.no]; rfl, ?_⟩
      have h3' := h2
      rw [show (3 : Int) = V.ph from h3.symm]
      exact h2
  · left
    refine ⟨hc, ?_⟩
    simp only [hc, decide_false, if_true]
theorem open_0 (h : Sx p F V) (hp : isPass F.m = true) (hr : F.c.role = 0) (h3 : V.ph = 3) (hh : V.hv = true) (v : BitVec 64) (n : Int) :
    (commitK F.pk (pubK F.c.secret) v (zK V.pw V.rd) ≠ V.cm ∧ handleR p (rand v) n = failR p 4 n) ∨ (commitK F.pk (pubK F.c.secret) v (zK V.pw V.rd) = V.cm ∧
    ((V.rd + 1 = 20 ∧ ∃ q, handleR p (rand v) n = ⟨q, [chkS (ownCheckR q)], []⟩ ∧ Sx q F { V with hv := false, cm := 0#64, ot := v, rd := V.rd + 1, ph := 5 }) ∨
     (V.rd + 1 ≠ 20 ∧ ∃ q, handleR p (rand v) n = ⟨q, [conf (cmV F (V.fresh F).no (zK V.pw (V.rd + 1)))], []⟩ ∧ Sx q F { V.fresh F with hv := false, cm := 0#64, ot := v, rd := V.rd + 1 }))) := by
  rw [hand_pass (h.ph.trans h3) (sec_rand v) (by simp [rand]) (by rw [h.meth]; exact hp)]
  unfold roundsR
  rw [opens_sx h _ (h.z hp)]
  simp only [show (rand v).kind = 4 from rfl, show (rand v).value = v from rfl, show ¬ (4 : Int) = 3 by decide, h.hv, hh, h.in0 hr, false_and, if_false, if_true, Bool.false_eq_true, ne_eq, not_true_eq_false, Bool.true_eq_false, or_self]
  by_cases hc : commitK F.pk (pubK F.c.secret) v (zK V.pw V.rd) = V.cm
  · right
    refine ⟨hc, ?_⟩
    simp only [hc, decide_true, Bool.true_eq_false, if_false]
    have h2 : Sx ({ p with since := n, have_ := false, commit := 0#64, other := v, round := p.round + 1 } : Pr) F { V with hv := false, cm := 0#64, ot := v, rd := V.rd + 1 } :=
      ⟨h.cfg, h.meth, h.peer, h.req, h.res, h.pk, h.sh, h.hin, h.cry, h.idn, h.ph, rfl, rfl, h.no, rfl, h.pw, by show p.round + 1 = _; rw [h.rd], h.dr⟩
    by_cases h20 : V.rd + 1 = 20
    · left
      refine ⟨h20, ?_⟩
      simp only [openedR, acceptR, show p.round + 1 = 20 by rw [h.rd]; exact h20, if_true]
      obtain ⟨q, hq, e⟩ := proceed_sx (s := ⟨{ p with since := n, have_ := false, commit := 0#64, other := v, round := 20 }, [], []⟩) (V := { V with hv := false, cm := 0#64, ot := v, rd := V.rd + 1 }) (by
        have := h2
        rw [show p.round + 1 = 20 by rw [h.rd]; exact h20] at this
        exact this)
      refine ⟨q, ?_, hq⟩
      rw [e, hr]
      rfl
    · right
      refine ⟨h20, ?_⟩
      simp only [openedR, acceptR, show ¬ p.round + 1 = 20 by rw [h.rd]; exact h20, if_false]
      exact commit_sx (s := ⟨{ p with since := n, have_ := false, commit := 0#64, other := v, round := p.round + 1 }, [], []⟩) h2 _ ((fresh_sx (s := ⟨{ p with since := n, have_ := false, commit := 0#64, other := v, round := p.round + 1 }, [], []⟩) h2).z hp)
  · left
    refine ⟨hc, ?_⟩
    simp only [hc, decide_false, if_true]
theorem wait_1 (h : Sx p F V) (hp : isPass F.m = true) (hr : F.c.role = 1) (h4 : V.ph = 4) (hh : V.hv = false) (v : BitVec 64) (n : Int) :
    ∃ q, handleR p (conf v) n = ⟨q, [], []⟩ ∧ Sx q F { V with hv := true, cm := v } := by
  rw [hand_wait (h.ph.trans h4) (sec_conf v) (by simp [conf])]
  unfold waitingR
  simp only [show (conf v).kind = 3 from rfl, h.hv, hh, h.in1 hr, h.meth, hp, true_and, and_self, if_true]
  exact ⟨{ p with since := n, commit := v, have_ := true }, rfl, ⟨h.cfg, h.meth, h.peer, h.req, h.res, h.pk, h.sh, h.hin, h.cry, h.idn, h.ph, rfl, rfl, h.no, h.ot, h.pw, h.rd, h.dr⟩⟩
theorem enter_c (h : Sx p F V) (hp : isPass F.m = true) (h4 : V.ph = 4) (hc : F.c.role = 0 ∨ V.hv = true) (w n : Int) (h0 : 0 ≤ w) (h1 : w ≤ 999999) :
    ∃ q, userR p w n = ⟨q, [conf (cmV F (V.fresh F).no (zK w V.rd))], []⟩ ∧ Sx q F { V.fresh F with ph := 3, pw := w } := by
  unfold userR
  rw [if_neg (by rw [h.ph, h4]; omega)]
  simp only [h.meth, hp, if_true, show ¬ w < 0 by omega, if_false]
  have h2 : Sx ({ p with since := n, passkey := w, phase := 3 } : Pr) F { V with ph := 3, pw := w } := ⟨h.cfg, h.meth, h.peer, h.req, h.res, h.pk, h.sh, h.hin, h.cry, h.idn, rfl, h.hv, h.cm, h.no, h.ot, rfl, h.rd, h.dr⟩
  rw [if_pos (by
    rcases hc with hc | hc
    · exact .inl (h.in0 hc)
    · exact .inr (h.hv.trans hc))]
  exact commit_sx (s := ⟨{ p with since := n, passkey := w, phase := 3 }, [], []⟩) h2 _ ((fresh_sx (s := ⟨{ p with since := n, passkey := w, phase := 3 }, [], []⟩) h2).z hp)
theorem enter_n (h : Sx p F V) (hp : isPass F.m = true) (h4 : V.ph = 4) (hr : F.c.role = 1) (hh : V.hv = false) (w n : Int) (h0 : 0 ≤ w) (h1 : w ≤ 999999) :
    ∃ q, userR p w n = ⟨q, [], []⟩ ∧ Sx q F { V with ph := 3, pw := w } := by
  unfold userR
  rw [if_neg (by rw [h.ph, h4]; omega)]
  simp only [h.meth, hp, if_true, show ¬ w < 0 by omega, if_false]
  rw [if_neg (by rw [h.in1 hr, h.hv, hh]; simp)]
  exact ⟨{ p with since := n, passkey := w, phase := 3 }, rfl, ⟨h.cfg, h.meth, h.peer, h.req, h.res, h.pk, h.sh, h.hin, h.cry, h.idn, rfl, h.hv, h.cm, h.no, h.ot, rfl, h.rd, h.dr⟩⟩
end
end Go.Proofs.YtihmbcnccdiecaaDoor
namespace Go.Proofs.YtihmbcnccdiecaaDoor
set_option maxRecDepth 100000
set_option linter.unusedVariables false
set_option linter.unusedSimpArgs false
section
variable {p : Pr} {F : Fx} {V : Vx}
theorem three_sx {s : Stp} (h : Sx s.p F V) : Sx ({ s.p with phase := 3 } : Pr) F { V with ph := 3 } := ⟨h.cfg, h.meth, h.peer, h.req, h.res, h.pk, h.sh, h.hin, h.cry, h.idn, rfl, h.hv, h.cm, h.no, h.ot, h.pw, h.rd, h.dr⟩
theorem q_o0 {s : Stp} (h : Sx s.p F V) (hm : F.m = 6) (hr : F.c.role = 0) : ∃ q, beginQ s = ⟨q, s.out ++ [rand (V.fresh F).no], s.ev⟩ ∧ Sx q F (V.fresh F) := by
  have h3 := fresh_sx h
  refine ⟨_, ?_, h3⟩
  unfold beginQ
  rw [if_pos (h.meth.trans hm), if_pos (h.in0 hr)]
  unfold sendR
  rw [h3.no]
  rfl
theorem q_o1 {s : Stp} (h : Sx s.p F V) (hm : F.m = 6) (hr : F.c.role = 1) : beginQ s = s := by
  unfold beginQ
  rw [if_pos (h.meth.trans hm), if_neg (by rw [h.in1 hr]; decide)]
theorem q_s0 {s : Stp} (h : Sx s.p F V) (hm : F.m ≠ 6) (hp : isPass F.m = false) (hr : F.c.role = 0) : beginQ s = s := by
  unfold beginQ
  rw [if_neg (fun e => hm (h.meth.symm.trans e)), if_pos (by rw [h.meth]; exact hp), if_pos (h.in0 hr)]
theorem q_s1 {s : Stp} (h : Sx s.p F V) (hm : F.m ≠ 6) (hp : isPass F.m = false) (hr : F.c.role = 1) : ∃ q, beginQ s = ⟨q, s.out ++ [conf (cmV F (V.fresh F).no 0#8)], s.ev⟩ ∧ Sx q F (V.fresh F) := by
  unfold beginQ
  rw [if_neg (fun e => hm (h.meth.symm.trans e)), if_pos (by rw [h.meth]; exact hp), if_neg (by rw [h.in1 hr]; decide)]
  exact commit_sx h 0#8 ((fresh_sx h).z0 hp)
theorem begin_o0 {s : Stp} (h : Sx s.p F V) (hm : F.m = 6) (hr : F.c.role = 0) : ∃ q, beginR s = ⟨q, s.out ++ [rand (V.fresh F).no], s.ev⟩ ∧ Sx q F { V.fresh F with ph := 3 } :=
  q_o0 (s := ⟨{ s.p with phase := 3 }, s.out, s.ev⟩) (three_sx h) hm hr
theorem begin_o1 {s : Stp} (h : Sx s.p F V) (hm : F.m = 6) (hr : F.c.role = 1) : ∃ q, beginR s = ⟨q, s.out, s.ev⟩ ∧ Sx q F { V with ph := 3 } :=
  ⟨_, q_o1 (s := ⟨{ s.p with phase := 3 }, s.out, s.ev⟩) (three_sx h) hm hr, three_sx h⟩
theorem begin_s0 {s : Stp} (h : Sx s.p F V) (hm : F.m ≠ 6) (hp : isPass F.m = false) (hr : F.c.role = 0) : ∃ q, beginR s = ⟨q, s.out, s.ev⟩ ∧ Sx q F { V with ph := 3 } :=
  ⟨_, q_s0 (s := ⟨{ s.p with phase := 3 }, s.out, s.ev⟩) (three_sx h) hm hp hr, three_sx h⟩
theorem begin_s1 {s : Stp} (h : Sx s.p F V) (hm : F.m ≠ 6) (hp : isPass F.m = false) (hr : F.c.role = 1) : ∃ q, beginR s = ⟨q, s.out ++ [conf (cmV F (V.fresh F).no 0#8)], s.ev⟩ ∧ Sx q F { V.fresh F with ph := 3 } :=
  q_s1 (s := ⟨{ s.p with phase := 3 }, s.out, s.ev⟩) (three_sx h) hm hp hr
def shF (F : Fx) : Bool := (decide (F.m = 3) && decide (F.c.role = 0)) || (decide (F.m = 4) && !decide (F.c.role = 0))
theorem shows_sx (h : Sx p F V) : showsR p = shF F := by
  unfold showsR shF initR
  rw [h.meth, h.cfg]
theorem begin_ask {s : Stp} (h : Sx s.p F V) (hp : isPass F.m = true) (hs : shF F = false) : ∃ q, beginR s = ⟨q, s.out, s.ev ++ [askE]⟩ ∧ Sx q F { V with ph := 4 } := by
  have h6 : F.m ≠ 6 := by have := pass_range hp; omega
  refine ⟨{ s.p with phase := 4 }, ?_, ⟨h.cfg, h.meth, h.peer, h.req, h.res, h.pk, h.sh, h.hin, h.cry, h.idn, rfl, h.hv, h.cm, h.no, h.ot, h.pw, h.rd, h.dr⟩⟩
  have key : ∀ s : Stp, Sx s.p F { V with ph := 3 } → beginQ s = reportR { s with p := { s.p with phase := 4 } } 2 0 := by
    intro s h
    unfold beginQ
    rw [if_neg (fun e => h6 (h.meth.symm.trans e)), if_neg (by rw [h.meth, hp]; decide), if_pos ((shows_sx h).trans hs)]
  rw [begin_q, key _ (three_sx h)]
  rfl
def pwK (F : Fx) (V : Vx) : Int := ((drawK F.c.seed V.dr % 1000000#64).toNat : Int)
theorem pwK_in (F : Fx) (V : Vx) : 0 ≤ pwK F V ∧ pwK F V ≤ 999999 := by
  unfold pwK
  have h : (drawK F.c.seed V.dr % 1000000#64).toNat < 1000000 := by rw [BitVec.toNat_umod]; exact Nat.mod_lt _ (by decide)
  omega
def Vx.shown (V : Vx) (F : Fx) : Vx := { V with ph := 3, pw := pwK F V, dr := bump V.dr }
theorem begin_show {s : Stp} (h : Sx s.p F V) (hp : isPass F.m = true) (hs : shF F = true) :
    (F.c.role = 0 → ∃ q, beginR s = ⟨q, s.out ++ [conf (cmV F ((V.shown F).fresh F).no (zK (pwK F V) V.rd))], s.ev ++ [shwE (pwK F V)]⟩ ∧ Sx q F ((V.shown F).fresh F)) ∧
    (F.c.role = 1 → ∃ q, beginR s = ⟨q, s.out, s.ev ++ [shwE (pwK F V)]⟩ ∧ Sx q F (V.shown F)) := by
  have h6 : F.m ≠ 6 := by have := pass_range hp; omega
  have h3 : Sx ({ s.p with phase := 3, drawn := bump s.p.drawn, passkey := pwK F V } : Pr) F (V.shown F) := ⟨h.cfg, h.meth, h.peer, h.req, h.res, h.pk, h.sh, h.hin, h.cry, h.idn, rfl, h.hv, h.cm, h.no, h.ot, rfl, h.rd, by show bump s.p.drawn = bump V.dr; rw [h.dr]⟩
  have key : ∀ s : Stp, Sx s.p F { V with ph := 3 } → beginQ s = if initR s.p then commitR ⟨{ s.p with drawn := bump s.p.drawn, passkey := pwK F V }, s.out, s.ev ++ [shwE (pwK F V)]⟩ else ⟨{ s.p with drawn := bump s.p.drawn, passkey := pwK F V }, s.out, s.ev ++ [shwE (pwK F V)]⟩ := by
    intro s h
    have hv : nextV s = drawK F.c.seed V.dr := by
      unfold nextV
      rw [h.cfg, h.dr]
    unfold beginQ
    rw [if_neg (fun e => h6 (h.meth.symm.trans e)), if_neg (by rw [h.meth, hp]; decide), if_neg (by rw [shows_sx h, hs]; decide), hv]
    rfl
  rw [begin_q, key _ (three_sx h)]
  constructor
  · intro hr
    rw [if_pos ((three_sx h).in0 hr)]
    exact commit_sx (s := ⟨{ s.p with phase := 3, drawn := bump s.p.drawn, passkey := pwK F V }, s.out, s.ev ++ [shwE (pwK F V)]⟩) h3 _ ((fresh_sx (s := ⟨{ s.p with phase := 3, drawn := bump s.p.drawn, passkey := pwK F V }, s.out, s.ev ++ [shwE (pwK F V)]⟩) h3).z hp)
  · intro hr
    rw [if_neg (by rw [(three_sx h).in1 hr]; decide)]
    exact ⟨_, rfl, h3⟩
def keyOk (F : Fx) (k : BitVec 32) : Prop := validK k = true ∧ k ≠ pubK F.c.secret ∧ (F.c.feat.oob = true → F.c.oob.value = commitK k k F.c.oob.random 0#8)
theorem pub_sx (h : Sx p F V) (h2 : V.ph = 2) (k : BitVec 32) (n : Int) :
    (¬ keyOk F k ∧ (handleR p (pubS k) n).p.phase = 8) ∨ (keyOk F k ∧ ∃ s : Stp, Sx s.p (F.key k) V ∧ s.ev = [] ∧ s.out = (if F.c.role = 0 then [] else [pubS (pubK F.c.secret)]) ∧ handleR p (pubS k) n = beginR s) := by
  rw [hand_pub (h.ph.trans h2)]
  unfold publicR
  simp only [show (pubS k).pub = k from rfl, ownR, h.cfg]
  by_cases h1 : validK k = false ∨ k = pubK F.c.secret
  · left
    rw [if_pos h1]
    refine ⟨fun hk => ?_, rfl⟩
    rcases h1 with h1 | h1
    · rw [hk.1] at h1; cases h1
    · exact hk.2.1 h1
  rw [if_neg h1]
  by_cases h3 : F.c.feat.oob = true ∧ F.c.oob.value ≠ commitK k k F.c.oob.random 0#8
  · left
    rw [if_pos h3]
    exact ⟨fun hk => h3.2 (hk.2.2 h3.1), rfl⟩
  rw [if_neg h3]
  right
  refine ⟨⟨?_, fun e => h1 (.inr e), fun e => ?_⟩, ⟨{ p with since := n, peerKey := k, shared := sharedK F.c.secret k }, if initR p then [] else [{ sec0 with kind := 12, pub := pubK F.c.secret }], []⟩, ?_, rfl, ?_, ?_⟩
  · cases hv : validK k
    · exact absurd (.inl hv) h1
    · rfl
  · exact Decidable.byContradiction fun hc => h3 ⟨e, hc⟩
  · exact ⟨h.cfg, h.meth, h.peer, h.req, h.res, rfl, rfl, h.hin, h.cry, h.idn, h.ph, h.hv, h.cm, h.no, h.ot, h.pw, h.rd, h.dr⟩
  · unfold initR
    simp only [h.cfg, decide_eq_true_eq]
    rfl
  · rw [← h.cfg]
theorem stake_0 (h : Sx p F V) (hm : F.m ≠ 6) (hp : isPass F.m = false) (hr : F.c.role = 0) (h3 : V.ph = 3) (hh : V.hv = false) (v : BitVec 64) (n : Int) :
    ∃ q, handleR p (conf v) n = ⟨q, [rand (V.fresh F).no], []⟩ ∧ Sx q F { V.fresh F with hv := true, cm := v } := by
  rw [hand_simple (h.ph.trans h3) (sec_conf v) (by simp [conf]) (by rw [h.meth]; exact hp) (by rw [h.meth]; exact hm)]
  unfold simpleR
  simp only [show (conf v).kind = 3 from rfl, h.hv, hh, h.in0 hr, Bool.true_eq_false, false_and, if_false, and_self, if_true, true_and]
  have h2 : Sx ({ p with since := n, commit := v, have_ := true } : Pr) F { V with hv := true, cm := v } := ⟨h.cfg, h.meth, h.peer, h.req, h.res, h.pk, h.sh, h.hin, h.cry, h.idn, h.ph, rfl, rfl, h.no, h.ot, h.pw, h.rd, h.dr⟩
  have h3 := fresh_sx (s := ⟨{ p with since := n, commit := v, have_ := true }, [], []⟩) h2
  refine ⟨_, ?_, h3⟩
  have e : sendR (freshR ⟨{ p with since := n, commit := v, have_ := true }, [], []⟩) 4 (freshR ⟨{ p with since := n, commit := v, have_ := true }, [], []⟩).p.nonce = ⟨(freshR ⟨{ p with since := n, commit := v, have_ := true }, [], []⟩).p, [rand (V.fresh F).no], []⟩ := by
    rw [h3.no]
    rfl
  exact e
def dig0 (F : Fx) (V : Vx) : Int := ((digitsK (pubK F.c.secret) F.pk V.no V.ot).toNat : Int)
def dig1 (F : Fx) (V : Vx) : Int := ((digitsK F.pk (pubK F.c.secret) V.ot V.no).toNat : Int)
theorem agree_j {s : Stp} (h : Sx s.p F V) (hm : F.m = 1) : ∃ q, Sx q F { V with ph := 5 } ∧ agreeR s = ⟨q, if F.c.role = 0 then s.out ++ [chkS (ownCheckR q)] else s.out, s.ev⟩ := by
  unfold agreeR
  rw [if_pos (h.meth.trans hm)]
  exact proceed_sx h
theorem agree_t {t : Stp} (h : Sx t.p F V) : (if initR t.p then reportR t 1 ((digitsK (ownR t.p) t.p.peerKey t.p.nonce t.p.other).toNat : Int) else reportR t 1 ((digitsK t.p.peerKey (ownR t.p) t.p.other t.p.nonce).toNat : Int)) = ⟨t.p, t.out, t.ev ++ [shwE (if F.c.role = 0 then dig0 F V else dig1 F V)]⟩ := by
  have hi : initR t.p = decide (F.c.role = 0) := by unfold initR; rw [h.cfg]
  unfold ownR
  rw [hi, h.cfg, h.pk, h.no, h.ot]
  by_cases hr : F.c.role = 0
  · rw [if_pos (by simpa using hr), if_pos hr]; rfl
  · rw [if_neg (by simpa using hr), if_neg hr]; rfl
theorem agree_c {s : Stp} (h : Sx s.p F V) (hm : F.m ≠ 1) : ∃ q, Sx q F { V with ph := 4 } ∧ agreeR s = ⟨q, s.out, s.ev ++ [shwE (if F.c.role = 0 then dig0 F V else dig1 F V)]⟩ := by
  have h2 : Sx ({ s.p with phase := 4 } : Pr) F { V with ph := 4 } := ⟨h.cfg, h.meth, h.peer, h.req, h.res, h.pk, h.sh, h.hin, h.cry, h.idn, rfl, h.hv, h.cm, h.no, h.ot, h.pw, h.rd, h.dr⟩
  refine ⟨_, h2, ?_⟩
  unfold agreeR
  rw [if_neg (by rw [h.meth]; exact hm)]
  exact agree_t (t := ⟨{ s.p with phase := 4 }, s.out, s.ev⟩) (V := { V with ph := 4 }) h2
theorem srand_1 (h : Sx p F V) (hm : F.m = 1 ∨ F.m = 2) (hr : F.c.role = 1) (h3 : V.ph = 3) (v : BitVec 64) (n : Int) :
    (F.m = 1 → ∃ q, handleR p (rand v) n = ⟨q, [rand V.no], []⟩ ∧ Sx q F { V with ot := v, ph := 5 }) ∧
    (F.m = 2 → ∃ q, handleR p (rand v) n = ⟨q, [rand V.no], [shwE (dig1 F { V with ot := v })]⟩ ∧ Sx q F { V with ot := v, ph := 4 }) := by
  have hp : isPass F.m = false := by rcases hm with e | e <;> rw [e] <;> rfl
  rw [hand_simple (h.ph.trans h3) (sec_rand v) (by simp [rand]) (by rw [h.meth]; exact hp) (by rw [h.meth]; omega)]
  unfold simpleR
  simp only [show (rand v).kind = 4 from rfl, h.in1 hr, and_self, if_true, show (rand v).value = v from rfl]
  have h2 : Sx ({ p with since := n, other := v } : Pr) F { V with ot := v } := ⟨h.cfg, h.meth, h.peer, h.req, h.res, h.pk, h.sh, h.hin, h.cry, h.idn, h.ph, h.hv, h.cm, h.no, rfl, h.pw, h.rd, h.dr⟩
  constructor
  · intro h1
    obtain ⟨q, hq, e⟩ := agree_j (s := sendR ⟨{ p with since := n, other := v }, [], []⟩ 4 p.nonce) h2 h1
    refine ⟨q, ?_, hq⟩
    show agreeR (sendR ⟨{ p with since := n, other := v }, [], []⟩ 4 p.nonce) = _
    rw [e, hr, ← h.no]
    rfl
  · intro h1
    obtain ⟨q, hq, e⟩ := agree_c (s := sendR ⟨{ p with since := n, other := v }, [], []⟩ 4 p.nonce) h2 (by omega)
    refine ⟨q, ?_, hq⟩
    show agreeR (sendR ⟨{ p with since := n, other := v }, [], []⟩ 4 p.nonce) = _
    rw [e, hr, ← h.no]
    rfl
theorem sopen_0 (h : Sx p F V) (hm : F.m = 1 ∨ F.m = 2) (hr : F.c.role = 0) (h3 : V.ph = 3) (hh : V.hv = true) (v : BitVec 64) (n : Int) :
    (commitK F.pk (pubK F.c.secret) v 0#8 ≠ V.cm ∧ handleR p (rand v) n = failR p 4 n) ∨ (commitK F.pk (pubK F.c.secret) v 0#8 = V.cm ∧
    (F.m = 1 → ∃ q, handleR p (rand v) n = ⟨q, [chkS (ownCheckR q)], []⟩ ∧ Sx q F { V with hv := false, cm := 0#64, ot := v, ph := 5 }) ∧
    (F.m = 2 → ∃ q, handleR p (rand v) n = ⟨q, [], [shwE (dig0 F { V with ot := v })]⟩ ∧ Sx q F { V with hv := false, cm := 0#64, ot := v, ph := 4 })) := by
  have hp : isPass F.m = false := by rcases hm with e | e <;> rw [e] <;> rfl
  rw [hand_simple (h.ph.trans h3) (sec_rand v) (by simp [rand]) (by rw [h.meth]; exact hp) (by rw [h.meth]; omega)]
  unfold simpleR
  simp only [show (rand v).kind = 4 from rfl, h.in0 hr, h.hv, hh, Bool.true_eq_false, false_and, if_false, show ¬ (4 : Int) = 3 by decide, and_false, and_self, if_true, show (rand v).value = v from rfl, opens_sx h 0#8 (h.z0 hp)]
  by_cases hc : commitK F.pk (pubK F.c.secret) v 0#8 = V.cm
  · right
    refine ⟨hc, ?_⟩
    simp only [hc, decide_true, Bool.true_eq_false, if_false]
    have h2 : Sx ({ p with since := n, have_ := false, commit := 0#64, other := v } : Pr) F { V with hv := false, cm := 0#64, ot := v } := ⟨h.cfg, h.meth, h.peer, h.req, h.res, h.pk, h.sh, h.hin, h.cry, h.idn, h.ph, rfl, rfl, h.no, rfl, h.pw, h.rd, h.dr⟩
    constructor
    · intro h1
      obtain ⟨q, hq, e⟩ := agree_j (s := ⟨{ p with since := n, have_ := false, commit := 0#64, other := v }, [], []⟩) h2 h1
      refine ⟨q, ?_, hq⟩
      show agreeR ⟨{ p with since := n, have_ := false, commit := 0#64, other := v }, [], []⟩ = _
      rw [e, hr]
      rfl
    · intro h1
      obtain ⟨q, hq, e⟩ := agree_c (s := ⟨{ p with since := n, have_ := false, commit := 0#64, other := v }, [], []⟩) h2 (by omega)
      refine ⟨q, ?_, hq⟩
      show agreeR ⟨{ p with since := n, have_ := false, commit := 0#64, other := v }, [], []⟩ = _
      rw [e, hr]
      rfl
  · left
    refine ⟨hc, ?_⟩
    simp only [hc, decide_false, if_true]
theorem cmp_1 (h : Sx p F V) (hm : F.m = 2) (h4 : V.ph = 4) (n : Int) : ∃ q, userR p 1 n = ⟨q, if F.c.role = 0 then [chkS (ownCheckR q)] else [], []⟩ ∧ Sx q F { V with ph := 5 } := by
  unfold userR
  rw [if_neg (by rw [h.ph, h4]; omega)]
  simp only [h.meth, hm, show isPass 2 = false from rfl, Bool.false_eq_true, if_false, show ¬ (1 : Int) < 1 by decide, h.hin, if_true]
  have h2 : Sx ({ p with since := n, agreed := true } : Pr) F V := ⟨h.cfg, h.meth, h.peer, h.req, h.res, h.pk, h.sh, h.hin, h.cry, h.idn, h.ph, h.hv, h.cm, h.no, h.ot, h.pw, h.rd, h.dr⟩
  obtain ⟨q, hq, e⟩ := proceed_sx (s := ⟨{ p with since := n, agreed := true }, [], []⟩) h2
  exact ⟨q, e, hq⟩
theorem cmp_0 (h : Sx p F V) (hm : F.m = 2) (h4 : V.ph = 4) (n : Int) : userR p 0 n = failR p 12 n := by
  unfold userR
  rw [if_neg (by rw [h.ph, h4]; omega)]
  simp only [h.meth, hm, show isPass 2 = false from rfl, Bool.false_eq_true, if_false, show ¬ (1 : Int) < 0 by decide, show (0 : Int) < 1 by decide, if_true]
theorem oob_1 (h : Sx p F V) (hm : F.m = 6) (hr : F.c.role = 1) (h3 : V.ph = 3) (v : BitVec 64) (n : Int) :
    ∃ q, handleR p (rand v) n = ⟨q, [rand (V.fresh F).no], []⟩ ∧ Sx q F { V.fresh F with ot := v, ph := 5 } := by
  rw [hand_oob (h.ph.trans h3) (sec_rand v) (by simp [rand]) (h.meth.trans hm)]
  unfold outsideR
  simp only [show (rand v).kind = 4 from rfl, ne_eq, not_true_eq_false, if_false, h.in1 hr, Bool.false_eq_true, show (rand v).value = v from rfl]
  have h2 : Sx ({ p with since := n, other := v } : Pr) F { V with ot := v } := ⟨h.cfg, h.meth, h.peer, h.req, h.res, h.pk, h.sh, h.hin, h.cry, h.idn, h.ph, h.hv, h.cm, h.no, rfl, h.pw, h.rd, h.dr⟩
  have h3 := fresh_sx (s := ⟨{ p with since := n, other := v }, [], []⟩) h2
  obtain ⟨q, hq, e⟩ := proceed_sx (s := sendR (freshR ⟨{ p with since := n, other := v }, [], []⟩) 4 (freshR ⟨{ p with since := n, other := v }, [], []⟩).p.nonce) h3
  refine ⟨q, ?_, hq⟩
  refine e.trans ?_
  rw [hr, h3.no]
  rfl
theorem oob_0 (h : Sx p F V) (hm : F.m = 6) (hr : F.c.role = 0) (h3 : V.ph = 3) (v : BitVec 64) (n : Int) :
    ∃ q, handleR p (rand v) n = ⟨q, [chkS (ownCheckR q)], []⟩ ∧ Sx q F { V with ot := v, ph := 5 } := by
  rw [hand_oob (h.ph.trans h3) (sec_rand v) (by simp [rand]) (h.meth.trans hm)]
  unfold outsideR
  simp only [show (rand v).kind = 4 from rfl, ne_eq, not_true_eq_false, if_false, h.in0 hr, if_true, show (rand v).value = v from rfl]
  have h2 : Sx ({ p with since := n, other := v } : Pr) F { V with ot := v } := ⟨h.cfg, h.meth, h.peer, h.req, h.res, h.pk, h.sh, h.hin, h.cry, h.idn, h.ph, h.hv, h.cm, h.no, rfl, h.pw, h.rd, h.dr⟩
  obtain ⟨q, hq, e⟩ := proceed_sx (s := ⟨{ p with since := n, other := v }, [], []⟩) h2
  refine ⟨q, ?_, hq⟩
  refine e.trans ?_
  rw [hr]
  rfl
def extF (m pw : Int) (has : Bool) (random : BitVec 64) : BitVec 64 := if isPass m then BitVec.ofInt 64 pw else if decide (m = 6) && has then random else 0#64
def ownC (F : Fx) (V : Vx) : BitVec 64 := checkV F.sh V.no (extF F.m V.pw F.c.feat.oob F.c.oob.random) F.c.feat F.c.own F.c.peer
def othC (F : Fx) (V : Vx) : BitVec 64 := checkV F.sh V.ot (extF F.m V.pw F.f.oob F.c.mine) F.f F.c.peer F.c.own
theorem Sx.ownC (h : Sx p F V) : ownCheckR p = ownC F V := by
  unfold ownCheckR extraR Go.Proofs.YtihmbcnccdiecaaDoor.ownC extF
  rw [h.sh, h.no, h.meth, h.pw, h.cfg]
theorem Sx.othC (h : Sx p F V) : otherCheckR p = othC F V := by
  unfold otherCheckR extraR Go.Proofs.YtihmbcnccdiecaaDoor.othC extF
  rw [h.sh, h.ot, h.meth, h.pw, h.cfg, h.peer]
theorem checks_0 (h : Sx p F V) (hr : F.c.role = 0) (h5 : V.ph = 5) (v : BitVec 64) (n : Int) :
    (v ≠ othC F V ∧ handleR p (chkS v) n = failR p 11 n) ∨ (v = othC F V ∧ ∃ q, handleR p (chkS v) n = ⟨q, [], []⟩ ∧ Kx q F (ltkV F.sh V.no V.ot F.c.own F.c.peer) false 6) := by
  rw [hand_check (h.ph.trans h5)]
  have h2 : Sx ({ p with since := n } : Pr) F V := ⟨h.cfg, h.meth, h.peer, h.req, h.res, h.pk, h.sh, h.hin, h.cry, h.idn, h.ph, h.hv, h.cm, h.no, h.ot, h.pw, h.rd, h.dr⟩
  unfold checkedR acceptR
  rw [h2.othC, h2.in0 hr]
  by_cases hv : v = othC F V
  · right
    refine ⟨hv, ?_⟩
    rw [if_neg (by simp [hv]), if_pos rfl]
    refine ⟨{ p with since := n, phase := 6, ltk := ltkV p.shared p.nonce p.other p.cfg.own p.cfg.peer }, rfl, h.cfg, h.req, h.res, h.sh, ?_, h.cry, h.idn, rfl⟩
    show ltkV p.shared p.nonce p.other p.cfg.own p.cfg.peer = _
    rw [h.sh, h.no, h.ot, h.cfg]
  · left
    exact ⟨hv, by rw [if_pos hv]⟩
theorem checks_1 (h : Sx p F V) (hr : F.c.role = 1) (h5 : V.ph = 5) (v : BitVec 64) (n : Int) :
    (v ≠ othC F V ∧ handleR p (chkS v) n = failR p 11 n) ∨ (v = othC F V ∧ ∃ q, handleR p (chkS v) n = ⟨q, [chkS (ownC F V)], []⟩ ∧ Kx q F (ltkV F.sh V.ot V.no F.c.peer F.c.own) false 6) := by
  rw [hand_check (h.ph.trans h5)]
  have h2 : Sx ({ p with since := n } : Pr) F V := ⟨h.cfg, h.meth, h.peer, h.req, h.res, h.pk, h.sh, h.hin, h.cry, h.idn, h.ph, h.hv, h.cm, h.no, h.ot, h.pw, h.rd, h.dr⟩
  unfold checkedR acceptR
  rw [h2.othC, h2.in1 hr, h2.ownC]
  by_cases hv : v = othC F V
  · right
    refine ⟨hv, ?_⟩
    rw [if_neg (by simp [hv]), if_neg (by decide)]
    refine ⟨{ p with since := n, phase := 6, ltk := ltkV p.shared p.other p.nonce p.cfg.peer p.cfg.own }, rfl, h.cfg, h.req, h.res, h.sh, ?_, h.cry, h.idn, rfl⟩
    show ltkV p.shared p.other p.nonce p.cfg.peer p.cfg.own = _
    rw [h.sh, h.no, h.ot, h.cfg]
  · left
    exact ⟨hv, by rw [if_pos hv]⟩
def idn_if (b : Bool) (i : Idn) : List Sec := if b then [idS i] else []
def resE (F : Fx) (L : BitVec 64) (i : Idn) : Evt := { evt0 with kind := 3, key := L, strong := (chooseK F.rq F.rs).2, idn := i }
theorem finish_kx {s : Stp} {L : BitVec 64} {i : Idn} (hq : s.p.req = F.rq) (hs : s.p.res = F.rs) (hl : s.p.ltk = L) (hi : s.p.idn = i) : finishR s = ⟨{ s.p with phase := 7 }, s.out, s.ev ++ [resE F L i]⟩ := by
  unfold finishR resE
  rw [hq, hs, hl, hi]
theorem enc_0 {L : BitVec 64} (h : Kx p F L false 6) (hr : F.c.role = 0) (n : Int) :
    ((identsK F.rq F.rs).2 = true → ∃ q, encR p n = ⟨q, [], []⟩ ∧ Kx q F L true 6) ∧
    ((identsK F.rq F.rs).2 = false → ∃ q, encR p n = ⟨q, idn_if (identsK F.rq F.rs).1 F.c.idn, [resE F L idn0]⟩ ∧ Kx q F L true 7) := by
  have hi : initR p = true := by unfold initR; rw [h.cfg, hr]; rfl
  have hs : sidesR p = identsK F.rq F.rs := by unfold sidesR; rw [hi, if_pos rfl, h.req, h.res]
  unfold encR
  rw [if_neg (by rw [h.ph, h.cry]; simp), hs, hi]
  constructor
  · intro h2
    simp only [h2, and_self, if_true]
    exact ⟨{ p with since := n, crypt := true }, rfl, h.cfg, h.req, h.res, h.sh, h.ltk, rfl, h.idn, h.ph⟩
  · intro h2
    simp only [h2, Bool.false_eq_true, and_false, if_false]
    refine ⟨{ p with since := n, crypt := true, phase := 7 }, ?_, h.cfg, h.req, h.res, h.sh, h.ltk, rfl, h.idn, rfl⟩
    rw [finish_kx (F := F) (L := L) (i := idn0)]
    · unfold giveR idn_if
      cases (identsK F.rq F.rs).1
      · rfl
      · simp only [if_true, acceptR, List.nil_append]
        rw [h.cfg]; rfl
    all_goals unfold giveR; split <;> first | exact h.req | exact h.res | exact h.ltk | exact h.idn
theorem enc_1 {L : BitVec 64} (h : Kx p F L false 6) (hr : F.c.role = 1) (n : Int) :
    ((identsK F.rq F.rs).1 = true → ∃ q, encR p n = ⟨q, idn_if (identsK F.rq F.rs).2 F.c.idn, []⟩ ∧ Kx q F L true 6) ∧
    ((identsK F.rq F.rs).1 = false → ∃ q, encR p n = ⟨q, idn_if (identsK F.rq F.rs).2 F.c.idn, [resE F L idn0]⟩ ∧ Kx q F L true 7) := by
  have hi : initR p = false := by unfold initR; rw [h.cfg, hr]; rfl
  have hs : sidesR p = ((identsK F.rq F.rs).2, (identsK F.rq F.rs).1) := by unfold sidesR; rw [hi, if_neg (by decide), h.req, h.res]
  unfold encR
  rw [if_neg (by rw [h.ph, h.cry]; simp), hs, hi]
  constructor
  · intro h2
    simp only [h2, Bool.false_eq_true, false_and, if_true, if_false]
    refine ⟨{ p with since := n, crypt := true }, ?_, h.cfg, h.req, h.res, h.sh, h.ltk, rfl, h.idn, h.ph⟩
    unfold giveR idn_if
    cases (identsK F.rq F.rs).2
    · rfl
    · simp only [if_true, acceptR, List.nil_append]
      rw [h.cfg]; rfl
  · intro h2
    simp only [h2, Bool.false_eq_true, false_and, if_false]
    refine ⟨{ p with since := n, crypt := true, phase := 7 }, ?_, h.cfg, h.req, h.res, h.sh, h.ltk, rfl, h.idn, rfl⟩
    rw [finish_kx (F := F) (L := L) (i := idn0)]
    · unfold giveR idn_if
      cases (identsK F.rq F.rs).2
      · rfl
      · simp only [if_true, acceptR, List.nil_append]
        rw [h.cfg]; rfl
    all_goals unfold giveR; split <;> first | exact h.req | exact h.res | exact h.ltk | exact h.idn
theorem id_in {L : BitVec 64} (h : Kx p F L true 6) (i : Idn) (hk : idnK i = 0) (n : Int) (hd : (if F.c.role = 0 then (identsK F.rq F.rs).2 else (identsK F.rq F.rs).1) = true) :
    ∃ q, handleR p (idS i) n = ⟨q, idn_if ((identsK F.rq F.rs).1 && decide (F.c.role = 0)) F.c.idn, [resE F L i]⟩ ∧ q.cfg = F.c ∧ q.shared = F.sh ∧ q.ltk = L ∧ q.phase = 7 := by
  rw [hand_id h.ph (sec_id i hk) (by simp [idS])]
  unfold identityR
  have hi : initR p = decide (F.c.role = 0) := by unfold initR; rw [h.cfg]
  have hs2 : (sidesR p).2 = true := by
    unfold sidesR
    rw [hi, h.req, h.res]
    by_cases hr : F.c.role = 0
    · rw [if_pos hr] at hd; simp [hr, hd]
    · rw [if_neg hr] at hd; simp [hr, hd]
  have hs1 : ((sidesR p).1 && initR p) = ((identsK F.rq F.rs).1 && decide (F.c.role = 0)) := by
    unfold sidesR
    rw [hi, h.req, h.res]
    by_cases hr : F.c.role = 0 <;> simp [hr]
  rw [if_neg (by rw [h.cry, hs2]; simp [idS]), hs1]
  refine ⟨{ p with since := n, idn := i, phase := 7 }, ?_, h.cfg, h.sh, h.ltk, rfl⟩
  rw [finish_kx (F := F) (L := L) (i := i)]
  · unfold giveR idn_if
    cases ((identsK F.rq F.rs).1 && decide (F.c.role = 0))
    · rfl
    · simp only [if_true, acceptR, List.nil_append]
      rw [h.cfg]; rfl
  all_goals unfold giveR; split <;> first | exact h.req | exact h.res | exact h.ltk | rfl
end
end Go.Proofs.YtihmbcnccdiecaaDoor
namespace Go.Proofs.YtihmbcnccdiecaaDoor
set_option maxRecDepth 100000
set_option linter.unusedVariables false
set_option linter.unusedSimpArgs false
theorem fld_side {x : Tk} (h : FldT x) : ∃ c, (x.side c).phase = 8 := by
  rcases h with h | h
  · exact ⟨false, h⟩
  · exact ⟨true, h⟩
theorem fld_of {x : Tk} (c : Bool) (h : (x.side c).phase = 8) : FldT x := by
  cases c
  · exact .inl h
  · exact .inr h
theorem fld_step {l : List Chg} {c : Bool} {x x' : Tk} {s : Stp} (h : FldT x) (e : ∀ c, x'.side c = x.side c) (h8 : (x.side c).phase = 8 → s.p.phase = 8) : FldT (stepT l c x' s) := by
  have hp := postF l c s.p s.out s.ev x'
  obtain ⟨k, hk⟩ := fld_side h
  by_cases hc : k = c
  · subst hc
    exact fld_of k (by rw [show (stepT l k x' s).side k = s.p from hp.sb]; exact h8 hk)
  · have h' : k = !c := by cases k <;> cases c <;> simp_all
    subst h'
    exact fld_of (!c) (by rw [show (stepT l c x' s).side (!c) = x'.side (!c) from hp.so, e]; exact hk)
theorem fld_run (l : List Chg) (common : Int) (k : Nat) (n : Int) (x : Tk) (h0 : 0 ≤ n) (h1 : n + k ≤ 1099511627776) (hi : Inv2 x) (h : FldT x) : FldT (runT l common k n x) :=
  (run_inv l common FldT (fun x b d rest n _ hj _ => fld_step hj (fun c => by cases c <;> rfl) (fun h8 => handle_eight h8)) (fun x b n _ hj _ => fld_step hj (fun _ => rfl) (fun h8 => user_eight h8)) (fun x b n _ hj => fld_step hj (fun _ => rfl) (fun h8 => enc_eight h8)) k n x h0 h1 hi h).2
section
variable {l : List Chg} {common : Int} {bad : Prop} {E : Tk → Prop}
theorem w_bad {m : Nat} {x : Tk} (hb : bad) (h : FldT x) : Wn l common bad E m x := fun hi k n _ h0 h1 => .inl ⟨hb, fld_run l common k n x h0 h1 hi h⟩
theorem w_step {m : Nat} {x : Tk} (h : ∀ n : Int, 0 ≤ n → n ≤ 1099511627776 → Inv2 x → ∃ y, roundT l common n x = some y ∧ Inv2 y ∧ Wn l common bad E m y) : Wn l common bad E (m + 1) x := by
  intro hi k n hk h0 h1
  obtain ⟨k', rfl⟩ : ∃ k', k = k' + 1 := ⟨k - 1, by omega⟩
  obtain ⟨y, e, iy, hy⟩ := h n h0 (by omega) hi
  have := hy iy k' (n + 1) (by omega) (by omega) (by omega)
  show (bad ∧ FldT (match roundT l common n x with | some y => runT l common k' (n + 1) y | none => x)) ∨ E (match roundT l common n x with | some y => runT l common k' (n + 1) y | none => x)
  rw [e]
  exact this
theorem w_stop {x : Tk} (h : ∀ n, roundT l common n x = none) (he : E x) : Wn l common bad E 0 x := by
  intro hi k n _ _ _
  right
  cases k with
  | zero => exact he
  | succ k =>
    show E (match roundT l common n x with | some y => runT l common k (n + 1) y | none => x)
    rw [h n]
    exact he
theorem w_hand {m : Nat} {x : Tk} {c : Bool} {d : Sec} {rest : List (Bool × Sec)} (hl : x.line = (c, d) :: rest) (h : ∀ n, Wn l common bad E m (stepT l c { x with line := rest } (handleR (x.side c) d n))) : Wn l common bad E (m + 1) x := by
  refine w_step fun n h0 h1 hi => ⟨stepT l c { x with line := rest } (handleR (x.side c) d n), ?_, ?_, h n⟩
  · unfold roundT
    rw [hl]
    show some (postT _ _ _ _ _ _) = _
    rw [show ({ x with line := rest } : Tk).side c = x.side c from by cases c <;> rfl, handle_eq _ _ _ (hi c)]
    rfl
  · refine inv2_step (x := x) (x' := { x with line := rest }) hi (fun c => by cases c <;> rfl) ?_
    have := inv_handle d (hi c) ⟨h0, h1⟩
    rwa [handle_eq _ _ _ (hi c)] at this
theorem w_enc {m : Nat} {x : Tk} (hl : x.line = []) (h0 : x.s0.phase = 6) (h1 : x.s1.phase = 6)
    (h : ∀ n, ∀ y, y = stepT l false x (encR x.s0 n) → Wn l common bad E m (stepT l true y (encR y.s1 n))) : Wn l common bad E (m + 1) x := by
  refine w_step fun n g0 g1 hi => ?_
  have i1 : Inv2 (stepT l false x (encR x.s0 n)) := by
    refine inv2_step (x := x) hi (fun _ => rfl) ?_
    have := inv_enc (hi false) ⟨g0, g1⟩
    rw [enc_eq] at this
    exact this
  refine ⟨_, ?_, ?_, h n _ rfl⟩
  · unfold roundT
    rw [hl]
    have hu : userT l common n false x = x := by unfold userT; rw [if_neg (by show ¬ x.s0.phase = 4; omega)]
    simp only [hu]
    rw [if_neg (by omega), if_pos ⟨h0, h1⟩]
    unfold encT
    simp only [enc_eq]
    rfl
  · refine inv2_step i1 (fun _ => rfl) ?_
    have := inv_enc (i1 true) ⟨g0, g1⟩
    rw [enc_eq] at this
    exact this
theorem w_user {m : Nat} {x : Tk} (hl : x.line = []) (h4 : x.s0.phase = 4 ∨ x.s1.phase = 4)
    (h : ∀ n, ∀ y, (x.s0.phase = 4 → y = stepT l false x (userR x.s0 (x.answer false common) n)) → (x.s0.phase ≠ 4 → y = x) →
      (y.s1.phase = 4 → Wn l common bad E m (stepT l true y (userR y.s1 (y.answer true common) n))) ∧ (y.s1.phase ≠ 4 → Wn l common bad E m y)) : Wn l common bad E (m + 1) x := by
  refine w_step fun n g0 g1 hi => ?_
  have hy1 : x.s0.phase = 4 → userT l common n false x = stepT l false x (userR x.s0 (x.answer false common) n) := by
    intro e
    unfold userT
    rw [if_pos (show (x.side false).phase = 4 from e)]
    simp only [user_eq]
    rfl
  have hy2 : x.s0.phase ≠ 4 → userT l common n false x = x := by
    intro e
    unfold userT
    rw [if_neg (show ¬ (x.side false).phase = 4 from e)]
  have hcond : x.s0.phase = 4 ∨ (userT l common n false x).s1.phase = 4 := by
    by_cases e : x.s0.phase = 4
    · exact .inl e
    · right
      rw [hy2 e]
      rcases h4 with h4 | h4
      · exact absurd h4 e
      · exact h4
  have hh := h n _ hy1 hy2
  have iy : Inv2 (userT l common n false x) := by
    by_cases e : x.s0.phase = 4
    · rw [hy1 e]
      refine inv2_step hi (fun _ => rfl) ?_
      have := inv_user (x.answer false common) (hi false) ⟨g0, g1⟩
      rw [user_eq] at this
      exact this
    · rw [hy2 e]; exact hi
  have hr : roundT l common n x = some (userT l common n true (userT l common n false x)) := by
    unfold roundT
    rw [hl]
    simp only
    rw [if_pos hcond]
  generalize userT l common n false x = y at *
  by_cases e : y.s1.phase = 4
  · refine ⟨_, ?_, ?_, hh.1 e⟩
    · rw [hr]
      unfold userT
      rw [if_pos (show (y.side true).phase = 4 from e)]
      simp only [user_eq]
      rfl
    · refine inv2_step iy (fun _ => rfl) ?_
      have := inv_user (y.answer true common) (iy true) ⟨g0, g1⟩
      rw [user_eq] at this
      exact this
  · refine ⟨y, ?_, iy, hh.2 e⟩
    rw [hr]
    unfold userT
    rw [if_neg (show ¬ (y.side true).phase = 4 from e)]
end
def noteV (b : Bool) (v : Vw) (e : Evt) : Vw :=
  if e.kind = 1 then (if b then { v with h1 := true, n1 := e.number } else { v with h0 := true, n0 := e.number })
  else if e.kind = 2 then v
  else (if b then { v with g1 := v.g1 ++ [e] } else { v with g0 := v.g0 ++ [e] })
def chgs (l : List Chg) : Int → List Sec → List Sec
  | _, [] => []
  | k, d :: out => chg l k d :: chgs l (k + 1) out
theorem put_at {l : List Chg} (b : Bool) : ∀ (out : List Sec) {x : Tk} {p0 p1 : Pr} {line : List (Bool × Sec)} {v : Vw} {k : Int}, At x p0 p1 line v k →
    At (out.foldl (put1 l b) x) p0 p1 (line ++ (chgs l k out).map fun d => (!b, d)) v (k + out.length) := by
  intro out
  induction out with
  | nil => intro x p0 p1 line v k h; simpa [chgs] using h
  | cons d out ih =>
    intro x p0 p1 line v k h
    have h1 : At (put1 l b x d) p0 p1 (line ++ [(!b, chg l k d)]) v (k + 1) :=
      ⟨h.s0, h.s1, by show x.line ++ [(!b, chg l x.sent d)] = _; rw [h.line, h.sent], h.ok, h.h0, h.h1, h.n0, h.n1, h.g0, h.g1, by show x.sent + 1 = _; rw [h.sent]⟩
    have := ih h1
    rw [List.append_assoc] at this
    rw [List.foldl_cons]
    have e : k + 1 + (out.length : Int) = k + ((d :: out).length : Nat) := by simp; omega
    rw [e] at this
    exact this
theorem note_at (b : Bool) (e : Evt) {x : Tk} {p0 p1 : Pr} {line : List (Bool × Sec)} {v : Vw} {k : Int} (h : At x p0 p1 line v k) : At (note1 b x e) p0 p1 line (noteV b v e) k := by
  unfold note1 noteV
  by_cases h1 : e.kind = 1
  · rw [if_pos h1, if_pos h1]
    cases b
    · exact ⟨h.s0, h.s1, h.line, h.ok, rfl, h.h1, rfl, h.n1, h.g0, h.g1, h.sent⟩
    · exact ⟨h.s0, h.s1, h.line, h.ok, h.h0, rfl, h.n0, rfl, h.g0, h.g1, h.sent⟩
  rw [if_neg h1, if_neg h1]
  by_cases h2 : e.kind = 2
  · rw [if_pos h2, if_pos h2]
    cases b
    · exact ⟨h.s0, h.s1, h.line, h.ok, h.h0, h.h1, h.n0, h.n1, h.g0, h.g1, h.sent⟩
    · exact ⟨h.s0, h.s1, h.line, h.ok, h.h0, h.h1, h.n0, h.n1, h.g0, h.g1, h.sent⟩
  rw [if_neg h2, if_neg h2]
  cases b
  · exact ⟨h.s0, h.s1, h.line, h.ok, h.h0, h.h1, h.n0, h.n1, by show x.g0 ++ [e] = v.g0 ++ [e]; rw [h.g0], h.g1, h.sent⟩
  · exact ⟨h.s0, h.s1, h.line, h.ok, h.h0, h.h1, h.n0, h.n1, h.g0, by show x.g1 ++ [e] = v.g1 ++ [e]; rw [h.g1], h.sent⟩
theorem notes_at (b : Bool) : ∀ (ev : List Evt) {x : Tk} {p0 p1 : Pr} {line : List (Bool × Sec)} {v : Vw} {k : Int}, At x p0 p1 line v k → At (ev.foldl (note1 b) x) p0 p1 line (ev.foldl (noteV b) v) k := by
  intro ev
  induction ev with
  | nil => intro x p0 p1 line v k h; exact h
  | cons e ev ih => intro x p0 p1 line v k h; exact ih (note_at b e h)
theorem step0_at {l : List Chg} {x : Tk} {p0 p1 q : Pr} {line : List (Bool × Sec)} {v : Vw} {k : Int} (out : List Sec) (ev : List Evt) (h : At x p0 p1 line v k) :
    At (stepT l false x ⟨q, out, ev⟩) q p1 (line ++ (chgs l k out).map fun d => (true, d)) (ev.foldl (noteV false) v) (k + out.length) :=
  notes_at false ev (put_at false out (x := x.setSide false q) ⟨rfl, h.s1, h.line, h.ok, h.h0, h.h1, h.n0, h.n1, h.g0, h.g1, h.sent⟩)
theorem step1_at {l : List Chg} {x : Tk} {p0 p1 q : Pr} {line : List (Bool × Sec)} {v : Vw} {k : Int} (out : List Sec) (ev : List Evt) (h : At x p0 p1 line v k) :
    At (stepT l true x ⟨q, out, ev⟩) p0 q (line ++ (chgs l k out).map fun d => (false, d)) (ev.foldl (noteV true) v) (k + out.length) :=
  notes_at true ev (put_at true out (x := x.setSide true q) ⟨h.s0, rfl, h.line, h.ok, h.h0, h.h1, h.n0, h.n1, h.g0, h.g1, h.sent⟩)
theorem At.pop {x : Tk} {p0 p1 : Pr} {e : Bool × Sec} {line : List (Bool × Sec)} {v : Vw} {k : Int} (h : At x p0 p1 (e :: line) v k) : At { x with line := line } p0 p1 line v k :=
  ⟨h.s0, h.s1, rfl, h.ok, h.h0, h.h1, h.n0, h.n1, h.g0, h.g1, h.sent⟩
theorem chgs_high {l : List Chg} (hq : ∀ m d, 4 ≤ m → chg l m d = d) : ∀ (out : List Sec) (k : Int), 4 ≤ k → chgs l k out = out := by
  intro out
  induction out with
  | nil => intro k _; rfl
  | cons d out ih => intro k hk; show chg l k d :: chgs l (k + 1) out = _; rw [hq k d hk, ih (k + 1) (by omega)]
section
variable {l : List Chg} {common : Int} {bad : Prop} {E : Tk → Prop} {m : Nat} {x : Tk} {p0 p1 : Pr} {d : Sec} {rest : List (Bool × Sec)} {v : Vw} {k : Int}
theorem hand1 (h : At x p0 p1 ((true, d) :: rest) v k)
    (hs : ∀ n, (bad ∧ (handleR p1 d n).p.phase = 8) ∨ ∃ q out ev, handleR p1 d n = ⟨q, out, ev⟩ ∧ ∀ y, At y p0 q (rest ++ (chgs l k out).map fun d => (false, d)) (ev.foldl (noteV true) v) (k + out.length) → Wn l common bad E m y) : Wn l common bad E (m + 1) x := by
  refine w_hand h.line fun n => ?_
  rw [show x.side true = p1 from h.s1]
  rcases hs n with ⟨hb, h8⟩ | ⟨q, out, ev, e, hw⟩
  · refine w_bad hb (fld_of true ?_)
    rw [show (stepT l true { x with line := rest } (handleR p1 d n)).side true = (handleR p1 d n).p from (postF l true _ _ _ _).sb]
    exact h8
  · rw [e]
    exact hw _ (step1_at out ev h.pop)
theorem hand0 (h : At x p0 p1 ((false, d) :: rest) v k)
    (hs : ∀ n, (bad ∧ (handleR p0 d n).p.phase = 8) ∨ ∃ q out ev, handleR p0 d n = ⟨q, out, ev⟩ ∧ ∀ y, At y q p1 (rest ++ (chgs l k out).map fun d => (true, d)) (ev.foldl (noteV false) v) (k + out.length) → Wn l common bad E m y) : Wn l common bad E (m + 1) x := by
  refine w_hand h.line fun n => ?_
  rw [show x.side false = p0 from h.s0]
  rcases hs n with ⟨hb, h8⟩ | ⟨q, out, ev, e, hw⟩
  · refine w_bad hb (fld_of false ?_)
    rw [show (stepT l false { x with line := rest } (handleR p0 d n)).side false = (handleR p0 d n).p from (postF l false _ _ _ _).sb]
    exact h8
  · rw [e]
    exact hw _ (step0_at out ev h.pop)
end
end Go.Proofs.YtihmbcnccdiecaaDoor
namespace Go.Proofs.YtihmbcnccdiecaaDoor
set_option maxRecDepth 100000
set_option linter.unusedVariables false
set_option linter.unusedSimpArgs false
theorem round_stop {l : List Chg} {common n : Int} {x : Tk} (hl : x.line = []) (h0 : ¬ x.s0.phase = 4) (h1 : ¬ x.s1.phase = 4) (h6 : ¬ (x.s0.phase = 6 ∧ x.s1.phase = 6)) : roundT l common n x = none := by
  unfold roundT
  rw [hl]
  have hu : userT l common n false x = x := by unfold userT; rw [if_neg (show ¬ (x.side false).phase = 4 from h0)]
  simp only [hu]
  rw [if_neg (by rintro (h | h); exact h0 h; exact h1 h), if_neg h6]
section
variable {l : List Chg} {common : Int} {bad : Prop} {E : Tk → Prop} {m : Nat} {x : Tk} {p0 p1 : Pr} {d : Sec} {rest : List (Bool × Sec)} {v : Vw}
theorem zh1 (hq : ∀ m d, 4 ≤ m → chg l m d = d) (h : At4 x p0 p1 ((true, d) :: rest) v)
    (hs : ∀ n, (bad ∧ (handleR p1 d n).p.phase = 8) ∨ ∃ q out ev, handleR p1 d n = ⟨q, out, ev⟩ ∧ ∀ y, At4 y p0 q (rest ++ out.map fun d => (false, d)) (ev.foldl (noteV true) v) → Wn l common bad E m y) : Wn l common bad E (m + 1) x := by
  obtain ⟨k, hk, h⟩ := h
  refine hand1 h fun n => ?_
  rcases hs n with h | ⟨q, out, ev, e, hw⟩
  · exact .inl h
  · exact .inr ⟨q, out, ev, e, fun y hy => hw y ⟨k + (out.length : Int), by omega, by rw [chgs_high hq out k hk] at hy; exact hy⟩⟩
theorem zh0 (hq : ∀ m d, 4 ≤ m → chg l m d = d) (h : At4 x p0 p1 ((false, d) :: rest) v)
    (hs : ∀ n, (bad ∧ (handleR p0 d n).p.phase = 8) ∨ ∃ q out ev, handleR p0 d n = ⟨q, out, ev⟩ ∧ ∀ y, At4 y q p1 (rest ++ out.map fun d => (true, d)) (ev.foldl (noteV false) v) → Wn l common bad E m y) : Wn l common bad E (m + 1) x := by
  obtain ⟨k, hk, h⟩ := h
  refine hand0 h fun n => ?_
  rcases hs n with h | ⟨q, out, ev, e, hw⟩
  · exact .inl h
  · exact .inr ⟨q, out, ev, e, fun y hy => hw y ⟨k + (out.length : Int), by omega, by rw [chgs_high hq out k hk] at hy; exact hy⟩⟩
theorem zst0 (hq : ∀ m d, 4 ≤ m → chg l m d = d) {q : Pr} {line : List (Bool × Sec)} (out : List Sec) (ev : List Evt) (h : At4 x p0 p1 line v) : At4 (stepT l false x ⟨q, out, ev⟩) q p1 (line ++ out.map fun d => (true, d)) (ev.foldl (noteV false) v) := by
  obtain ⟨k, hk, h⟩ := h
  have := step0_at (l := l) (q := q) out ev h
  rw [chgs_high hq out k hk] at this
  exact ⟨k + (out.length : Int), by omega, this⟩
theorem zst1 (hq : ∀ m d, 4 ≤ m → chg l m d = d) {q : Pr} {line : List (Bool × Sec)} (out : List Sec) (ev : List Evt) (h : At4 x p0 p1 line v) : At4 (stepT l true x ⟨q, out, ev⟩) p0 q (line ++ out.map fun d => (false, d)) (ev.foldl (noteV true) v) := by
  obtain ⟨k, hk, h⟩ := h
  have := step1_at (l := l) (q := q) out ev h
  rw [chgs_high hq out k hk] at this
  exact ⟨k + (out.length : Int), by omega, this⟩
theorem At4.ln {line : List (Bool × Sec)} (h : At4 x p0 p1 line v) : x.line = line := by obtain ⟨k, _, h⟩ := h; exact h.line
def ansV (m : Int) (c : Bool) (v : Vw) (common : Int) : Int :=
  if m ≠ 2 then (if c then (if v.h0 then v.n0 else common) else (if v.h1 then v.n1 else common))
  else if v.h0 = true ∧ v.h1 = true ∧ v.n0 = v.n1 then 1 else 0
theorem At4.ans0 {line : List (Bool × Sec)} (h : At4 x p0 p1 line v) (common : Int) : x.answer false common = ansV p0.method false v common := by
  obtain ⟨k, _, h⟩ := h
  unfold Tk.answer ansV
  rw [show x.side false = p0 from h.s0, h.h0, h.h1, h.n0, h.n1]
theorem At4.ans1 {line : List (Bool × Sec)} (h : At4 x p0 p1 line v) (common : Int) : x.answer true common = ansV p1.method true v common := by
  obtain ⟨k, _, h⟩ := h
  unfold Tk.answer ansV
  rw [show x.side true = p1 from h.s1, h.h0, h.h1, h.n0, h.n1]
theorem w_u0 (hq : ∀ m d, 4 ≤ m → chg l m d = d) (h : At4 x p0 p1 [] v) (h4 : p0.phase = 4) (h14 : p1.phase ≠ 4)
    (hs : ∀ n, ∃ q out, userR p0 (ansV p0.method false v common) n = ⟨q, out, []⟩ ∧ ∀ y, At4 y q p1 (out.map fun d => (true, d)) v → Wn l common bad E m y) : Wn l common bad E (m + 1) x := by
  refine w_user h.ln (.inl (by rw [h.s0]; exact h4)) fun n y e1 e2 => ?_
  have e := e1 (by rw [h.s0]; exact h4)
  obtain ⟨q, out, eu, hw⟩ := hs n
  rw [h.ans0, h.s0, eu] at e
  have hy : At4 y q p1 ([] ++ out.map fun d => (true, d)) v := by rw [e]; exact zst0 hq out [] h
  exact ⟨fun h41 => absurd (by rw [← hy.s1]; exact h41) h14, fun _ => hw y hy⟩
theorem w_u1 (hq : ∀ m d, 4 ≤ m → chg l m d = d) (h : At4 x p0 p1 [] v) (h4 : p0.phase ≠ 4) (h14 : p1.phase = 4)
    (hs : ∀ n, ∃ q out, userR p1 (ansV p1.method true v common) n = ⟨q, out, []⟩ ∧ ∀ y, At4 y p0 q (out.map fun d => (false, d)) v → Wn l common bad E m y) : Wn l common bad E (m + 1) x := by
  refine w_user h.ln (.inr (by rw [h.s1]; exact h14)) fun n y e1 e2 => ?_
  have e := e2 (by rw [h.s0]; exact h4)
  subst e
  obtain ⟨q, out, eu, hw⟩ := hs n
  refine ⟨fun _ => ?_, fun hn => absurd (by rw [h.s1]; exact h14) hn⟩
  rw [h.ans1, h.s1, eu]
  exact hw _ (zst1 hq out [] h)
theorem w_u2 (hq : ∀ m d, 4 ≤ m → chg l m d = d) (h : At4 x p0 p1 [] v) (h4 : p0.phase = 4) (h14 : p1.phase = 4)
    (hs : ∀ n, (bad ∧ (userR p0 (ansV p0.method false v common) n).p.phase = 8) ∨ ∃ q out, userR p0 (ansV p0.method false v common) n = ⟨q, out, []⟩ ∧ ∃ r out2, userR p1 (ansV p1.method true v common) n = ⟨r, out2, []⟩ ∧ ∀ y, At4 y q r ((out.map fun d => (true, d)) ++ (out2.map fun d => (false, d))) v → Wn l common bad E m y) : Wn l common bad E (m + 1) x := by
  refine w_user h.ln (.inl (by rw [h.s0]; exact h4)) fun n y e1 e2 => ?_
  have e := e1 (by rw [h.s0]; exact h4)
  rw [h.ans0, h.s0] at e
  rcases hs n with ⟨hb, h8⟩ | ⟨q, out, eu, r, out2, er, hw⟩
  · have hf : y.s0.phase = 8 := by
      rw [e]
      exact (congrArg Pr.phase (postF l false (userR p0 (ansV p0.method false v common) n).p (userR p0 (ansV p0.method false v common) n).out (userR p0 (ansV p0.method false v common) n).ev x).sb).trans h8
    refine ⟨fun _ => w_bad hb (fld_of false ?_), fun _ => w_bad hb (.inl hf)⟩
    exact (congrArg Pr.phase (postF l true (userR y.s1 (y.answer true common) n).p (userR y.s1 (y.answer true common) n).out (userR y.s1 (y.answer true common) n).ev y).so).trans hf
  · have hy : At4 y q p1 ([] ++ out.map fun d => (true, d)) v := by rw [e, eu]; exact zst0 hq out [] h
    refine ⟨fun _ => ?_, fun hn => absurd (by rw [hy.s1]; exact h14) hn⟩
    rw [hy.ans1, hy.s1, er]
    exact hw _ (zst1 hq out2 [] hy)
end
section
variable {l : List Chg} {common : Int} {a b : Cfg} {K0 K1 : BitVec 32} {bad : Prop} {x : Tk} {p0 p1 : Pr} {v : Vw} {V0 V1 : Vx} {s0 s1 s' : BitVec 32}
theorem w_fin {L : BitVec 64} {sh : BitVec 32} (h : At4 x p0 p1 [] v) (a0 : p0.phase = 7) (a1 : p1.phase = 7) (l0 : p0.ltk = L) (l1 : p1.ltk = L) (h0 : p0.shared = sh) (h1 : p1.shared = sh)
    (g0 : v.g0 = [resX a b L (if (identsK a.feat b.feat).2 then b.idn else idn0)]) (g1 : v.g1 = [resX a b L (if (identsK a.feat b.feat).1 then a.idn else idn0)]) : Wn l common bad (EndOk a b) 0 x := by
  have e0 := h.s0
  have e1 := h.s1
  obtain ⟨k, hk, h⟩ := h
  refine w_stop (fun n => round_stop h.line (by rw [e0]; omega) (by rw [e1]; omega) (by rw [e0]; omega)) ⟨h.ok, by rw [e0]; exact a0, by rw [e1]; exact a1, by rw [e0, e1, l0, l1], by rw [e0, e1, h0, h1], by rw [e0, l0, h.g0]; exact g0, by rw [e1, l1, h.g1]; exact g1⟩
theorem idents_sid (a b : Cfg) : ((identsK a.feat b.feat).1 = true → a.feat.sid = true) ∧ ((identsK a.feat b.feat).2 = true → b.feat.sid = true) := by
  unfold identsK
  constructor <;> intro h <;> simp at h <;> exact h.1
theorem w_end (T : Two a b K0 K1 bad) (hq : ∀ m d, 4 ≤ m → chg l m d = d) {L : BitVec 64} (k0 : Kx p0 (fx0 a b K0 s1) L false 6) (k1 : Kx p1 (fx1 a b K1 s1) L false 6) (g0 : v.g0 = []) (g1 : v.g1 = [])
    (h : At4 x p0 p1 [] v) : Wn l common bad (EndOk a b) 3 x := by
  refine w_enc h.ln (by rw [h.s0]; exact k0.ph) (by rw [h.s1]; exact k1.ph) fun n y hy => ?_
  rw [h.s0] at hy
  have A0 := enc_0 k0 T.r0 n
  have A1 := enc_1 k1 T.r1 n
  have I := idents_sid a b
  change ((identsK a.feat b.feat).2 = true → _) ∧ ((identsK a.feat b.feat).2 = false → _) at A0
  change ((identsK a.feat b.feat).1 = true → _) ∧ ((identsK a.feat b.feat).1 = false → _) at A1
  rcases i2 : (identsK a.feat b.feat).2 with _ | _
  · obtain ⟨q0, e0, z0⟩ := A0.2 i2
    change encR p0 n = ⟨q0, idn_if (identsK a.feat b.feat).1 a.idn, [resX a b L idn0]⟩ at e0
    rcases i1 : (identsK a.feat b.feat).1 with _ | _
    · rw [i1] at e0
      rw [e0] at hy
      have Y : At4 y q0 p1 [] { v with g0 := v.g0 ++ [resX a b L idn0] } := by rw [hy]; exact zst0 hq [] [resX a b L idn0] h
      clear hy
      obtain ⟨q1, e1, z1⟩ := A1.2 i1
      change encR p1 n = ⟨q1, idn_if (identsK a.feat b.feat).2 b.idn, [resX a b L idn0]⟩ at e1
      rw [i2] at e1
      rw [Y.s1, e1]
      refine (w_fin (zst1 hq [] [resX a b L idn0] Y) z0.ph z1.ph z0.ltk z1.ltk z0.sh z1.sh ?_ ?_).mono (Nat.zero_le _)
      · rw [i2]; show v.g0 ++ [resX a b L idn0] = _; rw [g0]; rfl
      · rw [i1]; show v.g1 ++ [resX a b L idn0] = _; rw [g1]; rfl
    · rw [i1] at e0
      rw [e0] at hy
      have Y : At4 y q0 p1 [(true, idS a.idn)] { v with g0 := v.g0 ++ [resX a b L idn0] } := by rw [hy]; exact zst0 hq [idS a.idn] [resX a b L idn0] h
      clear hy
      obtain ⟨q1, e1, z1⟩ := A1.1 i1
      change encR p1 n = ⟨q1, idn_if (identsK a.feat b.feat).2 b.idn, []⟩ at e1
      rw [i2] at e1
      rw [Y.s1, e1]
      refine (zh1 (m := 0) hq (zst1 hq [] [] Y) fun n => .inr ?_).mono (by omega)
      obtain ⟨r, er, rc, rs, rl, rp⟩ := id_in z1 a.idn (T.ia (I.1 i1)) n (by rw [if_neg (by show ¬ b.role = 0; rw [T.r1]; decide)]; exact i1)
      change _ = (⟨r, idn_if ((identsK a.feat b.feat).1 && decide (b.role = 0)) b.idn, [resX a b L a.idn]⟩ : Stp) at er
      rw [T.r1, show decide ((1 : Int) = 0) = false from rfl, Bool.and_false] at er
      refine ⟨r, _, _, er, fun y' hy' => ?_⟩
      refine w_fin hy' z0.ph rp z0.ltk rl z0.sh rs ?_ ?_
      · rw [i2]; show v.g0 ++ [resX a b L idn0] = _; rw [g0]; rfl
      · rw [i1]; show v.g1 ++ [resX a b L a.idn] = _; rw [g1]; rfl
  · obtain ⟨q0, e0, z0⟩ := A0.1 i2
    rw [e0] at hy
    have Y : At4 y q0 p1 [] v := by rw [hy]; exact zst0 hq [] [] h
    clear hy
    obtain ⟨r, er, rc, rs, rl, rp⟩ := id_in z0 b.idn (T.ib (I.2 i2)) n (by rw [if_pos (by exact T.r0)]; exact i2)
    clear er r rc rs rl rp
    rcases i1 : (identsK a.feat b.feat).1 with _ | _
    · obtain ⟨q1, e1, z1⟩ := A1.2 i1
      change encR p1 n = ⟨q1, idn_if (identsK a.feat b.feat).2 b.idn, [resX a b L idn0]⟩ at e1
      rw [i2] at e1
      rw [Y.s1, e1]
      refine (zh0 (m := 0) hq (d := idS b.idn) (rest := []) (zst1 hq [idS b.idn] [resX a b L idn0] Y) fun n => .inr ?_).mono (by omega)
      obtain ⟨r, er, rc, rs, rl, rp⟩ := id_in z0 b.idn (T.ib (I.2 i2)) n (by rw [if_pos (by exact T.r0)]; exact i2)
      change _ = (⟨r, idn_if ((identsK a.feat b.feat).1 && decide (a.role = 0)) a.idn, [resX a b L b.idn]⟩ : Stp) at er
      rw [i1, Bool.false_and] at er
      refine ⟨r, _, _, er, fun y' hy' => ?_⟩
      refine w_fin hy' rp z1.ph rl z1.ltk rs z1.sh ?_ ?_
      · rw [i2]; show v.g0 ++ [resX a b L b.idn] = _; rw [g0]; rfl
      · rw [i1]; show v.g1 ++ [resX a b L idn0] = _; rw [g1]; rfl
    · obtain ⟨q1, e1, z1⟩ := A1.1 i1
      change encR p1 n = ⟨q1, idn_if (identsK a.feat b.feat).2 b.idn, []⟩ at e1
      rw [i2] at e1
      rw [Y.s1, e1]
      refine zh0 (m := 1) hq (d := idS b.idn) (rest := []) (zst1 hq [idS b.idn] [] Y) fun n => .inr ?_
      obtain ⟨r, er, rc, rs, rl, rp⟩ := id_in z0 b.idn (T.ib (I.2 i2)) n (by rw [if_pos (by exact T.r0)]; exact i2)
      change _ = (⟨r, idn_if ((identsK a.feat b.feat).1 && decide (a.role = 0)) a.idn, [resX a b L b.idn]⟩ : Stp) at er
      rw [i1, T.r0, show (true && decide ((0 : Int) = 0)) = true from rfl] at er
      refine ⟨r, _, _, er, fun y' hy' => ?_⟩
      refine zh1 (m := 0) hq (d := idS a.idn) (rest := []) hy' fun n => .inr ?_
      obtain ⟨r1, er1, rc1, rs1, rl1, rp1⟩ := id_in z1 a.idn (T.ia (I.1 i1)) n (by rw [if_neg (by show ¬ b.role = 0; rw [T.r1]; decide)]; exact i1)
      change _ = (⟨r1, idn_if ((identsK a.feat b.feat).1 && decide (b.role = 0)) b.idn, [resX a b L a.idn]⟩ : Stp) at er1
      rw [T.r1, show decide ((1 : Int) = 0) = false from rfl, Bool.and_false] at er1
      refine ⟨r1, _, _, er1, fun y2 hy2 => ?_⟩
      refine w_fin hy2 rp rp1 rl rl1 rs rs1 ?_ ?_
      · rw [i2]; show v.g0 ++ [resX a b L b.idn] = _; rw [g0]; rfl
      · rw [i1]; show v.g1 ++ [resX a b L a.idn] = _; rw [g1]; rfl
theorem fail8 (p : Pr) (r n : Int) : (failR p r n).p.phase = 8 := rfl
theorem checkV_inj {s t : BitVec 32} {n r : BitVec 64} {f : Feat} {x y : Adr} (h : checkV s n r f x y = checkV t n r f x y) : s = t := by
  have := check_inj s t n r (featN f) (adrN x) (adrN y)
  rw [show checkK s n r (featN f) (adrN x) (adrN y) = checkK t n r (featN f) (adrN x) (adrN y) from h, beq_self_eq_true] at this
  exact eq_of_beq this.symm
theorem ext_ab (T : Two a b K0 K1 bad) {m w0 w1 : Int} (hw : isPass m = true → w0 = w1) : extF m w0 a.feat.oob a.oob.random = extF m w1 a.feat.oob b.mine ∧ extF m w1 b.feat.oob b.oob.random = extF m w0 b.feat.oob a.mine := by
  unfold extF
  rcases hp : isPass m with _ | _
  · simp only [Bool.false_eq_true, if_false]
    constructor
    · rcases ho : a.feat.oob with _ | _
      · simp
      · rw [T.oa ho]; rfl
    · rcases ho : b.feat.oob with _ | _
      · simp
      · rw [T.ob ho]; rfl
  · rw [hw hp]; exact ⟨rfl, rfl⟩
theorem w_check (T : Two a b K0 K1 bad) (hq : ∀ m d, 4 ≤ m → chg l m d = d) (k0 : Sx p0 (fx0 a b K0 (sharedK a.secret K0)) V0) (k1 : Sx p1 (fx1 a b K1 (sharedK b.secret K1)) V1) (g0 : v.g0 = []) (g1 : v.g1 = [])
    (a0 : V0.ph = 5) (a1 : V1.ph = 5) (n0 : V1.ot = V0.no) (n1 : V0.ot = V1.no) (hw : isPass (chooseK a.feat b.feat).1 = true → V0.pw = V1.pw)
    (h : At4 x p0 p1 [(true, chkS (ownCheckR p0))] v) : Wn l common bad (EndOk a b) 5 x := by
  have hx := ext_ab T hw
  have e0 : ownCheckR p0 = checkV (sharedK a.secret K0) V0.no (extF (chooseK a.feat b.feat).1 V0.pw a.feat.oob a.oob.random) a.feat a.own a.peer := k0.ownC
  have e1 : othC (fx1 a b K1 (sharedK b.secret K1)) V1 = checkV (sharedK b.secret K1) V0.no (extF (chooseK a.feat b.feat).1 V0.pw a.feat.oob a.oob.random) a.feat a.own a.peer := by
    show checkV (sharedK b.secret K1) V1.ot (extF (chooseK a.feat b.feat).1 V1.pw a.feat.oob b.mine) a.feat b.peer b.own = _
    rw [hx.1, n0, T.own, T.peer]
  refine zh1 (m := 4) hq h fun n => ?_
  rcases checks_1 k1 T.r1 a1 (ownCheckR p0) n with ⟨hne, e⟩ | ⟨heq, q1, e, z1⟩
  · left
    refine ⟨Classical.byContradiction fun hb => hne ?_, by rw [e]; exact fail8 _ _ _⟩
    rw [e0, e1, T.shared hb]
  · right
    refine ⟨q1, _, _, e, fun y hy => ?_⟩
    have hs : sharedK a.secret K0 = sharedK b.secret K1 := checkV_inj (by rw [← e0, heq, e1])
    refine zh0 (m := 3) (rest := []) hq hy fun n => ?_
    have e2 : ownC (fx1 a b K1 (sharedK b.secret K1)) V1 = othC (fx0 a b K0 (sharedK a.secret K0)) V0 := by
      show checkV (sharedK b.secret K1) V1.no (extF (chooseK a.feat b.feat).1 V1.pw b.feat.oob b.oob.random) b.feat b.own b.peer = checkV (sharedK a.secret K0) V0.ot (extF (chooseK a.feat b.feat).1 V0.pw b.feat.oob a.mine) b.feat a.peer a.own
      rw [hx.2, n1, T.own, T.peer, hs]
    rcases checks_0 k0 T.r0 a0 (ownC (fx1 a b K1 (sharedK b.secret K1)) V1) n with ⟨hne, _⟩ | ⟨_, q0, e', z0⟩
    · exact absurd e2 hne
    · right
      refine ⟨q0, _, _, e', fun y hy => ?_⟩
      have z0' : Kx q0 (fx0 a b K0 (sharedK b.secret K1)) (ltkV (sharedK b.secret K1) V1.ot V1.no b.peer b.own) false 6 := by
        have := z0
        change Kx q0 (fx0 a b K0 (sharedK a.secret K0)) (ltkV (sharedK a.secret K0) V0.no V0.ot a.own a.peer) false 6 at this
        rw [hs, n1, ← n0, T.own, ← T.peer] at this
        exact this
      exact w_end T hq z0' z1 g0 g1 hy
end
end Go.Proofs.YtihmbcnccdiecaaDoor
namespace Go.Proofs.YtihmbcnccdiecaaDoor
set_option maxRecDepth 100000
set_option linter.unusedVariables false
set_option linter.unusedSimpArgs false
section
variable {l : List Chg} {common : Int} {a b : Cfg} {K0 K1 : BitVec 32} {bad : Prop} {x : Tk} {p0 p1 : Pr} {v : Vw} {V0 V1 : Vx} {r : Int}
theorem com_01 (T : Two a b K0 K1 bad) (hb : ¬ bad) (n : BitVec 64) (z : BitVec 8) : commitK K1 (pubK b.secret) n z = commitK (pubK a.secret) K0 n z := by
  obtain ⟨e0, e1⟩ := T.good hb
  rw [e0, e1]
theorem com_10 (T : Two a b K0 K1 bad) (hb : ¬ bad) (n : BitVec 64) (z : BitVec 8) : commitK K0 (pubK a.secret) n z = commitK (pubK b.secret) K1 n z := by
  obtain ⟨e0, e1⟩ := T.good hb
  rw [e0, e1]
theorem w_M (T : Two a b K0 K1 bad) (hq : ∀ m d, 4 ≤ m → chg l m d = d) (hp : isPass (chooseK a.feat b.feat).1 = true) (R : RR a b K0 K1 p0 p1 V0 V1 v r) (hv : V1.hv = true) (hc : V1.cm = cmV (F0 a b K0) V0.no (zK V0.pw r)) {m : Nat}
    (h : At4 x p0 p1 [(false, conf (cmV (F1 a b K1) V1.no (zK V1.pw r)))] v) (hm : 5 ≤ m)
    (next : r + 1 ≠ 20 → ∀ y q0 q1 W0 W1, RR a b K0 K1 q0 q1 W0 W1 v (r + 1) → W1.hv = false → At4 y q0 q1 [(true, conf (cmV (F0 a b K0) W0.no (zK W0.pw (r + 1))))] v → Wn l common bad (EndOk a b) m y) : Wn l common bad (EndOk a b) (m + 3) x := by
  refine zh0 (m := m + 2) (rest := []) hq h fun n => .inr ?_
  obtain ⟨q0, e0, z0⟩ := take_0 R.k0 hp T.r0 R.a0 R.h0 (cmV (F1 a b K1) V1.no (zK V1.pw r)) n
  refine ⟨q0, _, _, e0, fun y hy => ?_⟩
  refine zh1 (m := m + 1) (rest := []) hq hy fun n => ?_
  rcases open_1 R.k1 hp T.r1 R.a1 hv V0.no n with ⟨hne, e1⟩ | ⟨_, q1, e1, z1⟩
  · left
    refine ⟨Classical.byContradiction fun hb => hne ?_, by rw [e1]; exact fail8 _ _ _⟩
    rw [hc, R.d1, ← R.w]
    exact com_01 T hb _ _
  right
  refine ⟨q1, _, _, e1, fun y hy => ?_⟩
  refine zh0 (m := m) (rest := []) hq hy fun n => ?_
  rcases open_0 z0 hp T.r0 R.a0 rfl V1.no n with ⟨hne, e2⟩ | ⟨_, ⟨h20, q2, e2, z2⟩ | ⟨h20, q2, e2, z2⟩⟩
  · left
    refine ⟨Classical.byContradiction fun hb => hne ?_, by rw [e2]; exact fail8 _ _ _⟩
    show commitK K0 (pubK a.secret) V1.no (zK V0.pw V0.rd) = cmV (F1 a b K1) V1.no (zK V1.pw r)
    rw [R.d0, R.w]
    exact com_10 T hb _ _
  · right
    refine ⟨q2, _, _, e2, fun y hy => ?_⟩
    refine (w_check T hq z2 z1 R.g0 R.g1 rfl ?_ rfl rfl (fun _ => R.w) hy).mono hm
    show (if V1.rd + 1 = 20 then (5 : Int) else 3) = 5
    rw [if_pos]
    rw [R.d1, ← R.d0]
    exact h20
  · right
    have hr : r + 1 ≠ 20 := by rw [← R.d0]; exact h20
    refine ⟨q2, _, _, e2, fun y hy => next hr y q2 q1 _ _ ⟨z2, z1, R.a0, ?_, rfl, R.w, by show V0.rd + 1 = r + 1; rw [R.d0], by show V1.rd + 1 = r + 1; rw [R.d1], R.g0, R.g1⟩ rfl ?_⟩
    · show (if V1.rd + 1 = 20 then (5 : Int) else 3) = 3
      rw [if_neg]
      rw [R.d1]
      exact hr
    · have := hy
      change At4 y q2 q1 [(true, conf (cmV (F0 a b K0) (V0.fresh (F0 a b K0)).no (zK V0.pw (V0.rd + 1))))] v at this
      rw [R.d0] at this
      exact this
theorem w_R (T : Two a b K0 K1 bad) (hq : ∀ m d, 4 ≤ m → chg l m d = d) (hp : isPass (chooseK a.feat b.feat).1 = true) : ∀ (j : Nat) {x : Tk} {p0 p1 : Pr} {v : Vw} {V0 V1 : Vx} {r : Int}, r + 1 + j = 20 → RR a b K0 K1 p0 p1 V0 V1 v r → V1.hv = false →
    At4 x p0 p1 [(true, conf (cmV (F0 a b K0) V0.no (zK V0.pw r)))] v → Wn l common bad (EndOk a b) (4 * j + 9) x := by
  intro j
  induction j with
  | zero =>
    intro x p0 p1 v V0 V1 r hr R hv h
    refine zh1 (m := 8) (rest := []) hq h fun n => .inr ?_
    obtain ⟨q1, e1, z1⟩ := take_1 R.k1 hp T.r1 R.a1 hv (cmV (F0 a b K0) V0.no (zK V0.pw r)) n
    rw [R.d1] at e1
    refine ⟨q1, _, _, e1, fun y hy => ?_⟩
    exact w_M T hq hp ⟨R.k0, z1, R.a0, R.a1, R.h0, R.w, R.d0, R.d1, R.g0, R.g1⟩ rfl rfl (m := 5) hy (Nat.le_refl _) (fun hne => absurd (by omega) hne)
  | succ j ih =>
    intro x p0 p1 v V0 V1 r hr R hv h
    refine zh1 (m := (4 * j + 9) + 3) (rest := []) hq h fun n => .inr ?_
    obtain ⟨q1, e1, z1⟩ := take_1 R.k1 hp T.r1 R.a1 hv (cmV (F0 a b K0) V0.no (zK V0.pw r)) n
    rw [R.d1] at e1
    refine ⟨q1, _, _, e1, fun y hy => ?_⟩
    exact w_M T hq hp ⟨R.k0, z1, R.a0, R.a1, R.h0, R.w, R.d0, R.d1, R.g0, R.g1⟩ rfl rfl (m := 4 * j + 9) hy (by omega) (fun _ y q0 q1 W0 W1 R' h' hy' => ih (by omega) R' h' hy')
theorem w_cmp (T : Two a b K0 K1 bad) (hq : ∀ m d, 4 ≤ m → chg l m d = d) (hm : (chooseK a.feat b.feat).1 = 2) (z0 : Sx p0 (F0 a b K0) V0) (z1 : Sx p1 (F1 a b K1) V1) (a0 : V0.ph = 4) (a1 : V1.ph = 4) (n0 : V1.ot = V0.no) (n1 : V0.ot = V1.no) (g0 : v.g0 = []) (g1 : v.g1 = []) (h0' : v.h0 = true) (h1' : v.h1 = true)
    (hd : ¬ bad → v.n0 = v.n1) (h : At4 x p0 p1 [] v) : Wn l common bad (EndOk a b) 6 x := by
  have hp : isPass (chooseK a.feat b.feat).1 = false := by rw [hm]; rfl
  refine w_u2 (m := 5) hq h (z0.ph.trans a0) (z1.ph.trans a1) fun n => ?_
  rw [show p0.method = 2 from z0.meth.trans hm, show p1.method = 2 from z1.meth.trans hm]
  have hA : ∀ c, ansV 2 c v common = if v.n0 = v.n1 then 1 else 0 := by
    intro c
    unfold ansV
    rw [if_neg (by decide)]
    simp [h0', h1']
  rw [hA, hA]
  by_cases hn : v.n0 = v.n1
  · right
    rw [if_pos hn]
    obtain ⟨q3, e3, z3⟩ := cmp_1 z0 hm a0 n
    obtain ⟨q4, e4, z4⟩ := cmp_1 z1 hm a1 n
    rw [if_pos (by exact T.r0)] at e3
    rw [if_neg (by show ¬ b.role = 0; rw [T.r1]; decide)] at e4
    refine ⟨q3, _, e3, q4, _, e4, fun y hy => ?_⟩
    exact w_check T hq z3 z4 g0 g1 rfl rfl n0 n1 (fun e => by rw [hp] at e; cases e) hy
  · left
    rw [if_neg hn]
    exact ⟨Classical.byContradiction fun hb => hn (hd hb), by rw [cmp_0 z0 hm a0 n]; rfl⟩
theorem w_just (T : Two a b K0 K1 bad) (hq : ∀ m d, 4 ≤ m → chg l m d = d) (hm : (chooseK a.feat b.feat).1 = 1 ∨ (chooseK a.feat b.feat).1 = 2) (k0 : Sx p0 (F0 a b K0) V0) (k1 : Sx p1 (F1 a b K1) V1) (a0 : V0.ph = 3) (a1 : V1.ph = 3) (h0' : V0.hv = false) (g0 : v.g0 = []) (g1 : v.g1 = [])
    (h : At4 x p0 p1 [(false, conf (cmV (F1 a b K1) V1.no 0#8))] v) : Wn l common bad (EndOk a b) 9 x := by
  have h6 : (chooseK a.feat b.feat).1 ≠ 6 := by omega
  have hp : isPass (chooseK a.feat b.feat).1 = false := by rcases hm with e | e <;> rw [e] <;> rfl
  refine zh0 (m := 8) (rest := []) hq h fun n => .inr ?_
  obtain ⟨q0, e0, z0⟩ := stake_0 k0 h6 hp T.r0 a0 h0' (cmV (F1 a b K1) V1.no 0#8) n
  refine ⟨q0, _, _, e0, fun y hy => ?_⟩
  refine zh1 (m := 7) (rest := []) hq hy fun n => .inr ?_
  obtain ⟨s1, s2⟩ := srand_1 k1 hm T.r1 a1 (V0.fresh (F0 a b K0)).no n
  have hcm : ∀ {p : Prop}, (commitK K0 (pubK a.secret) V1.no 0#8 ≠ cmV (F1 a b K1) V1.no 0#8) → bad := fun hne => Classical.byContradiction fun hb => hne (com_10 T hb _ _)
  rcases hm with hm | hm
  · obtain ⟨q1, e1, z1⟩ := s1 hm
    refine ⟨q1, _, _, e1, fun y hy => ?_⟩
    refine zh0 (m := 6) (rest := []) hq hy fun n => ?_
    rcases sopen_0 z0 (.inl hm) T.r0 a0 rfl V1.no n with ⟨hne, e2⟩ | ⟨_, s3, _⟩
    · exact .inl ⟨hcm (p := True) hne, by rw [e2]; exact fail8 _ _ _⟩
    right
    obtain ⟨q2, e2, z2⟩ := s3 hm
    refine ⟨q2, _, _, e2, fun y hy => ?_⟩
    exact (w_check T hq z2 z1 g0 g1 rfl rfl rfl rfl (fun e => by rw [hp] at e; cases e) hy).mono (by omega)
  · obtain ⟨q1, e1, z1⟩ := s2 hm
    refine ⟨q1, _, _, e1, fun y hy => ?_⟩
    refine zh0 (m := 6) (rest := []) hq hy fun n => ?_
    rcases sopen_0 z0 (.inr hm) T.r0 a0 rfl V1.no n with ⟨hne, e2⟩ | ⟨_, _, s3⟩
    · exact .inl ⟨hcm (p := True) hne, by rw [e2]; exact fail8 _ _ _⟩
    right
    obtain ⟨q2, e2, z2⟩ := s3 hm
    refine ⟨q2, _, _, e2, fun y hy => ?_⟩
    refine w_cmp (v := { ({ v with h1 := true, n1 := dig1 (F1 a b K1) { V1 with ot := (V0.fresh (F0 a b K0)).no } } : Vw) with h0 := true, n0 := dig0 (F0 a b K0) { V0.fresh (F0 a b K0) with hv := true, cm := cmV (F1 a b K1) V1.no 0#8, ot := V1.no } }) T hq hm z2 z1 rfl rfl rfl rfl g0 g1 rfl rfl (fun hb => ?_) hy
    obtain ⟨e0, e1⟩ := T.good hb
    show ((digitsK (pubK a.secret) K0 (V0.fresh (F0 a b K0)).no V1.no).toNat : Int) = ((digitsK K1 (pubK b.secret) (V0.fresh (F0 a b K0)).no V1.no).toNat : Int)
    rw [e0, e1]
theorem w_oob (T : Two a b K0 K1 bad) (hq : ∀ m d, 4 ≤ m → chg l m d = d) (hm : (chooseK a.feat b.feat).1 = 6) (k0 : Sx p0 (F0 a b K0) V0) (k1 : Sx p1 (F1 a b K1) V1) (a0 : V0.ph = 3) (a1 : V1.ph = 3) (g0 : v.g0 = []) (g1 : v.g1 = [])
    (h : At4 x p0 p1 [(true, rand V0.no)] v) : Wn l common bad (EndOk a b) 7 x := by
  have hp : isPass (chooseK a.feat b.feat).1 = false := by rw [hm]; rfl
  refine zh1 (m := 6) (rest := []) hq h fun n => .inr ?_
  obtain ⟨q1, e1, z1⟩ := oob_1 k1 hm T.r1 a1 V0.no n
  refine ⟨q1, _, _, e1, fun y hy => ?_⟩
  refine zh0 (m := 5) (rest := []) hq hy fun n => .inr ?_
  obtain ⟨q0, e0, z0⟩ := oob_0 k0 hm T.r0 a0 (V1.fresh (F1 a b K1)).no n
  refine ⟨q0, _, _, e0, fun y hy => ?_⟩
  exact w_check T hq z0 z1 g0 g1 rfl rfl rfl rfl (fun e => by rw [hp] at e; cases e) hy
end
end Go.Proofs.YtihmbcnccdiecaaDoor
namespace Go.Proofs.YtihmbcnccdiecaaDoor
set_option maxRecDepth 100000
set_option linter.unusedVariables false
set_option linter.unusedSimpArgs false
section
variable {l : List Chg} {common : Int} {a b : Cfg} {K0 K1 : BitVec 32} {bad : Prop} {x : Tk} {p0 p1 : Pr}
def Vi : Vx := ⟨2, false, 0#64, 0#64, 0#64, -1, 0, 0⟩
def vw0 : Vw := ⟨false, false, 0, 0, [], []⟩
theorem key_1 (T : Two a b K0 K1 bad) (hb : ¬ bad) : keyOk (fx1 a b 0#32 0#32) K1 := by
  obtain ⟨e0, e1⟩ := T.good hb
  subst e1
  exact ⟨T.va, T.keys, fun h => by show b.oob.value = commitK _ _ b.oob.random 0#8; rw [T.ob h]; rfl⟩
theorem key_0 (T : Two a b K0 K1 bad) (hb : ¬ bad) : keyOk (fx0 a b 0#32 0#32) K0 := by
  obtain ⟨e0, e1⟩ := T.good hb
  subst e0
  exact ⟨T.vb, fun e => T.keys e.symm, fun h => by show a.oob.value = commitK _ _ a.oob.random 0#8; rw [T.oa h]; rfl⟩
theorem method_in {a b : Feat} (h : enoughK a b = true) : (chooseK a b).1 = 6 ∨ ((chooseK a b).1 = 1 ∨ (chooseK a b).1 = 2) ∨ (chooseK a b).1 = 3 ∨ (chooseK a b).1 = 4 ∨ (chooseK a b).1 = 5 := by
  unfold enoughK at h
  have ht : tableK a.io b.io = 1 ∨ tableK a.io b.io = 2 ∨ tableK a.io b.io = 3 ∨ tableK a.io b.io = 4 ∨ tableK a.io b.io = 5 := by
    unfold tableK
    repeat' split
    all_goals simp
  simp only [Bool.and_eq_true, decide_eq_true_eq] at h
  have h0 := h.1
  unfold chooseK at h0 ⊢
  repeat' split
  all_goals first | (simp_all; done) | (simp only []; omega)
theorem w_pub0 (T : Two a b K0 K1 bad) (hq : ∀ m d, 4 ≤ m → chg l m d = d) {m : Nat} {v : Vw} {rest : List (Bool × Sec)} (k0 : Sx p0 (fx0 a b 0#32 0#32) Vi) (h : At4 x p0 p1 ((false, pubS K0) :: rest) v)
    (next : ∀ s : Stp, Sx s.p (F0 a b K0) Vi → s.out = [] → s.ev = [] → ∃ q out ev, beginR s = ⟨q, out, ev⟩ ∧ ∀ y, At4 y q p1 (rest ++ out.map fun d => (true, d)) (ev.foldl (noteV false) v) → Wn l common bad (EndOk a b) m y) : Wn l common bad (EndOk a b) (m + 1) x := by
  refine zh0 hq h fun n => ?_
  rcases pub_sx k0 rfl K0 n with ⟨hne, h8⟩ | ⟨_, s, hs, he, ho, e⟩
  · exact .inl ⟨Classical.byContradiction fun hb => hne (key_0 T hb), h8⟩
  · right
    rw [if_pos (by exact T.r0)] at ho
    rw [e]
    exact next s hs ho he
theorem w_keys (T : Two a b K0 K1 bad) (Q : Lq l a b K0 K1) (hen : enoughK a.feat b.feat = true) (c0 : 0 ≤ common) (c1 : common ≤ 999999) (k0 : Sx p0 (fx0 a b 0#32 0#32) Vi) (k1 : Sx p1 (fx1 a b 0#32 0#32) Vi)
    (h : At x p0 p1 [(true, pubS K1)] vw0 3) : Wn l common bad (EndOk a b) 100 x := by
  have hq := Q.hq
  have nr1 : ¬ b.role = 0 := by rw [T.r1]; decide
  refine hand1 (m := 99) h fun n => ?_
  rcases pub_sx k1 rfl K1 n with ⟨hne, h8⟩ | ⟨_, s, hs, he, ho, e⟩
  · exact .inl ⟨Classical.byContradiction fun hb => hne (key_1 T hb), h8⟩
  right
  rw [if_neg (by exact nr1)] at ho
  change s.out = [pubS (pubK b.secret)] at ho
  change Sx s.p (F1 a b K1) Vi at hs
  rw [e]
  have hone : ∀ (q : Pr) (more : List Sec) (v : Vw) (y : Tk), At y p0 q ([] ++ (chgs l 3 (s.out ++ more)).map fun d => (false, d)) v (3 + ((s.out ++ more).length : Nat)) → At4 y p0 q ((false, pubS K0) :: more.map fun d => (false, d)) v := by
    intro q more v y hy
    rw [ho] at hy
    refine ⟨3 + (([pubS (pubK b.secret)] ++ more).length : Int), ?_, ?_⟩
    · simp; omega
    · have e4 : chgs l 3 ([pubS (pubK b.secret)] ++ more) = pubS K0 :: more := by
        show chg l 3 (pubS (pubK b.secret)) :: chgs l (3 + 1) more = _
        rw [Q.q3, chgs_high hq more _ (by omega)]
      rw [e4] at hy
      exact hy
  rcases method_in hen with hm | hm | hm | hm | hm
  · -- out-of-band data
    obtain ⟨q1, e1, z1⟩ := begin_o1 hs hm T.r1
    refine ⟨q1, s.out ++ [], s.ev, by rw [e1, List.append_nil], fun y hy => ?_⟩
    rw [he] at hy
    refine (w_pub0 (m := 7) T hq k0 (hone q1 [] vw0 y hy) fun t ht to te => ?_).mono (by decide)
    obtain ⟨q0, e0, z0⟩ := begin_o0 ht hm T.r0
    rw [to, te] at e0
    refine ⟨q0, _, _, e0, fun y hy => ?_⟩
    exact w_oob T hq hm z0 z1 rfl rfl rfl rfl hy
  · -- no passkey
    have hp : isPass (chooseK a.feat b.feat).1 = false := by rcases hm with e | e <;> rw [e] <;> rfl
    have h6 : (chooseK a.feat b.feat).1 ≠ 6 := by omega
    obtain ⟨q1, e1, z1⟩ := begin_s1 hs h6 hp T.r1
    refine ⟨q1, _, s.ev, e1, fun y hy => ?_⟩
    rw [he] at hy
    refine (w_pub0 (m := 9) T hq k0 (hone q1 _ vw0 y hy) fun t ht to te => ?_).mono (by decide)
    obtain ⟨q0, e0, z0⟩ := begin_s0 ht h6 hp T.r0
    rw [to, te] at e0
    refine ⟨q0, _, _, e0, fun y hy => ?_⟩
    exact w_just T hq hm z0 z1 rfl rfl rfl rfl rfl hy
  · -- the initiator shows
    have hp : isPass (chooseK a.feat b.feat).1 = true := by rw [hm]; rfl
    have f0 : shF (F0 a b K0) = true := by unfold shF; simp [show (F0 a b K0).m = 3 from hm, show (F0 a b K0).c.role = 0 from T.r0]
    have f1 : shF (F1 a b K1) = false := by unfold shF; simp [show (F1 a b K1).m = 3 from hm, show (F1 a b K1).c.role = 1 from T.r1]
    obtain ⟨q1, e1, z1⟩ := begin_ask hs hp f1
    refine ⟨q1, s.out ++ [], s.ev ++ [askE], by rw [e1, List.append_nil], fun y hy => ?_⟩
    rw [he] at hy
    refine (w_pub0 (m := 90) T hq k0 (hone q1 [] vw0 y hy) fun t ht to te => ?_).mono (by decide)
    obtain ⟨q0, e0, z0⟩ := (begin_show ht hp f0).1 T.r0
    rw [to, te] at e0
    refine ⟨q0, _, _, e0, fun y hy => ?_⟩
    refine zh1 (m := 89) (rest := []) hq hy fun n => .inr ?_
    obtain ⟨q2, e2, z2⟩ := wait_1 z1 hp T.r1 rfl rfl (cmV (F0 a b K0) ((Vi.shown (F0 a b K0)).fresh (F0 a b K0)).no (zK (pwK (F0 a b K0) Vi) Vi.rd)) n
    refine ⟨q2, _, _, e2, fun y hy => ?_⟩
    refine w_u1 (m := 88) hq hy (by rw [z0.ph]; show ¬ (3 : Int) = 4; decide) z2.ph fun n => ?_
    have hA : ansV q2.method true ({ vw0 with h0 := true, n0 := pwK (F0 a b K0) Vi } : Vw) common = pwK (F0 a b K0) Vi := by
      unfold ansV
      rw [if_pos (by rw [show q2.method = 3 from z2.meth.trans hm]; decide)]
      rfl
    obtain ⟨q3, e3, z3⟩ := enter_c z2 hp rfl (.inr rfl) (pwK (F0 a b K0) Vi) n (pwK_in _ _).1 (pwK_in _ _).2
    refine ⟨q3, _, (congrArg (fun t => userR q2 t n) hA).trans e3, fun y hy => ?_⟩
    exact w_M T hq hp (r := 0) ⟨z0, z3, rfl, rfl, rfl, rfl, rfl, rfl, rfl, rfl⟩ rfl rfl (m := 85) hy (by decide) (fun _ y q0 q1 W0 W1 R' h' hy' => w_R T hq hp 18 (by decide) R' h' hy' |>.mono (by decide))
  · -- the initiator enters what the responder shows
    have hp : isPass (chooseK a.feat b.feat).1 = true := by rw [hm]; rfl
    have f0 : shF (F0 a b K0) = false := by unfold shF; simp [show (F0 a b K0).m = 4 from hm, show (F0 a b K0).c.role = 0 from T.r0]
    have f1 : shF (F1 a b K1) = true := by unfold shF; simp [show (F1 a b K1).m = 4 from hm, show (F1 a b K1).c.role = 1 from T.r1]
    obtain ⟨q1, e1, z1⟩ := (begin_show hs hp f1).2 T.r1
    refine ⟨q1, s.out ++ [], s.ev ++ [shwE (pwK (F1 a b K1) Vi)], by rw [e1, List.append_nil], fun y hy => ?_⟩
    rw [he] at hy
    refine (w_pub0 (m := 90) T hq k0 (hone q1 [] _ y hy) fun t ht to te => ?_).mono (by decide)
    obtain ⟨q0, e0, z0⟩ := begin_ask ht hp f0
    rw [to, te] at e0
    refine ⟨q0, _, _, e0, fun y hy => ?_⟩
    refine w_u0 (m := 89) hq hy z0.ph (by rw [z1.ph]; show ¬ (3 : Int) = 4; decide) fun n => ?_
    have hA : ansV q0.method false ({ vw0 with h1 := true, n1 := pwK (F1 a b K1) Vi } : Vw) common = pwK (F1 a b K1) Vi := by
      unfold ansV
      rw [if_pos (by rw [show q0.method = 4 from z0.meth.trans hm]; decide)]
      rfl
    obtain ⟨q3, e3, z3⟩ := enter_c z0 hp rfl (.inl T.r0) (pwK (F1 a b K1) Vi) n (pwK_in _ _).1 (pwK_in _ _).2
    refine ⟨q3, _, (congrArg (fun t => userR q0 t n) hA).trans e3, fun y hy => ?_⟩
    exact (w_R T hq hp 19 (r := 0) (by decide) ⟨z3, z1, rfl, rfl, rfl, rfl, rfl, rfl, rfl, rfl⟩ rfl hy).mono (by decide)
  · -- both enter
    have hp : isPass (chooseK a.feat b.feat).1 = true := by rw [hm]; rfl
    have f0 : shF (F0 a b K0) = false := by unfold shF; simp [show (F0 a b K0).m = 5 from hm]
    have f1 : shF (F1 a b K1) = false := by unfold shF; simp [show (F1 a b K1).m = 5 from hm]
    obtain ⟨q1, e1, z1⟩ := begin_ask hs hp f1
    refine ⟨q1, s.out ++ [], s.ev ++ [askE], by rw [e1, List.append_nil], fun y hy => ?_⟩
    rw [he] at hy
    refine (w_pub0 (m := 90) T hq k0 (hone q1 [] _ y hy) fun t ht to te => ?_).mono (by decide)
    obtain ⟨q0, e0, z0⟩ := begin_ask ht hp f0
    rw [to, te] at e0
    refine ⟨q0, _, _, e0, fun y hy => ?_⟩
    refine w_u2 (m := 89) hq hy z0.ph z1.ph fun n => .inr ?_
    have hA : ∀ (p : Pr) (c : Bool), p.method = 5 → ansV p.method c vw0 common = common := by
      intro p c e
      unfold ansV
      rw [if_pos (by rw [e]; decide)]
      cases c <;> rfl
    obtain ⟨q3, e3, z3⟩ := enter_c z0 hp rfl (.inl T.r0) common n c0 c1
    obtain ⟨q4, e4, z4⟩ := enter_n z1 hp rfl T.r1 rfl common n c0 c1
    refine ⟨q3, _, (congrArg (fun t => userR q0 t n) (hA q0 false (z0.meth.trans hm))).trans e3, q4, _, (congrArg (fun t => userR q1 t n) (hA q1 true (z1.meth.trans hm))).trans e4, fun y hy => ?_⟩
    exact (w_R T hq hp 19 (r := 0) (by decide) ⟨z3, z4, rfl, rfl, rfl, rfl, rfl, rfl, rfl, rfl⟩ rfl hy).mono (by decide)
end
end Go.Proofs.YtihmbcnccdiecaaDoor
namespace Go.Proofs.YtihmbcnccdiecaaDoor
set_option maxRecDepth 100000
set_option linter.unusedVariables false
set_option linter.unusedSimpArgs false
theorem newP_facts {c : Cfg} (h : (newP c).2 = 0) : featK_ c.feat = 0 ∧ validK (pubK c.secret) = true ∧ (c.feat.sid = true → idnK c.idn = 0) := by
  unfold newP at h
  split at h
  · cases h
  split at h
  · rename_i hne; exact absurd h hne
  rename_i hf
  split at h
  · rename_i hne; exact absurd h hne
  split at h
  · rename_i hne; exact absurd h hne
  split at h
  · cases h
  split at h
  · cases h
  rename_i hv
  split at h
  · rename_i hne; exact absurd h hne.2
  rename_i hi
  refine ⟨Decidable.not_not.1 hf, by simpa using hv, fun hs => Decidable.byContradiction fun hn => hi ⟨hs, hn⟩⟩
theorem fitsK_two {a b : Cfg} {common : Int} {K0 K1 : BitVec 32} {bad : Prop} (h : fitsK a b common = true) (h1 : (newP a).2 = 0) (h2 : (newP b).2 = 0) (h3 : a.role = 0) (h4 : b.role = 1) (hg : ¬ bad → K0 = pubK b.secret ∧ K1 = pubK a.secret) :
    Two a b K0 K1 bad ∧ 0 ≤ common ∧ common ≤ 999999 := by
  unfold fitsK at h
  simp only [Bool.and_eq_true, decide_eq_true_eq, Bool.not_eq_true', decide_eq_false_iff_not, Bool.or_eq_true] at h
  obtain ⟨⟨⟨⟨⟨⟨e1, e2⟩, e3⟩, e4⟩, e5⟩, e6⟩, e7⟩ := h
  refine ⟨⟨h3, h4, e1, e2, e5, (newP_facts h1).2.1, (newP_facts h2).2.1, fun ho => ?_, fun ho => ?_, (newP_facts h1).2.2, (newP_facts h2).2.2, hg⟩, e3, e4⟩
  · rcases e6 with e | e
    · rw [ho] at e; cases e
    · exact e
  · rcases e7 with e | e
    · rw [ho] at e; cases e
    · exact e
section
variable {l : List Chg} {common : Int} {a b : Cfg} {K0 K1 : BitVec 32} {bad : Prop} {x : Tk} {p0 p1 : Pr}
def reqS (a : Cfg) : Sec := { sec0 with kind := 1, feat := a.feat }
def resS (b : Cfg) : Sec := { sec0 with kind := 2, feat := b.feat }
theorem sec_req (a : Cfg) (h : featK_ a.feat = 0) : secK (reqS a) = 0 := by simp [secK, usedK, reqS, sec0, h]
theorem sec_res (b : Cfg) (h : featK_ b.feat = 0) : secK (resS b) = 0 := by simp [secK, usedK, resS, sec0, h]
theorem hand_req {b : Cfg} (a : Cfg) (hf : featK_ a.feat = 0) (hr : b.role = 1) (n : Int) : handleR (begunP b) (reqS a) n = featuresR (begunP b) (reqS a) n := by
  rw [hand_known (by show (0 : Int) < 7; decide) (sec_req a hf) (by simp [reqS])]
  unfold knownR
  have hi : initR (begunP b) = false := by unfold initR; rw [show (begunP b).cfg.role = 1 from hr]; rfl
  rw [if_pos (show (begunP b).phase = 0 from rfl), if_neg (by rw [hi]; simp), if_pos ⟨hi, rfl⟩]
theorem hand_res {a : Cfg} (b : Cfg) (hf : featK_ b.feat = 0) (n : Int) : handleR (askedP a) (resS b) n = featuresR (askedP a) (resS b) n := by
  rw [hand_known (by show (1 : Int) < 7; decide) (sec_res b hf) (by simp [resS])]
  unfold knownR
  rw [if_neg (by show ¬ (1 : Int) = 0; decide), if_pos (show (askedP a).phase = 1 from rfl), if_pos (show (resS b).kind = 2 from rfl)]
theorem start_at (a b : Cfg) (l : List Chg) (q0 : ∀ d, chg l 0 d = d) : At (startT a b l) (askedP a) (begunP b) [(true, reqS a)] vw0 1 := by
  have h : At ({ tk0 with ok := true, s1 := begunP b } : Tk) pr0 (begunP b) [] vw0 0 := ⟨rfl, rfl, rfl, rfl, rfl, rfl, rfl, rfl, rfl, rfl, rfl⟩
  have := step0_at (l := l) (q := askedP a) [reqS a] [] h
  have e : chgs l 0 [reqS a] = [reqS a] := by show [chg l 0 (reqS a)] = _; rw [q0]
  rw [e] at this
  exact this
theorem w_start (T : Two a b K0 K1 bad) (Q : Lq l a b K0 K1) (hen : enoughK a.feat b.feat = true) (fa : featK_ a.feat = 0) (fb : featK_ b.feat = 0) (c0 : 0 ≤ common) (c1 : common ≤ 999999) : Wn l common bad (EndOk a b) 102 (startT a b l) := by
  have hi1 : initR (begunP b) = false := by unfold initR; rw [show (begunP b).cfg.role = 1 from T.r1]; rfl
  have hi0 : initR (askedP a) = true := by unfold initR; rw [show (askedP a).cfg.role = 0 from T.r0]; rfl
  have A1 : ∀ n, ∃ q, handleR (begunP b) (reqS a) n = ⟨q, [resS b], []⟩ ∧ Sx q (fx1 a b 0#32 0#32) Vi := by
    intro n
    rw [hand_req a fa T.r1]
    unfold featuresR
    simp only [hi1, Bool.false_eq_true, if_false]
    rw [if_neg (by show ¬ enoughK a.feat b.feat = false; rw [hen]; decide)]
    exact ⟨_, rfl, ⟨rfl, rfl, rfl, rfl, rfl, rfl, rfl, rfl, rfl, rfl, rfl, rfl, rfl, rfl, rfl, rfl, rfl, rfl⟩⟩
  have A0 : ∀ n, ∃ q, handleR (askedP a) (resS b) n = ⟨q, [pubS (pubK a.secret)], []⟩ ∧ Sx q (fx0 a b 0#32 0#32) Vi := by
    intro n
    rw [hand_res b fb]
    unfold featuresR
    simp only [hi0, if_true]
    rw [if_neg (by show ¬ enoughK a.feat b.feat = false; rw [hen]; decide)]
    exact ⟨_, rfl, ⟨rfl, rfl, rfl, rfl, rfl, rfl, rfl, rfl, rfl, rfl, rfl, rfl, rfl, rfl, rfl, rfl, rfl, rfl⟩⟩
  refine hand1 (m := 101) (rest := []) (start_at a b l Q.q0) fun n => .inr ?_
  obtain ⟨q1, e1, z1⟩ := A1 n
  refine ⟨q1, _, _, e1, fun y hy => ?_⟩
  have e : chgs l 1 [resS b] = [resS b] := by show [chg l 1 (resS b)] = _; rw [Q.q1]
  rw [e] at hy
  refine hand0 (m := 100) (rest := []) hy fun n => .inr ?_
  obtain ⟨q0, e0, z0⟩ := A0 n
  refine ⟨q0, _, _, e0, fun y hy => ?_⟩
  have e : chgs l 2 [pubS (pubK a.secret)] = [pubS K1] := by show [chg l 2 (pubS (pubK a.secret))] = _; rw [Q.q2]
  change At y q0 q1 ([] ++ (chgs l 2 [pubS (pubK a.secret)]).map fun d => (true, d)) vw0 3 at hy
  rw [e] at hy
  exact w_keys T Q hen c0 c1 z0 z1 hy
theorem w_poor (q0 : ∀ d, chg l 0 d = d) (q1 : ∀ d, chg l 1 d = d) (r1 : b.role = 1) (hen : enoughK a.feat b.feat = false) (fa : featK_ a.feat = 0) : Wn l common False (fun x => x.s0.phase = 8 ∧ x.s1.phase = 8) 2 (startT a b l) := by
  refine hand1 (m := 1) (rest := []) (start_at a b l q0) fun n => .inr ?_
  rw [hand_req a fa r1]
  unfold featuresR
  have hi1 : initR (begunP b) = false := by unfold initR; rw [show (begunP b).cfg.role = 1 from r1]; rfl
  simp only [hi1, Bool.false_eq_true, if_false]
  rw [if_pos (by exact hen)]
  refine ⟨_, _, _, rfl, fun y hy => ?_⟩
  have e : chgs l 1 [({ sec0 with kind := 5, reason := 3 } : Sec)] = [{ sec0 with kind := 5, reason := 3 }] := by show [chg l 1 _] = _; rw [q1]
  change At y (askedP a) _ ([] ++ (chgs l 1 [({ sec0 with kind := 5, reason := 3 } : Sec)]).map fun d => (false, d)) _ _ at hy
  rw [e] at hy
  refine hand0 (m := 0) (rest := []) hy fun n => .inr ?_
  have hh : handleR (askedP a) { sec0 with kind := 5, reason := 3 } n = { failR (askedP a) 3 n with out := [] } := by
    unfold handleR
    rw [if_neg (by show ¬ ((1 : Int) = 7 ∨ (1 : Int) = 8); decide), if_neg (by decide), if_neg (by decide), if_neg (by show ¬ (1 : Int) = 0; decide)]
  rw [hh]
  refine ⟨_, _, _, rfl, fun y hy => ?_⟩
  have a0 : y.s0.phase = 8 := by rw [hy.s0]; rfl
  have a1 : y.s1.phase = 8 := by rw [hy.s1]
  exact w_stop (fun n => round_stop hy.line (by omega) (by omega) (by omega)) ⟨a0, a1⟩
theorem play_w {E : Tk → Prop} {m : Nat} (h1 : (newP a).2 = 0) (h2 : (newP b).2 = 0) (h3 : a.role = 0) (h4 : b.role = 1) (hw : Wn l common bad E m (startT a b l)) (hm : m ≤ 400) : (bad ∧ FldT (playT a b l common)) ∨ E (playT a b l common) := by
  rw [play_run h1 h2 h3 h4]
  exact hw (start_inv l h1 h2 h3) 400 0 hm (Int.le_refl 0) (by decide)
end
end Go.Proofs.YtihmbcnccdiecaaDoor
