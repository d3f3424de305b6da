/- Part of the proofs of the laws of pairing. -/
import Derived.Below
import Derived.Carry
import Derived.ChangeMaps5
import Derived.ChangeOld
import Derived.OpenShut
import Derived.ProofKit
import Derived.SevenTiedAt
import Derived.ShutString
import Derived.WalkKit
import Derived.Test.YtihmbcnccdiecaaDoorA2
import Derived.Test.YtihmbcnccdiecaaDoorBFit
import Derived.Test.YtihmbcnccdiecaaDoorBLive
import Derived.Test.YtihmbcnccdiecaaDoorBLowB
import Derived.Test.YtihmbcnccdiecaaDoorBLowC
import Derived.Test.YtihmbcnccdiecaaDoorBSdA
import Derived.Test.YtihmbcnccdiecaaDoorBSdB
import Derived.Test.YtihmbcnccdiecaaDoorBSdC
import Derived.Test.YtihmbcnccdiecaaDoorBSdD
import Derived.Test.YtihmbcnccdiecaaDoorBSdE
import Derived.Test.YtihmbcnccdiecaaDoorBSdF
import Derived.Test.YtihmbcnccdiecaaDoorBSdG
import Derived.Test.YtihmbcnccdiecaaDoorBSdH
import Derived.Test.YtihmbcnccdiecaaDoorBSdIe
import Derived.Test.YtihmbcnccdiecaaDoorBSdIs
import Derived.Test.YtihmbcnccdiecaaDoorBSdIu
import Derived.Test.YtihmbcnccdiecaaDoorBSdJ
import Derived.Test.YtihmbcnccdiecaaDoorBSdK
import Derived.Test.YtihmbcnccdiecaaDoorBSdL
import Derived.Test.YtihmbcnccdiecaaDoorBSdM
import Derived.Test.YtihmbcnccdiecaaDoorBSdN
import Derived.Test.YtihmbcnccdiecaaDoorBTkP
import Derived.Test.YtihmbcnccdiecaaDoorBTkU
import Derived.Test.YtihmbcnccdiecaaDoorBTkV
import Derived.Test.YtihmbcnccdiecaaDoorBTkW
import Derived.Test.YtihmbcnccdiecaaDoorBTkY
import Derived.Test.YtihmbcnccdiecaaDoorBTkZ
import Derived.Test.YtihmbcnccdiecaaDoorCACKS
import Derived.Test.YtihmbcnccdiecaaDoorCACE
import Derived.Test.YtihmbcnccdiecaaDoorCACK
import Derived.Test.YtihmbcnccdiecaaDoorCAKS
import Derived.Test.YtihmbcnccdiecaaDoorCAC
import Derived.Test.YtihmbcnccdiecaaDoorCAK
import Derived.Test.YtihmbcnccdiecaaDoorCAS
namespace Go.Proofs.YtihmbcnccdiecaaDoor
set_option maxRecDepth 100000
set_option linter.unusedVariables false
set_option linter.unusedSimpArgs false
theorem chg1_value (n : Int) (d : Sec) (c : Chg) (h3 : d.kind ≠ 3) (h4 : d.kind ≠ 4) : (chg1 n d c).value = d.value := by
  unfold chg1
  simp only []
  by_cases h : c.at_ = n ∧ d.kind = 12
  · rw [if_pos h, if_neg]
    rintro ⟨_, h' | h'⟩
    · exact h3 h'
    · exact h4 h'
  · rw [if_neg h, if_neg]
    rintro ⟨_, h' | h'⟩
    · exact h3 h'
    · exact h4 h'
theorem chg_value (l : List Chg) (n : Int) : ∀ d : Sec, d.kind ≠ 3 → d.kind ≠ 4 → (chg l n d).value = d.value := by
  induction l with
  | nil => intro d _ _; rfl
  | cons c l ih =>
    intro d h3 h4
    show (chg l n (chg1 n d c)).value = _
    rw [ih _ (by rw [chg1_kind]; exact h3) (by rw [chg1_kind]; exact h4), chg1_value n d c h3 h4]
theorem core_checks {p q : Pr} (hc : q.cfg = p.cfg) (h : Core p q ∧ q.method = p.method ∧ q.peer = p.peer) : ownCheckR q = ownCheckR p ∧ otherCheckR q = otherCheckR p ∧ ltkR q = ltkR p := by
  obtain ⟨⟨h1, h2, h3, h4, h5⟩, h6, h7⟩ := h
  unfold ownCheckR otherCheckR ltkR extraR initR
  rw [hc, h2, h3, h4, h5, h6, h7]
  exact ⟨rfl, rfl, rfl⟩
theorem ja_step {a b : Cfg} {l : List Chg} {x x' : Tk} {c : Bool} {s : Stp} {V : BitVec 64 → Prop} (hj : JA a b x) (hs : Gst (x.side c) V s) (hV : ∀ v, V v → v = ownCheckR (x.side (!c)) ∧ 5 ≤ (x.side (!c)).phase)
    (e : ∀ c, x'.side c = x.side c) (hl : ∀ e ∈ x'.line, e ∈ x.line) : JA a b (stepT l c x' s) := by
  have hp := postF l c s.p s.out s.ev x'
  have hb : (stepT l c x' s).side c = s.p := hp.sb
  have ho : (stepT l c x' s).side (!c) = x.side (!c) := hp.so.trans (e _)
  have hcc : ∀ k : Bool, k = c ∨ k = !c := by intro k; cases k <;> cases c <;> simp
  refine ⟨fun k => ?_, fun z hz hk => ?_, fun k hk => ?_, fun k h6 h7 => ?_⟩
  · rcases hcc k with h | h
    · rw [h, hb, hs.cfg]; exact hj.cf c
    · rw [h, ho]; exact hj.cf _
  · rcases hp.line z hz with hz | ⟨d, hd, n, hz⟩
    · obtain ⟨h1, h2⟩ := hj.line z (hl z hz) hk
      rcases hcc z.1 with h | h
      · rw [h, ho]; rw [h] at h1 h2; exact ⟨h1, h2⟩
      · rw [h, Bool.not_not, hb]; rw [h, Bool.not_not] at h1 h2
        exact ⟨h1.trans (core_checks hs.cfg (hs.core h2)).1.symm, (hs.core h2).1.ph⟩
    · subst hz
      simp only [chg_kind] at hk
      rw [Bool.not_not, hb]
      obtain ⟨h1, h2⟩ := hs.out d hd hk
      exact ⟨(chg_value l n d (by omega) (by omega)).trans h1, h2⟩
  · rcases hcc k with h | h
    · subst h
      rw [hb] at hk ⊢
      rw [ho]
      exact hV _ (hs.hin hk)
    · subst h
      rw [Bool.not_not, hb, ho]
      rw [ho] at hk
      obtain ⟨h1, h2⟩ := hj.kept _ hk
      rw [Bool.not_not] at h1 h2
      exact ⟨h1.trans (core_checks hs.cfg (hs.core h2)).1.symm, (hs.core h2).1.ph⟩
  · rcases hcc k with h | h
    · subst h
      rw [hb] at h6 h7 ⊢
      rw [ho]
      rcases hs.key h6 h7 with ⟨q6, q7, hl'⟩ | ⟨hv, hl'⟩
      · obtain ⟨h1, h2, h3⟩ := hj.keyed _ q6 q7
        obtain ⟨c1, c2, c3⟩ := core_checks hs.cfg (hs.core (by omega))
        exact ⟨c2.trans h1, h2, hl'.trans (h3.trans c3.symm)⟩
      · obtain ⟨h1, h2⟩ := hV _ hv
        exact ⟨h1, h2, hl'⟩
    · subst h
      rw [ho] at h6 h7 ⊢
      rw [Bool.not_not, hb]
      obtain ⟨h1, h2, h3⟩ := hj.keyed _ h6 h7
      rw [Bool.not_not] at h1 h2
      exact ⟨h1.trans (core_checks hs.cfg (hs.core h2)).1.symm, (hs.core h2).1.ph, h3⟩
theorem gst_fct {p : Pr} {dk : Int} {dv : BitVec 64} {s : Stp} (V : BitVec 64 → Prop) (h : Fct p dk dv s) (h1 : p.haveIn = true → V p.checkIn) (h2 : dk = 13 → V dv) : Gst p V s := by
  refine ⟨h.cfg, fun h5 => ⟨h.core h5, (h.meth (by omega)).1, (h.meth (by omega)).2.1⟩, h.out, fun hi => ?_, fun h6 h7 => ?_⟩
  · rcases h.hin hi with ⟨hp, he⟩ | ⟨hk, he⟩
    · rw [he]; exact h1 hp
    · rw [he]; exact h2 hk
  · rcases h.key h6 h7 with h | ⟨hk, hv, hl⟩
    · exact .inl h
    · exact .inr ⟨by rw [← hv]; exact h2 hk, hl⟩
theorem gst_ufc {p : Pr} {a : Int} {s : Stp} (V : BitVec 64 → Prop) (h : Ufc p a s) (h1 : p.haveIn = true → V p.checkIn) : Gst p V s := by
  refine ⟨h.cfg, fun h5 => ⟨h.core h5, h.meth.1, h.meth.2.1⟩, h.out, fun hi => ?_, fun h6 h7 => ?_⟩
  · rw [(h.hin hi).2]; exact h1 (h.hin hi).1
  · rcases h.key h6 h7 with h | ⟨hk, hv, hl⟩
    · exact .inl h
    · exact .inr ⟨by rw [← hv]; exact h1 hk, hl⟩
theorem ja_play (a b : Cfg) (l : List Chg) (common : Int) : (playT a b l common).ok = true → JA a b (playT a b l common) := by
  intro hk
  refine (play_inv a b l common (JA a b) ?_ ?_ ?_ ?_ hk).2
  · intro _ _
    have hp := postF l false (askedP a) [{ sec0 with kind := 1, feat := a.feat }] [] { tk0 with ok := true, s1 := begunP b }
    have hb : (startT a b l).side false = askedP a := hp.sb
    have ho : (startT a b l).side true = begunP b := hp.so
    refine ⟨fun c => ?_, fun z hz hk => ?_, fun c hc => ?_, fun c h6 _ => ?_⟩
    · cases c
      · rw [hb]; rfl
      · rw [ho]; rfl
    · exfalso
      rcases hp.line z hz with hz | ⟨d, hd, n, hz⟩
      · exact absurd hz (by simp [tk0])
      · subst hz
        rw [List.mem_singleton.mp hd] at hk
        simp only [chg_kind] at hk
        exact absurd hk (by decide)
    · cases c
      · rw [hb] at hc; exact absurd hc (by simp [askedP, begunP, pr0])
      · rw [ho] at hc; exact absurd hc (by simp [askedP, begunP, pr0])
    · cases c
      · rw [hb] at h6; exact absurd h6 (by simp [askedP, begunP, pr0])
      · rw [ho] at h6; exact absurd h6 (by simp [askedP, begunP, pr0])
  · intro x c d rest n hi hj hl
    refine ja_step (V := fun v => v = ownCheckR (x.side (!c)) ∧ 5 ≤ (x.side (!c)).phase) hj (gst_fct _ (fct_handle (x.side c) d n) (fun h => hj.kept c h) (fun h => ?_)) (fun v h => h) (fun k => by cases k <;> rfl) (fun e he => by rw [hl]; exact List.mem_cons_of_mem _ he)
    exact hj.line (c, d) (by rw [hl]; exact List.mem_cons_self ..) h
  · intro x c n hi hj _
    exact ja_step (V := fun v => v = ownCheckR (x.side (!c)) ∧ 5 ≤ (x.side (!c)).phase) hj (gst_ufc _ (ufc_user (x.side c) _ n) (fun h => hj.kept c h)) (fun v h => h) (fun k => rfl) (fun e he => he)
  · intro x c n hi hj
    exact ja_step (V := fun v => v = ownCheckR (x.side (!c)) ∧ 5 ≤ (x.side (!c)).phase) hj (gst_fct _ (fct_enc (x.side c) n) (fun h => hj.kept c h) (fun h => absurd h (by decide))) (fun v h => h) (fun k => rfl) (fun e he => he)
def extraT (p : Pr) : BitVec 64 := if isPass p.method then BitVec.ofInt 64 p.passkey else if p.method = 6 ∧ p.cfg.feat.oob = true then p.cfg.oob.random else 0#64
def takenT (p : Pr) : BitVec 64 := if p.method = 6 ∧ p.peer.oob = true then p.cfg.mine else if p.method = 6 then 0#64 else extraT p
def coinT (p q : Pr) : Bool :=
  if p.shared = q.shared ∧ p.nonce = q.other ∧ extraT p = takenT q ∧ p.cfg.feat = q.peer then false
  else decide (checkV p.shared p.nonce (extraT p) p.cfg.feat p.cfg.own p.cfg.peer = checkV q.shared q.other (takenT q) q.peer q.cfg.peer q.cfg.own)
theorem extraT_eq (p : Pr) : extraT p = extraR p p.cfg.feat.oob p.cfg.oob.random := by
  unfold extraT extraR
  split
  · rfl
  · by_cases h6 : p.method = 6 <;> cases p.cfg.feat.oob <;> simp [h6]
theorem takenT_eq (p : Pr) : takenT p = extraR p p.peer.oob p.cfg.mine := by
  unfold takenT extraT extraR
  by_cases h6 : p.method = 6
  · have : isPass p.method = false := by rw [h6]; decide
    rw [this]
    cases p.peer.oob <;> simp [h6]
  · simp [h6]
theorem agrees_plain (a b : Cfg) (l : List Chg) (common : Int) (h1 : a.own = b.peer) (h2 : b.own = a.peer) (hk0 : (playT a b l common).keyed false = true) (hk1 : (playT a b l common).keyed true = true)
    (hr0 : a.role = 0) (hr1 : b.role = 1) :
    (playT a b l common).s0.ltk = (playT a b l common).s1.ltk ∨ coinT (playT a b l common).s0 (playT a b l common).s1 = true ∨ coinT (playT a b l common).s1 (playT a b l common).s0 = true := by
  unfold Tk.keyed at hk0 hk1
  simp only [Bool.and_eq_true, decide_eq_true_eq] at hk0 hk1
  obtain ⟨⟨hok, k6⟩, k7⟩ := hk0
  obtain ⟨⟨_, m6⟩, m7⟩ := hk1
  have hj := ja_play a b l common hok
  generalize playT a b l common = x at *
  obtain ⟨u1, u2, u3⟩ := hj.keyed false k6 k7
  obtain ⟨v1, v2, v3⟩ := hj.keyed true m6 m7
  have c0 : x.s0.cfg = a := hj.cf false
  have c1 : x.s1.cfg = b := hj.cf true
  replace u1 : otherCheckR x.s0 = ownCheckR x.s1 := u1
  replace v1 : otherCheckR x.s1 = ownCheckR x.s0 := v1
  replace u3 : x.s0.ltk = ltkR x.s0 := u3
  replace v3 : x.s1.ltk = ltkR x.s1 := v3
  unfold ownCheckR otherCheckR at u1 v1
  rw [← extraT_eq, ← takenT_eq] at u1 v1
  by_cases e1 : x.s0.shared = x.s1.shared ∧ x.s0.nonce = x.s1.other ∧ extraT x.s0 = takenT x.s1 ∧ x.s0.cfg.feat = x.s1.peer
  · by_cases e2 : x.s1.shared = x.s0.shared ∧ x.s1.nonce = x.s0.other ∧ extraT x.s1 = takenT x.s0 ∧ x.s1.cfg.feat = x.s0.peer
    · left
      rw [u3, v3]
      unfold ltkR
      rw [if_pos (show initR x.s0 = true by unfold initR; rw [c0, hr0]; rfl), if_neg (show ¬ initR x.s1 = true by unfold initR; rw [c1, hr1]; decide), e1.1, e1.2.1, e2.2.1, c0, c1, h1, h2]
    · right; right
      unfold coinT
      rw [if_neg e2, decide_eq_true_eq]
      exact u1.symm
  · right; left
    unfold coinT
    rw [if_neg e1, decide_eq_true_eq]
    exact v1.symm
end Go.Proofs.YtihmbcnccdiecaaDoor
namespace Go.Proofs.YtihmbcnccdiecaaDoor
set_option maxRecDepth 100000
open Go.ChangeShapes Go.WideShapes Go.ChangeAt Go.RowKit
set_option linter.unusedVariables false
set_option linter.unusedSimpArgs false
theorem extra_all (p : Pr) (w : World) (HL : Laid w) :
  Calls Tryd.prog 33 #[.agg (prL p).toArray] w (fun e w' => e = .returned (.int .u64 (W64 (extraT p))) ∧ Below w.heap.size w w') := by
 have HM := MR.start HL
 obtain ⟨base, hbs⟩ : ∃ b, w.heap.size = b := ⟨_, rfl⟩
 rw [hbs] at HM
 go_enter Tryd.func33, Tryd.ntmps33
 go_wp2_with (with_reducible refine so ?_)
 refine HM.nw (ty := 37) (cs := (prL p).toArray) ?_; clear HM; intro g_1 w_2 HM
 by_cases hc_7 : (p.method : Int) = 3
 ·
  obtain ⟨ec_7, ec_7n, kc_7⟩ := fT hc_7; clear hc_7
  have ld_8 := HM.b0.c 21 (.int .i64 p.method)
  have ld_9 := HM.b0.c 46 (.int .i64 p.passkey)
  go_wp2_with (with_reducible refine so ?_)
  go_returns
  have q0 := kc_7.out
  have er : extraT p = ((BitVec.ofInt 64 p.passkey)) := by unfold extraT isPass; simp [q0]
  rw [er]; first | exact ⟨rfl, HM.below⟩ | (rw [hbs]; exact ⟨rfl, HM.below⟩)
 obtain ⟨ec_7, ec_7n, kc_7⟩ := fF hc_7; clear hc_7
 by_cases hc_10 : (p.method : Int) = 4
 ·
  obtain ⟨ec_10, ec_10n, kc_10⟩ := fT hc_10; clear hc_10
  have ld_11 := HM.b0.c 21 (.int .i64 p.method)
  have ld_12 := HM.b0.c 46 (.int .i64 p.passkey)
  go_wp2_with (with_reducible refine so ?_)
  go_returns
  have q0 := kc_7.out
  have q1 := kc_10.out
  have er : extraT p = ((BitVec.ofInt 64 p.passkey)) := by unfold extraT isPass; simp [q0, q1]
  rw [er]; first | exact ⟨rfl, HM.below⟩ | (rw [hbs]; exact ⟨rfl, HM.below⟩)
 obtain ⟨ec_10, ec_10n, kc_10⟩ := fF hc_10; clear hc_10
 by_cases hc_13 : (p.method : Int) = 5
 ·
  obtain ⟨ec_13, ec_13n, kc_13⟩ := fT hc_13; clear hc_13
  have ld_14 := HM.b0.c 21 (.int .i64 p.method)
  have ld_15 := HM.b0.c 46 (.int .i64 p.passkey)
  go_wp2_with (with_reducible refine so ?_)
  go_returns
  have q0 := kc_7.out
  have q1 := kc_10.out
  have q2 := kc_13.out
  have er : extraT p = ((BitVec.ofInt 64 p.passkey)) := by unfold extraT isPass; simp [q0, q1, q2]
  rw [er]; first | exact ⟨rfl, HM.below⟩ | (rw [hbs]; exact ⟨rfl, HM.below⟩)
 obtain ⟨ec_13, ec_13n, kc_13⟩ := fF hc_13; clear hc_13
 by_cases hc_16 : (p.method : Int) = 6
 ·
  obtain ⟨ec_16, ec_16n, kc_16⟩ := fT hc_16; clear hc_16
  rcases hc_17 : p.cfg.feat.oob with _ | _
  ·
   skip
   have ld_18 := HM.b0.c 21 (.int .i64 p.method)
   have ld_19 := HM.b0.c 2 (.bool p.cfg.feat.oob)
   go_wp2_with (with_reducible refine so ?_)
   go_returns
   have q0 := kc_7.out
   have q1 := kc_10.out
   have q2 := kc_13.out
   have q3 := kc_16.out
   have er : extraT p = 0#64 := by unfold extraT isPass; simp [q0, q1, q2, q3, hc_17]
   rw [er]; first | exact ⟨rfl, HM.below⟩ | (rw [hbs]; exact ⟨rfl, HM.below⟩)
  skip
  have ld_20 := HM.b0.c 21 (.int .i64 p.method)
  have ld_21 := HM.b0.c 2 (.bool p.cfg.feat.oob)
  have ld_22 := HM.b0.c 18 (.int .u64 (W64 p.cfg.oob.random))
  go_wp2_with (with_reducible refine so ?_)
  go_returns
  have q0 := kc_7.out
  have q1 := kc_10.out
  have q2 := kc_13.out
  have q3 := kc_16.out
  have er : extraT p = p.cfg.oob.random := by unfold extraT isPass; simp [q0, q1, q2, q3, hc_17]
  rw [er]; first | exact ⟨rfl, HM.below⟩ | (rw [hbs]; exact ⟨rfl, HM.below⟩)
 obtain ⟨ec_16, ec_16n, kc_16⟩ := fF hc_16; clear hc_16
 have ld_23 := HM.b0.c 21 (.int .i64 p.method)
 go_wp2_with (with_reducible refine so ?_)
 go_returns
 have q0 := kc_7.out
 have q1 := kc_10.out
 have q2 := kc_13.out
 have q3 := kc_16.out
 have er : extraT p = 0#64 := by unfold extraT isPass; simp [q0, q1, q2, q3]
 rw [er]; first | exact ⟨rfl, HM.below⟩ | (rw [hbs]; exact ⟨rfl, HM.below⟩)
theorem taken_all (p : Pr) (w : World) (HL : Laid w) :
  Calls Tryd.prog 34 #[.agg (prL p).toArray] w (fun e w' => e = .returned (.int .u64 (W64 (takenT p))) ∧ Below w.heap.size w w') := by
 have HM := MR.start HL
 obtain ⟨base, hbs⟩ : ∃ b, w.heap.size = b := ⟨_, rfl⟩
 rw [hbs] at HM
 go_enter Tryd.func34, Tryd.ntmps34
 go_wp2_with (with_reducible refine so ?_)
 refine HM.nw (ty := 37) (cs := (prL p).toArray) ?_; clear HM; intro g_1 w_2 HM
 by_cases hc_7 : (p.method : Int) = 6
 ·
  obtain ⟨ec_7, ec_7n, kc_7⟩ := fT hc_7; clear hc_7
  rcases hc_8 : p.peer.oob with _ | _
  ·
   skip
   have ld_9 := HM.b0.c 21 (.int .i64 p.method)
   have ld_10 := HM.b0.c 23 (.bool p.peer.oob)
   go_wp2_with (with_reducible refine so ?_)
   go_returns
   have q0 := kc_7.out
   have er : takenT p = 0#64 := by unfold takenT; simp [q0, hc_8]
   rw [er]; first | exact ⟨rfl, HM.below⟩ | (rw [hbs]; exact ⟨rfl, HM.below⟩)
  skip
  have ld_11 := HM.b0.c 21 (.int .i64 p.method)
  have ld_12 := HM.b0.c 23 (.bool p.peer.oob)
  have ld_13 := HM.b0.c 16 (.int .u64 (W64 p.cfg.mine))
  go_wp2_with (with_reducible refine so ?_)
  go_returns
  have q0 := kc_7.out
  have er : takenT p = p.cfg.mine := by unfold takenT; simp [q0, hc_8]
  rw [er]; first | exact ⟨rfl, HM.below⟩ | (rw [hbs]; exact ⟨rfl, HM.below⟩)
 obtain ⟨ec_7, ec_7n, kc_7⟩ := fF hc_7; clear hc_7
 have ld_14 := HM.b0.c 21 (.int .i64 p.method)
 go_wp2_with (first | (with_reducible refine so ?_) | (with_reducible refine ld 0 (prL p) HM.b0 Tryd.underlying37 ?_))
 refine (extra_all p _ HM.laid).mono ?_; rintro e w_16 ⟨rfl, hb_17⟩
 clear ld_14
 replace HM := HM.to hb_17
 clear hb_17
 go_wp2_with (with_reducible refine so ?_)
 go_returns
 have q0 := kc_7.out
 have er : takenT p = ((extraT p)) := by unfold takenT; simp [q0]
 rw [er]; first | exact ⟨rfl, HM.below⟩ | (rw [hbs]; exact ⟨rfl, HM.below⟩)
def coinA (p q : Pr) : Bool := decide (p.shared = q.shared) && (decide (p.nonce = q.other) && (decide (extraT p = takenT q) && decide (p.cfg.feat = q.peer)))
theorem coin_A (p q : Pr) : coinT p q = if coinA p q then false else decide (checkV p.shared p.nonce (extraT p) p.cfg.feat p.cfg.own p.cfg.peer = checkV q.shared q.other (takenT q) q.peer q.cfg.peer q.cfg.own) := by
  unfold coinT coinA
  by_cases h : p.shared = q.shared ∧ p.nonce = q.other ∧ extraT p = takenT q ∧ p.cfg.feat = q.peer
  · rw [if_pos h]; simp [h.1, h.2.1, h.2.2.1, h.2.2.2]
  · rw [if_neg h]
    rw [if_neg]
    intro hh
    simp only [Bool.and_eq_true, decide_eq_true_eq] at hh
    exact h hh
theorem MR.two {w0 W W' : World} {base : Nat} {bx : List Bk} {g1 g2 : Nat} {t1 t2 : TypeId} {c1 c2 : Array Value} (h : MR w0 W base [] bx) (hb : Below W.heap.size W W') (h1 : W.heap.size ≤ g1) (G1 : Blk W' g1 t1 c1) (h2 : W.heap.size ≤ g2) (G2 : Blk W' g2 t2 c2) (hne : g1 ≠ g2) :
    MR w0 W' base [] ((g1, t1, c1) :: (g2, t2, c2) :: bx) := by
  have k := h.alloc h2 hb G2
  refine ⟨k.pre, k.below, k.low, k.rows, k.ap, fun b hb2 => ?_, List.pairwise_cons.2 ⟨fun b hb2 => ?_, k.nd⟩⟩
  · rcases List.mem_cons.1 hb2 with rfl | hb2
    · exact ⟨G1, Nat.le_trans h.low h1, fun r hr => by cases hr⟩
    · exact k.box b hb2
  · rcases List.mem_cons.1 hb2 with rfl | hb2
    · exact hne
    · have := (h.box b hb2).1.lt
      show g1 ≠ b.1
      omega
set_option maxHeartbeats 4000000 in
theorem coin_all (p q : Pr) (w : World) (HL : Laid w) :
  Calls Tryd.prog 18 #[.agg (prL p).toArray, .agg (prL q).toArray] w (fun e w' => e = .returned (.bool (coinT p q)) ∧ Below w.heap.size w w') := by
 have HM := MR.start HL
 obtain ⟨base, hbs⟩ : ∃ b, w.heap.size = b := ⟨_, rfl⟩
 rw [hbs] at HM
 go_enter Tryd.func18, Tryd.ntmps18
 go_wp2_with (with_reducible refine so ?_)
 refine HM.nw (ty := 37) (cs := (prL p).toArray) ?_; clear HM; intro g_1 w_2 HM
 go_wp2_with (with_reducible refine so ?_)
 refine HM.nw (ty := 37) (cs := (prL q).toArray) ?_; clear HM; intro g_7 w_8 HM
 go_wp2_with (with_reducible refine so ?_)
 try simp only [nrm]
 go_cut [33] from 65 (fun v33 WX => v33 = .bool (coinA p q) ∧ MR w WX base ([]) ((g_7, 37, (prL q).toArray) :: (g_1, 37, (prL p).toArray) :: []))
 case first =>
  by_cases hc_13 : p.shared = q.shared
  ·
   have ec_13 : ((W32 p.shared : Int) == W32 q.shared) = true := by have this : (W32 p.shared == W32 q.shared) = true := (by rw [W32_beq]; simpa using hc_13); exact this
   have ec_13n : ((W32 p.shared : Int) != W32 q.shared) = false := by have this : (W32 p.shared != W32 q.shared) = false := (by rw [W32_bne]; simpa using hc_13); exact this
   have kc_13 := Lib.hid hc_13
   clear hc_13
   by_cases hc_14 : p.nonce = q.other
   ·
    obtain ⟨ec_14, ec_14n, kc_14⟩ := gT hc_14; clear hc_14
    by_cases hc_15 : extraT p = takenT q
    ·
     obtain ⟨ec_15, ec_15n, kc_15⟩ := gT hc_15; clear hc_15
     go_wp2_with (with_reducible refine so ?_)
     have hst : Stable fun W => MR w W base ([]) ((g_7, 37, (prL q).toArray) :: (g_1, 37, (prL p).toArray) :: []) := stable_mr _ _ _ _
     refine wp_region_v _ 27 hst (HM.drew) ?_
     clear HM
     refine wpU_p 0 hst ?_
     refine wpU_c 1 (.int .u32 (W32 p.shared)) hst (fun W hS => hS.b1.cell 41) ?_
     refine wpU_p 2 hst ?_
     refine wpU_c 3 (.int .u32 (W32 q.shared)) hst (fun W hS => hS.b0.cell 41) ?_
     refine wpU_p 4 hst ?_
     refine wpU_p 5 hst ?_
     refine wpU_p 6 hst ?_
     refine wpU_c 7 (.int .u64 (W64 p.nonce)) hst (fun W hS => hS.b1.cell 42) ?_
     refine wpU_p 8 hst ?_
     refine wpU_c 9 (.int .u64 (W64 q.other)) hst (fun W hS => hS.b0.cell 43) ?_
     refine wpU_p 10 hst ?_
     refine wpU_p 11 hst ?_
     refine wpU_p 12 hst ?_
     refine wpU_l 13 0 (prL p) (fun W hS => hS.b1) Tryd.underlying37 hst ?_
     refine wpU_l 15 0 (prL q) (fun W hS => hS.b0) Tryd.underlying37 hst ?_
     refine wpU_take (v := ?_) 14 hst (fun _ h => h) rfl ?_ ?_; rotate_left; (intro W hS K hK; go_simp; refine (extra_all p _ hS.laid).mono ?_; rintro e w9 ⟨rfl, hb⟩; refine CallPost.mk ?_; exact hK.out _ (hb)); simp only [nrm]
     refine wpU_take (v := ?_) 16 hst (fun _ h => h) rfl ?_ ?_; rotate_left; (intro W hS K hK; go_simp; refine (taken_all q _ hS.laid).mono ?_; rintro e w9 ⟨rfl, hb⟩; refine CallPost.mk ?_; exact hK.out _ (hb)); simp only [nrm]
     refine wpU_p 17 hst ?_
     refine wpU_p 18 hst ?_
     refine wpU_p 19 hst ?_
     refine wpU_p 20 hst ?_
     refine wpU_p 21 hst ?_
     refine wpU_l 22 1 (featL p.cfg.feat) (fun W hS => hS.b1) Tryd.underlying23 hst ?_
     refine wpU_p 23 hst ?_
     refine wpU_l 24 22 (featL q.peer) (fun W hS => hS.b0) Tryd.underlying23 hst ?_
     refine wpU_p 25 hst ?_
     refine wpU_p 26 hst ?_
     refine wpU_done (fun w_16 hS => ?_)
     have HM := hS
     clear hst
     go_wp2_with (with_reducible refine so ?_)
     go_meet
     have q0 := kc_13.out
     have q1 := kc_14.out
     have q2 := kc_15.out
     case rel => exact ⟨congrArg Value.bool (Eq.symm (by unfold coinA; simp [q0, q1, q2])), HM⟩
    obtain ⟨ec_15, ec_15n, kc_15⟩ := gF hc_15; clear hc_15
    go_wp2_with (with_reducible refine so ?_)
    have hst : Stable fun W => MR w W base ([]) ((g_7, 37, (prL q).toArray) :: (g_1, 37, (prL p).toArray) :: []) := stable_mr _ _ _ _
    refine wp_region_v _ 27 hst (HM.drew) ?_
    clear HM
    refine wpU_p 0 hst ?_
    refine wpU_c 1 (.int .u32 (W32 p.shared)) hst (fun W hS => hS.b1.cell 41) ?_
    refine wpU_p 2 hst ?_
    refine wpU_c 3 (.int .u32 (W32 q.shared)) hst (fun W hS => hS.b0.cell 41) ?_
    refine wpU_p 4 hst ?_
    refine wpU_p 5 hst ?_
    refine wpU_p 6 hst ?_
    refine wpU_c 7 (.int .u64 (W64 p.nonce)) hst (fun W hS => hS.b1.cell 42) ?_
    refine wpU_p 8 hst ?_
    refine wpU_c 9 (.int .u64 (W64 q.other)) hst (fun W hS => hS.b0.cell 43) ?_
    refine wpU_p 10 hst ?_
    refine wpU_p 11 hst ?_
    refine wpU_p 12 hst ?_
    refine wpU_l 13 0 (prL p) (fun W hS => hS.b1) Tryd.underlying37 hst ?_
    refine wpU_l 15 0 (prL q) (fun W hS => hS.b0) Tryd.underlying37 hst ?_
    refine wpU_take (v := ?_) 14 hst (fun _ h => h) rfl ?_ ?_; rotate_left; (intro W hS K hK; go_simp; refine (extra_all p _ hS.laid).mono ?_; rintro e w9 ⟨rfl, hb⟩; refine CallPost.mk ?_; exact hK.out _ (hb)); simp only [nrm]
    refine wpU_take (v := ?_) 16 hst (fun _ h => h) rfl ?_ ?_; rotate_left; (intro W hS K hK; go_simp; refine (taken_all q _ hS.laid).mono ?_; rintro e w9 ⟨rfl, hb⟩; refine CallPost.mk ?_; exact hK.out _ (hb)); simp only [nrm]
    refine wpU_p 17 hst ?_
    refine wpU_p 18 hst ?_
    refine wpU_p 19 hst ?_
    refine wpU_s 20 hst ?_
    refine wpU_s 21 hst ?_
    refine wpU_s 22 hst ?_
    refine wpU_s 23 hst ?_
    refine wpU_s 24 hst ?_
    refine wpU_s 25 hst ?_
    refine wpU_p 26 hst ?_
    refine wpU_done (fun w_17 hS => ?_)
    have HM := hS
    clear hst
    go_wp2_with (with_reducible refine so ?_)
    go_meet
    have q0 := kc_13.out
    have q1 := kc_14.out
    have q2 := kc_15.out
    case rel => exact ⟨congrArg Value.bool (Eq.symm (by unfold coinA; simp [q0, q1, q2])), HM⟩
   obtain ⟨ec_14, ec_14n, kc_14⟩ := gF hc_14; clear hc_14
   go_wp2_with (with_reducible refine so ?_)
   have hst : Stable fun W => MR w W base ([]) ((g_7, 37, (prL q).toArray) :: (g_1, 37, (prL p).toArray) :: []) := stable_mr _ _ _ _
   refine wp_region_v _ 27 hst (HM.drew) ?_
   clear HM
   refine wpU_p 0 hst ?_
   refine wpU_c 1 (.int .u32 (W32 p.shared)) hst (fun W hS => hS.b1.cell 41) ?_
   refine wpU_p 2 hst ?_
   refine wpU_c 3 (.int .u32 (W32 q.shared)) hst (fun W hS => hS.b0.cell 41) ?_
   refine wpU_p 4 hst ?_
   refine wpU_p 5 hst ?_
   refine wpU_p 6 hst ?_
   refine wpU_c 7 (.int .u64 (W64 p.nonce)) hst (fun W hS => hS.b1.cell 42) ?_
   refine wpU_p 8 hst ?_
   refine wpU_c 9 (.int .u64 (W64 q.other)) hst (fun W hS => hS.b0.cell 43) ?_
   refine wpU_p 10 hst ?_
   refine wpU_p 11 hst ?_
   refine wpU_p 12 hst ?_
   refine wpU_s 13 hst ?_
   refine wpU_s 15 hst ?_
   refine wpU_s 14 hst ?_
   refine wpU_s 16 hst ?_
   refine wpU_s 17 hst ?_
   refine wpU_p 18 hst ?_
   refine wpU_p 19 hst ?_
   refine wpU_s 20 hst ?_
   refine wpU_s 21 hst ?_
   refine wpU_s 22 hst ?_
   refine wpU_s 23 hst ?_
   refine wpU_s 24 hst ?_
   refine wpU_s 25 hst ?_
   refine wpU_p 26 hst ?_
   refine wpU_done (fun w_18 hS => ?_)
   have HM := hS
   clear hst
   go_wp2_with (with_reducible refine so ?_)
   go_meet
   have q0 := kc_13.out
   have q1 := kc_14.out
   case rel => exact ⟨congrArg Value.bool (Eq.symm (by unfold coinA; simp [q0, q1])), HM⟩
  have ec_13 : ((W32 p.shared : Int) == W32 q.shared) = false := by have this : (W32 p.shared == W32 q.shared) = false := (by rw [W32_beq]; simpa using hc_13); exact this
  have ec_13n : ((W32 p.shared : Int) != W32 q.shared) = true := by have this : (W32 p.shared != W32 q.shared) = true := (by rw [W32_bne]; simpa using hc_13); exact this
  have kc_13 := Lib.hid hc_13
  clear hc_13
  go_wp2_with (with_reducible refine so ?_)
  have hst : Stable fun W => MR w W base ([]) ((g_7, 37, (prL q).toArray) :: (g_1, 37, (prL p).toArray) :: []) := stable_mr _ _ _ _
  refine wp_region_v _ 27 hst (HM.drew) ?_
  clear HM
  refine wpU_p 0 hst ?_
  refine wpU_c 1 (.int .u32 (W32 p.shared)) hst (fun W hS => hS.b1.cell 41) ?_
  refine wpU_p 2 hst ?_
  refine wpU_c 3 (.int .u32 (W32 q.shared)) hst (fun W hS => hS.b0.cell 41) ?_
  refine wpU_p 4 hst ?_
  refine wpU_p 5 hst ?_
  refine wpU_s 6 hst ?_
  refine wpU_s 7 hst ?_
  refine wpU_s 8 hst ?_
  refine wpU_s 9 hst ?_
  refine wpU_s 10 hst ?_
  refine wpU_p 11 hst ?_
  refine wpU_p 12 hst ?_
  refine wpU_s 13 hst ?_
  refine wpU_s 15 hst ?_
  refine wpU_s 14 hst ?_
  refine wpU_s 16 hst ?_
  refine wpU_s 17 hst ?_
  refine wpU_p 18 hst ?_
  refine wpU_p 19 hst ?_
  refine wpU_s 20 hst ?_
  refine wpU_s 21 hst ?_
  refine wpU_s 22 hst ?_
  refine wpU_s 23 hst ?_
  refine wpU_s 24 hst ?_
  refine wpU_s 25 hst ?_
  refine wpU_p 26 hst ?_
  refine wpU_done (fun w_19 hS => ?_)
  have HM := hS
  clear hst
  go_wp2_with (with_reducible refine so ?_)
  go_meet
  have q0 := kc_13.out
  case rel => exact ⟨congrArg Value.bool (Eq.symm (by unfold coinA; simp [q0])), HM⟩
 case rest =>
  obtain ⟨rfl, HMM⟩ := hcut; clear HM; have HM := HMM; clear HMM
  rcases hc_20 : coinA p q with _ | _
  ·
   skip
   go_wp2_with (with_reducible refine so ?_)
   try simp only [nrm]
   go_cut [5, 6] from 65 (fun v5 v6 WX => ∃ (ga gb : Nat), v5 = .pointer (some ⟨ga, 0, none⟩) ∧ v6 = .pointer (some ⟨gb, 0, none⟩) ∧ MR w WX base [] ((ga, 34, (cfgL p.cfg).toArray) :: (gb, 34, (cfgL q.cfg).toArray) :: (g_7, 37, (prL q).toArray) :: (g_1, 37, (prL p).toArray) :: []))
   case first =>
    go_wp2_with (with_reducible refine so ?_)
    try simp only [nrm]
    have hst : Stable fun W => Below wc.heap.size wc W := stable_below _ _ (Nat.le_refl _)
    refine wp_region_v (fun W => Below wc.heap.size wc W) 8 hst (Below.refl _ _).drew ?_
    refine wpU_p 0 hst ?_
    refine wpU_l 1 0 (cfgL p.cfg) (fun W hS => (HM.to hS).b1) Tryd.underlying34 hst ?_
    refine wpU_p 2 hst ?_
    refine wpU_l 3 0 (cfgL q.cfg) (fun W hS => (HM.to hS).b0) Tryd.underlying34 hst ?_
    refine wpV_two 4 5 hst rfl rfl ?_ ?_
    ·
     intro W hS K hK
     rw [if_pos (show Region.wanted _ _ = true from rfl)]
     refine op_new (ty := 34) (cs := (cfgL cfg0).toArray) (fun g => .pointer (some ⟨g, 0, none⟩)) (by kernel_rfl) (fun ga W2 z lg hb G => ?_)
     refine hK.out (fun W => wc.heap.size ≤ ga ∧ ∃ cs, cs.size = 19 ∧ Blk W ga 34 cs) _ _ (stable_some _ _ _ _) hb ⟨Nat.le_trans hS.size lg, _, rfl, G⟩ (fun hst => ?_)
     clear hK K hb lg z G
     try simp only [nrm]
     clear hS
     refine wpV_new 5 hst rfl ?_; intro W hS K hK
     have hl9 : ga + 1 ≤ W.heap.size := by obtain ⟨_, _, _, hh⟩ := hS.2; exact hh.lt
     rw [if_pos (show Region.wanted _ _ = true from rfl)]
     refine op_new (ty := 34) (cs := (cfgL cfg0).toArray) (fun g => .pointer (some ⟨g, 0, none⟩)) (by kernel_rfl) (fun gb W2 z lg hb G => ?_)
     refine hK.out (fun W => ga + 1 ≤ gb ∧ ∃ cs, cs.size = 19 ∧ Blk W gb 34 cs) _ _ (stable_some _ _ _ _) hb ⟨Nat.le_trans hl9 lg, _, rfl, G⟩ (fun hst => ?_)
     clear hK K hb lg z G
     try simp only [nrm]
     clear hS hl9
     refine wpU_one 6 rfl (fun W hS K hK => ?_)
     rw [if_pos (show Region.wanted _ _ = true from rfl)]
     obtain ⟨⟨hS1, ha, cs1, hc1, hG1⟩, hl, cs2, hc2, hG2'⟩ := hS
     have hb : wc.heap.size ≤ gb := by omega
     have hne : ga ≠ gb := by omega
     obtain ⟨W2, hrun, hG2, hU⟩ := store_all (P := Tryd.prog) (ty := 34) (vs := cfgL p.cfg) hG1 hc1 (by kernel_rfl) rfl
     refine op_store rfl rfl rfl hrun ?_
     refine hK.out _ (fun W => Below wc.heap.size wc W ∧ wc.heap.size ≤ ga ∧ wc.heap.size ≤ gb ∧ ga ≠ gb ∧ Blk W ga 34 (cfgL p.cfg).toArray ∧ ∃ cs, cs.size = 19 ∧ Blk W gb 34 cs) _ _ (fun W h => ⟨⟨h.1, h.2.1, _, rfl, h.2.2.2.2.1⟩, hl, h.2.2.2.2.2⟩) (stable_and (stable_below _ _ (Nat.le_refl _)) (stable_and (stable_const _) (stable_and (stable_const _) (stable_and (stable_const _) (stable_and (stable_blk _ _ _) (stable_ex _ _ _)))))) (fun _ h => h) ⟨hU.below hS1 ha, ha, hb, hne, hG2, _, hc2, hU.blk hG2' (Ne.symm hne)⟩ ?_
     clear hK K hrun hG2 hU hG1 hG2' hc1 hc2 cs1 cs2 hS1 ha hb hne hst; have hst : Stable fun W => Below wc.heap.size wc W ∧ wc.heap.size ≤ ga ∧ wc.heap.size ≤ gb ∧ ga ≠ gb ∧ Blk W ga 34 (cfgL p.cfg).toArray ∧ ∃ cs, cs.size = 19 ∧ Blk W gb 34 cs := stable_and (stable_below _ _ (Nat.le_refl _)) (stable_and (stable_const _) (stable_and (stable_const _) (stable_and (stable_const _) (stable_and (stable_blk _ _ _) (stable_ex _ _ _))))); try simp only [nrm]
     refine wpU_one 7 rfl (fun W hS K hK => ?_)
     rw [if_pos (show Region.wanted _ _ = true from rfl)]
     obtain ⟨hS1, ha, hb, hne, hGa, cs2, hc2, hG2⟩ := hS
     obtain ⟨W2, hrun, hG3, hU⟩ := store_all (P := Tryd.prog) (ty := 34) (vs := cfgL q.cfg) hG2 hc2 (by kernel_rfl) rfl
     refine op_store rfl rfl rfl hrun ?_
     refine hK.out _ (fun W => Below wc.heap.size wc W ∧ wc.heap.size ≤ ga ∧ wc.heap.size ≤ gb ∧ ga ≠ gb ∧ Blk W ga 34 (cfgL p.cfg).toArray ∧ Blk W gb 34 (cfgL q.cfg).toArray) _ _ (fun W h => ⟨h.1, h.2.1, h.2.2.1, h.2.2.2.1, h.2.2.2.2.1, _, rfl, h.2.2.2.2.2⟩) (stable_and (stable_below _ _ (Nat.le_refl _)) (stable_and (stable_const _) (stable_and (stable_const _) (stable_and (stable_const _) (stable_and (stable_blk _ _ _) (stable_blk _ _ _)))))) (fun _ h => h) ⟨hU.below hS1 hb, ha, hb, hne, hU.blk hGa hne, hG3⟩ ?_
     clear hK K hrun hG3 hU hG2 hc2 cs2 hS1 ha hb hne hGa hst; have hst : Stable fun W => Below wc.heap.size wc W ∧ wc.heap.size ≤ ga ∧ wc.heap.size ≤ gb ∧ ga ≠ gb ∧ Blk W ga 34 (cfgL p.cfg).toArray ∧ Blk W gb 34 (cfgL q.cfg).toArray := stable_and (stable_below _ _ (Nat.le_refl _)) (stable_and (stable_const _) (stable_and (stable_const _) (stable_and (stable_const _) (stable_and (stable_blk _ _ _) (stable_blk _ _ _))))); try simp only [nrm]
     refine wpU_done (fun W5 hS => ?_)
     obtain ⟨hS1, ha, hb, hne, hGa, hGb⟩ := hS
     replace HM := HM.two hS1 ha hGa hb hGb hne; clear hst
     go_wp2_with fail
     go_meet
     case rel => exact ⟨ga, gb, rfl, rfl, HM⟩
    intro W hS K hK
    rw [if_pos (show Region.wanted _ _ = true from rfl)]
    refine op_new (ty := 34) (cs := (cfgL cfg0).toArray) (fun g => .pointer (some ⟨g, 0, none⟩)) (by kernel_rfl) (fun gb W2 z lg hb G => ?_)
    refine hK.out (fun W => wc.heap.size ≤ gb ∧ ∃ cs, cs.size = 19 ∧ Blk W gb 34 cs) _ _ (stable_some _ _ _ _) hb ⟨Nat.le_trans hS.size lg, _, rfl, G⟩ (fun hst => ?_)
    clear hK K hb lg z G
    try simp only [nrm]
    clear hS
    refine wpV_new 4 hst rfl ?_; intro W hS K hK
    have hl9 : gb + 1 ≤ W.heap.size := by obtain ⟨_, _, _, hh⟩ := hS.2; exact hh.lt
    rw [if_pos (show Region.wanted _ _ = true from rfl)]
    refine op_new (ty := 34) (cs := (cfgL cfg0).toArray) (fun g => .pointer (some ⟨g, 0, none⟩)) (by kernel_rfl) (fun ga W2 z lg hb G => ?_)
    refine hK.out (fun W => gb + 1 ≤ ga ∧ ∃ cs, cs.size = 19 ∧ Blk W ga 34 cs) _ _ (stable_some _ _ _ _) hb ⟨Nat.le_trans hl9 lg, _, rfl, G⟩ (fun hst => ?_)
    clear hK K hb lg z G
    try simp only [nrm]
    clear hS hl9
    refine wpU_one 6 rfl (fun W hS K hK => ?_)
    rw [if_pos (show Region.wanted _ _ = true from rfl)]
    obtain ⟨⟨hS1, hb, cs2, hc2, hG2'⟩, hl, cs1, hc1, hG1⟩ := hS
    have ha : wc.heap.size ≤ ga := by omega
    have hne : ga ≠ gb := by omega
    obtain ⟨W2, hrun, hG2, hU⟩ := store_all (P := Tryd.prog) (ty := 34) (vs := cfgL p.cfg) hG1 hc1 (by kernel_rfl) rfl
    refine op_store rfl rfl rfl hrun ?_
    refine hK.out _ (fun W => Below wc.heap.size wc W ∧ wc.heap.size ≤ ga ∧ wc.heap.size ≤ gb ∧ ga ≠ gb ∧ Blk W ga 34 (cfgL p.cfg).toArray ∧ ∃ cs, cs.size = 19 ∧ Blk W gb 34 cs) _ _ (fun W h => ⟨⟨h.1, h.2.2.1, h.2.2.2.2.2⟩, hl, _, rfl, h.2.2.2.2.1⟩) (stable_and (stable_below _ _ (Nat.le_refl _)) (stable_and (stable_const _) (stable_and (stable_const _) (stable_and (stable_const _) (stable_and (stable_blk _ _ _) (stable_ex _ _ _)))))) (fun _ h => h) ⟨hU.below hS1 ha, ha, hb, hne, hG2, _, hc2, hU.blk hG2' (Ne.symm hne)⟩ ?_
    clear hK K hrun hG2 hU hG1 hG2' hc1 hc2 cs1 cs2 hS1 ha hb hne hst; have hst : Stable fun W => Below wc.heap.size wc W ∧ wc.heap.size ≤ ga ∧ wc.heap.size ≤ gb ∧ ga ≠ gb ∧ Blk W ga 34 (cfgL p.cfg).toArray ∧ ∃ cs, cs.size = 19 ∧ Blk W gb 34 cs := stable_and (stable_below _ _ (Nat.le_refl _)) (stable_and (stable_const _) (stable_and (stable_const _) (stable_and (stable_const _) (stable_and (stable_blk _ _ _) (stable_ex _ _ _))))); try simp only [nrm]
    refine wpU_one 7 rfl (fun W hS K hK => ?_)
    rw [if_pos (show Region.wanted _ _ = true from rfl)]
    obtain ⟨hS1, ha, hb, hne, hGa, cs2, hc2, hG2⟩ := hS
    obtain ⟨W2, hrun, hG3, hU⟩ := store_all (P := Tryd.prog) (ty := 34) (vs := cfgL q.cfg) hG2 hc2 (by kernel_rfl) rfl
    refine op_store rfl rfl rfl hrun ?_
    refine hK.out _ (fun W => Below wc.heap.size wc W ∧ wc.heap.size ≤ ga ∧ wc.heap.size ≤ gb ∧ ga ≠ gb ∧ Blk W ga 34 (cfgL p.cfg).toArray ∧ Blk W gb 34 (cfgL q.cfg).toArray) _ _ (fun W h => ⟨h.1, h.2.1, h.2.2.1, h.2.2.2.1, h.2.2.2.2.1, _, rfl, h.2.2.2.2.2⟩) (stable_and (stable_below _ _ (Nat.le_refl _)) (stable_and (stable_const _) (stable_and (stable_const _) (stable_and (stable_const _) (stable_and (stable_blk _ _ _) (stable_blk _ _ _)))))) (fun _ h => h) ⟨hU.below hS1 hb, ha, hb, hne, hU.blk hGa hne, hG3⟩ ?_
    clear hK K hrun hG3 hU hG2 hc2 cs2 hS1 ha hb hne hGa hst; have hst : Stable fun W => Below wc.heap.size wc W ∧ wc.heap.size ≤ ga ∧ wc.heap.size ≤ gb ∧ ga ≠ gb ∧ Blk W ga 34 (cfgL p.cfg).toArray ∧ Blk W gb 34 (cfgL q.cfg).toArray := stable_and (stable_below _ _ (Nat.le_refl _)) (stable_and (stable_const _) (stable_and (stable_const _) (stable_and (stable_const _) (stable_and (stable_blk _ _ _) (stable_blk _ _ _))))); try simp only [nrm]
    refine wpU_done (fun W5 hS => ?_)
    obtain ⟨hS1, ha, hb, hne, hGa, hGb⟩ := hS
    replace HM := HM.two hS1 ha hGa hb hGb hne; clear hst
    go_wp2_with fail
    go_meet
    case rel => exact ⟨ga, gb, rfl, rfl, HM⟩
   case rest =>
    obtain ⟨ga, gb, rfl, rfl, HMM⟩ := hcut; clear HM; have HM := HMM; clear HMM
    go_wp2_with (with_reducible refine so ?_)
    have hst : Stable fun W => MR w W base ([]) ((ga, 34, (cfgL p.cfg).toArray) :: (gb, 34, (cfgL q.cfg).toArray) :: (g_7, 37, (prL q).toArray) :: (g_1, 37, (prL p).toArray) :: []) := stable_mr _ _ _ _
    refine wp_region_v _ 28 hst (HM.drew) ?_
    clear HM
    refine wpU_p 0 hst ?_
    refine wpU_c 1 (.int .u32 (W32 p.shared)) hst (fun W hS => hS.b3.cell 41) ?_
    refine wpU_p 2 hst ?_
    refine wpU_c 3 (.int .u64 (W64 p.nonce)) hst (fun W hS => hS.b3.cell 42) ?_
    refine wpU_l 4 0 (prL p) (fun W hS => hS.b3) Tryd.underlying37 hst ?_
    refine wpU_p 6 hst ?_
    refine wpU_l 7 1 (featL p.cfg.feat) (fun W hS => hS.b0) Tryd.underlying23 hst ?_
    refine wpU_p 8 hst ?_
    refine wpU_l 9 7 (adrL p.cfg.own) (fun W hS => hS.b0) Tryd.underlying26 hst ?_
    refine wpU_p 10 hst ?_
    refine wpU_l 11 9 (adrL p.cfg.peer) (fun W hS => hS.b0) Tryd.underlying26 hst ?_
    refine wpU_p 13 hst ?_
    refine wpU_c 14 (.int .u32 (W32 q.shared)) hst (fun W hS => hS.b2.cell 41) ?_
    refine wpU_p 15 hst ?_
    refine wpU_c 16 (.int .u64 (W64 q.other)) hst (fun W hS => hS.b2.cell 43) ?_
    refine wpU_l 17 0 (prL q) (fun W hS => hS.b2) Tryd.underlying37 hst ?_
    refine wpU_p 19 hst ?_
    refine wpU_l 20 22 (featL q.peer) (fun W hS => hS.b2) Tryd.underlying23 hst ?_
    refine wpU_p 21 hst ?_
    refine wpU_l 22 9 (adrL q.cfg.peer) (fun W hS => hS.b1) Tryd.underlying26 hst ?_
    refine wpU_p 23 hst ?_
    refine wpU_l 24 7 (adrL q.cfg.own) (fun W hS => hS.b1) Tryd.underlying26 hst ?_
    refine wpU_take (v := ?_) 5 hst (fun _ h => h) rfl ?_ ?_; rotate_left; (intro W hS K hK; go_simp; refine (extra_all p _ hS.laid).mono ?_; rintro e w9 ⟨rfl, hb⟩; refine CallPost.mk ?_; exact hK.out _ (hb)); simp only [nrm]
    refine wpU_take (v := ?_) 12 hst (fun _ h => h) rfl ?_ ?_; rotate_left; (intro W hS K hK; clear hS; go_simp; refine (conf_CheckV p.shared p.nonce ((extraT p)) p.cfg.feat p.cfg.own p.cfg.peer _).mono ?_; rintro e w9 ⟨rfl, hb⟩; refine CallPost.mk ?_; exact hK.out _ (hb)); simp only [nrm]
    refine wpU_take (v := ?_) 18 hst (fun _ h => h) rfl ?_ ?_; rotate_left; (intro W hS K hK; go_simp; refine (taken_all q _ hS.laid).mono ?_; rintro e w9 ⟨rfl, hb⟩; refine CallPost.mk ?_; exact hK.out _ (hb)); simp only [nrm]
    refine wpU_take (v := ?_) 25 hst (fun _ h => h) rfl ?_ ?_; rotate_left; (intro W hS K hK; clear hS; go_simp; refine (conf_CheckV q.shared q.other ((takenT q)) q.peer q.cfg.peer q.cfg.own _).mono ?_; rintro e w9 ⟨rfl, hb⟩; refine CallPost.mk ?_; exact hK.out _ (hb)); simp only [nrm]
    refine wpU_p 26 hst ?_
    refine wpU_p 27 hst ?_
    refine wpU_done (fun w_21 hS => ?_)
    have HM := hS
    clear hst
    go_wp2_with (with_reducible refine so ?_)
    go_returns
    have er : coinT p q = (W64 (checkV p.shared p.nonce ((extraT p)) p.cfg.feat p.cfg.own p.cfg.peer) == W64 (checkV q.shared q.other ((takenT q)) q.peer q.cfg.peer q.cfg.own)) := by rw [coin_A]; simp [hc_20, W64_beq] <;> rfl
    rw [er]; first | exact ⟨rfl, HM.below⟩ | (rw [hbs]; exact ⟨rfl, HM.below⟩)
  skip
  go_wp2_with (with_reducible refine so ?_)
  go_returns
  have er : coinT p q = false := by rw [coin_A]; simp [hc_20, W64_beq] <;> rfl
  rw [er]; first | exact ⟨rfl, HM.below⟩ | (rw [hbs]; exact ⟨rfl, HM.below⟩)
end Go.Proofs.YtihmbcnccdiecaaDoor
namespace Go.Proofs.YtihmbcnccdiecaaDoor
set_option maxRecDepth 100000
open Go.ChangeShapes Go.WideShapes Go.ChangeAt Go.RowKit
set_option linter.unusedVariables false
set_option linter.unusedSimpArgs false
theorem fits_own {a b : Cfg} {common : Int} (h : fitsK a b common = true) : a.own = b.peer ∧ b.own = a.peer := by
  unfold fitsK at h
  simp only [Bool.and_eq_true, decide_eq_true_eq] at h
  exact ⟨h.1.1.1.1.1.1, h.1.1.1.1.1.2⟩
theorem keyed_ok {x : Tk} {c : Bool} (h : x.keyed c = true) : x.ok = true := by
  unfold Tk.keyed at h
  simp only [Bool.and_eq_true] at h
  exact h.1.1
theorem agrees_bool {a b : Cfg} {l : List Chg} {common : Int} {x : Tk} (hx : playT a b l common = x) (hf : fitsK a b common = true) (k0 : x.keyed false = true) (k1 : x.keyed true = true) : x.s0.ltk = x.s1.ltk ∨ coinT x.s0 x.s1 = true ∨ coinT x.s1 x.s0 = true := by
  subst hx
  obtain ⟨_, _, r0, r1⟩ := ok_cases (keyed_ok k0)
  exact agrees_plain a b l common (fits_own hf).1 (fits_own hf).2 k0 k1 r0 r1
set_option maxHeartbeats 4000000 in
theorem law_PairingAgrees (a b : Cfg) (l : List Chg) (lA : Option Addr) (lC : Nat) (common : Int) (w : World) (HL : Laid w) (hC : Rd w lA (l.flatMap chgL)) :
  Calls Tryd.prog 6 #[.agg (cfgL a).toArray, .agg (cfgL b).toArray, .slice lA l.length lC, .int .i64 common] w (fun e w' => e = .returned (.bool true) ∧ Below w.heap.size w w') := by
 have HM := MR.start HL
 obtain ⟨base, hbs⟩ : ∃ b, w.heap.size = b := ⟨_, rfl⟩
 rw [hbs] at HM
 have hbs1 := Lib.hid hbs
 have HC := Lib.hid (fun (W : World) (hb : Below base w W) => Rd.to hC (by rw [hbs]; exact hb))
 clear hbs hC
 go_enter Tryd.func6, Tryd.ntmps6
 go_wp2_with (with_reducible refine so ?_)
 refine HM.nw (ty := 34) (cs := (cfgL a).toArray) ?_; clear HM; intro g_1 w_2 HM
 go_wp2_with (with_reducible refine so ?_)
 refine HM.nw (ty := 34) (cs := (cfgL b).toArray) ?_; clear HM; intro g_7 w_8 HM
 go_wp2_with (first | (with_reducible refine so ?_) | (with_reducible refine ld 0 (cfgL a) HM.b1 Tryd.underlying34 ?_) | (with_reducible refine ld 0 (cfgL b) HM.b0 Tryd.underlying34 ?_))
 refine (fits_all a b common _ HM.laid).mono ?_; rintro e w_15 ⟨rfl, hb_16⟩
 replace HM := HM.to hb_16
 clear hb_16
 rcases hc_17 : (fitsK a b common) with _ | _
 ·
  skip
  go_wp2_with (with_reducible refine so ?_)
  refine (lives38 _ HM.laid).mono ?_; rintro e w_18 ⟨rfl, hb_19⟩
  replace HM := HM.to hb_19
  clear hb_19
  go_wp2_with (with_reducible refine so ?_)
  go_returns
  exact ⟨rfl, by first | exact HM.below | (rw [hbs1.out]; exact HM.below)⟩
 skip
 by_cases hc_20 : (100 : Int) < ((l.length : Nat) : Int)
 ·
  obtain ⟨ec_20m, ec_20, ec_20n, kc_20⟩ := lT hc_20; clear hc_20
  go_wp2_with (with_reducible refine so ?_)
  refine (lives38 _ HM.laid).mono ?_; rintro e w_21 ⟨rfl, hb_22⟩
  replace HM := HM.to hb_22
  clear hb_22
  go_wp2_with (with_reducible refine so ?_)
  go_returns
  exact ⟨rfl, by first | exact HM.below | (rw [hbs1.out]; exact HM.below)⟩
 obtain ⟨ec_20m, ec_20, ec_20n, kc_20⟩ := lF hc_20; clear hc_20
 go_wp2_with (first | (with_reducible refine so ?_) | (with_reducible refine ld 0 (cfgL a) HM.b1 Tryd.underlying34 ?_) | (with_reducible refine ld 0 (cfgL b) HM.b0 Tryd.underlying34 ?_))
 refine (tk_play a b l lA lC common _ HM.laid (HC.out _ HM.below) (by omega)).mono ?_; rintro e w_25 ⟨P0, d0, P1, d1, va, vl, rfl, ho1, ho2, hb_26⟩
 replace HM := HM.joinM hb_26; clear hb_26
 dsimp only [List.nil_append] at HM
 replace HM := HM.rdrop.rdrop
 generalize hX : playT a b l common = XL at HM ⊢
 have HX := Lib.hid hX; clear hX
 have O1 := Lib.hid ho1; have O2 := Lib.hid ho2; clear ho1 ho2
 go_wp2_with (with_reducible refine so ?_)
 refine HM.nw (ty := 58) (cs := (tkL tk0 (.slice none 0 0) (.slice none 0 0) (.slice none 0 0) (.slice none 0 0)).toArray) ?_; clear HM; intro g_27 w_28 HM
 go_wp2_with (with_reducible refine so ?_)
 unfold Kept
 refine wpList_st 0 (tkL XL (.slice P0 XL.g0.length d0) (.slice P1 XL.g1.length d1) va vl).toArray (tkL XL (.slice P0 XL.g0.length d0) (.slice P1 XL.g1.length d1) va vl).toArray HM.b0 rfl rfl (by kernel_rfl) (tkL_one XL rfl rfl O1.out O2.out) (of_decide_eq_true rfl) (by kernel_rfl) ?_
 intro w_33 G_35 hU_34
 replace HM := HM.s0 hU_34 G_35
 clear hU_34 G_35
 go_wp2_with (first | (with_reducible refine so ?_) | (with_reducible refine ld 0 (tkL XL (.slice P0 XL.g0.length d0) (.slice P1 XL.g1.length d1) va vl) HM.b0 Tryd.underlying58 ?_) | ((with_reducible refine wpList_ldg 0 (tkL XL (.slice P0 XL.g0.length d0) (.slice P1 XL.g1.length d1) va vl) HM.b0 ?_ ?_ Tryd.underlying58 ?_ ?_ ?_ ?_); rfl; rfl; rfl; kernel_rfl; rfl))
 refine (tk_keyed_f XL _ _ _ _ _ HM.laid).mono ?_; rintro e w_37 ⟨rfl, hb_38⟩
 replace HM := HM.to hb_38
 clear hb_38
 rcases hc_39 : (XL.keyed false) with _ | _
 ·
  skip
  go_wp2_with (with_reducible refine so ?_)
  refine (lives38 _ HM.laid).mono ?_; rintro e w_40 ⟨rfl, hb_41⟩
  replace HM := HM.to hb_41
  clear hb_41
  go_wp2_with (with_reducible refine so ?_)
  go_returns
  exact ⟨rfl, by first | exact HM.below | (rw [hbs1.out]; exact HM.below)⟩
 skip
 go_wp2_with (first | (with_reducible refine so ?_) | (with_reducible refine ld 0 (tkL XL (.slice P0 XL.g0.length d0) (.slice P1 XL.g1.length d1) va vl) HM.b0 Tryd.underlying58 ?_) | ((with_reducible refine wpList_ldg 0 (tkL XL (.slice P0 XL.g0.length d0) (.slice P1 XL.g1.length d1) va vl) HM.b0 ?_ ?_ Tryd.underlying58 ?_ ?_ ?_ ?_); rfl; rfl; rfl; kernel_rfl; rfl))
 refine (tk_keyed_t XL _ _ _ _ _ HM.laid).mono ?_; rintro e w_43 ⟨rfl, hb_44⟩
 replace HM := HM.to hb_44
 clear hb_44
 rcases hc_45 : (XL.keyed true) with _ | _
 ·
  skip
  go_wp2_with (with_reducible refine so ?_)
  refine (lives38 _ HM.laid).mono ?_; rintro e w_46 ⟨rfl, hb_47⟩
  replace HM := HM.to hb_47
  clear hb_47
  go_wp2_with (with_reducible refine so ?_)
  go_returns
  exact ⟨rfl, by first | exact HM.below | (rw [hbs1.out]; exact HM.below)⟩
 skip
 go_wp2_with (with_reducible refine so ?_)
 try simp only [nrm]
 go_cut [10, 11] from 61 (fun v10 v11 WX => ∃ (ga gb : Nat), v10 = .pointer (some ⟨ga, 0, none⟩) ∧ v11 = .pointer (some ⟨gb, 0, none⟩) ∧ MR w WX base ([]) ((ga, 37, (prL XL.s0).toArray) :: (gb, 37, (prL XL.s1).toArray) :: (g_27, 58, (tkL XL (.slice P0 XL.g0.length d0) (.slice P1 XL.g1.length d1) va vl).toArray) :: (g_7, 34, (cfgL b).toArray) :: (g_1, 34, (cfgL a).toArray) :: []))
 case first =>
  go_wp2_with (with_reducible refine so ?_)
  try simp only [nrm]
  have hst : Stable fun W => Below w_43.heap.size w_43 W := stable_below _ _ (Nat.le_refl _)
  refine wp_region_v (fun W => Below w_43.heap.size w_43 W) 10 hst (Below.refl _ _).drew ?_
  refine wpU_p 0 hst ?_
  refine wpU_p 1 hst ?_
  refine wpU_l 2 0 (prL XL.s0) (fun W hS => (HM.to hS).b0) Tryd.underlying37 hst ?_
  refine wpU_p 3 hst ?_
  refine wpU_p 4 hst ?_
  refine wpU_l 5 58 (prL XL.s1) (fun W hS => (HM.to hS).b0) Tryd.underlying37 hst ?_
  refine wpV_two 6 7 hst rfl rfl ?_ ?_
  ·
   intro W hS K hK
   rw [if_pos (show Region.wanted _ _ = true from rfl)]
   refine op_new (ty := 37) (cs := (prL pr0).toArray) (fun g => .pointer (some ⟨g, 0, none⟩)) (by kernel_rfl) (fun ga W2 z lg hb G => ?_)
   refine hK.out (fun W => w_43.heap.size ≤ ga ∧ ∃ cs, cs.size = 58 ∧ Blk W ga 37 cs) _ _ (stable_some _ _ _ _) hb ⟨Nat.le_trans hS.size lg, _, rfl, G⟩ (fun hst => ?_)
   clear hK K hb lg z G
   try simp only [nrm]
   clear hS
   refine wpV_new 7 hst rfl ?_; intro W hS K hK
   have hl9 : ga + 1 ≤ W.heap.size := by obtain ⟨_, _, _, hh⟩ := hS.2; exact hh.lt
   rw [if_pos (show Region.wanted _ _ = true from rfl)]
   refine op_new (ty := 37) (cs := (prL pr0).toArray) (fun g => .pointer (some ⟨g, 0, none⟩)) (by kernel_rfl) (fun gb W2 z lg hb G => ?_)
   refine hK.out (fun W => ga + 1 ≤ gb ∧ ∃ cs, cs.size = 58 ∧ Blk W gb 37 cs) _ _ (stable_some _ _ _ _) hb ⟨Nat.le_trans hl9 lg, _, rfl, G⟩ (fun hst => ?_)
   clear hK K hb lg z G
   try simp only [nrm]
   clear hS hl9
   refine wpU_one 8 rfl (fun W hS K hK => ?_)
   rw [if_pos (show Region.wanted _ _ = true from rfl)]
   obtain ⟨⟨hS1, ha, cs1, hc1, hG1⟩, hl, cs2, hc2, hG2'⟩ := hS
   have hb : w_43.heap.size ≤ gb := by omega
   have hne : ga ≠ gb := by omega
   obtain ⟨W2, hrun, hG2, hU⟩ := store_all (P := Tryd.prog) (ty := 37) (vs := prL XL.s0) hG1 hc1 (by kernel_rfl) rfl
   refine op_store rfl rfl rfl hrun ?_
   refine hK.out _ (fun W => Below w_43.heap.size w_43 W ∧ w_43.heap.size ≤ ga ∧ w_43.heap.size ≤ gb ∧ ga ≠ gb ∧ Blk W ga 37 (prL XL.s0).toArray ∧ ∃ cs, cs.size = 58 ∧ Blk W gb 37 cs) _ _ (fun W h => ⟨⟨h.1, h.2.1, _, rfl, h.2.2.2.2.1⟩, hl, h.2.2.2.2.2⟩) (stable_and (stable_below _ _ (Nat.le_refl _)) (stable_and (stable_const _) (stable_and (stable_const _) (stable_and (stable_const _) (stable_and (stable_blk _ _ _) (stable_ex _ _ _)))))) (fun _ h => h) ⟨hU.below hS1 ha, ha, hb, hne, hG2, _, hc2, hU.blk hG2' (Ne.symm hne)⟩ ?_
   clear hK K hrun hG2 hU hG1 hG2' hc1 hc2 cs1 cs2 hS1 ha hb hne hst; have hst : Stable fun W => Below w_43.heap.size w_43 W ∧ w_43.heap.size ≤ ga ∧ w_43.heap.size ≤ gb ∧ ga ≠ gb ∧ Blk W ga 37 (prL XL.s0).toArray ∧ ∃ cs, cs.size = 58 ∧ Blk W gb 37 cs := stable_and (stable_below _ _ (Nat.le_refl _)) (stable_and (stable_const _) (stable_and (stable_const _) (stable_and (stable_const _) (stable_and (stable_blk _ _ _) (stable_ex _ _ _))))); try simp only [nrm]
   refine wpU_one 9 rfl (fun W hS K hK => ?_)
   rw [if_pos (show Region.wanted _ _ = true from rfl)]
   obtain ⟨hS1, ha, hb, hne, hGa, cs2, hc2, hG2⟩ := hS
   obtain ⟨W2, hrun, hG3, hU⟩ := store_all (P := Tryd.prog) (ty := 37) (vs := prL XL.s1) hG2 hc2 (by kernel_rfl) rfl
   refine op_store rfl rfl rfl hrun ?_
   refine hK.out _ (fun W => Below w_43.heap.size w_43 W ∧ w_43.heap.size ≤ ga ∧ w_43.heap.size ≤ gb ∧ ga ≠ gb ∧ Blk W ga 37 (prL XL.s0).toArray ∧ Blk W gb 37 (prL XL.s1).toArray) _ _ (fun W h => ⟨h.1, h.2.1, h.2.2.1, h.2.2.2.1, h.2.2.2.2.1, _, rfl, h.2.2.2.2.2⟩) (stable_and (stable_below _ _ (Nat.le_refl _)) (stable_and (stable_const _) (stable_and (stable_const _) (stable_and (stable_const _) (stable_and (stable_blk _ _ _) (stable_blk _ _ _)))))) (fun _ h => h) ⟨hU.below hS1 hb, ha, hb, hne, hU.blk hGa hne, hG3⟩ ?_
   clear hK K hrun hG3 hU hG2 hc2 cs2 hS1 ha hb hne hGa hst; have hst : Stable fun W => Below w_43.heap.size w_43 W ∧ w_43.heap.size ≤ ga ∧ w_43.heap.size ≤ gb ∧ ga ≠ gb ∧ Blk W ga 37 (prL XL.s0).toArray ∧ Blk W gb 37 (prL XL.s1).toArray := stable_and (stable_below _ _ (Nat.le_refl _)) (stable_and (stable_const _) (stable_and (stable_const _) (stable_and (stable_const _) (stable_and (stable_blk _ _ _) (stable_blk _ _ _))))); try simp only [nrm]
   refine wpU_done (fun W5 hS => ?_)
   obtain ⟨hS1, ha, hb, hne, hGa, hGb⟩ := hS
   replace HM := HM.twoR hS1 ha hGa hb hGb hne; clear hst
   go_wp2_with fail
   go_meet
   case rel => exact ⟨ga, gb, rfl, rfl, HM⟩
  intro W hS K hK
  rw [if_pos (show Region.wanted _ _ = true from rfl)]
  refine op_new (ty := 37) (cs := (prL pr0).toArray) (fun g => .pointer (some ⟨g, 0, none⟩)) (by kernel_rfl) (fun gb W2 z lg hb G => ?_)
  refine hK.out (fun W => w_43.heap.size ≤ gb ∧ ∃ cs, cs.size = 58 ∧ Blk W gb 37 cs) _ _ (stable_some _ _ _ _) hb ⟨Nat.le_trans hS.size lg, _, rfl, G⟩ (fun hst => ?_)
  clear hK K hb lg z G
  try simp only [nrm]
  clear hS
  refine wpV_new 6 hst rfl ?_; intro W hS K hK
  have hl9 : gb + 1 ≤ W.heap.size := by obtain ⟨_, _, _, hh⟩ := hS.2; exact hh.lt
  rw [if_pos (show Region.wanted _ _ = true from rfl)]
  refine op_new (ty := 37) (cs := (prL pr0).toArray) (fun g => .pointer (some ⟨g, 0, none⟩)) (by kernel_rfl) (fun ga W2 z lg hb G => ?_)
  refine hK.out (fun W => gb + 1 ≤ ga ∧ ∃ cs, cs.size = 58 ∧ Blk W ga 37 cs) _ _ (stable_some _ _ _ _) hb ⟨Nat.le_trans hl9 lg, _, rfl, G⟩ (fun hst => ?_)
  clear hK K hb lg z G
  try simp only [nrm]
  clear hS hl9
  refine wpU_one 8 rfl (fun W hS K hK => ?_)
  rw [if_pos (show Region.wanted _ _ = true from rfl)]
  obtain ⟨⟨hS1, hb, cs2, hc2, hG2'⟩, hl, cs1, hc1, hG1⟩ := hS
  have ha : w_43.heap.size ≤ ga := by omega
  have hne : ga ≠ gb := by omega
  obtain ⟨W2, hrun, hG2, hU⟩ := store_all (P := Tryd.prog) (ty := 37) (vs := prL XL.s0) hG1 hc1 (by kernel_rfl) rfl
  refine op_store rfl rfl rfl hrun ?_
  refine hK.out _ (fun W => Below w_43.heap.size w_43 W ∧ w_43.heap.size ≤ ga ∧ w_43.heap.size ≤ gb ∧ ga ≠ gb ∧ Blk W ga 37 (prL XL.s0).toArray ∧ ∃ cs, cs.size = 58 ∧ Blk W gb 37 cs) _ _ (fun W h => ⟨⟨h.1, h.2.2.1, h.2.2.2.2.2⟩, hl, _, rfl, h.2.2.2.2.1⟩) (stable_and (stable_below _ _ (Nat.le_refl _)) (stable_and (stable_const _) (stable_and (stable_const _) (stable_and (stable_const _) (stable_and (stable_blk _ _ _) (stable_ex _ _ _)))))) (fun _ h => h) ⟨hU.below hS1 ha, ha, hb, hne, hG2, _, hc2, hU.blk hG2' (Ne.symm hne)⟩ ?_
  clear hK K hrun hG2 hU hG1 hG2' hc1 hc2 cs1 cs2 hS1 ha hb hne hst; have hst : Stable fun W => Below w_43.heap.size w_43 W ∧ w_43.heap.size ≤ ga ∧ w_43.heap.size ≤ gb ∧ ga ≠ gb ∧ Blk W ga 37 (prL XL.s0).toArray ∧ ∃ cs, cs.size = 58 ∧ Blk W gb 37 cs := stable_and (stable_below _ _ (Nat.le_refl _)) (stable_and (stable_const _) (stable_and (stable_const _) (stable_and (stable_const _) (stable_and (stable_blk _ _ _) (stable_ex _ _ _))))); try simp only [nrm]
  refine wpU_one 9 rfl (fun W hS K hK => ?_)
  rw [if_pos (show Region.wanted _ _ = true from rfl)]
  obtain ⟨hS1, ha, hb, hne, hGa, cs2, hc2, hG2⟩ := hS
  obtain ⟨W2, hrun, hG3, hU⟩ := store_all (P := Tryd.prog) (ty := 37) (vs := prL XL.s1) hG2 hc2 (by kernel_rfl) rfl
  refine op_store rfl rfl rfl hrun ?_
  refine hK.out _ (fun W => Below w_43.heap.size w_43 W ∧ w_43.heap.size ≤ ga ∧ w_43.heap.size ≤ gb ∧ ga ≠ gb ∧ Blk W ga 37 (prL XL.s0).toArray ∧ Blk W gb 37 (prL XL.s1).toArray) _ _ (fun W h => ⟨h.1, h.2.1, h.2.2.1, h.2.2.2.1, h.2.2.2.2.1, _, rfl, h.2.2.2.2.2⟩) (stable_and (stable_below _ _ (Nat.le_refl _)) (stable_and (stable_const _) (stable_and (stable_const _) (stable_and (stable_const _) (stable_and (stable_blk _ _ _) (stable_blk _ _ _)))))) (fun _ h => h) ⟨hU.below hS1 hb, ha, hb, hne, hU.blk hGa hne, hG3⟩ ?_
  clear hK K hrun hG3 hU hG2 hc2 cs2 hS1 ha hb hne hGa hst; have hst : Stable fun W => Below w_43.heap.size w_43 W ∧ w_43.heap.size ≤ ga ∧ w_43.heap.size ≤ gb ∧ ga ≠ gb ∧ Blk W ga 37 (prL XL.s0).toArray ∧ Blk W gb 37 (prL XL.s1).toArray := stable_and (stable_below _ _ (Nat.le_refl _)) (stable_and (stable_const _) (stable_and (stable_const _) (stable_and (stable_const _) (stable_and (stable_blk _ _ _) (stable_blk _ _ _))))); try simp only [nrm]
  refine wpU_done (fun W5 hS => ?_)
  obtain ⟨hS1, ha, hb, hne, hGa, hGb⟩ := hS
  replace HM := HM.twoR hS1 ha hGa hb hGb hne; clear hst
  go_wp2_with fail
  go_meet
  case rel => exact ⟨ga, gb, rfl, rfl, HM⟩
 case rest =>
  obtain ⟨ga, gb, rfl, rfl, HMM⟩ := hcut; clear HM; have HM := HMM; clear HMM
  go_wp2_with (with_reducible refine so ?_)
  refine (lives38 _ HM.laid).mono ?_; rintro e w_48 ⟨rfl, hb_49⟩
  replace HM := HM.to hb_49
  clear hb_49
  by_cases hc_50 : XL.s0.ltk = XL.s1.ltk
  ·
   obtain ⟨ec_50, ec_50n, kc_50⟩ := gT hc_50; clear hc_50
   have ld_51 := HM.b0.c 52 (.int .u64 (W64 XL.s0.ltk))
   have ld_52 := HM.b1.c 52 (.int .u64 (W64 XL.s1.ltk))
   go_wp2_with (with_reducible refine so ?_)
   go_returns
   exact ⟨rfl, by first | exact HM.below | (rw [hbs1.out]; exact HM.below)⟩
  obtain ⟨ec_50, ec_50n, kc_50⟩ := gF hc_50; clear hc_50
  have ld_53 := HM.b0.c 52 (.int .u64 (W64 XL.s0.ltk))
  have ld_54 := HM.b1.c 52 (.int .u64 (W64 XL.s1.ltk))
  go_wp2_with (first | (with_reducible refine so ?_) | (with_reducible refine ld 0 (prL XL.s0) HM.b0 Tryd.underlying37 ?_) | ((with_reducible refine wpList_ldg 0 (prL XL.s0) HM.b0 ?_ ?_ Tryd.underlying37 ?_ ?_ ?_ ?_); rfl; rfl; rfl; kernel_rfl; rfl) | (with_reducible refine ld 0 (prL XL.s1) HM.b1 Tryd.underlying37 ?_) | ((with_reducible refine wpList_ldg 0 (prL XL.s1) HM.b1 ?_ ?_ Tryd.underlying37 ?_ ?_ ?_ ?_); rfl; rfl; rfl; kernel_rfl; rfl))
  refine (coin_all XL.s0 XL.s1 _ HM.laid).mono ?_; rintro e w_57 ⟨rfl, hb_58⟩
  clear ld_53 ld_54
  replace HM := HM.to hb_58
  clear hb_58
  rcases hc_59 : (coinT XL.s0 XL.s1) with _ | _
  ·
   skip
   go_wp2_with (first | (with_reducible refine so ?_) | (with_reducible refine ld 0 (prL XL.s1) HM.b1 Tryd.underlying37 ?_) | ((with_reducible refine wpList_ldg 0 (prL XL.s1) HM.b1 ?_ ?_ Tryd.underlying37 ?_ ?_ ?_ ?_); rfl; rfl; rfl; kernel_rfl; rfl) | (with_reducible refine ld 0 (prL XL.s0) HM.b0 Tryd.underlying37 ?_) | ((with_reducible refine wpList_ldg 0 (prL XL.s0) HM.b0 ?_ ?_ Tryd.underlying37 ?_ ?_ ?_ ?_); rfl; rfl; rfl; kernel_rfl; rfl))
   refine (coin_all XL.s1 XL.s0 _ HM.laid).mono ?_; rintro e w_62 ⟨rfl, hb_63⟩
   replace HM := HM.to hb_63
   clear hb_63
   go_wp2_with (with_reducible refine so ?_)
   go_returns
   have q1 := kc_20.out
   have q4 := kc_50.out
   have hp := agrees_bool HX.out hc_17 hc_39 hc_45
   have eF : (coinT XL.s1 XL.s0) = true := by simpa [hc_17, q1, hc_39, hc_45, q4, hc_59] using hp
   exact ⟨congrArg (fun t => Ending.returned (Value.bool t)) eF, by first | exact HM.below | (rw [hbs1.out]; exact HM.below)⟩
  skip
  go_wp2_with (with_reducible refine so ?_)
  go_returns
  exact ⟨rfl, by first | exact HM.below | (rw [hbs1.out]; exact HM.below)⟩
end Go.Proofs.YtihmbcnccdiecaaDoor
namespace Go.Proofs.YtihmbcnccdiecaaDoor
set_option maxRecDepth 100000
open Go.ChangeShapes Go.WideShapes Go.ChangeAt Go.RowKit
set_option linter.unusedVariables false
theorem law38_PairingAgrees (rolea : Int) (wrolea : (Lit.int .i64 rolea).wf = true) (feat_ioa : Int) (wfeat_ioa : (Lit.int .i64 feat_ioa).wf = true) (feat_ooba : Bool) (feat_bonda : Bool) (feat_mitma : Bool) (feat_sida : Bool) (feat_tida : Bool) (own_kinda : Int) (wown_kinda : (Lit.int .i64 own_kinda).wf = true) (own_bitsa : BitVec 64) (peer_kinda : Int) (wpeer_kinda : (Lit.int .i64 peer_kinda).wf = true) (peer_bitsa : BitVec 64) (idn_adr_kinda : Int) (widn_adr_kinda : (Lit.int .i64 idn_adr_kinda).wf = true) (idn_adr_bitsa : BitVec 64) (idn_irka : BitVec 64) (secreta : BitVec 32) (seeda : BitVec 64) (minea : BitVec 64) (oob_valuea : BitVec 64) (oob_randoma : BitVec 64) (roleb : Int) (wroleb : (Lit.int .i64 roleb).wf = true) (feat_iob : Int) (wfeat_iob : (Lit.int .i64 feat_iob).wf = true) (feat_oobb : Bool) (feat_bondb : Bool) (feat_mitmb : Bool) (feat_sidb : Bool) (feat_tidb : Bool) (own_kindb : Int) (wown_kindb : (Lit.int .i64 own_kindb).wf = true) (own_bitsb : BitVec 64) (peer_kindb : Int) (wpeer_kindb : (Lit.int .i64 peer_kindb).wf = true) (peer_bitsb : BitVec 64) (idn_adr_kindb : Int) (widn_adr_kindb : (Lit.int .i64 idn_adr_kindb).wf = true) (idn_adr_bitsb : BitVec 64) (idn_irkb : BitVec 64) (secretb : BitVec 32) (seedb : BitVec 64) (mineb : BitVec 64) (oob_valueb : BitVec 64) (oob_randomb : BitVec 64) (lA : Option Addr) (lC : Nat) (l : List R_change) (n : Int) (wn : (Lit.int .i64 n).wf = true) (w : World) (HL : Laid w) (hl : Rd w lA (l.flatMap R_change.cells)) (ol : ∀ r ∈ l, r.ok w) (ll : l.length ≤ lC) :
    Calls Tryd.prog 6 #[.agg #[.int .i64 rolea, .int .i64 feat_ioa, .bool feat_ooba, .bool feat_bonda, .bool feat_mitma, .bool feat_sida, .bool feat_tida, .int .i64 own_kinda, .int .u64 (W64 own_bitsa), .int .i64 peer_kinda, .int .u64 (W64 peer_bitsa), .int .i64 idn_adr_kinda, .int .u64 (W64 idn_adr_bitsa), .int .u64 (W64 idn_irka), .int .u32 (W32 secreta), .int .u64 (W64 seeda), .int .u64 (W64 minea), .int .u64 (W64 oob_valuea), .int .u64 (W64 oob_randoma)], .agg #[.int .i64 roleb, .int .i64 feat_iob, .bool feat_oobb, .bool feat_bondb, .bool feat_mitmb, .bool feat_sidb, .bool feat_tidb, .int .i64 own_kindb, .int .u64 (W64 own_bitsb), .int .i64 peer_kindb, .int .u64 (W64 peer_bitsb), .int .i64 idn_adr_kindb, .int .u64 (W64 idn_adr_bitsb), .int .u64 (W64 idn_irkb), .int .u32 (W32 secretb), .int .u64 (W64 seedb), .int .u64 (W64 mineb), .int .u64 (W64 oob_valueb), .int .u64 (W64 oob_randomb)], .slice lA l.length lC, .int .i64 n] w (fun e w' => e = .returned (.bool true) ∧ Below w.heap.size w w') := by
  have h := law_PairingAgrees (⟨rolea, ⟨feat_ioa, feat_ooba, feat_bonda, feat_mitma, feat_sida, feat_tida⟩, ⟨own_kinda, own_bitsa⟩, ⟨peer_kinda, peer_bitsa⟩, ⟨⟨idn_adr_kinda, idn_adr_bitsa⟩, idn_irka⟩, secreta, seeda, minea, ⟨oob_valuea, oob_randoma⟩⟩ : Cfg) (⟨roleb, ⟨feat_iob, feat_oobb, feat_bondb, feat_mitmb, feat_sidb, feat_tidb⟩, ⟨own_kindb, own_bitsb⟩, ⟨peer_kindb, peer_bitsb⟩, ⟨⟨idn_adr_kindb, idn_adr_bitsb⟩, idn_irkb⟩, secretb, seedb, mineb, ⟨oob_valueb, oob_randomb⟩⟩ : Cfg) (l.map chgR) lA lC n w HL (by rw [← chgs_cells]; exact hl)
  rw [List.length_map] at h
  exact h
end Go.Proofs.YtihmbcnccdiecaaDoor
namespace Go.Proofs.YtihmbcnccdiecaaDoor.pairingAgrees
open Go.ChangeShapes Go.WideShapes Go.ChangeAt Go.RowKit
open Go.ChangeMaps (open_string shut_string)
set_option linter.unusedVariables false
theorem own : ownKnob Tryd.prog.godebug = none := by kernel_rfl
theorem laidOut : laidOutB Tryd.prog = true := by kernel_rfl
theorem door_met (os : Os) (args : Array Value) : laidMetH Tryd.prog laidT ((World.doorLaid Tryd.prog 400 os).forCall (fun _ _ => 0) ⟨#[], args, []⟩).memory :=
  laidMetH_of_parts3 (fuel := 8) (laidMet_of_run' 8 (by kernel_rfl) (by kernel_rfl)) (by kernel_rfl) (by kernel_rfl)
set_option maxRecDepth 100000 in
theorem lifted (os : Os) (started : os.Started) (H : Type) (enc : TypeId × Value → H) :
    ReturnsInHanded {} Tryd.checked os 6 .any (fun w args => (Rows.pairingAgreesSpec.pre enc Tryd.prog Tryd.f6 [] false w args ∧ laidMetH Tryd.prog laidT w) ∧ sizedMet enc Tryd.prog Tryd.f6 (OpenSpec.ofChange Rows.pairingAgreesSpec) false w args)
      (Rows.pairingAgreesSpec.post enc Tryd.prog Tryd.f6 false true false false) := by
  refine returnsInHanded_of_change_and (C := Tryd.checked) (X := fun w _ => laidMetH Tryd.prog laidT w) (fun _ _ _ hh h => h.of_heap hh) own started (by kernel_rfl) Tryd.func6
    (ChangeSpec.witness_shaped (enc := enc) (C := Tryd.checked) (os := os) (X := fun w _ => laidMetH Tryd.prog laidT w) false (World.doorLaid Tryd.prog 400 os) #[.agg #[.int .i64 0, .int .i64 0, .bool false, .bool false, .bool false, .bool false, .bool false, .int .i64 0, .int .u64 0, .int .i64 0, .int .u64 0, .int .i64 0, .int .u64 0, .int .u64 0, .int .u32 0, .int .u64 0, .int .u64 0, .int .u64 0, .int .u64 0], .agg #[.int .i64 0, .int .i64 0, .bool false, .bool false, .bool false, .bool false, .bool false, .int .i64 0, .int .u64 0, .int .i64 0, .int .u64 0, .int .i64 0, .int .u64 0, .int .u64 0, .int .u32 0, .int .u64 0, .int .u64 0, .int .u64 0, .int .u64 0], .slice none 0 0, .int .i64 0] 8 rfl (World.shaped_of_RefB (by kernel_rfl) (by kernel_rfl)) (by kernel_rfl) (by kernel_rfl) (by kernel_rfl) (door_met os _)) ?_
  intro W base args ds gs before hval0 hW _ _ hL _
  have hval : ∀ (j : Nat) t v, Tryd.f6.params[j]? = some t → args[j]? = some v → Value.okWide Tryd.prog W .any base t v := hval0
  have hW' := hW
  obtain ⟨p, q, hA0, hV, rfl, hfz, hnd⟩ := hW
  have hA : DataW.TrodAll enc Tryd.prog W 0 (fun _ => true) true Tryd.f6.params.toList args.toList ds p := hA0
  rw [Tryd.params6] at hA hval
  obtain ⟨v0, vs0, d0, ds0, p0, q0, hargs, rfl, rfl, h0, r0⟩ := trodAll_cons hA
  obtain ⟨v1, vs1, d1, ds1, p1, q1, rfl, rfl, rfl, h1, r1⟩ := trodAll_cons r0
  obtain ⟨v2, vs2, d2, ds2, p2, q2, rfl, rfl, rfl, h2, r2⟩ := trodAll_cons r1
  obtain ⟨v3, vs3, d3, ds3, p3, q3, rfl, rfl, rfl, h3, r3⟩ := trodAll_cons r2
  obtain ⟨rfl, rfl, rfl⟩ := trodAll_nil r3
  obtain rfl : args = #[v0, v1, v2, v3] := by cases args; simp_all
  obtain ⟨rfl, rfl⟩ := trodVars_none hV
  have k0 := h0
  have lt0 : ∀ x ∈ p0, x.block < W.heap.size := by obtain ⟨m, hm⟩ := k0; exact DataW.trod_lt m _ _ _ hm
  obtain ⟨role0, feat_io0, feat_oob0, feat_bond0, feat_mitm0, feat_sid0, feat_tid0, own_kind0, own_bits0, peer_kind0, peer_bits0, idn_adr_kind0, idn_adr_bits0, idn_irk0, secret0, seed0, mine0, oob_value0, oob_random0, rfl, wrole0, wfeat_io0, wown_kind0, wpeer_kind0, widn_adr_kind0⟩ := pcfg_in (hval 0 34 v0 rfl rfl) h0
  have k1 := h1
  have lt1 : ∀ x ∈ p1, x.block < W.heap.size := by obtain ⟨m, hm⟩ := k1; exact DataW.trod_lt m _ _ _ hm
  obtain ⟨role1, feat_io1, feat_oob1, feat_bond1, feat_mitm1, feat_sid1, feat_tid1, own_kind1, own_bits1, peer_kind1, peer_bits1, idn_adr_kind1, idn_adr_bits1, idn_irk1, secret1, seed1, mine1, oob_value1, oob_random1, rfl, wrole1, wfeat_io1, wown_kind1, wpeer_kind1, widn_adr_kind1⟩ := pcfg_in (hval 1 34 v1 rfl rfl) h1
  obtain ⟨a2, len2, cap2, rfl⟩ := okWide_slice Tryd.underlying71 (hval 2 71 v2 rfl rfl)
  have k2 := h2
  have lt2 : ∀ x ∈ p2, x.block < W.heap.size := by obtain ⟨m, hm⟩ := k2; exact DataW.trod_lt m _ _ _ hm
  obtain ⟨b2, rfl, w2, r2', o2⟩ := change_rows_in h2
  obtain ⟨a3, rfl, rfl, rfl, w3⟩ := open_int Tryd.underlying3 (hval 3 3 v3 rfl rfl) h3
  clear hA0 hval0
  refine (law38_PairingAgrees role0 wrole0 feat_io0 wfeat_io0 feat_oob0 feat_bond0 feat_mitm0 feat_sid0 feat_tid0 own_kind0 wown_kind0 own_bits0 peer_kind0 wpeer_kind0 peer_bits0 idn_adr_kind0 widn_adr_kind0 idn_adr_bits0 idn_irk0 secret0 seed0 mine0 oob_value0 oob_random0 role1 wrole1 feat_io1 wfeat_io1 feat_oob1 feat_bond1 feat_mitm1 feat_sid1 feat_tid1 own_kind1 wown_kind1 own_bits1 peer_kind1 wpeer_kind1 peer_bits1 idn_adr_kind1 widn_adr_kind1 idn_adr_bits1 idn_irk1 secret1 seed1 mine1 oob_value1 oob_random1 a2 cap2 b2 a3 w3 W (laid_of hL) r2' o2 w2).mono fun e W' ⟨he, bel⟩ => ?_
  subst he
  exact ⟨_, rfl, _, _, _, [], _, [], hW', trodAll_mk1 (shut_bool Tryd.underlying4 _), (trodAll_cons_mk (Below.trod laidOut (by kernel_rfl) (of_decide_eq_true (by kernel_rfl)) k0 bel lt0) (trodAll_cons_mk (Below.trod laidOut (by kernel_rfl) (of_decide_eq_true (by kernel_rfl)) k1 bel lt1) (trodAll_cons_mk (Below.trod laidOut (by kernel_rfl) (of_decide_eq_true (by kernel_rfl)) k2 bel lt2) (trodAll_cons_mk (shut_int Tryd.underlying3 w3) trodAll_mk0)))), rfl, bel.frame _, fun h => by cases h⟩
theorem over : Rows.pairingAgreesRow.holds Tryd.pinned (OpenSpec.ofChange Rows.pairingAgreesSpec) :=
  OpenClaim.holds_of_wide 6 Tryd.f6 rfl rfl rfl rfl rfl rfl rfl ⟨rfl, rfl, rfl, rfl, rfl⟩ rfl rfl rfl rfl rfl (by kernel_rfl) Tryd.func6 (by kernel_rfl)
    (of_decide_eq_true (by kernel_rfl)) (by unfold Func.isWrapper; first | (rw [if_pos (by decide +kernel)]; kernel_rfl) | (rw [if_neg (by decide +kernel)]; exact ⟨rfl, rfl⟩))
    (fun os started H enc _ => lifted os started H enc)
theorem proved : Rows.PairingAgreesCardSaid :=
  Claim7.holds_tied_plain_at .later [] [.data, .data] true _ false over (fun _ h => by cases h) (by kernel_rfl) (fun _ h => by cases h) pairingAgrees_row_tie rfl ⟨rfl, rfl⟩ (by kernel_rfl) rfl
    (fun f fn hf hfn => by
      obtain rfl : f = 6 := Option.some.inj ((show Tryd.prog.funcNamed "wireless/wirelesslaw38.PairingAgrees" = some 6 by kernel_rfl).symm.trans hf) |>.symm
      obtain rfl : fn = Tryd.f6 := (Option.some.inj (Tryd.func6.symm.trans hfn)).symm
      exact ⟨by kernel_rfl, fun j t ht => by
        rw [Tryd.params6] at ht
        have hm : t ∈ [34, 34, 71, 3] := by simpa using Array.mem_of_getElem? ht
        have hall : ([34, 34, 71, 3].all fun u => !Tryd.prog.wantsStandIn u) = true := by kernel_rfl
        exact (show Tryd.prog.wantsStandIn t = false by simpa using List.all_eq_true.1 hall t hm)⟩)
    (by kernel_rfl)
end Go.Proofs.YtihmbcnccdiecaaDoor.pairingAgrees
