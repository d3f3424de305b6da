/- Part of the proofs of the laws of pairing. -/
import Derived.Below
import Derived.Carry
import Derived.ChangeMaps5
import Derived.ChangeOld
import Derived.OpenShut
import Derived.ProofKit
import Derived.SevenTiedAt
import Derived.ShutString
import Derived.WalkKit
import Derived.Test.YtihmbcnccdiecaaDoorA2
import Derived.Test.YtihmbcnccdiecaaDoorBFit
import Derived.Test.YtihmbcnccdiecaaDoorBLive
import Derived.Test.YtihmbcnccdiecaaDoorBLowB
import Derived.Test.YtihmbcnccdiecaaDoorBLowC
import Derived.Test.YtihmbcnccdiecaaDoorBSdA
import Derived.Test.YtihmbcnccdiecaaDoorBSdB
import Derived.Test.YtihmbcnccdiecaaDoorBSdC
import Derived.Test.YtihmbcnccdiecaaDoorBSdD
import Derived.Test.YtihmbcnccdiecaaDoorBSdE
import Derived.Test.YtihmbcnccdiecaaDoorBSdF
import Derived.Test.YtihmbcnccdiecaaDoorBSdG
import Derived.Test.YtihmbcnccdiecaaDoorBSdH
import Derived.Test.YtihmbcnccdiecaaDoorBSdIe
import Derived.Test.YtihmbcnccdiecaaDoorBSdIs
import Derived.Test.YtihmbcnccdiecaaDoorBSdIu
import Derived.Test.YtihmbcnccdiecaaDoorBSdJ
import Derived.Test.YtihmbcnccdiecaaDoorBSdK
import Derived.Test.YtihmbcnccdiecaaDoorBSdL
import Derived.Test.YtihmbcnccdiecaaDoorBSdM
import Derived.Test.YtihmbcnccdiecaaDoorBSdN
import Derived.Test.YtihmbcnccdiecaaDoorBTkP
import Derived.Test.YtihmbcnccdiecaaDoorBTkU
import Derived.Test.YtihmbcnccdiecaaDoorBTkV
import Derived.Test.YtihmbcnccdiecaaDoorBTkW
import Derived.Test.YtihmbcnccdiecaaDoorBTkY
import Derived.Test.YtihmbcnccdiecaaDoorBTkZ
import Derived.Test.YtihmbcnccdiecaaDoorCACKS
import Derived.Test.YtihmbcnccdiecaaDoorCACE
import Derived.Test.YtihmbcnccdiecaaDoorCACK
import Derived.Test.YtihmbcnccdiecaaDoorCCKS
import Derived.Test.YtihmbcnccdiecaaDoorCAC
namespace Go.Proofs.YtihmbcnccdiecaaDoor
set_option maxRecDepth 100000
set_option linter.unusedVariables false
set_option linter.unusedSimpArgs false
theorem chg1_rest (n : Int) (d : Sec) (c : Chg) : (chg1 n d c).feat = d.feat ∧ (chg1 n d c).idn = d.idn ∧ (chg1 n d c).reason = d.reason := by
  unfold chg1; simp only []; split <;> split <;> exact ⟨rfl, rfl, rfl⟩
theorem chg_rest (l : List Chg) (n : Int) : ∀ d, (chg l n d).feat = d.feat ∧ (chg l n d).idn = d.idn ∧ (chg l n d).reason = d.reason := by
  induction l with
  | nil => intro d; exact ⟨rfl, rfl, rfl⟩
  | cons c l ih =>
    intro d
    obtain ⟨h1, h2, h3⟩ := chg1_rest n d c
    obtain ⟨i1, i2, i3⟩ := ih (chg1 n d c)
    exact ⟨i1.trans h1, i2.trans h2, i3.trans h3⟩
end Go.Proofs.YtihmbcnccdiecaaDoor
namespace Go.Proofs.YtihmbcnccdiecaaDoor
set_option maxRecDepth 100000
set_option linter.unusedVariables false
set_option linter.unusedSimpArgs false
theorem ffc_fail (p : Pr) (d : Sec) (r now : Int) : Ffc p d (failR p r now) :=
  ⟨by simp [failR], by simp [failR], fun _ => .inr (.inl rfl), fun _ => by show (2 : Int) ≤ 8; omega⟩
theorem ffc_id (p : Pr) (d : Sec) : Ffc p d ⟨p, [], []⟩ := ⟨by simp, by simp, fun _ => .inl ⟨rfl, rfl⟩, id⟩
theorem ffc_high {p : Pr} {d : Sec} {s : Stp} (h : 2 ≤ p.phase) (h2 : 2 ≤ s.p.phase) (ho : ∀ e ∈ s.out, e.kind ≠ 1 ∧ e.kind ≠ 2) : Ffc p d s :=
  ⟨fun e he => (ho e he).1, fun e he h => absurd h (ho e he).2, fun h' => by omega, fun _ => h2⟩
theorem ffc_features (p : Pr) (d : Sec) (now : Int) (h : (initR p = true ∧ d.kind = 2 ∧ p.phase = 1) ∨ (initR p = false ∧ d.kind = 1)) (hp : p.phase ≤ 1) : Ffc p d (featuresR p d now) := by
  unfold featuresR
  by_cases hi : initR p = true
  · simp only [hi, if_true]
    split
    · exact ffc_fail p d 3 now
    · rename_i he
      refine ⟨by simp, by simp, fun _ => .inr (.inr ⟨rfl, by simpa using he, rfl, rfl, .inl ⟨hi, ?_, ?_, rfl, rfl⟩⟩), fun _ => by omega⟩
      · rcases h with h | h
        · exact h.2.1
        · rw [hi] at h; exact absurd h.1 (by decide)
      · rcases h with h | h
        · exact h.2.2
        · rw [hi] at h; exact absurd h.1 (by decide)
  · have hi' : initR p = false := by simpa using hi
    simp only [hi, if_false, Bool.false_eq_true]
    split
    · exact ffc_fail p d 3 now
    · rename_i he
      refine ⟨by simp, ?_, fun _ => .inr (.inr ⟨rfl, by simpa using he, rfl, rfl, .inr ⟨hi', ?_, rfl, rfl⟩⟩), fun _ => by omega⟩
      · simp only [List.mem_singleton]
        rintro e rfl _
        exact ⟨rfl, hi'⟩
      · rcases h with h | h
        · exact absurd h.1 hi
        · exact h.2
theorem send_kinds {s : Stp} {k : Int} {v : BitVec 64} (ho : ∀ e ∈ s.out, e.kind ≠ 1 ∧ e.kind ≠ 2) (h1 : k ≠ 1) (h2 : k ≠ 2) : ∀ e ∈ (sendR s k v).out, e.kind ≠ 1 ∧ e.kind ≠ 2 := by
  simp only [sendR, List.mem_append, List.mem_singleton]
  rintro e (h | rfl)
  · exact ho e h
  · exact ⟨h1, h2⟩
theorem proceed_kinds {s : Stp} (ho : ∀ e ∈ s.out, e.kind ≠ 1 ∧ e.kind ≠ 2) : ∀ e ∈ (proceedR s).out, e.kind ≠ 1 ∧ e.kind ≠ 2 := by
  unfold proceedR
  simp only []
  split
  · exact send_kinds (s := { s with p := { s.p with phase := 5 } }) ho (by decide) (by decide)
  · exact ho
theorem proceed_ph (s : Stp) : (proceedR s).p.phase = 5 := by
  unfold proceedR; simp only []; split <;> rfl
theorem agree_kinds {s : Stp} (ho : ∀ e ∈ s.out, e.kind ≠ 1 ∧ e.kind ≠ 2) : ∀ e ∈ (agreeR s).out, e.kind ≠ 1 ∧ e.kind ≠ 2 := by
  unfold agreeR
  split
  · exact proceed_kinds ho
  · simp only []
    split <;> exact ho
theorem agree_ph (s : Stp) : 4 ≤ (agreeR s).p.phase := by
  unfold agreeR
  split
  · rw [proceed_ph]; decide
  · simp only []
    split <;> exact Int.le_refl 4
theorem commit_kinds {s : Stp} (ho : ∀ e ∈ s.out, e.kind ≠ 1 ∧ e.kind ≠ 2) : ∀ e ∈ (commitR s).out, e.kind ≠ 1 ∧ e.kind ≠ 2 :=
  send_kinds (s := freshR s) ho (by decide) (by decide)
theorem begin_kinds {s : Stp} (ho : ∀ e ∈ s.out, e.kind ≠ 1 ∧ e.kind ≠ 2) : ∀ e ∈ (beginR s).out, e.kind ≠ 1 ∧ e.kind ≠ 2 := by
  unfold beginR
  simp only []
  split
  · split
    · exact send_kinds (s := freshR { s with p := { s.p with phase := 3 } }) ho (by decide) (by decide)
    · exact ho
  · split
    · split
      · exact ho
      · exact commit_kinds (s := { s with p := { s.p with phase := 3 } }) ho
    · split
      · exact ho
      · split
        · exact send_kinds ho (by decide) (by decide)
        · exact ho
theorem begin_ph (s : Stp) : 3 ≤ (beginR s).p.phase := by
  unfold beginR
  simp only []
  split
  · split <;> exact Int.le_refl 3
  · split
    · split <;> exact Int.le_refl 3
    · split
      · show (3 : Int) ≤ 4; decide
      · split <;> exact Int.le_refl 3
theorem ffc_known (p : Pr) (d : Sec) (now : Int) (h1i : p.phase = 1 → initR p = true) : Ffc p d (knownR p d now) := by
  have hf : ∀ r, Ffc p d (failR p r now) := fun r => ffc_fail p d r now
  unfold knownR
  split
  · rename_i h0
    split
    · exact ffc_id p d
    · split
      · rename_i h
        exact ffc_features p d now (.inr h) (by omega)
      · exact hf 7
  · rename_i h0
    split
    · rename_i h1
      split
      · rename_i hk
        exact ffc_features p d now (.inl ⟨h1i h1, hk, h1⟩) (by omega)
      · exact hf 7
    · rename_i h1
      split
      · rename_i h2
        split
        · unfold publicR
          split
          · exact hf 13
          · split
            · exact hf 2
            · refine ffc_high (by omega) (Int.le_trans (by decide) (begin_ph _)) (begin_kinds ?_)
              show ∀ e ∈ (if initR p then [] else [({ sec0 with kind := 12, pub := ownR p } : Sec)]), e.kind ≠ 1 ∧ e.kind ≠ 2
              split
              · simp
              · simp
        · exact hf 7
      · rename_i h2
        split
        · rename_i h3
          split
          · unfold outsideR
            split
            · exact hf 7
            · simp only []
              split
              · exact ffc_high (by omega) (by rw [proceed_ph]; decide) (proceed_kinds (by simp [acceptR]))
              · exact ffc_high (by omega) (by rw [proceed_ph]; decide) (proceed_kinds (send_kinds (by simp [freshR, nextR, acceptR]) (by decide) (by decide)))
          · split
            · unfold roundsR
              simp only []
              split
              · split
                · exact ffc_high (by omega) (by show 2 ≤ p.phase; omega) (send_kinds (by simp [acceptR]) (by decide) (by decide))
                · exact ffc_high (by omega) (by show 2 ≤ p.phase; omega) (commit_kinds (by simp [acceptR]))
              · split
                · exact hf 7
                · split
                  · exact hf 4
                  · by_cases hi : initR p = true
                    · simp only [hi, if_true]
                      split
                      · exact ffc_high (by omega) (by rw [proceed_ph]; decide) (proceed_kinds (by simp [openedR, acceptR]))
                      · exact ffc_high (by omega) (by show 2 ≤ p.phase; omega) (commit_kinds (by simp [openedR, acceptR]))
                    · simp only [hi, if_false, Bool.false_eq_true]
                      split
                      · exact ffc_high (by omega) (by rw [proceed_ph]; decide) (proceed_kinds (send_kinds (by simp [openedR, acceptR]) (by decide) (by decide)))
                      · exact ffc_high (by omega) (by show 2 ≤ p.phase; omega) (send_kinds (by simp [openedR, acceptR]) (by decide) (by decide))
            · unfold simpleR
              simp only []
              split
              · exact ffc_high (by omega) (Int.le_trans (by decide) (agree_ph _)) (agree_kinds (send_kinds (by simp [acceptR]) (by decide) (by decide)))
              · split
                · exact ffc_high (by omega) (by show 2 ≤ p.phase; omega) (send_kinds (by simp [freshR, nextR, acceptR]) (by decide) (by decide))
                · split
                  · split
                    · exact hf 4
                    · exact ffc_high (by omega) (Int.le_trans (by decide) (agree_ph _)) (agree_kinds (by simp [openedR, acceptR]))
                  · exact hf 7
        · rename_i h3
          split
          · rename_i h4
            unfold waitingR
            simp only []
            split
            · exact ffc_high (by omega) (by show 2 ≤ p.phase; omega) (by simp [acceptR])
            · split
              · exact ffc_high (by omega) (by show 2 ≤ p.phase; omega) (by simp [acceptR])
              · exact hf 7
          · split
            · rename_i h5
              split
              · unfold checkedR
                split
                · exact hf 11
                · split
                  · exact ffc_high (by omega) (by show (2 : Int) ≤ 6; decide) (by simp [acceptR])
                  · exact ffc_high (by omega) (by show (2 : Int) ≤ 6; decide) (send_kinds (by simp [acceptR]) (by decide) (by decide))
              · exact hf 7
            · split
              · rename_i h6
                unfold identityR
                split
                · exact hf 7
                · unfold finishR giveR
                  split
                  · exact ffc_high (by omega) (by show (2 : Int) ≤ 7; decide) (by simp [acceptR])
                  · exact ffc_high (by omega) (by show (2 : Int) ≤ 7; decide) (by simp [acceptR])
              · exact hf 7
theorem ffc_handle (p : Pr) (d : Sec) (now : Int) (h1i : p.phase = 1 → initR p = true) : Ffc p d (handleR p d now) := by
  unfold handleR
  split
  · exact ffc_id p d
  · split
    · exact ffc_fail p d 7 now
    · split
      · exact ffc_known p d now h1i
      · split
        · exact ffc_id p d
        · exact ⟨by simp, by simp, fun _ => .inr (.inl rfl), fun _ => by show (2 : Int) ≤ 8; decide⟩
theorem gfc_id (p : Pr) : Gfc p ⟨p, [], []⟩ := ⟨by simp, fun _ => rfl, id⟩
theorem gfc_high {p : Pr} {s : Stp} (h : 2 ≤ p.phase) (h2 : 2 ≤ s.p.phase) (ho : ∀ e ∈ s.out, e.kind ≠ 1 ∧ e.kind ≠ 2) : Gfc p s := ⟨ho, fun h' => by omega, fun _ => h2⟩
theorem gfc_fail {p : Pr} (h : 2 ≤ p.phase) (r now : Int) : Gfc p (failR p r now) := gfc_high h (by show (2 : Int) ≤ 8; decide) (by simp [failR])
theorem gfc_user (p : Pr) (a now : Int) : Gfc p (userR p a now) := by
  unfold userR
  split
  · exact gfc_id p
  · rename_i h
    have h4 : p.phase = 4 := by
      rcases Decidable.em (p.phase = 4) with h' | h'
      · exact h'
      · exact absurd (.inl h') h
    simp only []
    split
    · split
      · exact gfc_fail (by omega) 1 now
      · split
        · exact gfc_high (by omega) (by show (2 : Int) ≤ 3; decide) (commit_kinds (by simp [acceptR]))
        · exact gfc_high (by omega) (by show (2 : Int) ≤ 3; decide) (by simp [acceptR])
    · split
      · exact gfc_id p
      · split
        · exact gfc_fail (by omega) 12 now
        · split
          · exact gfc_high (by omega) (by rw [proceed_ph]; decide) (proceed_kinds (by simp [acceptR]))
          · unfold checkedR
            split
            · exact gfc_fail (by omega) 11 now
            · split
              · exact gfc_high (by omega) (by show (2 : Int) ≤ 6; decide) (proceed_kinds (by simp [acceptR]))
              · exact gfc_high (by omega) (by show (2 : Int) ≤ 6; decide) (send_kinds (proceed_kinds (by simp [acceptR])) (by decide) (by decide))
theorem gfc_enc (p : Pr) (now : Int) : Gfc p (encR p now) := by
  unfold encR
  split
  · exact gfc_id p
  · rename_i h
    have h6 : p.phase = 6 := by
      rcases Decidable.em (p.phase = 6) with h' | h'
      · exact h'
      · exact absurd (.inl h') h
    unfold finishR giveR
    simp only []
    split
    · exact gfc_high (by omega) (by show 2 ≤ p.phase; omega) (by simp [acceptR])
    · split
      · split
        · exact gfc_high (by omega) (by show 2 ≤ p.phase; omega) (by simp [acceptR])
        · exact gfc_high (by omega) (by show 2 ≤ p.phase; omega) (by simp [acceptR])
      · split
        · exact gfc_high (by omega) (by show (2 : Int) ≤ 7; decide) (by simp [acceptR])
        · exact gfc_high (by omega) (by show (2 : Int) ≤ 7; decide) (by simp [acceptR])
theorem jf_step {a b : Cfg} {l : List Chg} {x x' : Tk} {c : Bool} {s : Stp} (ha : a.role = 0) (hb : b.role = 1) (hj : JF a b x) (hcf : s.p.cfg = (x.side c).cfg)
    (e : ∀ c, x'.side c = x.side c) (hl : ∀ e ∈ x'.line, e ∈ x.line) (o1 : ∀ e ∈ s.out, e.kind ≠ 1) (o2 : ∀ e ∈ s.out, e.kind = 2 → e.feat = (x.side c).cfg.feat ∧ initR (x.side c) = false)
    (hone : s.p.phase = 1 → s.p.req = a.feat)
    (hreq : 2 ≤ s.p.phase → s.p.phase ≤ 7 → s.p.req = a.feat ∧ s.p.res = b.feat ∧ s.p.method = (chooseK a.feat b.feat).1 ∧ s.p.peer = (if c then a.feat else b.feat) ∧ enoughK a.feat b.feat = true) : JF a b (stepT l c x' s) := by
  have hp := postF l c s.p s.out s.ev x'
  have hb' : (stepT l c x' s).side c = s.p := hp.sb
  have ho : (stepT l c x' s).side (!c) = x.side (!c) := hp.so.trans (e _)
  have hcc : ∀ k : Bool, k = c ∨ k = !c := by intro k; cases k <;> cases c <;> simp
  refine ⟨fun k => ?_, fun z hz hk => ?_, fun z hz hk => ?_, fun k => ?_, fun k => ?_⟩
  · rcases hcc k with h | h
    · rw [h, hb', hcf]; exact hj.cf c
    · rw [h, ho]; exact hj.cf _
  · rcases hp.line z hz with hz | ⟨d, hd, n, hz⟩
    · exact hj.l1 z (hl z hz) hk
    · subst hz
      simp only [chg_kind] at hk
      exact absurd hk (o1 d hd)
  · rcases hp.line z hz with hz | ⟨d, hd, n, hz⟩
    · exact hj.l2 z (hl z hz) hk
    · subst hz
      simp only [chg_kind] at hk
      obtain ⟨h1, h2⟩ := o2 d hd hk
      show (chg l n d).feat = b.feat
      rw [(chg_rest l n d).1, h1, hj.cf c]
      cases c
      · exfalso
        unfold initR at h2
        rw [hj.cf false] at h2
        simp [ha] at h2
      · rfl
  · rcases hcc k with h | h
    · rw [h, hb']; exact hone
    · rw [h, ho]; exact hj.one _
  · rcases hcc k with h | h
    · subst h
      rw [hb']; exact hreq
    · subst h
      rw [ho]; exact hj.req _
theorem jf_start (a b : Cfg) (l : List Chg) : JF a b (startT a b l) := by
  have hp := postF l false (askedP a) [{ sec0 with kind := 1, feat := a.feat }] [] { tk0 with ok := true, s1 := begunP b }
  have hb : (startT a b l).side false = askedP a := hp.sb
  have ho : (startT a b l).side true = begunP b := hp.so
  refine ⟨fun c => ?_, fun z hz hk => ?_, fun z hz hk => ?_, fun c h1 => ?_, fun c h6 _ => ?_⟩
  · cases c
    · rw [hb]; rfl
    · rw [ho]; rfl
  · rcases hp.line z hz with hz | ⟨d, hd, n, hz⟩
    · exact absurd hz (by simp [tk0])
    · subst hz
      rw [List.mem_singleton.mp hd]
      show (chg l n _).feat = a.feat
      rw [(chg_rest l n _).1]
  · rcases hp.line z hz with hz | ⟨d, hd, n, hz⟩
    · exact absurd hz (by simp [tk0])
    · subst hz
      rw [List.mem_singleton.mp hd] at hk
      simp only [chg_kind] at hk
      exact absurd hk (by decide)
  · cases c
    · rw [hb]; rfl
    · rw [ho] at h1; exact absurd h1 (by simp [begunP, pr0])
  · cases c
    · rw [hb] at h6; exact absurd h6 (by simp [askedP, begunP, pr0])
    · rw [ho] at h6; exact absurd h6 (by simp [askedP, begunP, pr0])
theorem init_one {p : Pr} (h : Inv p) : p.phase = 1 → initR p = true := fun h1 => by unfold initR; simp [h.one h1]
theorem jf_handle {a b : Cfg} {l : List Chg} {x x' : Tk} {c : Bool} {d : Sec} {n : Int} (ha : a.role = 0) (hb : b.role = 1) (hi : Inv2 x) (hj : JF a b x) (hd : (c, d) ∈ x.line) (e : ∀ c, x'.side c = x.side c) (hl : ∀ e ∈ x'.line, e ∈ x.line) :
    JF a b (stepT l c x' (handleR (x.side c) d n)) := by
  have hf := ffc_handle (x.side c) d n (init_one (hi c))
  have hF := fct_handle (x.side c) d n
  have hcfg := hj.cf c
  refine jf_step ha hb hj hF.cfg e hl hf.out1 hf.out2 (fun h1 => ?_) (fun h2 h7 => ?_)
  · rcases Int.lt_or_le 1 (x.side c).phase with h | h
    · have := hf.late (by omega); omega
    · rcases hf.low h with ⟨q1, q2⟩ | q | ⟨q, _⟩
      · rw [q2]; exact hj.one c (by omega)
      · omega
      · omega
  · rcases Int.lt_or_le 1 (x.side c).phase with h | h
    · obtain ⟨m1, m2, m3, m4⟩ := hF.meth (by omega)
      rw [m1, m2, m3, m4]
      refine hj.req c (by omega) ?_
      rcases Int.lt_or_le 7 (x.side c).phase with h8 | h8
      · have e8 : (x.side c).phase = 8 := by have := (hi c).ph; omega
        have : handleR (x.side c) d n = ⟨x.side c, [], []⟩ := by unfold handleR; rw [if_pos (.inr e8)]
        rw [this] at h7
        omega
      · exact h8
    · rcases hf.low h with ⟨q1, q2⟩ | q | ⟨q1, q2, q3, q4, q⟩
      · omega
      · omega
      · have key : (handleR (x.side c) d n).p.req = a.feat ∧ (handleR (x.side c) d n).p.res = b.feat ∧ (handleR (x.side c) d n).p.peer = (if c then a.feat else b.feat) := by
          rcases q with ⟨i1, i2, i3, i4, i5⟩ | ⟨i1, i2, i3, i4⟩
          · have hc : c = false := by
              cases c
              · rfl
              · exfalso
                unfold initR at i1
                rw [hcfg] at i1
                simp [hb] at i1
            subst hc
            have hfeat := hj.l2 _ hd i2
            refine ⟨i4.trans (hj.one false i3), i5.trans hfeat, q4.trans hfeat⟩
          · have hc : c = true := by
              cases c
              · exfalso
                unfold initR at i1
                rw [hcfg] at i1
                simp [ha] at i1
              · rfl
            subst hc
            have hfeat := hj.l1 _ hd i2
            refine ⟨i3.trans hfeat, i4.trans (by rw [hcfg]; rfl), q4.trans hfeat⟩
        obtain ⟨k1, k2, k3⟩ := key
        refine ⟨k1, k2, ?_, k3, ?_⟩
        · rw [q3, k1, k2]
        · rw [← k1, ← k2]; exact q2
theorem jf_other {a b : Cfg} {l : List Chg} {x : Tk} {c : Bool} {s : Stp} (ha : a.role = 0) (hb : b.role = 1) (hi : Inv2 x) (hj : JF a b x) (hcf : s.p.cfg = (x.side c).cfg) (hg : Gfc (x.side c) s)
    (hm : s.p.method = (x.side c).method ∧ s.p.peer = (x.side c).peer ∧ s.p.req = (x.side c).req ∧ s.p.res = (x.side c).res) (h8 : (x.side c).phase = 8 → s.p.phase = 8) : JF a b (stepT l c x s) := by
  refine jf_step ha hb hj hcf (fun _ => rfl) (fun _ h => h) (fun e he => (hg.out e he).1) (fun e he h => absurd h (hg.out e he).2) (fun h1 => ?_) (fun h2 h7 => ?_)
  · rcases Int.lt_or_le 1 (x.side c).phase with h | h
    · have := hg.late (by omega); omega
    · have := hg.low h
      rw [this] at h1 ⊢
      exact hj.one c h1
  · rcases Int.lt_or_le 1 (x.side c).phase with h | h
    · obtain ⟨m1, m2, m3, m4⟩ := hm
      rw [m1, m2, m3, m4]
      refine hj.req c (by omega) ?_
      rcases Int.lt_or_le 7 (x.side c).phase with h' | h'
      · have := h8 (by have := (hi c).ph; omega); omega
      · exact h'
    · have := hg.low h
      rw [this] at h2
      have h2' : 2 ≤ (x.side c).phase := h2
      omega
theorem jc_step {l : List Chg} {x x' : Tk} {c : Bool} {s : Stp} (hj : JC x) (e : ∀ c, x'.side c = x.side c) (eh : ∀ c, x'.hh c = x.hh c) (en : ∀ c, x'.nn c = x.nn c)
    (up : (4 ≤ (x.side c).phase ∨ ((x.side c).phase = 3 ∧ isPass (x.side c).method = true)) → (4 ≤ s.p.phase ∨ (s.p.phase = 3 ∧ isPass s.p.method = true)))
    (shw : (∃ z ∈ s.ev, z.kind = 1) → x.hh c = false ∧ (4 ≤ s.p.phase ∨ (s.p.phase = 3 ∧ isPass s.p.method = true)) ∧ (s.p.agreed = true → (x.side c).agreed = true))
    (agr : s.p.agreed = true → (x.side c).agreed = true ∨ (x.h0 = true ∧ x.h1 = true ∧ x.n0 = x.n1))
    (key : 5 ≤ s.p.phase → s.p.phase ≤ 7 → s.p.method = 2 → s.p.agreed = true) : JC (stepT l c x' s) := by
  have hp := postF l c s.p s.out s.ev x'
  have hb' : (stepT l c x' s).side c = s.p := hp.sb
  have ho : (stepT l c x' s).side (!c) = x.side (!c) := hp.so.trans (e _)
  have hcc : ∀ k : Bool, k = c ∨ k = !c := by intro k; cases k <;> cases c <;> simp
  have noag : (∃ z ∈ s.ev, z.kind = 1) → ∀ k, ((stepT l c x' s).side k).agreed = true → False := by
    intro hz k hk
    obtain ⟨q1, q2, q3⟩ := shw hz
    have bad : ∀ k, (x.side k).agreed = true → False := fun k hk => by
      obtain ⟨b0, b1, _⟩ := hj.agr k hk
      cases c
      · rw [show x.hh false = x.h0 from rfl, b0] at q1; exact absurd q1 (by decide)
      · rw [show x.hh true = x.h1 from rfl, b1] at q1; exact absurd q1 (by decide)
    rcases hcc k with h | h
    · rw [h, hb'] at hk; exact bad c (q3 hk)
    · rw [h, ho] at hk; exact bad _ hk
  refine ⟨fun k hk => ?_, fun k hk => ?_, fun k => ?_⟩
  · rcases hp.h k hk with h | ⟨h, hz⟩
    · rw [eh] at h
      rcases hcc k with h' | h'
      · subst h'; rw [hb']; exact up (hj.up _ h)
      · subst h'; rw [ho]; exact hj.up _ h
    · subst h
      rw [hb']; exact (shw hz).2.1
  · rcases Classical.em (∃ z ∈ s.ev, z.kind = 1) with hz | hz
    · exact absurd hk (fun h => noag hz k h)
    · have hn : ∀ z ∈ s.ev, z.kind ≠ 1 := fun z hz' h => hz ⟨z, hz', h⟩
      have a0 := hp.n false (.inr hn)
      have a1 := hp.n true (.inr hn)
      have base : x.h0 = true ∧ x.h1 = true ∧ x.n0 = x.n1 := by
        rcases hcc k with h | h
        · rw [h, hb'] at hk
          rcases agr hk with h' | h'
          · exact hj.agr c h'
          · exact h'
        · rw [h, ho] at hk
          exact hj.agr _ hk
      refine ⟨(a0.1.trans (eh false)).trans base.1, (a1.1.trans (eh true)).trans base.2.1, ?_⟩
      exact ((a0.2.trans (en false)).trans base.2.2).trans (a1.2.trans (en true)).symm
  · rcases hcc k with h | h
    · subst h; rw [hb']; exact key
    · subst h; rw [ho]; exact hj.key _
theorem not_pass_up {x : Tk} {c : Bool} (hj : JC x) (h : ((x.side c).phase = 2) ∨ ((x.side c).phase = 3 ∧ isPass (x.side c).method = false)) : x.hh c = false := by
  cases hh : x.hh c
  · rfl
  · exfalso
    rcases hj.up c hh with h' | h' <;> rcases h with h | h
    · omega
    · omega
    · omega
    · rw [h.2] at h'; exact absurd h'.2 (by decide)
theorem jc_fct {l : List Chg} {x x' : Tk} {c : Bool} {s : Stp} {dk : Int} {dv : BitVec 64} (hi : Inv2 x) (hj : JC x) (hF : Fct (x.side c) dk dv s) (e : ∀ c, x'.side c = x.side c) (eh : ∀ c, x'.hh c = x.hh c) (en : ∀ c, x'.nn c = x.nn c)
    (h8 : (x.side c).phase = 8 → s.p.phase = 8) : JC (stepT l c x' s) := by
  refine jc_step hj e eh en hF.up (fun ⟨z, hz, hk⟩ => ?_) (fun h => .inl (by rw [← hF.agr]; exact h)) (fun h5 h7 hm => ?_)
  · rcases hF.shw z hz hk with ⟨p2, pp, s3⟩ | ⟨p3, pp, s4⟩
    · refine ⟨not_pass_up hj (.inl p2), .inr ⟨s3, ?_⟩, fun h => by rw [← hF.agr]; exact h⟩
      rw [(hF.meth (by omega)).1]; exact pp
    · exact ⟨not_pass_up hj (.inr ⟨p3, pp⟩), .inl (by omega), fun h => by rw [← hF.agr]; exact h⟩
  · have h5' := hF.m2 h5 h7 hm
    rw [hF.agr]
    refine hj.key c h5' ?_ (by rw [← (hF.meth (by omega)).1]; exact hm)
    rcases Int.lt_or_le 7 (x.side c).phase with h | h
    · have := h8 (by have := (hi c).ph; omega); omega
    · exact h
theorem jc_start (a b : Cfg) (l : List Chg) : JC (startT a b l) := by
  have hp := postF l false (askedP a) [{ sec0 with kind := 1, feat := a.feat }] [] { tk0 with ok := true, s1 := begunP b }
  have hb : (startT a b l).side false = askedP a := hp.sb
  have ho : (startT a b l).side true = begunP b := hp.so
  refine ⟨fun c hc => ?_, fun c hc => ?_, fun c h5 => ?_⟩
  · exfalso
    rcases hp.h c hc with h | ⟨_, z, hz, _⟩
    · cases c <;> exact absurd h (by simp [Tk.hh, tk0])
    · exact absurd hz (by simp)
  · cases c
    · rw [hb] at hc; exact absurd hc (by simp [askedP, begunP, pr0])
    · rw [ho] at hc; exact absurd hc (by simp [askedP, begunP, pr0])
  · cases c
    · rw [hb] at h5; exact absurd h5 (by simp [askedP, begunP, pr0])
    · rw [ho] at h5; exact absurd h5 (by simp [askedP, begunP, pr0])
theorem compares_all (a b : Cfg) (l : List Chg) (common : Int) : (playT a b l common).ok = true → JF a b (playT a b l common) ∧ JC (playT a b l common) := by
  intro hk
  rcases play_cases a b l common with h | ⟨_, _, ra, rb, _⟩
  · rw [h] at hk; exact absurd hk (by decide)
  refine (play_inv a b l common (fun x => JF a b x ∧ JC x) ?_ ?_ ?_ ?_ hk).2
  · intro _ _; exact ⟨jf_start a b l, jc_start a b l⟩
  · intro x c d rest n hi hj hl
    exact ⟨jf_handle ra rb hi hj.1 (by rw [hl]; exact List.mem_cons_self ..) (fun k => by cases k <;> rfl) (fun e he => by rw [hl]; exact List.mem_cons_of_mem _ he),
      jc_fct hi hj.2 (fct_handle (x.side c) d n) (fun k => by cases k <;> rfl) (fun k => by cases k <;> rfl) (fun k => by cases k <;> rfl) handle_eight⟩
  · intro x c n hi hj h4
    have hU := ufc_user (x.side c) (x.answer c common) n
    refine ⟨jf_other ra rb hi hj.1 hU.cfg (gfc_user _ _ n) hU.meth user_eight, ?_⟩
    refine jc_step hj.2 (fun _ => rfl) (fun _ => rfl) (fun _ => rfl) hU.up (fun ⟨z, hz, hk⟩ => absurd hk (hU.shw z hz)) (fun h => ?_) (fun h5 h7 hm => ?_)
    · rcases hU.agr h with h | ⟨h1, h2⟩
      · exact .inl h
      · right
        have hm := (hi c).user h4 h2
        unfold Tk.answer at h1
        rw [if_neg (by simp [hm])] at h1
        by_cases hc : x.h0 = true ∧ x.h1 = true ∧ x.n0 = x.n1
        · exact hc
        · rw [if_neg hc] at h1; exact absurd h1 (by decide)
    · rcases hU.m2 h5 h7 hm with h | h
      · omega
      · exact h
  · intro x c n hi hj
    have hF := fct_enc (x.side c) n
    refine ⟨?_, jc_fct hi hj.2 hF (fun _ => rfl) (fun _ => rfl) (fun _ => rfl) enc_eight⟩
    by_cases h2 : 2 ≤ (x.side c).phase
    · exact jf_other ra rb hi hj.1 hF.cfg (gfc_enc _ n) (hF.meth h2) enc_eight
    · have he : encR (x.side c) n = ⟨x.side c, [], []⟩ := (gfc_enc (x.side c) n).low (by omega)
      rw [he]
      exact jf_other ra rb hi hj.1 rfl (gfc_id _) ⟨rfl, rfl, rfl, rfl⟩ id
theorem compares_plain (a b : Cfg) (l : List Chg) (common : Int) (hk0 : (playT a b l common).keyed false = true) (hk1 : (playT a b l common).keyed true = true) (hm : (playT a b l common).s0.method = 2) :
    (playT a b l common).h0 = true ∧ (playT a b l common).h1 = true ∧ (playT a b l common).n0 = (playT a b l common).n1 ∧ (playT a b l common).s0.agreed = true ∧ (playT a b l common).s1.agreed = true := by
  unfold Tk.keyed at hk0 hk1
  simp only [Bool.and_eq_true, decide_eq_true_eq] at hk0 hk1
  obtain ⟨⟨hok, k6⟩, k7⟩ := hk0
  obtain ⟨⟨_, m6⟩, m7⟩ := hk1
  obtain ⟨hf, hc⟩ := compares_all a b l common hok
  generalize playT a b l common = x at *
  have q0 := hf.req false (by omega) k7
  have q1 := hf.req true (by omega) m7
  have m0 : (x.side true).method = 2 := by rw [q1.2.2.1, ← q0.2.2.1]; exact hm
  have g0 := hc.key false (by omega) k7 hm
  have g1 := hc.key true (by omega) m7 m0
  obtain ⟨b0, b1, b2⟩ := hc.agr false g0
  exact ⟨b0, b1, b2, g0, g1⟩
end Go.Proofs.YtihmbcnccdiecaaDoor
namespace Go.Proofs.YtihmbcnccdiecaaDoor
set_option maxRecDepth 100000
open Go.ChangeShapes Go.WideShapes Go.ChangeAt Go.RowKit
set_option linter.unusedVariables false
set_option linter.unusedSimpArgs false
set_option maxHeartbeats 4000000 in
theorem law_PairingCompares (a b : Cfg) (l : List Chg) (lA : Option Addr) (lC : Nat) (w : World) (HL : Laid w) (hC : Rd w lA (l.flatMap chgL)) :
  Calls Tryd.prog 7 #[.agg (cfgL a).toArray, .agg (cfgL b).toArray, .slice lA l.length lC] w (fun e w' => e = .returned (.bool true) ∧ Below w.heap.size w w') := by
 have HM := MR.start HL
 obtain ⟨base, hbs⟩ : ∃ b, w.heap.size = b := ⟨_, rfl⟩
 rw [hbs] at HM
 have hbs1 := Lib.hid hbs
 have HC := Lib.hid (fun (W : World) (hb : Below base w W) => Rd.to hC (by rw [hbs]; exact hb))
 clear hbs hC
 go_enter Tryd.func7, Tryd.ntmps7
 go_wp2_with (with_reducible refine so ?_)
 refine HM.nw (ty := 34) (cs := (cfgL a).toArray) ?_; clear HM; intro g_1 w_2 HM
 go_wp2_with (with_reducible refine so ?_)
 refine HM.nw (ty := 34) (cs := (cfgL b).toArray) ?_; clear HM; intro g_7 w_8 HM
 go_wp2_with (first | (with_reducible refine so ?_) | (with_reducible refine ld 0 (cfgL a) HM.b1 Tryd.underlying34 ?_) | (with_reducible refine ld 0 (cfgL b) HM.b0 Tryd.underlying34 ?_))
 refine (fits_all a b 0 _ HM.laid).mono ?_; rintro e w_15 ⟨rfl, hb_16⟩
 replace HM := HM.to hb_16
 clear hb_16
 rcases hc_17 : (fitsK a b 0) with _ | _
 ·
  skip
  go_wp2_with (with_reducible refine so ?_)
  refine (lives38 _ HM.laid).mono ?_; rintro e w_18 ⟨rfl, hb_19⟩
  replace HM := HM.to hb_19
  clear hb_19
  go_wp2_with (with_reducible refine so ?_)
  go_returns
  exact ⟨rfl, by first | exact HM.below | (rw [hbs1.out]; exact HM.below)⟩
 skip
 by_cases hc_20 : (100 : Int) < ((l.length : Nat) : Int)
 ·
  obtain ⟨ec_20m, ec_20, ec_20n, kc_20⟩ := lT hc_20; clear hc_20
  go_wp2_with (with_reducible refine so ?_)
  refine (lives38 _ HM.laid).mono ?_; rintro e w_21 ⟨rfl, hb_22⟩
  replace HM := HM.to hb_22
  clear hb_22
  go_wp2_with (with_reducible refine so ?_)
  go_returns
  exact ⟨rfl, by first | exact HM.below | (rw [hbs1.out]; exact HM.below)⟩
 obtain ⟨ec_20m, ec_20, ec_20n, kc_20⟩ := lF hc_20; clear hc_20
 go_wp2_with (first | (with_reducible refine so ?_) | (with_reducible refine ld 0 (cfgL a) HM.b1 Tryd.underlying34 ?_) | (with_reducible refine ld 0 (cfgL b) HM.b0 Tryd.underlying34 ?_))
 refine (tk_play a b l lA lC 0 _ HM.laid (HC.out _ HM.below) (by omega)).mono ?_; rintro e w_25 ⟨P0, d0, P1, d1, va, vl, rfl, ho1, ho2, hb_26⟩
 replace HM := HM.joinM hb_26; clear hb_26
 dsimp only [List.nil_append] at HM
 replace HM := HM.rdrop.rdrop
 generalize hX : playT a b l 0 = XL at HM ⊢
 have HX := Lib.hid hX; clear hX
 have O1 := Lib.hid ho1; have O2 := Lib.hid ho2; clear ho1 ho2
 go_wp2_with (with_reducible refine so ?_)
 refine HM.nw (ty := 58) (cs := (tkL tk0 (.slice none 0 0) (.slice none 0 0) (.slice none 0 0) (.slice none 0 0)).toArray) ?_; clear HM; intro g_27 w_28 HM
 go_wp2_with (with_reducible refine so ?_)
 unfold Kept
 refine wpList_st 0 (tkL XL (.slice P0 XL.g0.length d0) (.slice P1 XL.g1.length d1) va vl).toArray (tkL XL (.slice P0 XL.g0.length d0) (.slice P1 XL.g1.length d1) va vl).toArray HM.b0 rfl rfl (by kernel_rfl) (tkL_one XL rfl rfl O1.out O2.out) (of_decide_eq_true rfl) (by kernel_rfl) ?_
 intro w_33 G_35 hU_34
 replace HM := HM.s0 hU_34 G_35
 clear hU_34 G_35
 go_wp2_with (first | (with_reducible refine so ?_) | (with_reducible refine ld 0 (tkL XL (.slice P0 XL.g0.length d0) (.slice P1 XL.g1.length d1) va vl) HM.b0 Tryd.underlying58 ?_) | ((with_reducible refine wpList_ldg 0 (tkL XL (.slice P0 XL.g0.length d0) (.slice P1 XL.g1.length d1) va vl) HM.b0 ?_ ?_ Tryd.underlying58 ?_ ?_ ?_ ?_); rfl; rfl; rfl; kernel_rfl; rfl))
 refine (tk_keyed_f XL _ _ _ _ _ HM.laid).mono ?_; rintro e w_37 ⟨rfl, hb_38⟩
 replace HM := HM.to hb_38
 clear hb_38
 rcases hc_39 : (XL.keyed false) with _ | _
 ·
  skip
  go_wp2_with (with_reducible refine so ?_)
  refine (lives38 _ HM.laid).mono ?_; rintro e w_40 ⟨rfl, hb_41⟩
  replace HM := HM.to hb_41
  clear hb_41
  go_wp2_with (with_reducible refine so ?_)
  go_returns
  exact ⟨rfl, by first | exact HM.below | (rw [hbs1.out]; exact HM.below)⟩
 skip
 go_wp2_with (first | (with_reducible refine so ?_) | (with_reducible refine ld 0 (tkL XL (.slice P0 XL.g0.length d0) (.slice P1 XL.g1.length d1) va vl) HM.b0 Tryd.underlying58 ?_) | ((with_reducible refine wpList_ldg 0 (tkL XL (.slice P0 XL.g0.length d0) (.slice P1 XL.g1.length d1) va vl) HM.b0 ?_ ?_ Tryd.underlying58 ?_ ?_ ?_ ?_); rfl; rfl; rfl; kernel_rfl; rfl))
 refine (tk_keyed_t XL _ _ _ _ _ HM.laid).mono ?_; rintro e w_43 ⟨rfl, hb_44⟩
 replace HM := HM.to hb_44
 clear hb_44
 rcases hc_45 : (XL.keyed true) with _ | _
 ·
  skip
  go_wp2_with (with_reducible refine so ?_)
  refine (lives38 _ HM.laid).mono ?_; rintro e w_46 ⟨rfl, hb_47⟩
  replace HM := HM.to hb_47
  clear hb_47
  go_wp2_with (with_reducible refine so ?_)
  go_returns
  exact ⟨rfl, by first | exact HM.below | (rw [hbs1.out]; exact HM.below)⟩
 skip
 by_cases hc_48 : (XL.s0.method : Int) = 2
 ·
  obtain ⟨ec_48, ec_48n, kc_48⟩ := fT hc_48; clear hc_48
  have hp := compares_plain a b l 0 (by rw [HX.out]; exact hc_39) (by rw [HX.out]; exact hc_45) (by rw [HX.out]; exact kc_48.out)
  rw [HX.out] at hp
  obtain ⟨y0, y1, yn, y2, y3⟩ := hp
  have yy : ((XL.n0 : Int) == XL.n1) = true := by simp [yn]
  clear yn
  have ld_49 := HM.b0.c 21 (.int .i64 XL.s0.method)
  go_wp2_with (with_reducible refine so ?_)
  refine (lives38 _ HM.laid).mono ?_; rintro e w_50 ⟨rfl, hb_51⟩
  clear ld_49
  replace HM := HM.to hb_51
  clear hb_51
  have ld_52 := HM.b0.c 121 (.bool XL.h0)
  have ld_53 := HM.b0.c 122 (.bool XL.h1)
  have ld_54 := HM.b0.c 117 (.int .i64 XL.n0)
  have ld_55 := HM.b0.c 118 (.int .i64 XL.n1)
  have ld_56 := HM.b0.c 48 (.bool XL.s0.agreed)
  have ld_57 := HM.b0.c 106 (.bool XL.s1.agreed)
  go_wp2_with (with_reducible refine so ?_)
  go_returns
  exact ⟨rfl, by first | exact HM.below | (rw [hbs1.out]; exact HM.below)⟩
 obtain ⟨ec_48, ec_48n, kc_48⟩ := fF hc_48; clear hc_48
 have ld_58 := HM.b0.c 21 (.int .i64 XL.s0.method)
 go_wp2_with (with_reducible refine so ?_)
 refine (lives38 _ HM.laid).mono ?_; rintro e w_59 ⟨rfl, hb_60⟩
 clear ld_58
 replace HM := HM.to hb_60
 clear hb_60
 go_wp2_with (with_reducible refine so ?_)
 go_returns
 exact ⟨rfl, by first | exact HM.below | (rw [hbs1.out]; exact HM.below)⟩
end Go.Proofs.YtihmbcnccdiecaaDoor
namespace Go.Proofs.YtihmbcnccdiecaaDoor
set_option maxRecDepth 100000
open Go.ChangeShapes Go.WideShapes Go.ChangeAt Go.RowKit
set_option linter.unusedVariables false
theorem law38_PairingCompares (rolea : Int) (wrolea : (Lit.int .i64 rolea).wf = true) (feat_ioa : Int) (wfeat_ioa : (Lit.int .i64 feat_ioa).wf = true) (feat_ooba : Bool) (feat_bonda : Bool) (feat_mitma : Bool) (feat_sida : Bool) (feat_tida : Bool) (own_kinda : Int) (wown_kinda : (Lit.int .i64 own_kinda).wf = true) (own_bitsa : BitVec 64) (peer_kinda : Int) (wpeer_kinda : (Lit.int .i64 peer_kinda).wf = true) (peer_bitsa : BitVec 64) (idn_adr_kinda : Int) (widn_adr_kinda : (Lit.int .i64 idn_adr_kinda).wf = true) (idn_adr_bitsa : BitVec 64) (idn_irka : BitVec 64) (secreta : BitVec 32) (seeda : BitVec 64) (minea : BitVec 64) (oob_valuea : BitVec 64) (oob_randoma : BitVec 64) (roleb : Int) (wroleb : (Lit.int .i64 roleb).wf = true) (feat_iob : Int) (wfeat_iob : (Lit.int .i64 feat_iob).wf = true) (feat_oobb : Bool) (feat_bondb : Bool) (feat_mitmb : Bool) (feat_sidb : Bool) (feat_tidb : Bool) (own_kindb : Int) (wown_kindb : (Lit.int .i64 own_kindb).wf = true) (own_bitsb : BitVec 64) (peer_kindb : Int) (wpeer_kindb : (Lit.int .i64 peer_kindb).wf = true) (peer_bitsb : BitVec 64) (idn_adr_kindb : Int) (widn_adr_kindb : (Lit.int .i64 idn_adr_kindb).wf = true) (idn_adr_bitsb : BitVec 64) (idn_irkb : BitVec 64) (secretb : BitVec 32) (seedb : BitVec 64) (mineb : BitVec 64) (oob_valueb : BitVec 64) (oob_randomb : BitVec 64) (lA : Option Addr) (lC : Nat) (l : List R_change) (w : World) (HL : Laid w) (hl : Rd w lA (l.flatMap R_change.cells)) (ol : ∀ r ∈ l, r.ok w) (ll : l.length ≤ lC) :
    Calls Tryd.prog 7 #[.agg #[.int .i64 rolea, .int .i64 feat_ioa, .bool feat_ooba, .bool feat_bonda, .bool feat_mitma, .bool feat_sida, .bool feat_tida, .int .i64 own_kinda, .int .u64 (W64 own_bitsa), .int .i64 peer_kinda, .int .u64 (W64 peer_bitsa), .int .i64 idn_adr_kinda, .int .u64 (W64 idn_adr_bitsa), .int .u64 (W64 idn_irka), .int .u32 (W32 secreta), .int .u64 (W64 seeda), .int .u64 (W64 minea), .int .u64 (W64 oob_valuea), .int .u64 (W64 oob_randoma)], .agg #[.int .i64 roleb, .int .i64 feat_iob, .bool feat_oobb, .bool feat_bondb, .bool feat_mitmb, .bool feat_sidb, .bool feat_tidb, .int .i64 own_kindb, .int .u64 (W64 own_bitsb), .int .i64 peer_kindb, .int .u64 (W64 peer_bitsb), .int .i64 idn_adr_kindb, .int .u64 (W64 idn_adr_bitsb), .int .u64 (W64 idn_irkb), .int .u32 (W32 secretb), .int .u64 (W64 seedb), .int .u64 (W64 mineb), .int .u64 (W64 oob_valueb), .int .u64 (W64 oob_randomb)], .slice lA l.length lC] w (fun e w' => e = .returned (.bool true) ∧ Below w.heap.size w w') := by
  have h := law_PairingCompares (⟨rolea, ⟨feat_ioa, feat_ooba, feat_bonda, feat_mitma, feat_sida, feat_tida⟩, ⟨own_kinda, own_bitsa⟩, ⟨peer_kinda, peer_bitsa⟩, ⟨⟨idn_adr_kinda, idn_adr_bitsa⟩, idn_irka⟩, secreta, seeda, minea, ⟨oob_valuea, oob_randoma⟩⟩ : Cfg) (⟨roleb, ⟨feat_iob, feat_oobb, feat_bondb, feat_mitmb, feat_sidb, feat_tidb⟩, ⟨own_kindb, own_bitsb⟩, ⟨peer_kindb, peer_bitsb⟩, ⟨⟨idn_adr_kindb, idn_adr_bitsb⟩, idn_irkb⟩, secretb, seedb, mineb, ⟨oob_valueb, oob_randomb⟩⟩ : Cfg) (l.map chgR) lA lC w HL (by rw [← chgs_cells]; exact hl)
  rw [List.length_map] at h
  exact h
end Go.Proofs.YtihmbcnccdiecaaDoor
namespace Go.Proofs.YtihmbcnccdiecaaDoor.pairingCompares
open Go.ChangeShapes Go.WideShapes Go.ChangeAt Go.RowKit
open Go.ChangeMaps (open_string shut_string)
set_option linter.unusedVariables false
theorem own : ownKnob Tryd.prog.godebug = none := by kernel_rfl
theorem laidOut : laidOutB Tryd.prog = true := by kernel_rfl
theorem door_met (os : Os) (args : Array Value) : laidMetH Tryd.prog laidT ((World.doorLaid Tryd.prog 400 os).forCall (fun _ _ => 0) ⟨#[], args, []⟩).memory :=
  laidMetH_of_parts3 (fuel := 8) (laidMet_of_run' 8 (by kernel_rfl) (by kernel_rfl)) (by kernel_rfl) (by kernel_rfl)
set_option maxRecDepth 100000 in
theorem lifted (os : Os) (started : os.Started) (H : Type) (enc : TypeId × Value → H) :
    ReturnsInHanded {} Tryd.checked os 7 .any (fun w args => (Rows.pairingComparesSpec.pre enc Tryd.prog Tryd.f7 [] false w args ∧ laidMetH Tryd.prog laidT w) ∧ sizedMet enc Tryd.prog Tryd.f7 (OpenSpec.ofChange Rows.pairingComparesSpec) false w args)
      (Rows.pairingComparesSpec.post enc Tryd.prog Tryd.f7 false true false false) := by
  refine returnsInHanded_of_change_and (C := Tryd.checked) (X := fun w _ => laidMetH Tryd.prog laidT w) (fun _ _ _ hh h => h.of_heap hh) own started (by kernel_rfl) Tryd.func7
    (ChangeSpec.witness_shaped (enc := enc) (C := Tryd.checked) (os := os) (X := fun w _ => laidMetH Tryd.prog laidT w) false (World.doorLaid Tryd.prog 400 os) #[.agg #[.int .i64 0, .int .i64 0, .bool false, .bool false, .bool false, .bool false, .bool false, .int .i64 0, .int .u64 0, .int .i64 0, .int .u64 0, .int .i64 0, .int .u64 0, .int .u64 0, .int .u32 0, .int .u64 0, .int .u64 0, .int .u64 0, .int .u64 0], .agg #[.int .i64 0, .int .i64 0, .bool false, .bool false, .bool false, .bool false, .bool false, .int .i64 0, .int .u64 0, .int .i64 0, .int .u64 0, .int .i64 0, .int .u64 0, .int .u64 0, .int .u32 0, .int .u64 0, .int .u64 0, .int .u64 0, .int .u64 0], .slice none 0 0] 8 rfl (World.shaped_of_RefB (by kernel_rfl) (by kernel_rfl)) (by kernel_rfl) (by kernel_rfl) (by kernel_rfl) (door_met os _)) ?_
  intro W base args ds gs before hval0 hW _ _ hL _
  have hval : ∀ (j : Nat) t v, Tryd.f7.params[j]? = some t → args[j]? = some v → Value.okWide Tryd.prog W .any base t v := hval0
  have hW' := hW
  obtain ⟨p, q, hA0, hV, rfl, hfz, hnd⟩ := hW
  have hA : DataW.TrodAll enc Tryd.prog W 0 (fun _ => true) true Tryd.f7.params.toList args.toList ds p := hA0
  rw [Tryd.params7] at hA hval
  obtain ⟨v0, vs0, d0, ds0, p0, q0, hargs, rfl, rfl, h0, r0⟩ := trodAll_cons hA
  obtain ⟨v1, vs1, d1, ds1, p1, q1, rfl, rfl, rfl, h1, r1⟩ := trodAll_cons r0
  obtain ⟨v2, vs2, d2, ds2, p2, q2, rfl, rfl, rfl, h2, r2⟩ := trodAll_cons r1
  obtain ⟨rfl, rfl, rfl⟩ := trodAll_nil r2
  obtain rfl : args = #[v0, v1, v2] := by cases args; simp_all
  obtain ⟨rfl, rfl⟩ := trodVars_none hV
  have k0 := h0
  have lt0 : ∀ x ∈ p0, x.block < W.heap.size := by obtain ⟨m, hm⟩ := k0; exact DataW.trod_lt m _ _ _ hm
  obtain ⟨role0, feat_io0, feat_oob0, feat_bond0, feat_mitm0, feat_sid0, feat_tid0, own_kind0, own_bits0, peer_kind0, peer_bits0, idn_adr_kind0, idn_adr_bits0, idn_irk0, secret0, seed0, mine0, oob_value0, oob_random0, rfl, wrole0, wfeat_io0, wown_kind0, wpeer_kind0, widn_adr_kind0⟩ := pcfg_in (hval 0 34 v0 rfl rfl) h0
  have k1 := h1
  have lt1 : ∀ x ∈ p1, x.block < W.heap.size := by obtain ⟨m, hm⟩ := k1; exact DataW.trod_lt m _ _ _ hm
  obtain ⟨role1, feat_io1, feat_oob1, feat_bond1, feat_mitm1, feat_sid1, feat_tid1, own_kind1, own_bits1, peer_kind1, peer_bits1, idn_adr_kind1, idn_adr_bits1, idn_irk1, secret1, seed1, mine1, oob_value1, oob_random1, rfl, wrole1, wfeat_io1, wown_kind1, wpeer_kind1, widn_adr_kind1⟩ := pcfg_in (hval 1 34 v1 rfl rfl) h1
  obtain ⟨a2, len2, cap2, rfl⟩ := okWide_slice Tryd.underlying71 (hval 2 71 v2 rfl rfl)
  have k2 := h2
  have lt2 : ∀ x ∈ p2, x.block < W.heap.size := by obtain ⟨m, hm⟩ := k2; exact DataW.trod_lt m _ _ _ hm
  obtain ⟨b2, rfl, w2, r2', o2⟩ := change_rows_in h2
  clear hA0 hval0
  refine (law38_PairingCompares role0 wrole0 feat_io0 wfeat_io0 feat_oob0 feat_bond0 feat_mitm0 feat_sid0 feat_tid0 own_kind0 wown_kind0 own_bits0 peer_kind0 wpeer_kind0 peer_bits0 idn_adr_kind0 widn_adr_kind0 idn_adr_bits0 idn_irk0 secret0 seed0 mine0 oob_value0 oob_random0 role1 wrole1 feat_io1 wfeat_io1 feat_oob1 feat_bond1 feat_mitm1 feat_sid1 feat_tid1 own_kind1 wown_kind1 own_bits1 peer_kind1 wpeer_kind1 peer_bits1 idn_adr_kind1 widn_adr_kind1 idn_adr_bits1 idn_irk1 secret1 seed1 mine1 oob_value1 oob_random1 a2 cap2 b2 W (laid_of hL) r2' o2 w2).mono fun e W' ⟨he, bel⟩ => ?_
  subst he
  exact ⟨_, rfl, _, _, _, [], _, [], hW', trodAll_mk1 (shut_bool Tryd.underlying4 _), (trodAll_cons_mk (Below.trod laidOut (by kernel_rfl) (of_decide_eq_true (by kernel_rfl)) k0 bel lt0) (trodAll_cons_mk (Below.trod laidOut (by kernel_rfl) (of_decide_eq_true (by kernel_rfl)) k1 bel lt1) (trodAll_cons_mk (Below.trod laidOut (by kernel_rfl) (of_decide_eq_true (by kernel_rfl)) k2 bel lt2) trodAll_mk0))), rfl, bel.frame _, fun h => by cases h⟩
theorem over : Rows.pairingComparesRow.holds Tryd.pinned (OpenSpec.ofChange Rows.pairingComparesSpec) :=
  OpenClaim.holds_of_wide 7 Tryd.f7 rfl rfl rfl rfl rfl rfl rfl ⟨rfl, rfl, rfl, rfl, rfl⟩ rfl rfl rfl rfl rfl (by kernel_rfl) Tryd.func7 (by kernel_rfl)
    (of_decide_eq_true (by kernel_rfl)) (by unfold Func.isWrapper; first | (rw [if_pos (by decide +kernel)]; kernel_rfl) | (rw [if_neg (by decide +kernel)]; exact ⟨rfl, rfl⟩))
    (fun os started H enc _ => lifted os started H enc)
theorem proved : Rows.PairingComparesCardSaid :=
  Claim7.holds_tied_plain_at .later [] [.data, .data] true _ false over (fun _ h => by cases h) (by kernel_rfl) (fun _ h => by cases h) pairingCompares_row_tie rfl ⟨rfl, rfl⟩ (by kernel_rfl) rfl
    (fun f fn hf hfn => by
      obtain rfl : f = 7 := Option.some.inj ((show Tryd.prog.funcNamed "wireless/wirelesslaw38.PairingCompares" = some 7 by kernel_rfl).symm.trans hf) |>.symm
      obtain rfl : fn = Tryd.f7 := (Option.some.inj (Tryd.func7.symm.trans hfn)).symm
      exact ⟨by kernel_rfl, fun j t ht => by
        rw [Tryd.params7] at ht
        have hm : t ∈ [34, 34, 71] := by simpa using Array.mem_of_getElem? ht
        have hall : ([34, 34, 71].all fun u => !Tryd.prog.wantsStandIn u) = true := by kernel_rfl
        exact (show Tryd.prog.wantsStandIn t = false by simpa using List.all_eq_true.1 hall t hm)⟩)
    (by kernel_rfl)
end Go.Proofs.YtihmbcnccdiecaaDoor.pairingCompares
