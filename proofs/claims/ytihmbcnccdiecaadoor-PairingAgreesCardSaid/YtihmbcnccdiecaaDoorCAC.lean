/- Part of the proofs of the laws of pairing. -/
import Derived.Test.YtihmbcnccdiecaaDoorA2
import Derived.Test.YtihmbcnccdiecaaDoorBFit
import Derived.Test.YtihmbcnccdiecaaDoorBLive
import Derived.Test.YtihmbcnccdiecaaDoorBLowB
import Derived.Test.YtihmbcnccdiecaaDoorBLowC
import Derived.Test.YtihmbcnccdiecaaDoorBSdA
import Derived.Test.YtihmbcnccdiecaaDoorBSdB
import Derived.Test.YtihmbcnccdiecaaDoorBSdC
import Derived.Test.YtihmbcnccdiecaaDoorBSdD
import Derived.Test.YtihmbcnccdiecaaDoorBSdE
import Derived.Test.YtihmbcnccdiecaaDoorBSdF
import Derived.Test.YtihmbcnccdiecaaDoorBSdG
import Derived.Test.YtihmbcnccdiecaaDoorBSdH
import Derived.Test.YtihmbcnccdiecaaDoorBSdIe
import Derived.Test.YtihmbcnccdiecaaDoorBSdIs
import Derived.Test.YtihmbcnccdiecaaDoorBSdIu
import Derived.Test.YtihmbcnccdiecaaDoorBSdJ
import Derived.Test.YtihmbcnccdiecaaDoorBSdK
import Derived.Test.YtihmbcnccdiecaaDoorBSdL
import Derived.Test.YtihmbcnccdiecaaDoorBSdM
import Derived.Test.YtihmbcnccdiecaaDoorBSdN
import Derived.Test.YtihmbcnccdiecaaDoorBTkP
import Derived.Test.YtihmbcnccdiecaaDoorBTkU
import Derived.Test.YtihmbcnccdiecaaDoorBTkV
import Derived.Test.YtihmbcnccdiecaaDoorBTkW
import Derived.Test.YtihmbcnccdiecaaDoorBTkY
import Derived.Test.YtihmbcnccdiecaaDoorBTkZ
import Derived.Test.YtihmbcnccdiecaaDoorCACKS
import Derived.Test.YtihmbcnccdiecaaDoorCACE
import Derived.Test.YtihmbcnccdiecaaDoorCACK
namespace Go.Proofs.YtihmbcnccdiecaaDoor
set_option maxRecDepth 100000
set_option linter.unusedVariables false
set_option linter.unusedSimpArgs false
theorem ltkR_init (q : Pr) (h : initR q = true) : ltkV q.shared q.nonce q.other q.cfg.own q.cfg.peer = ltkR q := by unfold ltkR; rw [if_pos h]
theorem ltkR_resp (q : Pr) (h : ¬ initR q = true) : ltkV q.shared q.other q.nonce q.cfg.peer q.cfg.own = ltkR q := by unfold ltkR; rw [if_neg h]
theorem fct_id (p : Pr) (dk : Int) (dv : BitVec 64) : Fct p dk dv ⟨p, [], []⟩ :=
  ⟨rfl, fun h => ⟨h, rfl, rfl, rfl, rfl⟩, by simp, fun h => .inl ⟨h, rfl⟩, fun h h' => .inl ⟨h, h', rfl⟩, rfl, fun h _ _ => h, by simp, id, fun _ => ⟨rfl, rfl, rfl, rfl⟩⟩
theorem fct_fail (p : Pr) (dk : Int) (dv : BitVec 64) (r now : Int) : Fct p dk dv (failR p r now) := by
  refine ⟨rfl, fun h => ⟨by show (5 : Int) ≤ 8; omega, rfl, rfl, rfl, rfl⟩, ?_, fun h => .inl ⟨h, rfl⟩, fun h h' => ?_, rfl, fun h h' _ => ?_, ?_, fun _ => .inl (by show (4 : Int) ≤ 8; omega), fun _ => ⟨rfl, rfl, rfl, rfl⟩⟩
  · simp [failR]
  · exact absurd h' (by show ¬ (8 : Int) ≤ 7; omega)
  · exact absurd h' (by show ¬ (8 : Int) ≤ 7; omega)
  · simp [failR, evt0]
theorem fct_noout {p : Pr} {dk : Int} {dv : BitVec 64} {s : Stp} (h : Fct p dk dv s) : Fct p dk dv { s with out := [] } :=
  ⟨h.cfg, h.core, by simp, h.hin, h.key, h.agr, h.m2, h.shw, h.up, h.meth⟩
theorem fct_features (p : Pr) (d : Sec) (now : Int) (hp : p.phase ≤ 1) : Fct p d.kind d.value (featuresR p d now) := by
  unfold featuresR
  by_cases hi : initR p = true
  · simp only [hi, if_true]
    split
    · exact fct_fail p _ _ 3 now
    · refine ⟨rfl, fun h => ?_, ?_, fun h => .inl ⟨h, rfl⟩, fun h => ?_, rfl, fun h => ?_, ?_, fun h => ?_, fun h => ?_⟩
      · exact absurd h (by omega)
      · simp
      · exact absurd h (by show ¬ (6 : Int) ≤ 2; omega)
      · exact absurd h (by show ¬ (5 : Int) ≤ 2; omega)
      · simp
      · omega
      · omega
  · simp only [hi, if_false, Bool.false_eq_true]
    split
    · exact fct_fail p _ _ 3 now
    · refine ⟨rfl, fun h => ?_, ?_, fun h => .inl ⟨h, rfl⟩, fun h => ?_, rfl, fun h => ?_, ?_, fun h => ?_, fun h => ?_⟩
      · exact absurd h (by omega)
      · simp
      · exact absurd h (by show ¬ (6 : Int) ≤ 2; omega)
      · exact absurd h (by show ¬ (5 : Int) ≤ 2; omega)
      · simp
      · omega
      · omega
theorem fct_low (p : Pr) (dk : Int) (dv : BitVec 64) (s : Stp) (h5 : p.phase < 5) (cfg : s.p.cfg = p.cfg) (hk : s.p.haveIn = p.haveIn) (hc : s.p.checkIn = p.checkIn) (ha : s.p.agreed = p.agreed) (hq : s.p.phase < 5)
    (ho : ∀ e ∈ s.out, e.kind ≠ 13) (shw : ∀ e ∈ s.ev, e.kind = 1 → (p.phase = 2 ∧ isPass p.method = true ∧ s.p.phase = 3) ∨ (p.phase = 3 ∧ isPass p.method = false ∧ s.p.phase = 4))
    (up : (4 ≤ p.phase ∨ (p.phase = 3 ∧ isPass p.method = true)) → (4 ≤ s.p.phase ∨ (s.p.phase = 3 ∧ isPass s.p.method = true)))
    (meth : 2 ≤ p.phase → s.p.method = p.method ∧ s.p.peer = p.peer ∧ s.p.req = p.req ∧ s.p.res = p.res) : Fct p dk dv s :=
  ⟨cfg, fun h => by omega, fun e he h => absurd h (ho e he), fun h => .inl ⟨by rw [← hk]; exact h, hc⟩, fun h => by omega, ha, fun h => by omega, shw, up, meth⟩
theorem fct_begin (p : Pr) (dk : Int) (dv : BitVec 64) (s : Stp) (h2 : p.phase = 2) (cfg : s.p.cfg = p.cfg) (hm : s.p.method = p.method ∧ s.p.peer = p.peer ∧ s.p.req = p.req ∧ s.p.res = p.res) (hk : s.p.haveIn = p.haveIn) (hc : s.p.checkIn = p.checkIn) (ha : s.p.agreed = p.agreed)
    (ho : ∀ e ∈ s.out, e.kind ≠ 13) (he : s.ev = []) : Fct p dk dv (beginR s) := by
  obtain ⟨q, out, ev⟩ := s
  obtain ⟨m1, m2, m3, m4⟩ := hm
  dsimp only at m1 m2 m3 m4 cfg hk hc ha ho he
  subst he
  unfold beginR
  simp only []
  split
  · split
    · refine fct_low p _ _ _ (by omega) cfg hk hc ha (by show (3 : Int) < 5; omega) ?_ (by simp [sendR, freshR, nextR]) (fun h => by omega) (fun _ => ⟨m1, m2, m3, m4⟩)
      simp only [sendR, freshR, nextR, List.mem_append, List.mem_singleton]
      rintro e (h | rfl)
      · exact ho e h
      · show (4 : Int) ≠ 13; omega
    · exact fct_low p _ _ _ (by omega) cfg hk hc ha (by show (3 : Int) < 5; omega) ho (by simp) (fun h => by omega) (fun _ => ⟨m1, m2, m3, m4⟩)
  · rename_i h6
    split
    · split
      · exact fct_low p _ _ _ (by omega) cfg hk hc ha (by show (3 : Int) < 5; omega) ho (by simp) (fun h => by omega) (fun _ => ⟨m1, m2, m3, m4⟩)
      · refine fct_low p _ _ _ (by omega) cfg hk hc ha (by show (3 : Int) < 5; omega) ?_ (by simp [commitR, sendR, freshR, nextR]) (fun h => by omega) (fun _ => ⟨m1, m2, m3, m4⟩)
        simp only [commitR, sendR, freshR, nextR, List.mem_append, List.mem_singleton]
        rintro e (h | rfl)
        · exact ho e h
        · show (3 : Int) ≠ 13; omega
    · rename_i hps
      have hpp : isPass p.method = true := by rw [← m1]; simpa using hps
      split
      · exact fct_low p _ _ _ (by omega) cfg hk hc ha (by show (4 : Int) < 5; omega) ho (by simp [reportR, evt0]) (fun h => by omega) (fun _ => ⟨m1, m2, m3, m4⟩)
      · split
        · refine fct_low p _ _ _ (by omega) cfg hk hc ha (by show (3 : Int) < 5; omega) ?_ (fun _ _ _ => .inl ⟨h2, hpp, rfl⟩) (fun h => by omega) (fun _ => ⟨m1, m2, m3, m4⟩)
          simp only [commitR, sendR, freshR, nextR, reportR, List.mem_append, List.mem_singleton]
          rintro e (h | rfl)
          · exact ho e h
          · show (3 : Int) ≠ 13; omega
        · exact fct_low p _ _ _ (by omega) cfg hk hc ha (by show (3 : Int) < 5; omega) ho (fun _ _ _ => .inl ⟨h2, hpp, rfl⟩) (fun h => by omega) (fun _ => ⟨m1, m2, m3, m4⟩)
theorem fct_public (p : Pr) (d : Sec) (now : Int) (h2 : p.phase = 2) : Fct p d.kind d.value (publicR p d now) := by
  unfold publicR
  split
  · exact fct_fail p _ _ 13 now
  · split
    · exact fct_fail p _ _ 2 now
    · refine fct_begin p _ _ _ h2 rfl ⟨rfl, rfl, rfl, rfl⟩ rfl rfl rfl ?_ rfl
      show ∀ e ∈ (if initR p then [] else [({ sec0 with kind := 12, pub := ownR p } : Sec)]), e.kind ≠ 13
      split
      · simp
      · simp
theorem fct_proceed (p : Pr) (dk : Int) (dv : BitVec 64) (s : Stp) (h5 : p.phase < 5) (cfg : s.p.cfg = p.cfg) (hm : s.p.method = p.method ∧ s.p.peer = p.peer ∧ s.p.req = p.req ∧ s.p.res = p.res) (hk : s.p.haveIn = p.haveIn) (hc : s.p.checkIn = p.checkIn) (ha : s.p.agreed = p.agreed)
    (h3 : 2 ≤ p.phase) (hm2 : p.method ≠ 2) (ho : ∀ e ∈ s.out, e.kind ≠ 13) (he : s.ev = []) : Fct p dk dv (proceedR s) := by
  obtain ⟨q, out, ev⟩ := s
  obtain ⟨m1, m2, m3, m4⟩ := hm
  dsimp only at m1 m2 m3 m4 cfg hk hc ha ho he
  subst he
  unfold proceedR
  simp only []
  split
  · refine ⟨cfg, fun h => by omega, ?_, fun h => .inl ⟨by rw [← hk]; exact h, hc⟩, fun h => absurd h (by show ¬ (6 : Int) ≤ 5; omega), ha, fun _ _ h => absurd (m1.symm.trans h) hm2, by simp [sendR], fun _ => .inl (by show (4 : Int) ≤ 5; omega), fun _ => ⟨m1, m2, m3, m4⟩⟩
    simp only [sendR, List.mem_append, List.mem_singleton]
    rintro e (h | rfl) h13
    · exact absurd h13 (ho e h)
    · exact ⟨rfl, by show (5 : Int) ≤ 5; omega⟩
  · exact ⟨cfg, fun h => by omega, fun e h h13 => absurd h13 (ho e h), fun h => .inl ⟨by rw [← hk]; exact h, hc⟩, fun h => absurd h (by show ¬ (6 : Int) ≤ 5; omega), ha, fun _ _ h => absurd (m1.symm.trans h) hm2, by simp, fun _ => .inl (by show (4 : Int) ≤ 5; omega), fun _ => ⟨m1, m2, m3, m4⟩⟩
theorem fct_agree (p : Pr) (dk : Int) (dv : BitVec 64) (s : Stp) (h3 : p.phase = 3) (hp : isPass p.method = false) (cfg : s.p.cfg = p.cfg) (hm : s.p.method = p.method ∧ s.p.peer = p.peer ∧ s.p.req = p.req ∧ s.p.res = p.res) (hk : s.p.haveIn = p.haveIn) (hc : s.p.checkIn = p.checkIn) (ha : s.p.agreed = p.agreed)
    (ho : ∀ e ∈ s.out, e.kind ≠ 13) (he : s.ev = []) : Fct p dk dv (agreeR s) := by
  unfold agreeR
  split
  · rename_i h1
    exact fct_proceed p _ _ s (by omega) cfg hm hk hc ha (by omega) (by rw [← hm.1, h1]; decide) ho he
  · obtain ⟨q, out, ev⟩ := s
    obtain ⟨m1, m2, m3, m4⟩ := hm
    dsimp only at m1 m2 m3 m4 cfg hk hc ha ho he
    simp only []
    split
    · exact fct_low p _ _ _ (by omega) cfg hk hc ha (by show (4 : Int) < 5; omega) ho (fun _ _ _ => .inr ⟨h3, hp, rfl⟩) (fun _ => .inl (by show (4 : Int) ≤ 4; omega)) (fun _ => ⟨m1, m2, m3, m4⟩)
    · exact fct_low p _ _ _ (by omega) cfg hk hc ha (by show (4 : Int) < 5; omega) ho (fun _ _ _ => .inr ⟨h3, hp, rfl⟩) (fun _ => .inl (by show (4 : Int) ≤ 4; omega)) (fun _ => ⟨m1, m2, m3, m4⟩)
theorem fct_simple (p : Pr) (d : Sec) (now : Int) (h3 : p.phase = 3) (hp : isPass p.method = false) : Fct p d.kind d.value (simpleR p d now) := by
  unfold simpleR
  simp only []
  split
  · exact fct_agree p _ _ _ h3 hp rfl ⟨rfl, rfl, rfl, rfl⟩ rfl rfl rfl (by simp [sendR, acceptR]) rfl
  · split
    · exact fct_low p _ _ _ (by omega) rfl rfl rfl rfl (by show p.phase < 5; omega) (by simp [sendR, freshR, nextR, acceptR]) (by simp [sendR, freshR, nextR, acceptR]) (fun h => .inl (by rcases h with h | h; omega; rw [hp] at h; simp at h)) (fun _ => ⟨rfl, rfl, rfl, rfl⟩)
    · split
      · split
        · exact fct_fail p _ _ 4 now
        · exact fct_agree p _ _ _ h3 hp rfl ⟨rfl, rfl, rfl, rfl⟩ rfl rfl rfl (by simp [openedR, acceptR]) rfl
      · exact fct_fail p _ _ 7 now
theorem fct_outside (p : Pr) (d : Sec) (now : Int) (h3 : p.phase = 3) (h6 : p.method = 6) : Fct p d.kind d.value (outsideR p d now) := by
  unfold outsideR
  simp only []
  split
  · exact fct_fail p _ _ 7 now
  · split
    · exact fct_proceed p _ _ _ (by omega) rfl ⟨rfl, rfl, rfl, rfl⟩ rfl rfl rfl (by omega) (by rw [h6]; decide) (by simp [acceptR]) rfl
    · exact fct_proceed p _ _ _ (by omega) rfl ⟨rfl, rfl, rfl, rfl⟩ rfl rfl rfl (by omega) (by rw [h6]; decide) (by simp [sendR, freshR, nextR, acceptR]) rfl
theorem fct_rounds (p : Pr) (d : Sec) (now : Int) (h3 : p.phase = 3) (hp : isPass p.method = true) : Fct p d.kind d.value (roundsR p d now) := by
  have hm : p.method ≠ 2 := by rintro h; rw [h] at hp; simp [isPass] at hp
  have hup : ∀ q : Pr, q.phase = p.phase → q.method = p.method → (4 ≤ q.phase ∨ (q.phase = 3 ∧ isPass q.method = true)) := fun q h1 h2 => .inr ⟨by rw [h1]; exact h3, by rw [h2]; exact hp⟩
  unfold roundsR
  simp only []
  split
  · split
    · exact fct_low p _ _ _ (by omega) rfl rfl rfl rfl (by show p.phase < 5; omega) (by simp [sendR, acceptR]) (by simp [sendR, acceptR]) (fun _ => hup _ rfl rfl) (fun _ => ⟨rfl, rfl, rfl, rfl⟩)
    · exact fct_low p _ _ _ (by omega) rfl rfl rfl rfl (by show p.phase < 5; omega) (by simp [commitR, freshR, nextR, sendR, acceptR]) (by simp [commitR, freshR, nextR, sendR, acceptR]) (fun _ => hup _ rfl rfl) (fun _ => ⟨rfl, rfl, rfl, rfl⟩)
  · split
    · exact fct_fail p _ _ 7 now
    · split
      · exact fct_fail p _ _ 4 now
      · by_cases hi : initR p = true
        · simp only [hi, if_true]
          split
          · exact fct_proceed p _ _ _ (by omega) rfl ⟨rfl, rfl, rfl, rfl⟩ rfl rfl rfl (by omega) hm (by simp [openedR, acceptR]) rfl
          · exact fct_low p _ _ _ (by omega) rfl rfl rfl rfl (by show p.phase < 5; omega) (by simp [commitR, freshR, nextR, sendR, openedR, acceptR]) (by simp [commitR, freshR, nextR, sendR, openedR, acceptR]) (fun _ => hup _ rfl rfl) (fun _ => ⟨rfl, rfl, rfl, rfl⟩)
        · simp only [hi, if_false, Bool.false_eq_true]
          split
          · exact fct_proceed p _ _ _ (by omega) rfl ⟨rfl, rfl, rfl, rfl⟩ rfl rfl rfl (by omega) hm (by simp [sendR, openedR, acceptR]) rfl
          · exact fct_low p _ _ _ (by omega) rfl rfl rfl rfl (by show p.phase < 5; omega) (by simp [sendR, openedR, acceptR]) (by simp [sendR, openedR, acceptR]) (fun _ => hup _ rfl rfl) (fun _ => ⟨rfl, rfl, rfl, rfl⟩)
theorem fct_waiting (p : Pr) (d : Sec) (now : Int) (h4 : p.phase = 4) : Fct p d.kind d.value (waitingR p d now) := by
  unfold waitingR
  simp only []
  split
  · exact fct_low p _ _ _ (by omega) rfl rfl rfl rfl (by show p.phase < 5; omega) (by simp [acceptR]) (by simp [acceptR]) (fun _ => .inl (by show 4 ≤ p.phase; omega)) (fun _ => ⟨rfl, rfl, rfl, rfl⟩)
  · split
    · rename_i h
      exact ⟨rfl, fun h => by omega, by simp [acceptR], fun _ => .inr ⟨h.2.2.1, rfl⟩, fun h => absurd h (by show ¬ 6 ≤ p.phase; omega), rfl, fun h => absurd h (by show ¬ 5 ≤ p.phase; omega), by simp [acceptR], fun _ => .inl (by show 4 ≤ p.phase; omega), fun _ => ⟨rfl, rfl, rfl, rfl⟩⟩
    · exact fct_fail p _ _ 7 now
theorem fct_checked (p : Pr) (d : Sec) (now : Int) (h5 : p.phase = 5) (hk : d.kind = 13) : Fct p d.kind d.value (checkedR p (acceptR p now) d.value now) := by
  unfold checkedR
  split
  · exact fct_fail p _ _ 11 now
  · rename_i hv
    split
    · rename_i hi
      refine ⟨rfl, fun _ => ⟨by show (5 : Int) ≤ 6; omega, rfl, rfl, rfl, rfl⟩, by simp [acceptR], fun h => .inl ⟨h, rfl⟩, fun _ _ => .inr ⟨hk, ?_, ?_⟩, rfl, fun _ _ _ => by omega, by simp [acceptR], fun _ => .inl (by show (4 : Int) ≤ 6; omega), fun _ => ⟨rfl, rfl, rfl, rfl⟩⟩
      · exact Decidable.not_not.mp hv
      · exact ltkR_init _ hi
    · rename_i hi
      refine ⟨rfl, fun _ => ⟨by show (5 : Int) ≤ 6; omega, rfl, rfl, rfl, rfl⟩, ?_, fun h => .inl ⟨h, rfl⟩, fun _ _ => .inr ⟨hk, ?_, ?_⟩, rfl, fun _ _ _ => by omega, by simp [sendR, acceptR], fun _ => .inl (by show (4 : Int) ≤ 6; omega), fun _ => ⟨rfl, rfl, rfl, rfl⟩⟩
      · simp only [sendR, acceptR, List.nil_append, List.mem_singleton]
        rintro e rfl _
        exact ⟨rfl, by show (5 : Int) ≤ 6; omega⟩
      · exact Decidable.not_not.mp hv
      · exact ltkR_resp _ hi
theorem fct_identity (p : Pr) (d : Sec) (now : Int) (h6 : p.phase = 6) : Fct p d.kind d.value (identityR p d now) := by
  unfold identityR
  split
  · exact fct_fail p _ _ 7 now
  · unfold finishR giveR
    split
    · exact ⟨rfl, fun _ => ⟨by show (5 : Int) ≤ 7; omega, rfl, rfl, rfl, rfl⟩, by simp [acceptR], fun h => .inl ⟨h, rfl⟩, fun _ _ => .inl ⟨by omega, by omega, rfl⟩, rfl, fun _ _ _ => by omega, by simp [acceptR, evt0], fun _ => .inl (by show (4 : Int) ≤ 7; omega), fun _ => ⟨rfl, rfl, rfl, rfl⟩⟩
    · exact ⟨rfl, fun _ => ⟨by show (5 : Int) ≤ 7; omega, rfl, rfl, rfl, rfl⟩, by simp [acceptR], fun h => .inl ⟨h, rfl⟩, fun _ _ => .inl ⟨by omega, by omega, rfl⟩, rfl, fun _ _ _ => by omega, by simp [acceptR, evt0], fun _ => .inl (by show (4 : Int) ≤ 7; omega), fun _ => ⟨rfl, rfl, rfl, rfl⟩⟩
theorem fct_handle (p : Pr) (d : Sec) (now : Int) : Fct p d.kind d.value (handleR p d now) := by
  unfold handleR
  split
  · exact fct_id p _ _
  · split
    · exact fct_fail p _ _ 7 now
    · split
      · unfold knownR
        split
        · split
          · exact fct_id p _ _
          · split
            · exact fct_features p d now (by omega)
            · exact fct_fail p _ _ 7 now
        · split
          · split
            · exact fct_features p d now (by omega)
            · exact fct_fail p _ _ 7 now
          · split
            · rename_i h2
              split
              · exact fct_public p d now h2
              · exact fct_fail p _ _ 7 now
            · split
              · rename_i h3
                split
                · rename_i h6
                  exact fct_outside p d now h3 h6
                · split
                  · rename_i hp
                    exact fct_rounds p d now h3 hp
                  · rename_i hp
                    exact fct_simple p d now h3 (by simpa using hp)
              · split
                · rename_i h4
                  exact fct_waiting p d now h4
                · split
                  · rename_i h5
                    split
                    · rename_i hk
                      exact fct_checked p d now h5 hk
                    · exact fct_fail p _ _ 7 now
                  · split
                    · rename_i h6
                      exact fct_identity p d now h6
                    · exact fct_fail p _ _ 7 now
      · split
        · exact fct_id p _ _
        · exact fct_noout (fct_fail p _ _ d.reason now)
theorem fct_enc (p : Pr) (now : Int) : Fct p 0 0#64 (encR p now) := by
  unfold encR
  split
  · exact fct_id p _ _
  · rename_i h
    have h6 : p.phase = 6 := by
      rcases Decidable.em (p.phase = 6) with h' | h'
      · exact h'
      · exact absurd (.inl h') h
    unfold finishR giveR
    simp only []
    split
    · exact ⟨rfl, fun _ => ⟨by show (5 : Int) ≤ p.phase; omega, rfl, rfl, rfl, rfl⟩, by simp [acceptR], fun h => .inl ⟨h, rfl⟩, fun _ _ => .inl ⟨by omega, by omega, rfl⟩, rfl, fun _ _ _ => by omega, by simp [acceptR], fun _ => .inl (by show (4 : Int) ≤ p.phase; omega), fun _ => ⟨rfl, rfl, rfl, rfl⟩⟩
    · split
      · split
        · exact ⟨rfl, fun _ => ⟨by show (5 : Int) ≤ p.phase; omega, rfl, rfl, rfl, rfl⟩, by simp [acceptR], fun h => .inl ⟨h, rfl⟩, fun _ _ => .inl ⟨by omega, by omega, rfl⟩, rfl, fun _ _ _ => by omega, by simp [acceptR], fun _ => .inl (by show (4 : Int) ≤ p.phase; omega), fun _ => ⟨rfl, rfl, rfl, rfl⟩⟩
        · exact ⟨rfl, fun _ => ⟨by show (5 : Int) ≤ p.phase; omega, rfl, rfl, rfl, rfl⟩, by simp [acceptR], fun h => .inl ⟨h, rfl⟩, fun _ _ => .inl ⟨by omega, by omega, rfl⟩, rfl, fun _ _ _ => by omega, by simp [acceptR], fun _ => .inl (by show (4 : Int) ≤ p.phase; omega), fun _ => ⟨rfl, rfl, rfl, rfl⟩⟩
      · split
        · exact ⟨rfl, fun _ => ⟨by show (5 : Int) ≤ 7; omega, rfl, rfl, rfl, rfl⟩, by simp [acceptR], fun h => .inl ⟨h, rfl⟩, fun _ _ => .inl ⟨by omega, by omega, rfl⟩, rfl, fun _ _ _ => by omega, by simp [acceptR, evt0], fun _ => .inl (by show (4 : Int) ≤ 7; omega), fun _ => ⟨rfl, rfl, rfl, rfl⟩⟩
        · exact ⟨rfl, fun _ => ⟨by show (5 : Int) ≤ 7; omega, rfl, rfl, rfl, rfl⟩, by simp [acceptR], fun h => .inl ⟨h, rfl⟩, fun _ _ => .inl ⟨by omega, by omega, rfl⟩, rfl, fun _ _ _ => by omega, by simp [acceptR, evt0], fun _ => .inl (by show (4 : Int) ≤ 7; omega), fun _ => ⟨rfl, rfl, rfl, rfl⟩⟩
theorem ufc_id (p : Pr) (a : Int) : Ufc p a ⟨p, [], []⟩ :=
  ⟨rfl, fun h => ⟨h, rfl, rfl, rfl, rfl⟩, by simp, fun h => ⟨h, rfl⟩, fun h h' => .inl ⟨h, h', rfl⟩, fun h => .inl h, fun h _ _ => .inl h, by simp, id, ⟨rfl, rfl, rfl, rfl⟩⟩
theorem ufc_fail (p : Pr) (a r now : Int) : Ufc p a (failR p r now) := by
  refine ⟨rfl, fun h => ⟨by show (5 : Int) ≤ 8; omega, rfl, rfl, rfl, rfl⟩, ?_, fun h => ⟨h, rfl⟩, fun h h' => ?_, fun h => .inl h, fun h h' _ => ?_, ?_, fun _ => .inl (by show (4 : Int) ≤ 8; omega), ⟨rfl, rfl, rfl, rfl⟩⟩
  · simp [failR]
  · exact absurd h' (by show ¬ (8 : Int) ≤ 7; omega)
  · exact absurd h' (by show ¬ (8 : Int) ≤ 7; omega)
  · simp [failR, evt0]
theorem ufc_user (p : Pr) (a now : Int) : Ufc p a (userR p a now) := by
  unfold userR
  split
  · exact ufc_id p a
  · rename_i h
    have h4 : p.phase = 4 := by
      rcases Decidable.em (p.phase = 4) with h' | h'
      · exact h'
      · exact absurd (.inl h') h
    simp only []
    split
    · rename_i hp
      split
      · exact ufc_fail p a 1 now
      · split
        · exact ⟨rfl, fun h => by omega, by simp [commitR, sendR, freshR, nextR, acceptR], fun h => ⟨h, rfl⟩, fun h => absurd h (by show ¬ (6 : Int) ≤ 3; omega), fun h => .inl h, fun h => absurd h (by show ¬ (5 : Int) ≤ 3; omega), by simp [commitR, sendR, freshR, nextR, acceptR], fun _ => .inr ⟨rfl, hp⟩, ⟨rfl, rfl, rfl, rfl⟩⟩
        · exact ⟨rfl, fun h => by omega, by simp [acceptR], fun h => ⟨h, rfl⟩, fun h => absurd h (by show ¬ (6 : Int) ≤ 3; omega), fun h => .inl h, fun h => absurd h (by show ¬ (5 : Int) ≤ 3; omega), by simp [acceptR], fun _ => .inr ⟨rfl, hp⟩, ⟨rfl, rfl, rfl, rfl⟩⟩
    · rename_i hp
      have hp' : isPass p.method = false := by simpa using hp
      split
      · exact ufc_id p a
      · split
        · exact ufc_fail p a 12 now
        · have ha : a = 1 := by omega
          subst ha
          split
          · rename_i hin
            unfold proceedR
            simp only []
            split
            · refine ⟨rfl, fun h => by omega, ?_, fun h => ⟨h, rfl⟩, fun h => absurd h (by show ¬ (6 : Int) ≤ 5; omega), fun h => .inr ⟨rfl, hp'⟩, fun _ _ _ => .inr rfl, by simp [sendR, acceptR], fun _ => .inl (by show (4 : Int) ≤ 5; omega), ⟨rfl, rfl, rfl, rfl⟩⟩
              simp only [sendR, acceptR, List.nil_append, List.mem_singleton]
              rintro e rfl _
              exact ⟨rfl, by show (5 : Int) ≤ 5; omega⟩
            · exact ⟨rfl, fun h => by omega, by simp [acceptR], fun h => ⟨h, rfl⟩, fun h => absurd h (by show ¬ (6 : Int) ≤ 5; omega), fun h => .inr ⟨rfl, hp'⟩, fun _ _ _ => .inr rfl, by simp [acceptR], fun _ => .inl (by show (4 : Int) ≤ 5; omega), ⟨rfl, rfl, rfl, rfl⟩⟩
          · rename_i hin
            have hin' : p.haveIn = true := by simpa using hin
            unfold checkedR
            split
            · exact ufc_fail p 1 11 now
            · rename_i hv
              have hv' := Decidable.not_not.mp hv
              unfold proceedR at hv' ⊢
              simp only [] at hv' ⊢
              by_cases hi : initR p = true
              · have e1 : ∀ q : Pr, q.cfg = p.cfg → initR q = true := fun q h => by unfold initR at hi ⊢; rw [h]; exact hi
                simp only [e1 _ (show ({ (acceptR p now).p with agreed := true, phase := 5 } : Pr).cfg = p.cfg from rfl), if_true] at hv' ⊢
                simp only [sendR] at hv' ⊢
                simp only [e1 _ (show ({ (acceptR p now).p with agreed := true, phase := 5, haveIn := false, checkIn := 0#64 } : Pr).cfg = p.cfg from rfl), if_true] at hv' ⊢
                refine ⟨rfl, fun h => by omega, ?_, fun h => absurd h (by simp), fun _ _ => .inr ⟨hin', hv', ?_⟩, fun _ => .inr ⟨rfl, hp'⟩, fun _ _ _ => .inr rfl, by simp [acceptR], fun _ => .inl (by show (4 : Int) ≤ 6; omega), ⟨rfl, rfl, rfl, rfl⟩⟩
                · simp only [sendR, acceptR, List.nil_append, List.mem_singleton]
                  rintro e rfl _
                  exact ⟨rfl, by show (5 : Int) ≤ 6; omega⟩
                · exact ltkR_init _ (e1 _ rfl)
              · have e1 : ∀ q : Pr, q.cfg = p.cfg → initR q = false := fun q h => by unfold initR at hi ⊢; rw [h]; simpa using hi
                simp only [e1 _ (show ({ (acceptR p now).p with agreed := true, phase := 5 } : Pr).cfg = p.cfg from rfl), if_false, Bool.false_eq_true] at hv' ⊢
                simp only [e1 _ (show ({ (acceptR p now).p with agreed := true, phase := 5, haveIn := false, checkIn := 0#64 } : Pr).cfg = p.cfg from rfl), if_false, Bool.false_eq_true] at hv' ⊢
                refine ⟨rfl, fun h => by omega, ?_, fun h => absurd h (by simp [sendR]), fun _ _ => .inr ⟨hin', hv', ?_⟩, fun _ => .inr ⟨rfl, hp'⟩, fun _ _ _ => .inr rfl, by simp [sendR, acceptR], fun _ => .inl (by show (4 : Int) ≤ 6; omega), ⟨rfl, rfl, rfl, rfl⟩⟩
                · simp only [sendR, acceptR, List.nil_append, List.mem_singleton]
                  rintro e rfl _
                  exact ⟨rfl, by show (5 : Int) ≤ 6; omega⟩
                · exact ltkR_resp _ hi
end Go.Proofs.YtihmbcnccdiecaaDoor
namespace Go.Proofs.YtihmbcnccdiecaaDoor
set_option maxRecDepth 100000
set_option linter.unusedVariables false
set_option linter.unusedSimpArgs false
theorem chg1_kind (n : Int) (d : Sec) (c : Chg) : (chg1 n d c).kind = d.kind := by
  unfold chg1; simp only []; split <;> split <;> rfl
theorem chg_kind (l : List Chg) (n : Int) : ∀ d, (chg l n d).kind = d.kind := by
  induction l with
  | nil => intro d; rfl
  | cons c l ih => intro d; show (chg l n (chg1 n d c)).kind = _; rw [ih, chg1_kind]
theorem play_inv (a b : Cfg) (l : List Chg) (common : Int) (J : Tk → Prop)
    (h0 : a.role = 0 → b.role = 1 → J (startT a b l))
    (hh : ∀ x b d rest n, Inv2 x → J x → x.line = (b, d) :: rest → J (stepT l b { x with line := rest } (handleR (x.side b) d n)))
    (hu : ∀ x b n, Inv2 x → J x → (x.side b).phase = 4 → J (stepT l b x (userR (x.side b) (x.answer b common) n)))
    (he : ∀ x b n, Inv2 x → J x → J (stepT l b x (encR (x.side b) n))) : (playT a b l common).ok = true → Inv2 (playT a b l common) ∧ J (playT a b l common) := by
  intro hk
  rcases play_cases a b l common with h | ⟨h1, h2, h3, h4, h⟩
  · rw [h] at hk; exact absurd hk (by decide)
  · rw [h]
    exact run_inv l common J hh hu he 400 0 _ (by omega) (by decide) (start_inv l h1 h2 h3) (h0 h3 h4)
end Go.Proofs.YtihmbcnccdiecaaDoor
namespace Go.Proofs.YtihmbcnccdiecaaDoor
set_option maxRecDepth 100000
open Go.ChangeShapes Go.WideShapes Go.ChangeAt Go.RowKit
set_option linter.unusedVariables false
def ls_change : List TypeId := [3, 30, 24]
theorem leaf_change : LeafOf Tryd.prog 70 ls_change := leaf_struct (P := Tryd.prog) [[3], [30], [24]] Tryd.underlying70 (by kernel_rfl) ⟨leaf_one (by kernel_rfl), rfl, leaf_one (by kernel_rfl), rfl, leaf_one (by kernel_rfl), rfl, trivial⟩
end Go.Proofs.YtihmbcnccdiecaaDoor
namespace Go.Proofs.YtihmbcnccdiecaaDoor
set_option maxRecDepth 100000
open Go.ChangeShapes Go.WideShapes Go.ChangeAt Go.RowKit
set_option linter.unusedVariables false
theorem change_rows_in {H : Type} {enc : TypeId × Value → H} {w : World} {base : Nat} {sp : Nat → Bool} {held : Bool} {a0 : Option Addr} {len0 cap0 : Nat} {d : DataW H} {ps : List MemPlace}
    (h : DataW.Trod enc Tryd.prog w base sp held 71 (.slice a0 len0 cap0) d ps) : ∃ rs : List R_change, len0 = rs.length ∧ rs.length ≤ cap0 ∧ Rd w a0 (rs.flatMap R_change.cells) ∧ ∀ r ∈ rs, r.ok w := by
  obtain ⟨css, hl, hc, hr, hcs⟩ := structs_in Tryd.underlying71 leaf_change h
  obtain ⟨rs, rfl, hq⟩ := rows_as R_change.cells (R_change.ok w) css (fun cs hm => by
    obtain ⟨hl, hg⟩ := hcs cs hm
    match cs, hl with
    | [c0, c1, c2], _ =>
      obtain ⟨n0, y0, h0⟩ := hg 0 _ _ rfl rfl
      obtain ⟨x0, rfl, w0⟩ := leaf_int (k := .i64) Tryd.underlying3 h0
      obtain ⟨n1, y1, h1⟩ := hg 1 _ _ rfl rfl
      obtain ⟨x1, rfl⟩ := leaf_u32 Tryd.underlying30 h1
      obtain ⟨n2, y2, h2⟩ := hg 2 _ _ rfl rfl
      obtain ⟨x2, rfl⟩ := leaf_u64 Tryd.underlying24 h2
      exact ⟨⟨x0, x1, x2⟩, rfl, ⟨w0, trivial⟩⟩)
  rw [List.length_map] at hl
  exact ⟨rs, hl.symm, by omega, hr, hq⟩
end Go.Proofs.YtihmbcnccdiecaaDoor
namespace Go.Proofs.YtihmbcnccdiecaaDoor
set_option maxRecDepth 100000
open Go.ChangeShapes Go.WideShapes Go.ChangeAt Go.RowKit
set_option linter.unusedVariables false
def chgR (r : R_change) : Chg := ⟨r.at_, r.pub, r.value⟩
theorem chgs_cells (rs : List R_change) : rs.flatMap R_change.cells = (rs.map chgR).flatMap chgL := by rw [List.flatMap_map]; rfl
end Go.Proofs.YtihmbcnccdiecaaDoor
