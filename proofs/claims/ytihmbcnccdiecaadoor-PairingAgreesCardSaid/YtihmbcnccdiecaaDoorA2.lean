/- Part of the proofs of the laws of pairing. -/
import Derived.ChangeArms
import Derived.ChangeOld
import Derived.ChangeSame
import Derived.Deep.MidRow
import Derived.Deep.Slices
import Derived.Handy
import Derived.LaidMore
import Derived.OpenShut
import Derived.ProofKit
import Derived.SevenTiedAt
import Derived.Stop.Joined
import Derived.Test.YtihmbcnccdiecaaDoorCards
import Derived.Test.YtihmbcnccdiecaaDoorRows
import Derived.Test.YtihmbcnccdiecaaDoorTie
import Derived.WalkKit
import Derived.Test.YtihmbcnccdiecaaDoorA1
namespace Go.Proofs.YtihmbcnccdiecaaDoor
set_option linter.unusedVariables false
structure Stp where
  p : Pr
  out : List Sec
  ev : List Evt
def initR (p : Pr) : Bool := decide (p.cfg.role = 0)
def ownR (p : Pr) : BitVec 32 := pubK p.cfg.secret
def failR (p : Pr) (reason now : Int) : Stp := ⟨{ p with phase := 8, since := now, reason := reason }, [{ sec0 with kind := 5, reason := reason }], [{ evt0 with kind := 4, reason := reason }]⟩
def acceptR (p : Pr) (now : Int) : Stp := ⟨{ p with since := now }, [], []⟩
def sendR (s : Stp) (kind : Int) (v : BitVec 64) : Stp := { s with out := s.out ++ [{ sec0 with kind := kind, value := v }] }
def reportR (s : Stp) (kind n : Int) : Stp := { s with ev := s.ev ++ [{ evt0 with kind := kind, number := n }] }
def nextV (s : Stp) : BitVec 64 := drawK s.p.cfg.seed s.p.drawn
def nextR (s : Stp) : Stp := { s with p := { s.p with drawn := bump s.p.drawn } }
def freshR (s : Stp) : Stp := { nextR s with p := { (nextR s).p with nonce := nextV s } }
def roundR (p : Pr) : BitVec 8 := if isPass p.method then BitVec.ofInt 8 (128 + (p.passkey / 2 ^ p.round.toNat) % 2) else 0#8
def commitR (s : Stp) : Stp := sendR (freshR s) 3 (commitK (ownR (freshR s).p) (freshR s).p.peerKey (freshR s).p.nonce (roundR (freshR s).p))
def opensR (p : Pr) (v : BitVec 64) : Bool := decide (commitK p.peerKey (ownR p) v (roundR p) = p.commit)
def featuresR (p : Pr) (d : Sec) (now : Int) : Stp :=
  let q : Pr := if initR p then { p with since := now, peer := d.feat, res := d.feat } else { p with since := now, peer := d.feat, req := d.feat, res := p.cfg.feat }
  if enoughK q.req q.res = false then failR p 3 now
  else ⟨{ q with method := (chooseK q.req q.res).1, phase := 2 }, if initR p then [{ sec0 with kind := 12, pub := ownR p }] else [{ sec0 with kind := 2, feat := p.cfg.feat }], []⟩
def showsR (p : Pr) : Bool := (decide (p.method = 3) && initR p) || (decide (p.method = 4) && !initR p)
def beginR (s0 : Stp) : Stp :=
  let s : Stp := { s0 with p := { s0.p with phase := 3 } }
  if s.p.method = 6 then (if initR s.p then sendR (freshR s) 4 (freshR s).p.nonce else s)
  else if isPass s.p.method = false then (if initR s.p then s else commitR s)
  else if showsR s.p = false then reportR { s with p := { s.p with phase := 4 } } 2 0
  else
    let t : Stp := { nextR s with p := { (nextR s).p with passkey := ((nextV s % 1000000#64).toNat : Int) } }
    let u := reportR t 1 t.p.passkey
    if initR u.p then commitR u else u
def publicR (p : Pr) (d : Sec) (now : Int) : Stp :=
  if validK d.pub = false ∨ d.pub = ownR p then failR p 13 now
  else if p.cfg.feat.oob = true ∧ p.cfg.oob.value ≠ commitK d.pub d.pub p.cfg.oob.random 0#8 then failR p 2 now
  else beginR ⟨{ p with since := now, peerKey := d.pub, shared := sharedK p.cfg.secret d.pub }, if initR p then [] else [{ sec0 with kind := 12, pub := ownR p }], []⟩
def extraR (p : Pr) (has : Bool) (random : BitVec 64) : BitVec 64 := if isPass p.method then BitVec.ofInt 64 p.passkey else if decide (p.method = 6) && has then random else 0#64
def ownCheckR (p : Pr) : BitVec 64 := checkV p.shared p.nonce (extraR p p.cfg.feat.oob p.cfg.oob.random) p.cfg.feat p.cfg.own p.cfg.peer
def otherCheckR (p : Pr) : BitVec 64 := checkV p.shared p.other (extraR p p.peer.oob p.cfg.mine) p.peer p.cfg.peer p.cfg.own
def proceedR (s : Stp) : Stp :=
  let t : Stp := { s with p := { s.p with phase := 5 } }
  if initR t.p then sendR t 13 (ownCheckR t.p) else t
def agreeR (s : Stp) : Stp :=
  if s.p.method = 1 then proceedR s
  else
    let t : Stp := { s with p := { s.p with phase := 4 } }
    if initR t.p then reportR t 1 ((digitsK (ownR t.p) t.p.peerKey t.p.nonce t.p.other).toNat : Int)
    else reportR t 1 ((digitsK t.p.peerKey (ownR t.p) t.p.other t.p.nonce).toNat : Int)
def openedR (s : Stp) (v : BitVec 64) : Stp := { s with p := { s.p with have_ := false, commit := 0#64, other := v } }
def simpleR (p : Pr) (d : Sec) (now : Int) : Stp :=
  let s := acceptR p now
  if initR p = false ∧ d.kind = 4 then agreeR (sendR { s with p := { s.p with other := d.value } } 4 p.nonce)
  else if initR p = true ∧ d.kind = 3 ∧ p.have_ = false then
    (let t := freshR { s with p := { s.p with commit := d.value, have_ := true } }
     sendR t 4 t.p.nonce)
  else if initR p = true ∧ d.kind = 4 ∧ p.have_ = true then (if opensR p d.value = false then failR p 4 now else agreeR (openedR s d.value))
  else failR p 7 now
def outsideR (p : Pr) (d : Sec) (now : Int) : Stp :=
  if d.kind ≠ 4 then failR p 7 now
  else
    let s : Stp := { acceptR p now with p := { (acceptR p now).p with other := d.value } }
    if initR p then proceedR s else proceedR (sendR (freshR s) 4 (freshR s).p.nonce)
def roundsR (p : Pr) (d : Sec) (now : Int) : Stp :=
  let s := acceptR p now
  if d.kind = 3 ∧ p.have_ = false then
    (let t : Stp := { s with p := { s.p with commit := d.value, have_ := true } }
     if initR p then sendR t 4 p.nonce else commitR t)
  else if d.kind ≠ 4 ∨ p.have_ = false then failR p 7 now
  else if opensR p d.value = false then failR p 4 now
  else
    let t : Stp := { openedR s d.value with p := { (openedR s d.value).p with round := p.round + 1 } }
    let u := if initR p then t else sendR t 4 p.nonce
    if u.p.round = 20 then proceedR u else if initR p then commitR u else u
def waitingR (p : Pr) (d : Sec) (now : Int) : Stp :=
  let s := acceptR p now
  if initR p = false ∧ isPass p.method = true ∧ d.kind = 3 ∧ p.have_ = false then { s with p := { s.p with commit := d.value, have_ := true } }
  else if initR p = false ∧ p.method = 2 ∧ d.kind = 13 ∧ p.haveIn = false then { s with p := { s.p with checkIn := d.value, haveIn := true } }
  else failR p 7 now
def checkedR (before : Pr) (s : Stp) (v : BitVec 64) (now : Int) : Stp :=
  if v ≠ otherCheckR s.p then failR before 11 now
  else if initR s.p then { s with p := { s.p with phase := 6, ltk := ltkV s.p.shared s.p.nonce s.p.other s.p.cfg.own s.p.cfg.peer } }
  else sendR { s with p := { s.p with phase := 6, ltk := ltkV s.p.shared s.p.other s.p.nonce s.p.cfg.peer s.p.cfg.own } } 13 (ownCheckR s.p)
def finishR (s : Stp) : Stp := { s with p := { s.p with phase := 7 }, ev := s.ev ++ [{ evt0 with kind := 3, key := s.p.ltk, strong := (chooseK s.p.req s.p.res).2, idn := s.p.idn }] }
def giveR (s : Stp) (sends : Bool) : Stp := if sends then { s with out := s.out ++ [{ sec0 with kind := 8, idn := s.p.cfg.idn }] } else s
def sidesR (p : Pr) : Bool × Bool := if initR p then identsK p.req p.res else ((identsK p.req p.res).2, (identsK p.req p.res).1)
def identityR (p : Pr) (d : Sec) (now : Int) : Stp :=
  if d.kind ≠ 8 ∨ p.crypt = false ∨ (sidesR p).2 = false then failR p 7 now
  else finishR (giveR { acceptR p now with p := { (acceptR p now).p with idn := d.idn } } ((sidesR p).1 && initR p))
def knownR (p : Pr) (d : Sec) (now : Int) : Stp :=
  if p.phase = 0 then
    (if initR p = true ∧ d.kind = 11 then ⟨p, [], []⟩ else if initR p = false ∧ d.kind = 1 then featuresR p d now else failR p 7 now)
  else if p.phase = 1 then (if d.kind = 2 then featuresR p d now else failR p 7 now)
  else if p.phase = 2 then (if d.kind = 12 then publicR p d now else failR p 7 now)
  else if p.phase = 3 then (if p.method = 6 then outsideR p d now else if isPass p.method then roundsR p d now else simpleR p d now)
  else if p.phase = 4 then waitingR p d now
  else if p.phase = 5 then (if d.kind = 13 then checkedR p (acceptR p now) d.value now else failR p 7 now)
  else if p.phase = 6 then identityR p d now
  else failR p 7 now
def handleR (p : Pr) (d : Sec) (now : Int) : Stp :=
  if p.phase = 7 ∨ p.phase = 8 then ⟨p, [], []⟩
  else if secK d ≠ 0 then failR p 7 now
  else if d.kind ≠ 5 then knownR p d now
  else if p.phase = 0 then ⟨p, [], []⟩
  else { failR p d.reason now with out := [] }
def userR (p : Pr) (answer now : Int) : Stp :=
  if p.phase ≠ 4 ∨ answer < -1 ∨ 999999 < answer then ⟨p, [], []⟩
  else
    let s := acceptR p now
    if isPass p.method then
      (if answer < 0 then failR p 1 now
       else
        let t : Stp := { s with p := { s.p with passkey := answer, phase := 3 } }
        if initR p = true ∨ p.have_ = true then commitR t else t)
    else if 1 < answer then ⟨p, [], []⟩
    else if answer < 1 then failR p 12 now
    else
      let t := proceedR { s with p := { s.p with agreed := true } }
      if p.haveIn = false then t else checkedR p { t with p := { t.p with haveIn := false, checkIn := 0#64 } } p.checkIn now
def encR (p : Pr) (now : Int) : Stp :=
  if p.phase ≠ 6 ∨ p.crypt = true then ⟨p, [], []⟩
  else
    let s : Stp := { acceptR p now with p := { (acceptR p now).p with crypt := true } }
    if initR p = true ∧ (sidesR p).2 = true then s
    else if (sidesR p).2 = true then giveR s (sidesR p).1 else finishR (giveR s (sidesR p).1)
structure Inv (p : Pr) : Prop where
  role : p.cfg.role = 0 ∨ p.cfg.role = 1
  ph : 0 ≤ p.phase ∧ p.phase ≤ 8
  since : 0 ≤ p.since ∧ p.since ≤ 1099511627776
  one : p.phase = 1 → p.cfg.role = 0
  user : p.phase = 4 → isPass p.method = false → p.method = 2
  pass : p.phase = 3 → isPass p.method = true → 0 ≤ p.passkey
  round : 0 ≤ p.round ∧ p.round ≤ 20
  less : p.phase ≤ 4 → p.round < 20
  meth : 2 ≤ p.phase → p.phase ≤ 6 → 1 ≤ p.method ∧ p.method ≤ 6
def outR (s : Stp) : Pr × List Sec × List Evt := (s.p, s.out, s.ev)
end Go.Proofs.YtihmbcnccdiecaaDoor
namespace Go.Proofs.YtihmbcnccdiecaaDoor
set_option linter.unusedVariables false
set_option linter.unusedSimpArgs false
theorem idle_eq (p : Pr) (d : Sec) (now : Int) (hr : p.cfg.role = 1) (hk : d.kind = 1) : ((handleK p now).idle d).2 = true ∧ ((handleK p now).idle d).1.out = outR (featuresR p d now) := by
  unfold Sd.idle Sd.first handleK
  dsimp only
  rw [if_neg (by simp [hr, hk])]
  refine ⟨rfl, ?_⟩
  unfold featuresR initR Sd.idleS Sd.choose Sd.setP Sd.accept
  dsimp only
  rw [show decide (p.cfg.role = 0) = false by simp [hr]]
  by_cases he : enoughK d.feat p.cfg.feat = false
  · simp [he]; rfl
  · simp [he]; rfl
theorem features_eq (p : Pr) (d : Sec) (now : Int) (hr : p.cfg.role = 0) (hk : d.kind = 2) : ((handleK p now).features d).2 = true ∧ ((handleK p now).features d).1.out = outR (featuresR p d now) := by
  unfold Sd.features Sd.first handleK
  dsimp only
  rw [if_neg (by simp [hr, hk])]
  refine ⟨rfl, ?_⟩
  unfold featuresR initR Sd.featS Sd.choose Sd.setP Sd.accept
  dsimp only
  rw [show decide (p.cfg.role = 0) = true by simp [hr]]
  by_cases he : enoughK p.req d.feat = false
  · simp [he]; rfl
  · simp [he]; rfl
theorem zr (s : Sd) : s.z = roundR s.p := by
  unfold Sd.z roundR Sd.pass
  by_cases h : isPass s.p.method = true
  · rw [if_pos h, if_pos h, BitVec.ofInt_add]; rfl
  · rw [if_neg h, if_neg h]
def stpOf (s : Sd) : Stp := ⟨s.p, s.sent, s.told⟩
theorem out_of (s : Sd) : s.out = outR (stpOf s) := rfl
theorem fresh_eq (s : Sd) : stpOf s.fresh = freshR (stpOf s) := rfl
theorem commit_eq (s : Sd) : stpOf s.commit = commitR (stpOf s) := by
  unfold Sd.commit commitR
  rw [← fresh_eq]
  have h := zr s
  have h2 : roundR (stpOf s.fresh).p = roundR s.p := rfl
  rw [h2, ← h]
  rfl
theorem random_eq (s : Sd) : stpOf s.random = sendR (stpOf s) 4 s.p.nonce := rfl
def shown (s : Sd) : Sd := Sd.tell { (Sd.draw { s with p := { s.p with phase := 3 } }) with p := { (Sd.draw { s with p := { s.p with phase := 3 } }).p with passkey := ((s.drawV % 1000000#64).toNat : Int) } } { evt0 with kind := 1, number := ((s.drawV % 1000000#64).toNat : Int) }
theorem begin_shows (s : Sd) : stpOf (if ((decide (s.p.cfg.role = 0) && decide (s.p.method = 3)) || (!decide (s.p.cfg.role = 0) && decide (s.p.method = 4))) = true then (if decide (s.p.cfg.role = 0) = true then (shown s).commit else shown s) else Sd.tell { s with p := { s.p with phase := 4 } } { evt0 with kind := 2 }) =
    (if ((decide (s.p.method = 3) && decide (s.p.cfg.role = 0)) || (decide (s.p.method = 4) && !decide (s.p.cfg.role = 0))) = false then reportR { p := { s.p with phase := 4 }, out := s.sent, ev := s.told } 2 0 else (if decide (s.p.cfg.role = 0) = true then commitR (stpOf (shown s)) else stpOf (shown s))) := by
  by_cases h0 : s.p.cfg.role = 0
  · by_cases h3 : s.p.method = 3
    · rw [if_pos (by simp [h0, h3]), if_pos (by simp [h0]), if_neg (by simp [h0, h3]), if_pos (by simp [h0])]
      exact commit_eq _
    · rw [if_neg (by simp [h0, h3]), if_pos (by simp [h0, h3])]
      rfl
  · by_cases h4 : s.p.method = 4
    · rw [if_pos (by simp [h0, h4]), if_neg (by simp [h0]), if_neg (by simp [h0, h4]), if_neg (by simp [h0])]
    · rw [if_neg (by simp [h0, h4]), if_pos (by simp [h0, h4])]
      rfl
theorem begin_eq (s : Sd) : stpOf s.begin_ = beginR (stpOf s) := by
  unfold Sd.begin_ beginR Sd.first initR Sd.pass Sd.shows showsR Sd.setP
  dsimp only [stpOf]
  by_cases h6 : s.p.method = 6
  · rw [if_pos h6, if_pos h6]
    by_cases h0 : s.p.cfg.role = 0
    · simp [h0]; rfl
    · simp [h0]
  rw [if_neg h6, if_neg h6]
  by_cases hp : isPass s.p.method = false
  · rw [if_pos hp, if_pos hp]
    by_cases h0 : s.p.cfg.role = 0
    · simp [h0]
    · simp [h0]
      exact commit_eq { s with p := { s.p with phase := 3 } }
  · rw [if_neg hp, if_neg hp]
    exact begin_shows s
theorem public_eq (p : Pr) (d : Sec) (now : Int) (hk : d.kind = 12) : ((handleK p now).public_ d).2 = true ∧ stpOf ((handleK p now).public_ d).1 = publicR p d now := by
  unfold Sd.public_ publicR
  rw [if_neg (by simp [hk])]
  have ho : (handleK p now).own = ownR p := rfl
  rw [ho]
  by_cases h1 : validK d.pub = false ∨ d.pub = ownR p
  · rw [if_pos h1, if_pos h1]; exact ⟨rfl, rfl⟩
  rw [if_neg h1, if_neg h1]
  by_cases h2 : p.cfg.feat.oob = true ∧ p.cfg.oob.value ≠ commitK d.pub d.pub p.cfg.oob.random 0#8
  · rw [if_pos (show (handleK p now).p.cfg.feat.oob = true ∧ (handleK p now).p.cfg.oob.value ≠ commitK d.pub d.pub (handleK p now).p.cfg.oob.random 0#8 from h2), if_pos h2]; exact ⟨rfl, rfl⟩
  rw [if_neg (show ¬ ((handleK p now).p.cfg.feat.oob = true ∧ (handleK p now).p.cfg.oob.value ≠ commitK d.pub d.pub (handleK p now).p.cfg.oob.random 0#8) from h2), if_neg h2]
  refine ⟨rfl, ?_⟩
  by_cases h0 : p.cfg.role = 0
  · have hf : (handleK p now).first = true := by unfold Sd.first handleK; simp [h0]
    have hi : initR p = true := by unfold initR; simp [h0]
    rw [if_neg (by simp [hf]), if_pos hi, begin_eq]; rfl
  · have hf : (handleK p now).first = false := by unfold Sd.first handleK; simp [h0]
    have hi : ¬ initR p = true := by unfold initR; simp [h0]
    rw [if_pos hf, if_neg hi, begin_eq]; rfl
theorem toChecks_eq (s : Sd) : stpOf s.toChecks = proceedR (stpOf s) := by
  unfold Sd.toChecks proceedR Sd.first initR
  by_cases h0 : s.p.cfg.role = 0
  · simp [h0, stpOf, Sd.setP, Sd.send, sendR]; rfl
  · simp [h0, stpOf, Sd.setP]
theorem exchanged_eq (s : Sd) : stpOf s.exchanged = agreeR (stpOf s) := by
  unfold Sd.exchanged agreeR
  by_cases h1 : s.p.method = 1
  · rw [if_pos h1, if_pos (show (stpOf s).p.method = 1 from h1)]; exact toChecks_eq s
  · rw [if_neg h1, if_neg (show ¬ (stpOf s).p.method = 1 from h1)]
    unfold Sd.digits byR Sd.first initR
    by_cases h0 : s.p.cfg.role = 0
    · simp [h0, stpOf]; rfl
    · simp [h0, stpOf]; rfl
def fin_ (r : Sd × Bool) : Sd := if r.2 then r.1 else r.1.fail 7
theorem fin_yes (s : Sd) : fin_ (s, true) = s := rfl
theorem first_of {s : Sd} {p : Pr} (h : s.p.cfg = p.cfg) : s.first = initR p := by unfold Sd.first initR; rw [h]
theorem init_t {p : Pr} (h : p.cfg.role = 0) : initR p = true := by unfold initR; simp [h]
theorem init_f {p : Pr} (h : ¬ p.cfg.role = 0) : initR p = false := by unfold initR; simp [h]
theorem authOOB_eq (p : Pr) (d : Sec) (now : Int) : stpOf (fin_ ((handleK p now).authOOB d)) = outsideR p d now := by
  unfold Sd.authOOB outsideR
  by_cases hk : d.kind ≠ 4
  · rw [if_pos hk, if_pos hk]; rfl
  rw [if_neg hk, if_neg hk]
  have hf : (handleK p now).first = initR p := first_of rfl
  rw [fin_yes, hf]
  by_cases h0 : p.cfg.role = 0
  · rw [init_t h0, if_neg (by decide), if_pos rfl, toChecks_eq]; rfl
  · rw [init_f h0, if_pos rfl, if_neg (by decide), toChecks_eq, random_eq, fresh_eq]; rfl
theorem opens_eq (p : Pr) (now : Int) (v : BitVec 64) : (handleK p now).opens v = opensR p v := by
  unfold Sd.opens opensR
  rw [zr]
  rfl
theorem take_yes (p : Pr) (d : Sec) (now : Int) (h3 : d.kind = 3) (hh : p.have_ = false) : (handleK p now).take d = ((handleK p now).accept.setP { (handleK p now).accept.p with commit := d.value, have_ := true }, true) := by
  unfold Sd.take
  rw [if_neg]
  rintro (h | h)
  · exact h h3
  · rw [show (handleK p now).p.have_ = p.have_ from rfl, hh] at h
    cases h
theorem take_no (p : Pr) (d : Sec) (now : Int) (h : ¬ (d.kind = 3 ∧ p.have_ = false)) : (handleK p now).take d = (handleK p now, false) := by
  unfold Sd.take
  rw [if_pos]
  by_cases h3 : d.kind = 3
  · refine .inr ?_
    show p.have_ = true
    rcases hh : p.have_ with _ | _
    · exact absurd ⟨h3, hh⟩ h
    · rfl
  · exact .inl h3
theorem open_no (p : Pr) (d : Sec) (now : Int) (h : opensR p d.value = false) : (handleK p now).open_ d = ((handleK p now).accept.fail 4, false) := by
  unfold Sd.open_
  rw [opens_eq, if_pos h]
theorem open_yes (p : Pr) (d : Sec) (now : Int) (h : ¬ opensR p d.value = false) : (handleK p now).open_ d = ((handleK p now).accept.setP { (handleK p now).accept.p with have_ := false, commit := 0#64, other := d.value }, true) := by
  unfold Sd.open_
  rw [opens_eq, if_neg h]
theorem authFirst_eq (p : Pr) (d : Sec) (now : Int) (h0 : p.cfg.role = 0) : stpOf (fin_ ((handleK p now).authFirst d)) = simpleR p d now := by
  unfold Sd.authFirst simpleR
  rw [init_t h0]
  have e1 : (handleK p now).p.have_ = p.have_ := rfl
  rw [e1]
  by_cases h3 : d.kind = 3 ∧ p.have_ = false
  · rw [take_yes p d now h3.1 h3.2, if_pos rfl, if_neg (by simp), if_pos ⟨rfl, h3⟩, fin_yes, random_eq, fresh_eq]; rfl
  · rw [take_no p d now h3, if_neg (by simp), if_neg (fun h : true = false ∧ _ => by cases h.1), if_neg (fun h : true = true ∧ d.kind = 3 ∧ p.have_ = false => h3 h.2)]
    by_cases h4 : d.kind = 4 ∧ p.have_ = true
    · have n4 : ¬ (d.kind ≠ 4 ∨ p.have_ = false) := by
        rintro (h | h)
        · exact h h4.1
        · rw [h4.2] at h; cases h
      have y4 : true = true ∧ d.kind = 4 ∧ p.have_ = true := ⟨rfl, h4⟩
      rw [if_neg n4, if_pos y4]
      by_cases ho : opensR p d.value = false
      · rw [open_no p d now ho, if_pos ho]; rfl
      · rw [open_yes p d now ho, if_neg ho]
        exact exchanged_eq _
    · have y4 : d.kind ≠ 4 ∨ p.have_ = false := by
        by_cases hk : d.kind = 4
        · refine .inr ?_
          rcases hh : p.have_ with _ | _
          · rfl
          · exact absurd ⟨hk, hh⟩ h4
        · exact .inl hk
      rw [if_pos y4, if_neg (fun h : true = true ∧ d.kind = 4 ∧ p.have_ = true => h4 h.2)]
      rfl
theorem authRest_eq (p : Pr) (d : Sec) (now : Int) (h0 : ¬ p.cfg.role = 0) : stpOf (fin_ (if d.kind ≠ 4 then (handleK p now, false) else (((handleK p now).accept.setP { (handleK p now).accept.p with other := d.value }).random.exchanged, true))) = simpleR p d now := by
  unfold simpleR
  rw [init_f h0]
  by_cases h4 : d.kind = 4
  · rw [if_neg (by simp [h4]), if_pos ⟨rfl, h4⟩, fin_yes, exchanged_eq]; rfl
  · rw [if_pos h4, if_neg (by simp [h4]), if_neg (by simp), if_neg (by simp)]; rfl
theorem authPass_eq (p : Pr) (d : Sec) (now : Int) : stpOf (fin_ ((handleK p now).authPasskey d)) = roundsR p d now := by
  unfold Sd.authPasskey roundsR
  have hf : (handleK p now).first = initR p := first_of rfl
  have e1 : (handleK p now).p.have_ = p.have_ := rfl
  rw [e1, hf]
  by_cases h3 : d.kind = 3 ∧ p.have_ = false
  · rw [take_yes p d now h3.1 h3.2, if_pos rfl, if_pos h3, fin_yes]
    by_cases h0 : p.cfg.role = 0
    · rw [init_t h0, if_pos rfl, if_pos rfl, random_eq]; rfl
    · rw [init_f h0, if_neg (by decide), if_neg (by decide), commit_eq]; rfl
  · rw [take_no p d now h3, if_neg (by simp), if_neg h3]
    by_cases h4 : d.kind ≠ 4 ∨ p.have_ = false
    · rw [if_pos h4, if_pos h4]; rfl
    rw [if_neg h4, if_neg h4]
    by_cases ho : opensR p d.value = false
    · rw [open_no p d now ho, if_pos rfl, if_pos ho]; rfl
    rw [open_yes p d now ho, if_neg (by simp), if_neg ho, fin_yes]
    have er : (handleK p now).p.round = p.round := rfl
    rw [er]
    by_cases h0 : p.cfg.role = 0
    · rw [init_t h0]
      dsimp only
      by_cases h20 : p.round + 1 = 20
      · rw [if_pos h20, if_neg (by decide), toChecks_eq]
        exact (if_pos h20).symm
      · rw [if_neg h20, if_pos rfl, if_neg (by decide), commit_eq]
        exact (if_neg h20).symm
    · rw [init_f h0]
      dsimp only
      by_cases h20 : p.round + 1 = 20
      · rw [if_pos h20, if_pos rfl, toChecks_eq, random_eq]
        exact (if_pos h20).symm
      · rw [if_neg h20, if_neg (by decide), if_pos rfl, random_eq]
        exact (if_neg h20).symm
theorem early_eq (p : Pr) (d : Sec) (now : Int) (hu : isPass p.method = false → p.method = 2) : stpOf (fin_ ((handleK p now).early d)) = waitingR p d now := by
  unfold Sd.early waitingR
  have hf : (handleK p now).first = initR p := first_of rfl
  have hpp : (handleK p now).pass = isPass p.method := rfl
  have e1 : (handleK p now).p.haveIn = p.haveIn := rfl
  rw [hf, hpp, e1]
  by_cases h0 : p.cfg.role = 0
  · rw [init_t h0, if_pos rfl, if_neg (fun h : true = false ∧ _ => by cases h.1), if_neg (fun h : true = false ∧ _ => by cases h.1)]
    rfl
  rw [init_f h0, if_neg Bool.false_ne_true]
  rcases hp : isPass p.method with _ | _
  · rw [if_neg Bool.false_ne_true, if_neg (fun h : false = false ∧ false = true ∧ _ => by cases h.2.1)]
    by_cases hk : d.kind = 13 ∧ p.haveIn = false
    · have n1 : ¬ (d.kind ≠ 13 ∨ p.haveIn = true) := by
        rintro (h | h)
        · exact h hk.1
        · rw [hk.2] at h; cases h
      rw [if_neg n1, if_pos ⟨rfl, hu hp, hk⟩]
      rfl
    · have y1 : d.kind ≠ 13 ∨ p.haveIn = true := by
        by_cases h : d.kind = 13
        · refine .inr ?_
          rcases hh : p.haveIn with _ | _
          · exact absurd ⟨h, hh⟩ hk
          · rfl
        · exact .inl h
      rw [if_pos y1, if_neg (fun h : false = false ∧ p.method = 2 ∧ d.kind = 13 ∧ p.haveIn = false => hk h.2.2)]
      rfl
  · rw [if_pos rfl]
    have hm : ¬ p.method = 2 := by
      intro h
      rw [h] at hp
      exact absurd hp (by decide)
    by_cases h3 : d.kind = 3 ∧ p.have_ = false
    · rw [take_yes p d now h3.1 h3.2, if_pos ⟨rfl, rfl, h3⟩]; rfl
    · rw [take_no p d now h3, if_neg (fun h : false = false ∧ true = true ∧ d.kind = 3 ∧ p.have_ = false => h3 h.2.2), if_neg (fun h : false = false ∧ p.method = 2 ∧ _ => hm h.2.1)]
      rfl
theorem checks_eq (s : Sd) (d : Sec) (hk : d.kind = 13) : stpOf (fin_ (s.checks d)) = checkedR s.was (stpOf s.accept) d.value s.now := by
  unfold Sd.checks checkedR
  rw [if_neg (show ¬ d.kind ≠ 13 from fun h => h hk)]
  have ho : s.otherCheck = otherCheckR (stpOf s.accept).p := rfl
  rw [ho]
  by_cases hv : d.value ≠ otherCheckR (stpOf s.accept).p
  · rw [if_pos hv, if_pos hv]; rfl
  rw [if_neg hv, if_neg hv, fin_yes]
  have hf : s.first = initR (stpOf s.accept).p := first_of rfl
  rw [hf]
  unfold Sd.ltk byR
  rw [hf]
  rcases initR (stpOf s.accept).p with _ | _
  · rfl
  · rfl
theorem keys_eq (p : Pr) (d : Sec) (now : Int) : stpOf (fin_ ((handleK p now).keys d)) = identityR p d now := by
  unfold Sd.keys identityR
  have hf : (handleK p now).first = initR p := first_of rfl
  have e1 : (handleK p now).p.crypt = p.crypt := rfl
  have hd : (handleK p now).dist = sidesR p := by
    unfold Sd.dist sidesR byR
    rw [hf]
    rcases initR p with _ | _ <;> rfl
  rw [e1, hd, hf]
  by_cases h : d.kind ≠ 8 ∨ p.crypt = false ∨ (sidesR p).2 = false
  · rw [if_pos h, if_pos h]; rfl
  rw [if_neg h, if_neg h, fin_yes]
  have hi : ∀ t : Sd, t.p.cfg = p.cfg → t.p.req = p.req → t.p.res = p.res → t.identity = (if (sidesR p).1 = true then t.send { sec0 with kind := 8, idn := t.p.cfg.idn } else t) := by
    intro t h1 h2 h3
    unfold Sd.identity
    have : t.dist = sidesR p := by
      unfold Sd.dist sidesR byR
      rw [first_of h1, h2, h3]
      rcases initR p with _ | _ <;> rfl
    rw [this]
  rcases hr : initR p with _ | _
  · rw [if_neg Bool.false_ne_true]
    unfold giveR
    rw [if_neg (by simp)]
    rfl
  · rw [if_pos rfl]
    unfold giveR
    rw [hi _ rfl rfl rfl]
    rcases (sidesR p).1 with _ | _ <;> rfl
theorem auth_eq (p : Pr) (d : Sec) (now : Int) : stpOf (fin_ ((handleK p now).auth d)) = (if p.method = 6 then outsideR p d now else if isPass p.method = true then roundsR p d now else simpleR p d now) := by
  unfold Sd.auth
  have hm : (handleK p now).p.method = p.method := rfl
  have hpp : (handleK p now).pass = isPass p.method := rfl
  have hf : (handleK p now).first = initR p := first_of rfl
  rw [hm, hpp, hf]
  by_cases h6 : p.method = 6
  · rw [if_pos h6, if_pos h6]; exact authOOB_eq p d now
  rw [if_neg h6, if_neg h6]
  rcases hp : isPass p.method with _ | _
  · rw [if_neg Bool.false_ne_true, if_neg Bool.false_ne_true]
    by_cases h0 : p.cfg.role = 0
    · rw [init_t h0, if_pos rfl]; exact authFirst_eq p d now h0
    · rw [init_f h0, if_neg Bool.false_ne_true]; exact authRest_eq p d now h0
  · rw [if_pos rfl, if_pos rfl]; exact authPass_eq p d now
theorem handle_eq (p : Pr) (d : Sec) (now : Int) (hi : Inv p) : handleP p d now = outR (handleR p d now) := by
  unfold handleP handleS handleR
  have e0 : (handleK p now).p.phase = p.phase := rfl
  have hf : (handleK p now).first = initR p := first_of rfl
  rw [e0, hf]
  have hph := hi.ph
  by_cases h7 : p.phase = 7 ∨ p.phase = 8
  · rw [if_pos (show p.phase < 0 ∨ 6 < p.phase by omega), if_pos h7]; rfl
  rw [if_neg (show ¬ (p.phase < 0 ∨ 6 < p.phase) by omega), if_neg h7]
  by_cases hs : secK d ≠ 0
  · rw [if_pos hs, if_pos hs]; rfl
  rw [if_neg hs, if_neg hs]
  by_cases h5 : d.kind = 5
  · rw [if_pos h5, if_neg (show ¬ d.kind ≠ 5 from fun h => h h5)]
    by_cases h0 : p.phase = 0
    · rw [if_neg (show ¬ p.phase ≠ 0 from fun h => h h0), if_pos h0]; rfl
    · rw [if_pos h0, if_neg h0]; rfl
  rw [if_neg h5, if_pos h5]
  by_cases hst : d.kind = 11 ∧ initR p = true ∧ p.phase = 0
  · rw [if_pos hst]
    unfold knownR
    rw [if_pos hst.2.2, if_pos ⟨hst.2.1, hst.1⟩]; rfl
  rw [if_neg hst]
  show (fin_ ((handleK p now).call d)).out = _
  rw [out_of]
  congr 1
  unfold Sd.call knownR
  rw [e0]
  by_cases h0 : p.phase = 0
  · rw [if_pos h0, if_pos h0, if_neg (fun h : initR p = true ∧ d.kind = 11 => hst ⟨h.2, h.1, h0⟩)]
    by_cases hr : initR p = false ∧ d.kind = 1
    · have hr1 : p.cfg.role = 1 := by
        rcases hi.role with h | h
        · rw [init_t h] at hr; cases hr.1
        · exact h
      rw [if_pos hr]
      have := idle_eq p d now hr1 hr.2
      unfold fin_
      rw [if_pos this.1]
      have h2 := this.2
      rw [out_of] at h2
      unfold outR at h2
      injection h2 with a b
      injection b with b c
      cases hx : stpOf ((handleK p now).idle d).1
      cases hy : featuresR p d now
      rw [hx, hy] at a b c
      dsimp only at a b c
      rw [a, b, c]
    · rw [if_neg hr]
      unfold Sd.idle
      rw [hf, if_pos (by
        by_cases hk : d.kind = 1
        · refine .inl ?_
          rcases hq : initR p with _ | _
          · exact absurd ⟨hq, hk⟩ hr
          · rfl
        · exact .inr hk)]
      rfl
  rw [if_neg h0, if_neg h0]
  by_cases h1 : p.phase = 1
  · rw [if_pos h1, if_pos h1]
    have hr0 := hi.one h1
    by_cases hk : d.kind = 2
    · rw [if_pos hk]
      have := features_eq p d now hr0 hk
      unfold fin_
      rw [if_pos this.1]
      have h2 := this.2
      rw [out_of] at h2
      unfold outR at h2
      injection h2 with a b
      injection b with b c
      cases hx : stpOf ((handleK p now).features d).1
      cases hy : featuresR p d now
      rw [hx, hy] at a b c
      dsimp only at a b c
      rw [a, b, c]
    · rw [if_neg hk]
      unfold Sd.features
      rw [if_pos (.inr hk)]
      rfl
  rw [if_neg h1, if_neg h1]
  by_cases h2 : p.phase = 2
  · rw [if_pos h2, if_pos h2]
    by_cases hk : d.kind = 12
    · rw [if_pos hk]
      have := public_eq p d now hk
      unfold fin_
      rw [if_pos this.1]
      exact this.2
    · rw [if_neg hk]
      unfold Sd.public_
      rw [if_pos hk]
      rfl
  rw [if_neg h2, if_neg h2]
  by_cases h3 : p.phase = 3
  · rw [if_pos h3, if_pos h3]; exact auth_eq p d now
  rw [if_neg h3, if_neg h3]
  by_cases h4 : p.phase = 4
  · rw [if_pos h4, if_pos h4]; exact early_eq p d now (hi.user h4)
  rw [if_neg h4, if_neg h4]
  by_cases h55 : p.phase = 5
  · rw [if_pos h55, if_pos h55]
    by_cases hk : d.kind = 13
    · rw [if_pos hk]; exact checks_eq (handleK p now) d hk
    · rw [if_neg hk]
      unfold Sd.checks
      rw [if_pos hk]
      rfl
  rw [if_neg h55, if_neg h55, if_pos (show p.phase = 6 by omega)]
  exact keys_eq p d now
theorem user_eq (p : Pr) (answer now : Int) : userP p answer now = outR (userR p answer now) := by
  unfold userP userS userR
  have e0 : (handleK p now).p.phase = p.phase := rfl
  have hpp : (handleK p now).pass = isPass p.method := rfl
  have hf : (handleK p now).first = initR p := first_of rfl
  have e1 : (handleK p now).p.have_ = p.have_ := rfl
  have e2 : (handleK p now).p.haveIn = p.haveIn := rfl
  have e3 : (handleK p now).p.checkIn = p.checkIn := rfl
  rw [e0, hpp, hf, e1, e2, e3]
  by_cases h4 : p.phase ≠ 4
  · rw [if_pos h4, if_pos (.inl h4)]; rfl
  rw [if_neg h4]
  rcases hp : isPass p.method with _ | _
  · rw [if_neg (fun h : false = true ∧ _ => by cases h.1), if_neg (fun h : false = true ∧ _ => by cases h.1), if_neg Bool.false_ne_true]
    by_cases hb : answer < -1 ∨ 999999 < answer
    · rw [if_neg (show ¬ (answer = 0 ∨ answer = -1) by omega), if_neg (show ¬ answer = 1 by omega), if_pos (show p.phase ≠ 4 ∨ answer < -1 ∨ 999999 < answer from .inr hb)]
      rfl
    have nb : ¬ (p.phase ≠ 4 ∨ answer < -1 ∨ 999999 < answer) := by rintro (h | h); exact h4 h; exact hb h
    rw [if_neg nb]
    dsimp only
    rw [if_neg Bool.false_ne_true]
    by_cases ha : answer = 0 ∨ answer = -1
    · rw [if_pos ha, if_neg (show ¬ 1 < answer by omega), if_pos (show answer < 1 by omega)]
      rfl
    rw [if_neg ha]
    by_cases h1 : answer = 1
    · rw [if_pos h1, if_neg (show ¬ 1 < answer by omega), if_neg (show ¬ answer < 1 by omega)]
      rcases hh : p.haveIn with _ | _
      · rw [if_neg Bool.false_ne_true, if_pos rfl]
        rw [out_of, toChecks_eq]
        rfl
      · rw [if_pos rfl, if_neg (by simp)]
        have key := toChecks_eq ((handleK p now).accept.setP { (handleK p now).accept.p with agreed := true })
        generalize hT : ((handleK p now).accept.setP { (handleK p now).accept.p with agreed := true }).toChecks = T at *
        have hw : T.was = p ∧ T.now = now ∧ T.p.since = now := by
          rw [← hT]
          unfold Sd.toChecks
          split <;> exact ⟨rfl, rfl, rfl⟩
        have hs : stpOf T = proceedR { acceptR p now with p := { (acceptR p now).p with agreed := true } } := key
        have hc := checks_eq (T.setP { T.p with checkIn := 0#64, haveIn := false }) { sec0 with kind := 13, value := p.checkIn } rfl
        have h2 : ((T.setP { T.p with checkIn := 0#64, haveIn := false }).checks { sec0 with kind := 13, value := p.checkIn }).2 = true := by
          unfold Sd.checks
          rw [if_neg (show ¬ (13 : Int) ≠ 13 from fun h => h rfl)]
          split <;> rfl
        unfold fin_ at hc
        rw [if_pos h2] at hc
        rw [out_of, hc]
        have hwas : (T.setP { T.p with checkIn := 0#64, haveIn := false }).was = p := hw.1
        have hnow : (T.setP { T.p with checkIn := 0#64, haveIn := false }).now = now := hw.2.1
        rw [hwas, hnow, ← hs]
        have hacc : stpOf (T.setP { T.p with checkIn := 0#64, haveIn := false }).accept = ({ stpOf T with p := { (stpOf T).p with haveIn := false, checkIn := 0#64 } } : Stp) := by
          have h3 := hw.2.2
          have h4 := hw.2.1
          unfold Sd.accept Sd.setP stpOf
          dsimp only
          rw [h4, ← h3]
        rw [hacc]
    · rw [if_neg h1, if_pos (show 1 < answer by omega)]
      rfl
  · by_cases hm : answer = -1
    · rw [if_pos ⟨rfl, hm⟩, if_neg (show ¬ (p.phase ≠ 4 ∨ answer < -1 ∨ 999999 < answer) by rintro (h | h); exact h4 h; omega)]
      dsimp only
      rw [if_pos rfl, if_pos (show answer < 0 by omega)]
      rfl
    rw [if_neg (fun h : true = true ∧ answer = -1 => hm h.2)]
    by_cases hr : 0 ≤ answer ∧ answer < 1000000
    · rw [if_pos ⟨rfl, hr⟩, if_neg (show ¬ (p.phase ≠ 4 ∨ answer < -1 ∨ 999999 < answer) by rintro (h | h); exact h4 h; omega)]
      dsimp only
      rw [if_pos rfl, if_neg (show ¬ answer < 0 by omega)]
      by_cases hq : initR p = true ∨ p.have_ = true
      · rw [if_pos hq, if_pos hq, out_of, commit_eq]; rfl
      · rw [if_neg hq, if_neg hq]; rfl
    · rw [if_neg (fun h : true = true ∧ 0 ≤ answer ∧ answer < 1000000 => hr h.2), if_pos rfl, if_pos (show p.phase ≠ 4 ∨ answer < -1 ∨ 999999 < answer by omega)]
      rfl
theorem enc_eq (p : Pr) (now : Int) : encP p now = outR (encR p now) := by
  unfold encP encS encR
  have e0 : (handleK p now).p.phase = p.phase := rfl
  have e1 : (handleK p now).p.crypt = p.crypt := rfl
  have hf : (handleK p now).first = initR p := first_of rfl
  have hd : (handleK p now).dist = sidesR p := by
    unfold Sd.dist sidesR byR
    rw [hf]
    rcases initR p with _ | _ <;> rfl
  rw [e0, e1, hd, hf]
  by_cases h : p.phase ≠ 6 ∨ p.crypt = true
  · rw [if_pos h, if_pos h]; rfl
  rw [if_neg h, if_neg h]
  have hi : ∀ t : Sd, t.p.cfg = p.cfg → t.p.req = p.req → t.p.res = p.res → t.identity = (if (sidesR p).1 = true then t.send { sec0 with kind := 8, idn := t.p.cfg.idn } else t) := by
    intro t h1 h2 h3
    unfold Sd.identity
    have : t.dist = sidesR p := by
      unfold Sd.dist sidesR byR
      rw [first_of h1, h2, h3]
      rcases initR p with _ | _ <;> rfl
    rw [this]
  dsimp only
  rw [hi _ rfl rfl rfl]
  unfold giveR
  rcases initR p with _ | _ <;> rcases (sidesR p).2 with _ | _ <;> rcases (sidesR p).1 with _ | _ <;> rfl
end Go.Proofs.YtihmbcnccdiecaaDoor
namespace Go.Proofs.YtihmbcnccdiecaaDoor
set_option linter.unusedVariables false
set_option linter.unusedSimpArgs false
theorem inv_new (c : Cfg) (h : (newP c).2 = 0) : Inv (newP c).1 := by
  unfold newP at h ⊢
  by_cases h1 : c.role ≠ 0 ∧ c.role ≠ 1
  · rw [if_pos h1] at h; exact absurd h (by decide)
  rw [if_neg h1] at h ⊢
  by_cases h2 : featK_ c.feat ≠ 0
  · rw [if_pos h2] at h; exact absurd h h2
  rw [if_neg h2] at h ⊢
  by_cases h3 : adrK c.own ≠ 0
  · rw [if_pos h3] at h; exact absurd h h3
  rw [if_neg h3] at h ⊢
  by_cases h4 : adrK c.peer ≠ 0
  · rw [if_pos h4] at h; exact absurd h h4
  rw [if_neg h4] at h ⊢
  by_cases h5 : c.secret.toNat < 1 ∨ 2147483645 < c.secret.toNat
  · rw [if_pos h5] at h; exact absurd h (by decide)
  rw [if_neg h5] at h ⊢
  by_cases h6 : validK (pubK c.secret) = false
  · rw [if_pos h6] at h; exact absurd h (by decide)
  rw [if_neg h6] at h ⊢
  by_cases h7 : c.feat.sid = true ∧ idnK c.idn ≠ 0
  · rw [if_pos h7] at h; exact absurd h h7.2
  rw [if_neg h7]
  have done : ∀ q : Pr, q.cfg = c → q.phase = 0 → q.since = 0 → q.round = 0 → Inv q := fun q e1 e2 e3 e4 =>
    ⟨by rw [e1]; omega, by omega, by omega, fun h => by omega, fun h => by omega, fun h => by omega, by omega, fun h => by omega, fun h => by omega⟩
  exact done _ rfl rfl rfl rfl
theorem inv_fail {p : Pr} {now : Int} (r : Int) (hi : Inv p) (hn : 0 ≤ now ∧ now ≤ 1099511627776) : Inv (failR p r now).p :=
  ⟨hi.role, by show (0 : Int) ≤ 8 ∧ (8 : Int) ≤ 8; decide, hn, fun h => absurd h (by show ¬ (8 : Int) = 1; decide), fun h => absurd h (by show ¬ (8 : Int) = 4; decide), fun h => absurd h (by show ¬ (8 : Int) = 3; decide), hi.round, fun h => absurd h (by show ¬ (8 : Int) ≤ 4; decide), fun _ h => absurd h (by show ¬ (8 : Int) ≤ 6; decide)⟩
theorem choose_range (i r : Feat) (h : enoughK i r = true) : 1 ≤ (chooseK i r).1 ∧ (chooseK i r).1 ≤ 6 := by
  unfold enoughK at h
  have hne : (chooseK i r).1 ≠ 0 := by
    intro h0
    rw [h0] at h
    simp at h
  unfold chooseK at hne ⊢
  split
  · rename_i hc; rw [if_pos hc] at hne; exact absurd rfl hne
  · split
    · exact ⟨by decide, by decide⟩
    · split
      · exact ⟨by decide, by decide⟩
      · dsimp only
        unfold tableK
        repeat' split
        all_goals exact ⟨by decide, by decide⟩
theorem inv_start {p : Pr} {now : Int} (hi : Inv p) (hn : 0 ≤ now ∧ now ≤ 1099511627776) : Inv (startP p now).1 := by
  unfold startP
  by_cases h : p.cfg.role ≠ 0 ∨ p.phase ≠ 0
  · rw [if_pos h]; exact hi
  · rw [if_neg h]
    have h0 : p.cfg.role = 0 ∧ p.phase = 0 := by omega
    exact ⟨hi.role, by show (0 : Int) ≤ 1 ∧ (1 : Int) ≤ 8; decide, hn, fun _ => h0.1, fun h => absurd h (by show ¬ (1 : Int) = 4; decide), fun h => absurd h (by show ¬ (1 : Int) = 3; decide), hi.round, fun _ => hi.less (by omega), fun h => absurd h (by show ¬ (2 : Int) ≤ 1; decide)⟩
theorem inv_enc {p : Pr} {now : Int} (hi : Inv p) (hn : 0 ≤ now ∧ now ≤ 1099511627776) : Inv (encP p now).1 := by
  rw [enc_eq]
  unfold encR
  by_cases h : p.phase ≠ 6 ∨ p.crypt = true
  · rw [if_pos h]; exact hi
  rw [if_neg h]
  have h6 : p.phase = 6 := by
    by_cases hq : p.phase = 6
    · exact hq
    · exact absurd (.inl hq) h
  have done : ∀ q : Pr, q.cfg = p.cfg → q.phase = 7 → q.since = now → q.round = p.round → Inv q := fun q h1 h2 h3 h4 =>
    ⟨by rw [h1]; exact hi.role, by omega, by rw [h3]; exact hn, fun h => by omega, fun h => by omega, fun h => by omega, by rw [h4]; exact hi.round, fun h => by omega, fun _ h => by omega⟩
  have keep : ∀ q : Pr, q.cfg = p.cfg → q.phase = 6 → q.since = now → q.round = p.round → q.method = p.method → Inv q := fun q h1 h2 h3 h4 h5 =>
    ⟨by rw [h1]; exact hi.role, by omega, by rw [h3]; exact hn, fun h => by omega, fun h => by omega, fun h => by omega, by rw [h4]; exact hi.round, fun h => by omega, fun _ _ => by rw [h5]; exact hi.meth (by omega) (by omega)⟩
  dsimp only
  split
  · exact keep _ rfl h6 rfl rfl rfl
  · unfold giveR
    split
    · split
      · exact keep _ rfl h6 rfl rfl rfl
      · exact keep _ rfl h6 rfl rfl rfl
    · split
      · exact done _ rfl rfl rfl rfl
      · exact done _ rfl rfl rfl rfl
end Go.Proofs.YtihmbcnccdiecaaDoor
namespace Go.Proofs.YtihmbcnccdiecaaDoor
set_option linter.unusedVariables false
set_option linter.unusedSimpArgs false
theorem inv_shape {p : Pr} {now : Int} (hi : Inv p) (hn : 0 ≤ now ∧ now ≤ 1099511627776) (q : Pr) (k : Int) (e1 : q.cfg = p.cfg) (e2 : q.phase = k) (e3 : q.since = now) (e5 : q.method = p.method) (hr : 0 ≤ q.round ∧ q.round ≤ 20)
    (hk : 3 ≤ k ∧ k ≤ 7) (hm : 1 ≤ p.method ∧ p.method ≤ 6) (hlow : k ≤ 4 → q.round < 20) (hu : k = 4 → isPass p.method = false → p.method = 2) (hpass : k = 3 → isPass p.method = true → 0 ≤ q.passkey) : Inv q :=
  ⟨by rw [e1]; exact hi.role, by omega, by rw [e3]; exact hn, fun h => by omega, fun h => by rw [e5]; exact hu (by omega), fun h => by rw [e5]; exact hpass (by omega), hr, fun h => hlow (by omega), fun _ _ => by rw [e5]; exact hm⟩
theorem inv_features {p : Pr} {now : Int} (d : Sec) (hi : Inv p) (hn : 0 ≤ now ∧ now ≤ 1099511627776) (hp : p.phase ≤ 1) : Inv (featuresR p d now).p := by
  have key : ∀ (q : Pr) (o : List Sec), q.cfg = p.cfg → q.since = now → q.round = p.round → Inv (if enoughK q.req q.res = false then failR p 3 now else (⟨{ q with method := (chooseK q.req q.res).1, phase := 2 }, o, []⟩ : Stp)).p := by
    intro q o e1 e2 e3
    by_cases he : enoughK q.req q.res = false
    · rw [if_pos he]; exact inv_fail _ hi hn
    · rw [if_neg he]
      have hc := choose_range _ _ (by simpa using he)
      have hr := hi.round
      have hl := hi.less (by omega)
      exact ⟨by show q.cfg.role = 0 ∨ q.cfg.role = 1; rw [e1]; exact hi.role, by show (0 : Int) ≤ 2 ∧ (2 : Int) ≤ 8; decide, by show 0 ≤ q.since ∧ q.since ≤ _; rw [e2]; exact hn, fun h => absurd h (by show ¬ (2 : Int) = 1; decide), fun h => absurd h (by show ¬ (2 : Int) = 4; decide), fun h => absurd h (by show ¬ (2 : Int) = 3; decide), by show 0 ≤ q.round ∧ q.round ≤ _; rw [e3]; exact hr, fun _ => by show q.round < 20; rw [e3]; exact hl, fun _ _ => hc⟩
  unfold featuresR
  rcases initR p with _ | _
  · exact key _ _ rfl rfl rfl
  · exact key _ _ rfl rfl rfl
theorem pass_range {m : Int} (h : isPass m = true) : 3 ≤ m ∧ m ≤ 5 := by
  unfold isPass at h
  simp at h
  omega
theorem inv_begin {p : Pr} {now : Int} (hi : Inv p) (hn : 0 ≤ now ∧ now ≤ 1099511627776) (h2 : p.phase = 2) (s : Stp) (e1 : s.p.cfg = p.cfg) (e3 : s.p.since = now) (e4 : s.p.round = p.round) (e5 : s.p.method = p.method) : Inv (beginR s).p := by
  have hm := hi.meth (by omega) (by omega)
  have hr := hi.round
  have hl := hi.less (by omega)
  unfold beginR
  dsimp only
  split
  · rename_i h6
    rw [e5] at h6
    have hnp : isPass p.method = true → False := fun h => by have := pass_range h; omega
    split
    · exact inv_shape hi hn _ 3 e1 rfl e3 e5 (by show 0 ≤ s.p.round ∧ _; rw [e4]; exact hr) (by decide) hm (fun _ => by show s.p.round < 20; rw [e4]; exact hl) (fun h => by omega) (fun _ h => (hnp h).elim)
    · exact inv_shape hi hn _ 3 e1 rfl e3 e5 (by show 0 ≤ s.p.round ∧ _; rw [e4]; exact hr) (by decide) hm (fun _ => by show s.p.round < 20; rw [e4]; exact hl) (fun h => by omega) (fun _ h => (hnp h).elim)
  · split
    · rename_i hp
      rw [e5] at hp
      have hnp : isPass p.method = true → False := fun h => by rw [hp] at h; cases h
      split
      · exact inv_shape hi hn _ 3 e1 rfl e3 e5 (by show 0 ≤ s.p.round ∧ _; rw [e4]; exact hr) (by decide) hm (fun _ => by show s.p.round < 20; rw [e4]; exact hl) (fun h => by omega) (fun _ h => (hnp h).elim)
      · exact inv_shape hi hn _ 3 e1 rfl e3 e5 (by show 0 ≤ s.p.round ∧ _; rw [e4]; exact hr) (by decide) hm (fun _ => by show s.p.round < 20; rw [e4]; exact hl) (fun h => by omega) (fun _ h => (hnp h).elim)
    · rename_i hp
      rw [e5] at hp
      split
      · exact inv_shape hi hn _ 4 e1 rfl e3 e5 (by show 0 ≤ s.p.round ∧ _; rw [e4]; exact hr) (by decide) hm (fun _ => by show s.p.round < 20; rw [e4]; exact hl) (fun _ h => absurd h hp) (fun h => by omega)
      · split
        · exact inv_shape hi hn _ 3 e1 rfl e3 e5 (by show 0 ≤ s.p.round ∧ _; rw [e4]; exact hr) (by decide) hm (fun _ => by show s.p.round < 20; rw [e4]; exact hl) (fun h => by omega) (fun _ _ => Int.natCast_nonneg _)
        · exact inv_shape hi hn _ 3 e1 rfl e3 e5 (by show 0 ≤ s.p.round ∧ _; rw [e4]; exact hr) (by decide) hm (fun _ => by show s.p.round < 20; rw [e4]; exact hl) (fun h => by omega) (fun _ _ => Int.natCast_nonneg _)
theorem inv_public {p : Pr} {now : Int} (d : Sec) (hi : Inv p) (hn : 0 ≤ now ∧ now ≤ 1099511627776) (h2 : p.phase = 2) : Inv (publicR p d now).p := by
  unfold publicR
  split
  · exact inv_fail _ hi hn
  · split
    · exact inv_fail _ hi hn
    · exact inv_begin hi hn h2 _ rfl rfl rfl rfl
theorem inv_late {p : Pr} {now : Int} (hi : Inv p) (hn : 0 ≤ now ∧ now ≤ 1099511627776) (hm : 1 ≤ p.method ∧ p.method ≤ 6) (q : Pr) (k : Int) (e1 : q.cfg = p.cfg) (e2 : q.phase = k) (e3 : q.since = now) (e5 : q.method = p.method) (hr : 0 ≤ q.round ∧ q.round ≤ 20) (hk : 5 ≤ k ∧ k ≤ 7) : Inv q :=
  inv_shape hi hn q k e1 e2 e3 e5 hr (by omega) hm (fun h => by omega) (fun h => by omega) (fun h => by omega)
theorem inv_proceed {p : Pr} {now : Int} (hi : Inv p) (hn : 0 ≤ now ∧ now ≤ 1099511627776) (hm : 1 ≤ p.method ∧ p.method ≤ 6) (s : Stp) (e1 : s.p.cfg = p.cfg) (e3 : s.p.since = now) (e5 : s.p.method = p.method) (hr : 0 ≤ s.p.round ∧ s.p.round ≤ 20) : Inv (proceedR s).p := by
  unfold proceedR
  dsimp only
  split
  · exact inv_late hi hn hm _ 5 e1 rfl e3 e5 hr (by decide)
  · exact inv_late hi hn hm _ 5 e1 rfl e3 e5 hr (by decide)
theorem inv_agree {p : Pr} {now : Int} (hi : Inv p) (hn : 0 ≤ now ∧ now ≤ 1099511627776) (hm : 1 ≤ p.method ∧ p.method ≤ 6) (h3 : p.phase = 3) (h6 : ¬ p.method = 6) (hp : ¬ isPass p.method = true) (s : Stp) (e1 : s.p.cfg = p.cfg) (e3 : s.p.since = now) (e4 : s.p.round = p.round) (e5 : s.p.method = p.method) : Inv (agreeR s).p := by
  have hr := hi.round
  have hl := hi.less (by omega)
  unfold agreeR
  split
  · exact inv_proceed hi hn hm s e1 e3 e5 (by rw [e4]; exact hr)
  · rename_i h1
    rw [e5] at h1
    have h2 : p.method = 2 := by
      have : ¬ (p.method = 3 ∨ p.method = 4 ∨ p.method = 5) := by
        rintro (h | h | h) <;> exact hp (by rw [h]; rfl)
      omega
    dsimp only
    split
    · exact inv_shape hi hn _ 4 e1 rfl e3 e5 (by show 0 ≤ s.p.round ∧ _; rw [e4]; exact hr) (by decide) hm (fun _ => by show s.p.round < 20; rw [e4]; exact hl) (fun _ _ => h2) (fun h => by omega)
    · exact inv_shape hi hn _ 4 e1 rfl e3 e5 (by show 0 ≤ s.p.round ∧ _; rw [e4]; exact hr) (by decide) hm (fun _ => by show s.p.round < 20; rw [e4]; exact hl) (fun _ _ => h2) (fun h => by omega)
theorem inv_three {p : Pr} {now : Int} (hi : Inv p) (hn : 0 ≤ now ∧ now ≤ 1099511627776) (h3 : p.phase = 3) (q : Pr) (e1 : q.cfg = p.cfg) (e2 : q.phase = p.phase) (e3 : q.since = now) (e4 : q.round = p.round) (e5 : q.method = p.method) (e6 : q.passkey = p.passkey) : Inv q := by
  have hm := hi.meth (by omega) (by omega)
  have hr := hi.round
  have hl := hi.less (by omega)
  exact inv_shape hi hn q 3 e1 (by rw [e2]; exact h3) e3 e5 (by rw [e4]; exact hr) (by decide) hm (fun _ => by rw [e4]; exact hl) (fun h => by omega) (fun _ h => by rw [e6]; exact hi.pass h3 h)
theorem inv_simple {p : Pr} {now : Int} (d : Sec) (hi : Inv p) (hn : 0 ≤ now ∧ now ≤ 1099511627776) (h3 : p.phase = 3) (h6 : ¬ p.method = 6) (hp : ¬ isPass p.method = true) : Inv (simpleR p d now).p := by
  have hm := hi.meth (by omega) (by omega)
  unfold simpleR
  dsimp only
  split
  · exact inv_agree hi hn hm h3 h6 hp _ rfl rfl rfl rfl
  · split
    · exact inv_three hi hn h3 _ rfl rfl rfl rfl rfl rfl
    · split
      · split
        · exact inv_fail _ hi hn
        · exact inv_agree hi hn hm h3 h6 hp _ rfl rfl rfl rfl
      · exact inv_fail _ hi hn
theorem inv_outside {p : Pr} {now : Int} (d : Sec) (hi : Inv p) (hn : 0 ≤ now ∧ now ≤ 1099511627776) (h3 : p.phase = 3) : Inv (outsideR p d now).p := by
  have hm := hi.meth (by omega) (by omega)
  unfold outsideR
  split
  · exact inv_fail _ hi hn
  · dsimp only
    split
    · exact inv_proceed hi hn hm _ rfl rfl rfl hi.round
    · exact inv_proceed hi hn hm _ rfl rfl rfl hi.round
theorem inv_rounds {p : Pr} {now : Int} (d : Sec) (hi : Inv p) (hn : 0 ≤ now ∧ now ≤ 1099511627776) (h3 : p.phase = 3) : Inv (roundsR p d now).p := by
  have hm := hi.meth (by omega) (by omega)
  have hr := hi.round
  have hl := hi.less (by omega)
  unfold roundsR
  dsimp only
  split
  · split
    · exact inv_three hi hn h3 _ rfl rfl rfl rfl rfl rfl
    · exact inv_three hi hn h3 _ rfl rfl rfl rfl rfl rfl
  · split
    · exact inv_fail _ hi hn
    · split
      · exact inv_fail _ hi hn
      · have hr1 : 0 ≤ p.round + 1 ∧ p.round + 1 ≤ 20 := by omega
        have stay : ∀ q : Pr, q.cfg = p.cfg → q.phase = p.phase → q.since = now → q.round = p.round + 1 → q.method = p.method → q.passkey = p.passkey → ¬ p.round + 1 = 20 → Inv q := fun q e1 e2 e3 e4 e5 e6 h20 =>
          inv_shape hi hn q 3 e1 (by rw [e2]; exact h3) e3 e5 (by rw [e4]; exact hr1) (by decide) hm (fun _ => by rw [e4]; omega) (fun h => by omega) (fun _ h => by rw [e6]; exact hi.pass h3 h)
        rcases initR p with _ | _
        · by_cases h20 : p.round + 1 = 20
          · exact (if_pos (c := p.round + 1 = 20) h20).symm ▸ inv_proceed hi hn hm _ rfl rfl rfl hr1
          · exact (if_neg (c := p.round + 1 = 20) h20).symm ▸ stay _ rfl rfl rfl rfl rfl rfl h20
        · by_cases h20 : p.round + 1 = 20
          · exact (if_pos (c := p.round + 1 = 20) h20).symm ▸ inv_proceed hi hn hm _ rfl rfl rfl hr1
          · exact (if_neg (c := p.round + 1 = 20) h20).symm ▸ stay _ rfl rfl rfl rfl rfl rfl h20
theorem inv_waiting {p : Pr} {now : Int} (d : Sec) (hi : Inv p) (hn : 0 ≤ now ∧ now ≤ 1099511627776) (h4 : p.phase = 4) : Inv (waitingR p d now).p := by
  have hm := hi.meth (by omega) (by omega)
  have hr := hi.round
  have hl := hi.less (by omega)
  have stay : ∀ q : Pr, q.cfg = p.cfg → q.phase = p.phase → q.since = now → q.round = p.round → q.method = p.method → Inv q := fun q e1 e2 e3 e4 e5 =>
    inv_shape hi hn q 4 e1 (by rw [e2]; exact h4) e3 e5 (by rw [e4]; exact hr) (by decide) hm (fun _ => by rw [e4]; exact hl) (fun _ h => hi.user h4 h) (fun h => by omega)
  unfold waitingR
  dsimp only
  split
  · exact stay _ rfl rfl rfl rfl rfl
  · split
    · exact stay _ rfl rfl rfl rfl rfl
    · exact inv_fail _ hi hn
theorem inv_checked {p : Pr} {now : Int} (hi : Inv p) (hn : 0 ≤ now ∧ now ≤ 1099511627776) (hm : 1 ≤ p.method ∧ p.method ≤ 6) (s : Stp) (v : BitVec 64) (e1 : s.p.cfg = p.cfg) (e3 : s.p.since = now) (e4 : s.p.round = p.round) (e5 : s.p.method = p.method) : Inv (checkedR p s v now).p := by
  have hr := hi.round
  unfold checkedR
  split
  · exact inv_fail _ hi hn
  · split
    · exact inv_late hi hn hm _ 6 e1 rfl e3 e5 (by show 0 ≤ s.p.round ∧ s.p.round ≤ 20; rw [e4]; exact hr) (by decide)
    · exact inv_late hi hn hm _ 6 e1 rfl e3 e5 (by show 0 ≤ s.p.round ∧ s.p.round ≤ 20; rw [e4]; exact hr) (by decide)
theorem inv_identity {p : Pr} {now : Int} (d : Sec) (hi : Inv p) (hn : 0 ≤ now ∧ now ≤ 1099511627776) (h6 : p.phase = 6) : Inv (identityR p d now).p := by
  have hm := hi.meth (by omega) (by omega)
  have hr := hi.round
  unfold identityR
  split
  · exact inv_fail _ hi hn
  · unfold giveR
    split
    · exact inv_late hi hn hm _ 7 rfl rfl rfl rfl hr (by decide)
    · exact inv_late hi hn hm _ 7 rfl rfl rfl rfl hr (by decide)
theorem inv_handle {p : Pr} {now : Int} (d : Sec) (hi : Inv p) (hn : 0 ≤ now ∧ now ≤ 1099511627776) : Inv (handleP p d now).1 := by
  rw [handle_eq p d now hi]
  show Inv (handleR p d now).p
  have hph := hi.ph
  unfold handleR
  split
  · exact hi
  · split
    · exact inv_fail _ hi hn
    · split
      · unfold knownR
        by_cases h0 : p.phase = 0
        · rw [if_pos h0]
          split
          · exact hi
          · split
            · exact inv_features d hi hn (by omega)
            · exact inv_fail _ hi hn
        rw [if_neg h0]
        by_cases h1 : p.phase = 1
        · rw [if_pos h1]
          split
          · exact inv_features d hi hn (by omega)
          · exact inv_fail _ hi hn
        rw [if_neg h1]
        by_cases h2 : p.phase = 2
        · rw [if_pos h2]
          split
          · exact inv_public d hi hn h2
          · exact inv_fail _ hi hn
        rw [if_neg h2]
        by_cases h3 : p.phase = 3
        · rw [if_pos h3]
          split
          · exact inv_outside d hi hn h3
          · rename_i h6
            split
            · exact inv_rounds d hi hn h3
            · rename_i hp
              exact inv_simple d hi hn h3 h6 hp
        rw [if_neg h3]
        by_cases h4 : p.phase = 4
        · rw [if_pos h4]; exact inv_waiting d hi hn h4
        rw [if_neg h4]
        by_cases h5 : p.phase = 5
        · rw [if_pos h5]
          split
          · exact inv_checked hi hn (hi.meth (by omega) (by omega)) _ _ rfl rfl rfl rfl
          · exact inv_fail _ hi hn
        rw [if_neg h5]
        by_cases h6 : p.phase = 6
        · rw [if_pos h6]; exact inv_identity d hi hn h6
        · rw [if_neg h6]; exact inv_fail _ hi hn
      · split
        · exact hi
        · exact inv_fail _ hi hn
theorem inv_user {p : Pr} {now : Int} (answer : Int) (hi : Inv p) (hn : 0 ≤ now ∧ now ≤ 1099511627776) : Inv (userP p answer now).1 := by
  rw [user_eq]
  show Inv (userR p answer now).p
  unfold userR
  split
  · exact hi
  · rename_i hc
    have h4 : p.phase = 4 := by
      by_cases h : p.phase = 4
      · exact h
      · exact absurd (.inl h) hc
    have hm := hi.meth (by omega) (by omega)
    have hr := hi.round
    have hl := hi.less (by omega)
    dsimp only
    split
    · split
      · exact inv_fail _ hi hn
      · rename_i ha
        have back : ∀ q : Pr, q.cfg = p.cfg → q.phase = 3 → q.since = now → q.round = p.round → q.method = p.method → q.passkey = answer → Inv q := fun q e1 e2 e3 e4 e5 e6 =>
          inv_shape hi hn q 3 e1 e2 e3 e5 (by rw [e4]; exact hr) (by decide) hm (fun _ => by rw [e4]; exact hl) (fun h => by omega) (fun _ _ => by rw [e6]; omega)
        split
        · exact back _ rfl rfl rfl rfl rfl rfl
        · exact back _ rfl rfl rfl rfl rfl rfl
    · split
      · exact hi
      · split
        · exact inv_fail _ hi hn
        · split
          · exact inv_proceed hi hn hm _ rfl rfl rfl hr
          · have hf : ∀ s : Stp, (proceedR s).p.cfg = s.p.cfg ∧ (proceedR s).p.since = s.p.since ∧ (proceedR s).p.round = s.p.round ∧ (proceedR s).p.method = s.p.method := by
              intro s
              unfold proceedR
              dsimp only
              split <;> exact ⟨rfl, rfl, rfl, rfl⟩
            have hq := hf { acceptR p now with p := { (acceptR p now).p with agreed := true } }
            exact inv_checked hi hn hm _ _ hq.1 hq.2.1 hq.2.2.1 hq.2.2.2
end Go.Proofs.YtihmbcnccdiecaaDoor
namespace Go.Proofs.YtihmbcnccdiecaaDoor
set_option linter.unusedVariables false
structure Chg where
  at_ : Int
  pub : BitVec 32
  value : BitVec 64
structure Tk where
  s0 : Pr
  s1 : Pr
  ok : Bool
  n0 : Int
  n1 : Int
  a0 : Bool
  a1 : Bool
  h0 : Bool
  h1 : Bool
  g0 : List Evt
  g1 : List Evt
  sent : Int
  line : List (Bool × Sec)
def tk0 : Tk := ⟨pr0, pr0, false, 0, 0, false, false, false, false, [], [], 0, []⟩
def Tk.side (x : Tk) (b : Bool) : Pr := if b then x.s1 else x.s0
def Tk.setSide (x : Tk) (b : Bool) (p : Pr) : Tk := if b then { x with s1 := p } else { x with s0 := p }
def chg1 (n : Int) (d : Sec) (c : Chg) : Sec :=
  let d1 : Sec := if c.at_ = n ∧ d.kind = 12 then { d with pub := c.pub } else d
  if c.at_ = n ∧ (d1.kind = 3 ∨ d1.kind = 4) then { d1 with value := c.value } else d1
def chg (l : List Chg) (n : Int) (d : Sec) : Sec := l.foldl (chg1 n) d
def put1 (l : List Chg) (b : Bool) (x : Tk) (d : Sec) : Tk := { x with sent := x.sent + 1, line := x.line ++ [(!b, chg l x.sent d)] }
def note1 (b : Bool) (x : Tk) (e : Evt) : Tk :=
  if e.kind = 1 then (if b then { x with h1 := true, n1 := e.number } else { x with h0 := true, n0 := e.number })
  else if e.kind = 2 then (if b then { x with a1 := true } else { x with a0 := true })
  else (if b then { x with g1 := x.g1 ++ [e] } else { x with g0 := x.g0 ++ [e] })
def postT (x : Tk) (b : Bool) (p : Pr) (out : List Sec) (ev : List Evt) (l : List Chg) : Tk := ev.foldl (note1 b) (out.foldl (put1 l b) (x.setSide b p))
def Tk.answer (x : Tk) (b : Bool) (common : Int) : Int :=
  if (x.side b).method ≠ 2 then (if b then (if x.h0 then x.n0 else common) else (if x.h1 then x.n1 else common))
  else if x.h0 = true ∧ x.h1 = true ∧ x.n0 = x.n1 then 1 else 0
def userT (l : List Chg) (common n : Int) (b : Bool) (x : Tk) : Tk :=
  if (x.side b).phase = 4 then postT x b (userP (x.side b) (x.answer b common) n).1 (userP (x.side b) (x.answer b common) n).2.1 (userP (x.side b) (x.answer b common) n).2.2 l else x
def encT (l : List Chg) (n : Int) (b : Bool) (x : Tk) : Tk := postT x b (encP (x.side b) n).1 (encP (x.side b) n).2.1 (encP (x.side b) n).2.2 l
def roundT (l : List Chg) (common n : Int) (x : Tk) : Option Tk :=
  match x.line with
  | (b, d) :: rest =>
    let y : Tk := { x with line := rest }
    some (postT y b (handleP (y.side b) d n).1 (handleP (y.side b) d n).2.1 (handleP (y.side b) d n).2.2 l)
  | [] =>
    if x.s0.phase = 4 ∨ (userT l common n false x).s1.phase = 4 then some (userT l common n true (userT l common n false x))
    else if x.s0.phase = 6 ∧ x.s1.phase = 6 then some (encT l n true (encT l n false x))
    else none
def runT (l : List Chg) (common : Int) : Nat → Int → Tk → Tk
  | 0, _, x => x
  | k + 1, n, x => match roundT l common n x with
    | some y => runT l common k (n + 1) y
    | none => x
def playT (a b : Cfg) (l : List Chg) (common : Int) : Tk :=
  if (newP a).2 ≠ 0 ∨ (newP b).2 ≠ 0 ∨ a.role ≠ 0 ∨ b.role ≠ 1 then tk0
  else
    let x : Tk := { tk0 with ok := true, s1 := (newP b).1 }
    runT l common 400 0 (postT x false (startP (newP a).1 0).1 (startP (newP a).1 0).2.1 [] l)
def Tk.done (x : Tk) (b : Bool) : Bool :=
  x.ok && (match (if b then x.g1 else x.g0) with
    | [e] => decide (e.kind = 3) && decide (e.key = (x.side b).ltk) && decide ((x.side b).phase = 7)
    | _ => false)
def Tk.keyed (x : Tk) (b : Bool) : Bool := x.ok && decide (6 ≤ (x.side b).phase) && decide ((x.side b).phase ≤ 7)
def cfgX (role io : Int) : Cfg := ⟨role, ⟨io, false, false, false, true, true⟩, ⟨1, BitVec.ofInt 64 (10 + role)⟩, ⟨1, BitVec.ofInt 64 (11 - role)⟩, ⟨⟨1, BitVec.ofInt 64 (10 + role)⟩, 5#64⟩, BitVec.ofInt 32 (7 + role), BitVec.ofInt 64 (3 + role), 0#64, oob0⟩
end Go.Proofs.YtihmbcnccdiecaaDoor
namespace Go.Proofs.YtihmbcnccdiecaaDoor
set_option maxRecDepth 100000
set_option linter.unusedVariables false
set_option linter.unusedSimpArgs false
def ltkR (p : Pr) : BitVec 64 := if initR p then ltkV p.shared p.nonce p.other p.cfg.own p.cfg.peer else ltkV p.shared p.other p.nonce p.cfg.peer p.cfg.own
structure Core (p q : Pr) : Prop where
  ph : 5 ≤ q.phase
  sh : q.shared = p.shared
  no : q.nonce = p.nonce
  ot : q.other = p.other
  pk : q.passkey = p.passkey
structure Fct (p : Pr) (dk : Int) (dv : BitVec 64) (s : Stp) : Prop where
  cfg : s.p.cfg = p.cfg
  core : 5 ≤ p.phase → Core p s.p
  out : ∀ e ∈ s.out, e.kind = 13 → e.value = ownCheckR s.p ∧ 5 ≤ s.p.phase
  hin : s.p.haveIn = true → (p.haveIn = true ∧ s.p.checkIn = p.checkIn) ∨ (dk = 13 ∧ s.p.checkIn = dv)
  key : 6 ≤ s.p.phase → s.p.phase ≤ 7 → (6 ≤ p.phase ∧ p.phase ≤ 7 ∧ s.p.ltk = p.ltk) ∨ (dk = 13 ∧ dv = otherCheckR s.p ∧ s.p.ltk = ltkR s.p)
  agr : s.p.agreed = p.agreed
  m2 : 5 ≤ s.p.phase → s.p.phase ≤ 7 → s.p.method = 2 → 5 ≤ p.phase
  shw : ∀ e ∈ s.ev, e.kind = 1 → (p.phase = 2 ∧ isPass p.method = true ∧ s.p.phase = 3) ∨ (p.phase = 3 ∧ isPass p.method = false ∧ s.p.phase = 4)
  up : (4 ≤ p.phase ∨ (p.phase = 3 ∧ isPass p.method = true)) → (4 ≤ s.p.phase ∨ (s.p.phase = 3 ∧ isPass s.p.method = true))
  meth : 2 ≤ p.phase → s.p.method = p.method ∧ s.p.peer = p.peer ∧ s.p.req = p.req ∧ s.p.res = p.res
structure Ufc (p : Pr) (ans : Int) (s : Stp) : Prop where
  cfg : s.p.cfg = p.cfg
  core : 5 ≤ p.phase → Core p s.p
  out : ∀ e ∈ s.out, e.kind = 13 → e.value = ownCheckR s.p ∧ 5 ≤ s.p.phase
  hin : s.p.haveIn = true → (p.haveIn = true ∧ s.p.checkIn = p.checkIn)
  key : 6 ≤ s.p.phase → s.p.phase ≤ 7 → (6 ≤ p.phase ∧ p.phase ≤ 7 ∧ s.p.ltk = p.ltk) ∨ (p.haveIn = true ∧ p.checkIn = otherCheckR s.p ∧ s.p.ltk = ltkR s.p)
  agr : s.p.agreed = true → p.agreed = true ∨ (ans = 1 ∧ isPass p.method = false)
  m2 : 5 ≤ s.p.phase → s.p.phase ≤ 7 → s.p.method = 2 → 5 ≤ p.phase ∨ s.p.agreed = true
  shw : ∀ e ∈ s.ev, e.kind ≠ 1
  up : (4 ≤ p.phase ∨ (p.phase = 3 ∧ isPass p.method = true)) → (4 ≤ s.p.phase ∨ (s.p.phase = 3 ∧ isPass s.p.method = true))
  meth : s.p.method = p.method ∧ s.p.peer = p.peer ∧ s.p.req = p.req ∧ s.p.res = p.res
end Go.Proofs.YtihmbcnccdiecaaDoor
namespace Go.Proofs.YtihmbcnccdiecaaDoor
set_option maxRecDepth 100000
set_option linter.unusedVariables false
set_option linter.unusedSimpArgs false
def Tk.hh (x : Tk) (c : Bool) : Bool := if c then x.h1 else x.h0
def Tk.nn (x : Tk) (c : Bool) : Int := if c then x.n1 else x.n0
structure PutF (l : List Chg) (b : Bool) (out : List Sec) (x y : Tk) : Prop where
  sd : ∀ c, y.side c = x.side c
  ok : y.ok = x.ok
  hh : ∀ c, y.hh c = x.hh c
  nn : ∀ c, y.nn c = x.nn c
  line : ∀ e ∈ y.line, e ∈ x.line ∨ ∃ d ∈ out, ∃ n, e = (!b, chg l n d)
theorem putF (l : List Chg) (b : Bool) : ∀ (out : List Sec) (x : Tk), PutF l b out x (out.foldl (put1 l b) x) := by
  intro out
  induction out with
  | nil => intro x; exact ⟨fun _ => rfl, rfl, fun _ => rfl, fun _ => rfl, fun e h => .inl h⟩
  | cons d out ih =>
    intro x
    obtain ⟨i1, i2, i3, i4, i5⟩ := ih (put1 l b x d)
    refine ⟨fun c => (i1 c).trans rfl, i2, fun c => (i3 c).trans rfl, fun c => (i4 c).trans rfl, fun e he => ?_⟩
    rcases i5 e he with h | ⟨d', hd, n, h⟩
    · rcases List.mem_append.mp h with h | h
      · exact .inl h
      · exact .inr ⟨d, List.mem_cons_self .., x.sent, List.mem_singleton.mp h⟩
    · exact .inr ⟨d', List.mem_cons_of_mem _ hd, n, h⟩
structure NoteF (b : Bool) (ev : List Evt) (x y : Tk) : Prop where
  sd : ∀ c, y.side c = x.side c
  ok : y.ok = x.ok
  line : y.line = x.line
  h : ∀ c, y.hh c = true → x.hh c = true ∨ (c = b ∧ ∃ e ∈ ev, e.kind = 1)
  n : ∀ c, (c = !b ∨ ∀ e ∈ ev, e.kind ≠ 1) → y.hh c = x.hh c ∧ y.nn c = x.nn c
theorem note1F (b : Bool) (x : Tk) (e : Evt) : NoteF b [e] x (note1 b x e) := by
  unfold note1
  by_cases h1 : e.kind = 1
  · rw [if_pos h1]
    cases b
    · refine ⟨fun c => by cases c <;> rfl, rfl, rfl, fun c h => ?_, fun c h => ?_⟩
      · cases c
        · exact .inr ⟨rfl, e, List.mem_singleton.mpr rfl, h1⟩
        · exact .inl h
      · rcases h with h | h
        · subst h; exact ⟨rfl, rfl⟩
        · exact absurd h1 (h e (List.mem_singleton.mpr rfl))
    · refine ⟨fun c => by cases c <;> rfl, rfl, rfl, fun c h => ?_, fun c h => ?_⟩
      · cases c
        · exact .inl h
        · exact .inr ⟨rfl, e, List.mem_singleton.mpr rfl, h1⟩
      · rcases h with h | h
        · subst h; exact ⟨rfl, rfl⟩
        · exact absurd h1 (h e (List.mem_singleton.mpr rfl))
  · rw [if_neg h1]
    by_cases h2 : e.kind = 2
    · rw [if_pos h2]
      cases b
      · exact ⟨fun c => by cases c <;> rfl, rfl, rfl, fun c h => by cases c <;> exact .inl h, fun c _ => by cases c <;> exact ⟨rfl, rfl⟩⟩
      · exact ⟨fun c => by cases c <;> rfl, rfl, rfl, fun c h => by cases c <;> exact .inl h, fun c _ => by cases c <;> exact ⟨rfl, rfl⟩⟩
    · rw [if_neg h2]
      cases b
      · exact ⟨fun c => by cases c <;> rfl, rfl, rfl, fun c h => by cases c <;> exact .inl h, fun c _ => by cases c <;> exact ⟨rfl, rfl⟩⟩
      · exact ⟨fun c => by cases c <;> rfl, rfl, rfl, fun c h => by cases c <;> exact .inl h, fun c _ => by cases c <;> exact ⟨rfl, rfl⟩⟩
theorem noteF (b : Bool) : ∀ (ev : List Evt) (x : Tk), NoteF b ev x (ev.foldl (note1 b) x) := by
  intro ev
  induction ev with
  | nil => intro x; exact ⟨fun _ => rfl, rfl, rfl, fun c h => .inl h, fun c _ => ⟨rfl, rfl⟩⟩
  | cons e ev ih =>
    intro x
    obtain ⟨i1, i2, i3, i4, i5⟩ := ih (note1 b x e)
    obtain ⟨j1, j2, j3, j4, j5⟩ := note1F b x e
    refine ⟨fun c => (i1 c).trans (j1 c), i2.trans j2, i3.trans j3, fun c h => ?_, fun c h => ?_⟩
    · rcases i4 c h with h | ⟨h, e', he', h'⟩
      · rcases j4 c h with h | ⟨h, e', he', h'⟩
        · exact .inl h
        · exact .inr ⟨h, e', by rw [List.mem_singleton.mp he']; exact List.mem_cons_self .., h'⟩
      · exact .inr ⟨h, e', List.mem_cons_of_mem _ he', h'⟩
    · have ha := i5 c (h.imp_right fun h e' he' => h e' (List.mem_cons_of_mem _ he'))
      have hb := j5 c (h.imp_right fun h e' he' => h e' (by rw [List.mem_singleton.mp he']; exact List.mem_cons_self ..))
      exact ⟨ha.1.trans hb.1, ha.2.trans hb.2⟩
structure PostF (l : List Chg) (b : Bool) (p : Pr) (out : List Sec) (ev : List Evt) (x y : Tk) : Prop where
  sb : y.side b = p
  so : y.side (!b) = x.side (!b)
  ok : y.ok = x.ok
  line : ∀ e ∈ y.line, e ∈ x.line ∨ ∃ d ∈ out, ∃ n, e = (!b, chg l n d)
  h : ∀ c, y.hh c = true → x.hh c = true ∨ (c = b ∧ ∃ e ∈ ev, e.kind = 1)
  n : ∀ c, (c = !b ∨ ∀ e ∈ ev, e.kind ≠ 1) → y.hh c = x.hh c ∧ y.nn c = x.nn c
theorem set_side (x : Tk) (b : Bool) (p : Pr) : (x.setSide b p).side b = p ∧ (x.setSide b p).side (!b) = x.side (!b) ∧ (x.setSide b p).ok = x.ok ∧ (x.setSide b p).line = x.line ∧ (∀ c, (x.setSide b p).hh c = x.hh c) ∧ ∀ c, (x.setSide b p).nn c = x.nn c := by
  cases b <;> exact ⟨rfl, rfl, rfl, rfl, fun c => by cases c <;> rfl, fun c => by cases c <;> rfl⟩
theorem postF (l : List Chg) (b : Bool) (p : Pr) (out : List Sec) (ev : List Evt) (x : Tk) : PostF l b p out ev x (postT x b p out ev l) := by
  obtain ⟨k1, k2, k3, k4, k5, k6⟩ := set_side x b p
  obtain ⟨i1, i2, i3, i4, i5⟩ := putF l b out (x.setSide b p)
  obtain ⟨j1, j2, j3, j4, j5⟩ := noteF b ev (out.foldl (put1 l b) (x.setSide b p))
  refine ⟨(j1 b).trans ((i1 b).trans k1), (j1 _).trans ((i1 _).trans k2), j2.trans (i2.trans k3), fun e he => ?_, fun c h => ?_, fun c h => ?_⟩
  · have he' : e ∈ (out.foldl (put1 l b) (x.setSide b p)).line := by rw [← j3]; exact he
    have := i5 e he'
    rwa [k4] at this
  · rcases j4 c h with h | h
    · rw [i3, k5] at h; exact .inl h
    · exact .inr h
  · obtain ⟨h1, h2⟩ := j5 c h
    exact ⟨h1.trans ((i3 c).trans (k5 c)), h2.trans ((i4 c).trans (k6 c))⟩
def stepT (l : List Chg) (b : Bool) (x : Tk) (s : Stp) : Tk := postT x b s.p s.out s.ev l
def Inv2 (x : Tk) : Prop := ∀ c, Inv (x.side c)
theorem inv2_step {l : List Chg} {b : Bool} {x x' : Tk} {s : Stp} (hx : Inv2 x) (e : ∀ c, x'.side c = x.side c) (hs : Inv s.p) : Inv2 (stepT l b x' s) := by
  intro c
  have hp := postF l b s.p s.out s.ev x'
  by_cases h : c = b
  · subst h; rw [show (stepT l c x' s).side c = s.p from hp.sb]; exact hs
  · have h' : c = !b := by cases c <;> cases b <;> simp_all
    subst h'
    rw [show (stepT l b x' s).side (!b) = x'.side (!b) from hp.so, e]; exact hx _
def begunP (c : Cfg) : Pr := { pr0 with cfg := c, passkey := -1 }
def askedP (c : Cfg) : Pr := { begunP c with since := 0, req := c.feat, phase := 1 }
def startT (a b : Cfg) (l : List Chg) : Tk := postT { tk0 with ok := true, s1 := begunP b } false (askedP a) [{ sec0 with kind := 1, feat := a.feat }] [] l
theorem newP_ok (c : Cfg) (h : (newP c).2 = 0) : (newP c).1 = begunP c := by
  unfold newP at h ⊢
  by_cases h1 : c.role ≠ 0 ∧ c.role ≠ 1
  · rw [if_pos h1] at h; exact absurd h (by simp)
  rw [if_neg h1] at h ⊢
  by_cases h2 : featK_ c.feat ≠ 0
  · rw [if_pos h2] at h; exact absurd h h2
  rw [if_neg h2] at h ⊢
  by_cases h3 : adrK c.own ≠ 0
  · rw [if_pos h3] at h; exact absurd h h3
  rw [if_neg h3] at h ⊢
  by_cases h4 : adrK c.peer ≠ 0
  · rw [if_pos h4] at h; exact absurd h h4
  rw [if_neg h4] at h ⊢
  by_cases h5 : c.secret.toNat < 1 ∨ 2147483645 < c.secret.toNat
  · rw [if_pos h5] at h; exact absurd h (by simp)
  rw [if_neg h5] at h ⊢
  by_cases h6 : validK (pubK c.secret) = false
  · rw [if_pos h6] at h; exact absurd h (by simp)
  rw [if_neg h6] at h ⊢
  by_cases h7 : c.feat.sid = true ∧ idnK c.idn ≠ 0
  · rw [if_pos h7] at h; exact absurd h h7.2
  rw [if_neg h7]
  rfl
theorem play_cases (a b : Cfg) (l : List Chg) (common : Int) : playT a b l common = tk0 ∨ ((newP a).2 = 0 ∧ (newP b).2 = 0 ∧ a.role = 0 ∧ b.role = 1 ∧ playT a b l common = runT l common 400 0 (startT a b l)) := by
  unfold playT
  split
  · exact .inl rfl
  · rename_i h
    simp only [not_or, Decidable.not_not] at h
    obtain ⟨h1, h2, h3, h4⟩ := h
    refine .inr ⟨h1, h2, h3, h4, ?_⟩
    rw [newP_ok a h1, newP_ok b h2]
    have : startP (begunP a) 0 = (askedP a, [{ sec0 with kind := 1, feat := a.feat }], 0) := by
      unfold startP
      rw [if_neg]
      · rfl
      · rintro (h | h)
        · exact h h3
        · exact h rfl
    rw [this]
    rfl
theorem inv_begun (c : Cfg) (h : (newP c).2 = 0) : Inv (begunP c) := by
  rw [← newP_ok c h]; exact inv_new c h
theorem start_inv {a b : Cfg} (l : List Chg) (ha : (newP a).2 = 0) (hb : (newP b).2 = 0) (hr : a.role = 0) : Inv2 (startT a b l) := by
  have hp := postF l false (askedP a) [{ sec0 with kind := 1, feat := a.feat }] [] { tk0 with ok := true, s1 := begunP b }
  have h1 : Inv (askedP a) := by
    have := inv_start (now := 0) (inv_begun a ha) (by omega)
    have e : startP (begunP a) 0 = (askedP a, [{ sec0 with kind := 1, feat := a.feat }], 0) := by
      unfold startP
      rw [if_neg]
      · rfl
      · rintro (h | h)
        · exact h hr
        · exact h rfl
    rwa [e] at this
  intro c
  cases c
  · rw [show (startT a b l).side false = _ from hp.sb]; exact h1
  · rw [show (startT a b l).side true = _ from hp.so]; exact inv_begun b hb
structure JA (a b : Cfg) (x : Tk) : Prop where
  cf : ∀ c, (x.side c).cfg = if c then b else a
  line : ∀ e ∈ x.line, e.2.kind = 13 → e.2.value = ownCheckR (x.side (!e.1)) ∧ 5 ≤ (x.side (!e.1)).phase
  kept : ∀ c, (x.side c).haveIn = true → (x.side c).checkIn = ownCheckR (x.side (!c)) ∧ 5 ≤ (x.side (!c)).phase
  keyed : ∀ c, 6 ≤ (x.side c).phase → (x.side c).phase ≤ 7 → otherCheckR (x.side c) = ownCheckR (x.side (!c)) ∧ 5 ≤ (x.side (!c)).phase ∧ (x.side c).ltk = ltkR (x.side c)
structure Gst (p : Pr) (V : BitVec 64 → Prop) (s : Stp) : Prop where
  cfg : s.p.cfg = p.cfg
  core : 5 ≤ p.phase → Core p s.p ∧ s.p.method = p.method ∧ s.p.peer = p.peer
  out : ∀ e ∈ s.out, e.kind = 13 → e.value = ownCheckR s.p ∧ 5 ≤ s.p.phase
  hin : s.p.haveIn = true → V s.p.checkIn
  key : 6 ≤ s.p.phase → s.p.phase ≤ 7 → (6 ≤ p.phase ∧ p.phase ≤ 7 ∧ s.p.ltk = p.ltk) ∨ (V (otherCheckR s.p) ∧ s.p.ltk = ltkR s.p)
end Go.Proofs.YtihmbcnccdiecaaDoor
namespace Go.Proofs.YtihmbcnccdiecaaDoor
set_option maxRecDepth 100000
set_option linter.unusedVariables false
set_option linter.unusedSimpArgs false
structure Ffc (p : Pr) (d : Sec) (s : Stp) : Prop where
  out1 : ∀ e ∈ s.out, e.kind ≠ 1
  out2 : ∀ e ∈ s.out, e.kind = 2 → e.feat = p.cfg.feat ∧ initR p = false
  low : p.phase ≤ 1 → (s.p.phase = p.phase ∧ s.p.req = p.req) ∨ s.p.phase = 8 ∨
    (s.p.phase = 2 ∧ enoughK s.p.req s.p.res = true ∧ s.p.method = (chooseK s.p.req s.p.res).1 ∧ s.p.peer = d.feat ∧
      ((initR p = true ∧ d.kind = 2 ∧ p.phase = 1 ∧ s.p.req = p.req ∧ s.p.res = d.feat) ∨ (initR p = false ∧ d.kind = 1 ∧ s.p.req = d.feat ∧ s.p.res = p.cfg.feat)))
  late : 2 ≤ p.phase → 2 ≤ s.p.phase
structure Gfc (p : Pr) (s : Stp) : Prop where
  out : ∀ e ∈ s.out, e.kind ≠ 1 ∧ e.kind ≠ 2
  low : p.phase ≤ 1 → s = ⟨p, [], []⟩
  late : 2 ≤ p.phase → 2 ≤ s.p.phase
structure JF (a b : Cfg) (x : Tk) : Prop where
  cf : ∀ c, (x.side c).cfg = if c then b else a
  l1 : ∀ e ∈ x.line, e.2.kind = 1 → e.2.feat = a.feat
  l2 : ∀ e ∈ x.line, e.2.kind = 2 → e.2.feat = b.feat
  one : ∀ c, (x.side c).phase = 1 → (x.side c).req = a.feat
  req : ∀ c, 2 ≤ (x.side c).phase → (x.side c).phase ≤ 7 → (x.side c).req = a.feat ∧ (x.side c).res = b.feat ∧ (x.side c).method = (chooseK a.feat b.feat).1 ∧ (x.side c).peer = (if c then a.feat else b.feat) ∧ enoughK a.feat b.feat = true
structure JC (x : Tk) : Prop where
  up : ∀ c, x.hh c = true → 4 ≤ (x.side c).phase ∨ ((x.side c).phase = 3 ∧ isPass (x.side c).method = true)
  agr : ∀ c, (x.side c).agreed = true → x.h0 = true ∧ x.h1 = true ∧ x.n0 = x.n1
  key : ∀ c, 5 ≤ (x.side c).phase → (x.side c).phase ≤ 7 → (x.side c).method = 2 → (x.side c).agreed = true
end Go.Proofs.YtihmbcnccdiecaaDoor
namespace Go.Proofs.YtihmbcnccdiecaaDoor
set_option linter.unusedVariables false
def powO (b e i : Nat) : Nat := b ^ (e % 2 ^ i) % gp
def powS (b i : Nat) : Nat := b ^ 2 ^ i % gp
theorem powO_zero (b e : Nat) : powO b e 0 = 1 := by
  unfold powO
  rw [Nat.pow_zero, Nat.mod_one, Nat.pow_zero]
  rfl
theorem powS_zero (b : Nat) : powS b 0 = b % gp := by
  unfold powS
  rw [Nat.pow_zero, Nat.pow_one]
theorem powS_succ (b i : Nat) : powS b (i + 1) = powS b i * powS b i % gp := by
  unfold powS
  rw [← Nat.mul_mod, ← Nat.pow_add, show 2 ^ i + 2 ^ i = 2 ^ (i + 1) by rw [Nat.pow_succ]; omega]
theorem powO_one (b e i : Nat) (h : e / 2 ^ i % 2 = 1) : powO b e (i + 1) = powO b e i * powS b i % gp := by
  unfold powO powS
  rw [← Nat.mul_mod, ← Nat.pow_add, Nat.mod_pow_succ, h, Nat.mul_one]
theorem powO_none (b e i : Nat) (h : ¬ e / 2 ^ i % 2 = 1) : powO b e (i + 1) = powO b e i := by
  unfold powO
  rw [Nat.mod_pow_succ, show e / 2 ^ i % 2 = 0 by omega, Nat.mul_zero, Nat.add_zero]
theorem powO_all (b e i : Nat) (h : e < 2 ^ i) : powO b e i = powK b e := by
  unfold powO powK
  rw [Nat.mod_eq_of_lt h]
theorem powO_lt (b e i : Nat) : powO b e i < gp := Nat.mod_lt _ (by decide)
theorem powS_lt (b i : Nat) : powS b i < gp := Nat.mod_lt _ (by decide)
theorem powK_lt (b e : Nat) : powK b e < gp := Nat.mod_lt _ (by decide)
end Go.Proofs.YtihmbcnccdiecaaDoor
namespace Go.Proofs.YtihmbcnccdiecaaDoor
set_option maxRecDepth 100000
set_option linter.unusedVariables false
set_option linter.unusedSimpArgs false
structure Fx where
  c : Cfg
  m : Int
  f : Feat
  rq : Feat
  rs : Feat
  pk : BitVec 32
  sh : BitVec 32
structure Vx where
  ph : Int
  hv : Bool
  cm : BitVec 64
  no : BitVec 64
  ot : BitVec 64
  pw : Int
  rd : Int
  dr : Int
structure Sx (p : Pr) (F : Fx) (V : Vx) : Prop where
  cfg : p.cfg = F.c
  meth : p.method = F.m
  peer : p.peer = F.f
  req : p.req = F.rq
  res : p.res = F.rs
  pk : p.peerKey = F.pk
  sh : p.shared = F.sh
  hin : p.haveIn = false
  cry : p.crypt = false
  idn : p.idn = idn0
  ph : p.phase = V.ph
  hv : p.have_ = V.hv
  cm : p.commit = V.cm
  no : p.nonce = V.no
  ot : p.other = V.ot
  pw : p.passkey = V.pw
  rd : p.round = V.rd
  dr : p.drawn = V.dr
section
variable {p : Pr} {F : Fx} {V : Vx}
def zK (pw rd : Int) : BitVec 8 := BitVec.ofInt 8 (128 + (pw / 2 ^ rd.toNat) % 2)
theorem Sx.z (h : Sx p F V) (hp : isPass F.m = true) : roundR p = zK V.pw V.rd := by
  unfold roundR
  rw [h.meth, if_pos hp, h.pw, h.rd]
  rfl
theorem Sx.z0 (h : Sx p F V) (hp : isPass F.m = false) : roundR p = 0#8 := by
  unfold roundR
  rw [h.meth, if_neg (by simp [hp])]
def Vx.fresh (V : Vx) (F : Fx) : Vx := { V with no := drawK F.c.seed V.dr, dr := bump V.dr }
end
end Go.Proofs.YtihmbcnccdiecaaDoor
namespace Go.Proofs.YtihmbcnccdiecaaDoor
set_option maxRecDepth 100000
set_option linter.unusedVariables false
set_option linter.unusedSimpArgs false
section
variable {p : Pr} {F : Fx} {V : Vx}
def beginQ (s : Stp) : Stp :=
  if s.p.method = 6 then (if initR s.p then sendR (freshR s) 4 (freshR s).p.nonce else s)
  else if isPass s.p.method = false then (if initR s.p then s else commitR s)
  else if showsR s.p = false then reportR { s with p := { s.p with phase := 4 } } 2 0
  else
    let t : Stp := { nextR s with p := { (nextR s).p with passkey := ((nextV s % 1000000#64).toNat : Int) } }
    let u := reportR t 1 t.p.passkey
    if initR u.p then commitR u else u
theorem begin_q (s : Stp) : beginR s = beginQ ⟨{ s.p with phase := 3 }, s.out, s.ev⟩ := rfl
def Fx.key (F : Fx) (k : BitVec 32) : Fx := { F with pk := k, sh := sharedK F.c.secret k }
structure Kx (p : Pr) (F : Fx) (L : BitVec 64) (cr : Bool) (ph : Int) : Prop where
  cfg : p.cfg = F.c
  req : p.req = F.rq
  res : p.res = F.rs
  sh : p.shared = F.sh
  ltk : p.ltk = L
  cry : p.crypt = cr
  idn : p.idn = idn0
  ph : p.phase = ph
end
end Go.Proofs.YtihmbcnccdiecaaDoor
namespace Go.Proofs.YtihmbcnccdiecaaDoor
set_option maxRecDepth 100000
set_option linter.unusedVariables false
set_option linter.unusedSimpArgs false
def FldT (x : Tk) : Prop := x.s0.phase = 8 ∨ x.s1.phase = 8
def Wn (l : List Chg) (common : Int) (bad : Prop) (E : Tk → Prop) (m : Nat) (x : Tk) : Prop :=
  Inv2 x → ∀ (k : Nat) (n : Int), m ≤ k → 0 ≤ n → n + k ≤ 1099511627776 → (bad ∧ FldT (runT l common k n x)) ∨ E (runT l common k n x)
section
variable {l : List Chg} {common : Int} {bad : Prop} {E : Tk → Prop}
theorem Wn.mono {m m' : Nat} {x : Tk} (h : Wn l common bad E m x) (hm : m ≤ m') : Wn l common bad E m' x := fun hi k n h1 h2 h3 => h hi k n (by omega) h2 h3
end
structure Vw where
  h0 : Bool
  h1 : Bool
  n0 : Int
  n1 : Int
  g0 : List Evt
  g1 : List Evt
structure At (x : Tk) (p0 p1 : Pr) (line : List (Bool × Sec)) (v : Vw) (k : Int) : Prop where
  s0 : x.s0 = p0
  s1 : x.s1 = p1
  line : x.line = line
  ok : x.ok = true
  h0 : x.h0 = v.h0
  h1 : x.h1 = v.h1
  n0 : x.n0 = v.n0
  n1 : x.n1 = v.n1
  g0 : x.g0 = v.g0
  g1 : x.g1 = v.g1
  sent : x.sent = k
end Go.Proofs.YtihmbcnccdiecaaDoor
namespace Go.Proofs.YtihmbcnccdiecaaDoor
set_option maxRecDepth 100000
open Go.ChangeShapes Go.WideShapes Go.ChangeAt Go.RowKit
set_option linter.unusedVariables false
def LeafOf (P : Program) (t : TypeId) (ls : List TypeId) : Prop :=
  P.cellsOf t = ls.length ∧ ∀ {H : Type} (enc : TypeId × Value → H) (w : World) (base : Nat) (sp : Nat → Bool) (held : Bool) (fuel : Nat) (cs : List Value) (x : DataW H × List MemPlace),
    DataW.trod enc P w base sp held fuel t cs = some x → cs.length = ls.length → ∀ (j : Nat) (l : TypeId) (c : Value), ls[j]? = some l → cs[j]? = some c → ∃ n y, DataW.trod enc P w base sp held n l [c] = some y
theorem leaf_one {P : Program} {t : TypeId} (hc : P.cellsOf t = 1) : LeafOf P t [t] := by
  refine ⟨hc, fun enc w base sp held fuel cs x h hl j l c h1 h2 => ?_⟩
  match cs, hl with
  | [c0], _ =>
    match j, h1, h2 with
    | 0, h1, h2 =>
      simp at h1 h2
      subst h1 h2
      exact ⟨fuel, x, h⟩
    | j + 1, h1, _ => simp at h1
def FieldsLeaf (P : Program) : Nat → List Field → List (List TypeId) → Prop
  | _, [], [] => True
  | off, f :: fs, ls :: lss => LeafOf P f.type ls ∧ f.offset = off ∧ FieldsLeaf P (off + ls.length) fs lss
  | _, _, _ => False
theorem leaf_fields {H : Type} {enc : TypeId × Value → H} {P : Program} {w : World} {base : Nat} {sp : Nat → Bool} {held : Bool} {n : Nat} {cs : List Value} :
    ∀ (fs : List Field) (lss : List (List TypeId)) (off : Nat), FieldsLeaf P off fs lss → off + lss.flatten.length ≤ cs.length →
      (∀ (a : Nat) (f : Field), fs[a]? = some f → ∃ y, DataW.trod enc P w base sp held n f.type ((cs.drop f.offset).take (P.cellsOf f.type)) = some y) →
      ∀ (j : Nat) (l : TypeId) (c : Value), lss.flatten[j]? = some l → cs[off + j]? = some c → ∃ m y, DataW.trod enc P w base sp held m l [c] = some y
  | [], [], _, _, _, _, j, l, c, h1, _ => by simp at h1
  | [], _ :: _, _, hf, _, _, _, _, _, _, _ => by simp [FieldsLeaf] at hf
  | _ :: _, [], _, hf, _, _, _, _, _, _, _ => by simp [FieldsLeaf] at hf
  | f :: fs, ls :: lss, off, hf, hlen, ht, j, l, c, h1, h2 => by
    obtain ⟨⟨hc, hl⟩, ho, hr⟩ := hf
    rw [List.flatten_cons] at h1
    rw [List.flatten_cons, List.length_append] at hlen
    by_cases hj : j < ls.length
    · rw [List.getElem?_append_left hj] at h1
      obtain ⟨y, hy⟩ := ht 0 f rfl
      rw [ho, hc] at hy
      have hsl : ((cs.drop off).take ls.length).length = ls.length := by rw [List.length_take, List.length_drop]; omega
      refine hl enc w base sp held n _ y hy hsl j l c h1 ?_
      rw [List.getElem?_take, if_pos hj, List.getElem?_drop]
      exact h2
    · rw [List.getElem?_append_right (by omega)] at h1
      refine leaf_fields fs lss (off + ls.length) hr (by omega) (fun a f' h => ht (a + 1) f' h) (j - ls.length) l c h1 ?_
      rw [show off + ls.length + (j - ls.length) = off + j by omega]
      exact h2
theorem leaf_struct {P : Program} {t : TypeId} {fs : Array Field} (lss : List (List TypeId)) (ht : P.underlying t = some (.struct fs)) (hc : P.cellsOf t = lss.flatten.length) (hf : FieldsLeaf P 0 fs.toList lss) : LeafOf P t lss.flatten := by
  refine ⟨hc, fun enc w base sp held fuel cs x h hl j l c h1 h2 => ?_⟩
  obtain ⟨xs, n, _, _, _, hxl, hg⟩ := DataW.trod_struct ht h
  refine leaf_fields (n := n) fs.toList lss 0 hf (by rw [hl]; omega) (fun a f h => ?_) j l c h1 (by rw [Nat.zero_add]; exact h2)
  have ha : fs[a]? = some f := by rw [← Array.getElem?_toList]; exact h
  have hlt : a < xs.length := by rw [hxl]; exact (Array.getElem?_eq_some_iff.1 ha).1
  exact ⟨xs[a], (hg a f ha).trans (List.getElem?_eq_getElem hlt)⟩
section
variable {H : Type} {enc : TypeId × Value → H} {P : Program} {w : World} {base n : Nat} {sp : Nat → Bool} {held : Bool} {l : TypeId} {c : Value} {y : DataW H × List MemPlace}
theorem leaf_int {k : IntKind} (ht : P.underlying l = some (.int k)) (h : DataW.trod enc P w base sp held n l [c] = some y) : ∃ a, c = .int k a ∧ (Lit.int k a).wf = true := by
  cases n with
  | zero => simp [DataW.trod] at h
  | succ n =>
    unfold DataW.trod at h
    rw [ht] at h
    cases c <;> simp at h
    rename_i k' a
    obtain ⟨⟨rfl, hw⟩, _⟩ := h
    exact ⟨a, rfl, hw⟩
theorem leaf_bool (ht : P.underlying l = some .bool) (h : DataW.trod enc P w base sp held n l [c] = some y) : ∃ b, c = .bool b := by
  cases n with
  | zero => simp [DataW.trod] at h
  | succ n =>
    unfold DataW.trod at h
    rw [ht] at h
    cases c <;> simp at h
    exact ⟨_, rfl⟩
theorem leaf_u64 (ht : P.underlying l = some (.int .u64)) (h : DataW.trod enc P w base sp held n l [c] = some y) : ∃ x : BitVec 64, c = .int .u64 (W64 x) := by
  obtain ⟨a, rfl, hw⟩ := leaf_int ht h
  obtain ⟨x, rfl⟩ := W64_of_wf hw
  exact ⟨x, rfl⟩
theorem leaf_u32 (ht : P.underlying l = some (.int .u32)) (h : DataW.trod enc P w base sp held n l [c] = some y) : ∃ x : BitVec 32, c = .int .u32 (W32 x) := by
  obtain ⟨a, rfl, hw⟩ := leaf_int ht h
  obtain ⟨x, rfl⟩ := W32_of_wf hw
  exact ⟨x, rfl⟩
theorem agg_in {t : TypeId} {ls : List TypeId} {v : Value} {d : DataW H} {p : List MemPlace} (hv : ∃ cs, v = .agg cs ∧ cs.size = P.cellsOf t) (hl : LeafOf P t ls) (h : DataW.Trod enc P w base sp held t v d p) :
    ∃ cs : List Value, v = .agg cs.toArray ∧ cs.length = ls.length ∧ ∀ (j : Nat) (l : TypeId) (c : Value), ls[j]? = some l → cs[j]? = some c → ∃ n y, DataW.trod enc P w base sp held n l [c] = some y := by
  obtain ⟨cs, rfl, hs⟩ := hv
  obtain ⟨fuel, hf⟩ := h
  have hlen : cs.toList.length = ls.length := by rw [Array.length_toList, hs, hl.1]
  exact ⟨cs.toList, rfl, hlen, fun j l c h1 h2 => hl.2 enc w base sp held fuel _ _ hf hlen j l c h1 h2⟩
end
end Go.Proofs.YtihmbcnccdiecaaDoor
namespace Go.Proofs.YtihmbcnccdiecaaDoor
set_option maxRecDepth 100000
open Go.ChangeShapes Go.WideShapes Go.ChangeAt Go.RowKit
set_option linter.unusedVariables false
def ls_adr : List TypeId := [3, 24]
theorem leaf_adr : LeafOf Tryd.prog 26 ls_adr := leaf_struct (P := Tryd.prog) [[3], [24]] Tryd.underlying26 (by kernel_rfl) ⟨leaf_one (by kernel_rfl), rfl, leaf_one (by kernel_rfl), rfl, trivial⟩
def ls_feat : List TypeId := [3, 4, 4, 4, 4, 4]
theorem leaf_feat : LeafOf Tryd.prog 23 ls_feat := leaf_struct (P := Tryd.prog) [[3], [4], [4], [4], [4], [4]] Tryd.underlying23 (by kernel_rfl) ⟨leaf_one (by kernel_rfl), rfl, leaf_one (by kernel_rfl), rfl, leaf_one (by kernel_rfl), rfl, leaf_one (by kernel_rfl), rfl, leaf_one (by kernel_rfl), rfl, leaf_one (by kernel_rfl), rfl, trivial⟩
def ls_ident : List TypeId := [3, 24, 27]
theorem leaf_ident : LeafOf Tryd.prog 29 ls_ident := leaf_struct (P := Tryd.prog) [ls_adr, [27]] Tryd.underlying29 (by kernel_rfl) ⟨leaf_adr, rfl, leaf_one (by kernel_rfl), rfl, trivial⟩
def ls_oobdata : List TypeId := [24, 24]
theorem leaf_oobdata : LeafOf Tryd.prog 32 ls_oobdata := leaf_struct (P := Tryd.prog) [[24], [24]] Tryd.underlying32 (by kernel_rfl) ⟨leaf_one (by kernel_rfl), rfl, leaf_one (by kernel_rfl), rfl, trivial⟩
def ls_pcfg : List TypeId := [3, 3, 4, 4, 4, 4, 4, 3, 24, 3, 24, 3, 24, 27, 30, 24, 24, 24, 24]
theorem leaf_pcfg : LeafOf Tryd.prog 34 ls_pcfg := leaf_struct (P := Tryd.prog) [[3], ls_feat, ls_adr, ls_adr, ls_ident, [30], [24], [24], ls_oobdata] Tryd.underlying34 (by kernel_rfl) ⟨leaf_one (by kernel_rfl), rfl, leaf_feat, rfl, leaf_adr, rfl, leaf_adr, rfl, leaf_ident, rfl, leaf_one (by kernel_rfl), rfl, leaf_one (by kernel_rfl), rfl, leaf_one (by kernel_rfl), rfl, leaf_oobdata, rfl, trivial⟩
theorem pcfg_in {H : Type} {enc : TypeId × Value → H} {W w : World} {r : Reach} {b0 base : Nat} {sp : Nat → Bool} {held : Bool} {v : Value} {d : DataW H} {p : List MemPlace} (hv : Value.okWide Tryd.prog W r b0 34 v) (h : DataW.Trod enc Tryd.prog w base sp held 34 v d p) :
    ∃ (role : Int) (feat_io : Int) (feat_oob : Bool) (feat_bond : Bool) (feat_mitm : Bool) (feat_sid : Bool) (feat_tid : Bool) (own_kind : Int) (own_bits : BitVec 64) (peer_kind : Int) (peer_bits : BitVec 64) (idn_adr_kind : Int) (idn_adr_bits : BitVec 64) (idn_irk : BitVec 64) (secret : BitVec 32) (seed : BitVec 64) (mine : BitVec 64) (oob_value : BitVec 64) (oob_random : BitVec 64), v = .agg #[.int .i64 role, .int .i64 feat_io, .bool feat_oob, .bool feat_bond, .bool feat_mitm, .bool feat_sid, .bool feat_tid, .int .i64 own_kind, .int .u64 (W64 own_bits), .int .i64 peer_kind, .int .u64 (W64 peer_bits), .int .i64 idn_adr_kind, .int .u64 (W64 idn_adr_bits), .int .u64 (W64 idn_irk), .int .u32 (W32 secret), .int .u64 (W64 seed), .int .u64 (W64 mine), .int .u64 (W64 oob_value), .int .u64 (W64 oob_random)] ∧ (Lit.int .i64 role).wf = true ∧ (Lit.int .i64 feat_io).wf = true ∧ (Lit.int .i64 own_kind).wf = true ∧ (Lit.int .i64 peer_kind).wf = true ∧ (Lit.int .i64 idn_adr_kind).wf = true := by
  obtain ⟨cs, rfl, hl, hg⟩ := agg_in (okWide_struct Tryd.underlying34 hv) leaf_pcfg h
  match cs, hl with
  | [c0, c1, c2, c3, c4, c5, c6, c7, c8, c9, c10, c11, c12, c13, c14, c15, c16, c17, c18], _ =>
    obtain ⟨n0, y0, h0⟩ := hg 0 _ _ rfl rfl
    obtain ⟨x0, rfl, w0⟩ := leaf_int (k := .i64) Tryd.underlying3 h0
    obtain ⟨n1, y1, h1⟩ := hg 1 _ _ rfl rfl
    obtain ⟨x1, rfl, w1⟩ := leaf_int (k := .i64) Tryd.underlying3 h1
    obtain ⟨n2, y2, h2⟩ := hg 2 _ _ rfl rfl
    obtain ⟨x2, rfl⟩ := leaf_bool Tryd.underlying4 h2
    obtain ⟨n3, y3, h3⟩ := hg 3 _ _ rfl rfl
    obtain ⟨x3, rfl⟩ := leaf_bool Tryd.underlying4 h3
    obtain ⟨n4, y4, h4⟩ := hg 4 _ _ rfl rfl
    obtain ⟨x4, rfl⟩ := leaf_bool Tryd.underlying4 h4
    obtain ⟨n5, y5, h5⟩ := hg 5 _ _ rfl rfl
    obtain ⟨x5, rfl⟩ := leaf_bool Tryd.underlying4 h5
    obtain ⟨n6, y6, h6⟩ := hg 6 _ _ rfl rfl
    obtain ⟨x6, rfl⟩ := leaf_bool Tryd.underlying4 h6
    obtain ⟨n7, y7, h7⟩ := hg 7 _ _ rfl rfl
    obtain ⟨x7, rfl, w7⟩ := leaf_int (k := .i64) Tryd.underlying3 h7
    obtain ⟨n8, y8, h8⟩ := hg 8 _ _ rfl rfl
    obtain ⟨x8, rfl⟩ := leaf_u64 Tryd.underlying24 h8
    obtain ⟨n9, y9, h9⟩ := hg 9 _ _ rfl rfl
    obtain ⟨x9, rfl, w9⟩ := leaf_int (k := .i64) Tryd.underlying3 h9
    obtain ⟨n10, y10, h10⟩ := hg 10 _ _ rfl rfl
    obtain ⟨x10, rfl⟩ := leaf_u64 Tryd.underlying24 h10
    obtain ⟨n11, y11, h11⟩ := hg 11 _ _ rfl rfl
    obtain ⟨x11, rfl, w11⟩ := leaf_int (k := .i64) Tryd.underlying3 h11
    obtain ⟨n12, y12, h12⟩ := hg 12 _ _ rfl rfl
    obtain ⟨x12, rfl⟩ := leaf_u64 Tryd.underlying24 h12
    obtain ⟨n13, y13, h13⟩ := hg 13 _ _ rfl rfl
    obtain ⟨x13, rfl⟩ := leaf_u64 Tryd.underlying27 h13
    obtain ⟨n14, y14, h14⟩ := hg 14 _ _ rfl rfl
    obtain ⟨x14, rfl⟩ := leaf_u32 Tryd.underlying30 h14
    obtain ⟨n15, y15, h15⟩ := hg 15 _ _ rfl rfl
    obtain ⟨x15, rfl⟩ := leaf_u64 Tryd.underlying24 h15
    obtain ⟨n16, y16, h16⟩ := hg 16 _ _ rfl rfl
    obtain ⟨x16, rfl⟩ := leaf_u64 Tryd.underlying24 h16
    obtain ⟨n17, y17, h17⟩ := hg 17 _ _ rfl rfl
    obtain ⟨x17, rfl⟩ := leaf_u64 Tryd.underlying24 h17
    obtain ⟨n18, y18, h18⟩ := hg 18 _ _ rfl rfl
    obtain ⟨x18, rfl⟩ := leaf_u64 Tryd.underlying24 h18
    exact ⟨x0, x1, x2, x3, x4, x5, x6, x7, x8, x9, x10, x11, x12, x13, x14, x15, x16, x17, x18, rfl, w0, w1, w7, w9, w11⟩
end Go.Proofs.YtihmbcnccdiecaaDoor
namespace Go.Proofs.YtihmbcnccdiecaaDoor
set_option maxRecDepth 100000
open Go.ChangeShapes Go.WideShapes Go.ChangeAt Go.RowKit
set_option linter.unusedVariables false
section
variable {H : Type} {enc : TypeId × Value → H} {P : Program} {w : World} {base : Nat} {sp : Nat → Bool} {held : Bool}
theorem srow_cell {α : Type} {f : α → List Value} {sz : Nat} {rs : List α} {A : Option Addr} (hf : ∀ r, (f r).length = sz) (h : Rd w A (rs.flatMap f)) (i : Nat) (hi : i < rs.length) (k : Nat) (u : Value) (hk : (f rs[i])[k]? = some u) :
    ∃ ad, A = some ad ∧ ad.block < w.heap.size ∧ w.cell? (ad.add (i * sz + k)) = some u := by
  refine h (i * sz + k) u ?_
  have key : ∀ (rs : List α) (i : Nat) (hi : i < rs.length), (f rs[i])[k]? = some u → (rs.flatMap f)[i * sz + k]? = some u := by
    intro rs
    induction rs with
    | nil => intro i hi; simp at hi
    | cons r rs ih =>
      intro i hi hk
      rw [List.flatMap_cons]
      cases i with
      | zero =>
        have hkl : k < (f r).length := by
          rcases Nat.lt_or_ge k (f r).length with h | h
          · exact h
          · rw [List.getElem?_eq_none (by simpa using h)] at hk; cases hk
        rw [Nat.zero_mul, Nat.zero_add, List.getElem?_append_left hkl]
        exact hk
      | succ i =>
        rw [List.getElem?_append_right (by rw [hf, Nat.add_mul]; omega), hf, show (i + 1) * sz + k - sz = i * sz + k by rw [Nat.add_mul]; omega]
        exact ih i (by simpa using hi) (by simpa using hk)
  exact key rs i hi hk
theorem srow_open {α : Type} {f : α → List Value} {sz : Nat} {rs : List α} {A : Option Addr} (hf : ∀ r, (f r).length = sz) (h0 : 0 < sz) (h : Rd w A (rs.flatMap f)) (i : Nat) (hi : i < rs.length) :
    ∃ b off, A = some ⟨b, off, none⟩ ∧ ∀ W : World, Below w.heap.size w W → W.rangeAt b (off + i * sz) (f rs[i]) := by
  have hlen : 0 < (rs.flatMap f).length := by
    rcases rs with _ | ⟨r, rs⟩
    · simp at hi
    · rw [List.flatMap_cons, List.length_append, hf]; omega
  obtain ⟨b, off, hA, hb, hc⟩ := h.open_ hlen
  refine ⟨b, off, hA, fun W hB k u hk => ?_⟩
  obtain ⟨ad, hA', _, hc'⟩ := srow_cell hf h i hi k u hk
  rw [hA] at hA'
  cases hA'
  have e : (⟨b, off, none⟩ : Addr).add (i * sz + k) = ⟨b, off + i * sz + k, none⟩ := by rw [Addr.add_mid, Nat.add_assoc]
  rw [e] at hc'
  exact (hB.cell (p := ⟨b, off + i * sz + k, none⟩) hb).trans hc'
end
end Go.Proofs.YtihmbcnccdiecaaDoor
namespace Go.Proofs.YtihmbcnccdiecaaDoor
set_option maxRecDepth 100000
open Go.ChangeShapes Go.WideShapes Go.ChangeAt Go.RowKit
set_option linter.unusedVariables false
structure R_op38 where
  kind : Int
  pdu_kind : Int
  pdu_feat_io : Int
  pdu_feat_oob : Bool
  pdu_feat_bond : Bool
  pdu_feat_mitm : Bool
  pdu_feat_sid : Bool
  pdu_feat_tid : Bool
  pdu_pub : BitVec 32
  pdu_value : BitVec 64
  pdu_idn_adr_kind : Int
  pdu_idn_adr_bits : BitVec 64
  pdu_idn_irk : BitVec 64
  pdu_reason : Int
  answer : Int
  now : Int
def R_op38.cells (r : R_op38) : List Value := [.int .i64 r.kind, .int .i64 r.pdu_kind, .int .i64 r.pdu_feat_io, .bool r.pdu_feat_oob, .bool r.pdu_feat_bond, .bool r.pdu_feat_mitm, .bool r.pdu_feat_sid, .bool r.pdu_feat_tid, .int .u32 (W32 r.pdu_pub), .int .u64 (W64 r.pdu_value), .int .i64 r.pdu_idn_adr_kind, .int .u64 (W64 r.pdu_idn_adr_bits), .int .u64 (W64 r.pdu_idn_irk), .int .i64 r.pdu_reason, .int .i64 r.answer, .int .i64 r.now]
def R_op38.ok (w : World) (r : R_op38) : Prop := (Lit.int .i64 r.kind).wf = true ∧ (Lit.int .i64 r.pdu_kind).wf = true ∧ (Lit.int .i64 r.pdu_feat_io).wf = true ∧ (Lit.int .i64 r.pdu_idn_adr_kind).wf = true ∧ (Lit.int .i64 r.pdu_reason).wf = true ∧ (Lit.int .i64 r.answer).wf = true ∧ (Lit.int .i64 r.now).wf = true ∧ True
structure R_change where
  at_ : Int
  pub : BitVec 32
  value : BitVec 64
def R_change.cells (r : R_change) : List Value := [.int .i64 r.at_, .int .u32 (W32 r.pub), .int .u64 (W64 r.value)]
def R_change.ok (w : World) (r : R_change) : Prop := (Lit.int .i64 r.at_).wf = true ∧ True
end Go.Proofs.YtihmbcnccdiecaaDoor
namespace Go.Proofs.YtihmbcnccdiecaaDoor
set_option maxRecDepth 100000
open Go.ChangeShapes Go.WideShapes Go.ChangeAt Go.RowKit
set_option linter.unusedVariables false
set_option linter.unusedSimpArgs false
def tkL (x : Tk) (q0 q1 qa ql : Value) : List Value := [.int .i64 x.s0.cfg.role, .int .i64 x.s0.cfg.feat.io, .bool x.s0.cfg.feat.oob, .bool x.s0.cfg.feat.bond, .bool x.s0.cfg.feat.mitm, .bool x.s0.cfg.feat.sid, .bool x.s0.cfg.feat.tid, .int .i64 x.s0.cfg.own.kind, .int .u64 (W64 x.s0.cfg.own.bits), .int .i64 x.s0.cfg.peer.kind, .int .u64 (W64 x.s0.cfg.peer.bits), .int .i64 x.s0.cfg.idn.adr.kind, .int .u64 (W64 x.s0.cfg.idn.adr.bits), .int .u64 (W64 x.s0.cfg.idn.irk), .int .u32 (W32 x.s0.cfg.secret), .int .u64 (W64 x.s0.cfg.seed), .int .u64 (W64 x.s0.cfg.mine), .int .u64 (W64 x.s0.cfg.oob.value), .int .u64 (W64 x.s0.cfg.oob.random), .int .i64 x.s0.phase, .int .i64 x.s0.since, .int .i64 x.s0.method, .int .i64 x.s0.peer.io, .bool x.s0.peer.oob, .bool x.s0.peer.bond, .bool x.s0.peer.mitm, .bool x.s0.peer.sid, .bool x.s0.peer.tid, .int .i64 x.s0.req.io, .bool x.s0.req.oob, .bool x.s0.req.bond, .bool x.s0.req.mitm, .bool x.s0.req.sid, .bool x.s0.req.tid, .int .i64 x.s0.res.io, .bool x.s0.res.oob, .bool x.s0.res.bond, .bool x.s0.res.mitm, .bool x.s0.res.sid, .bool x.s0.res.tid, .int .u32 (W32 x.s0.peerKey), .int .u32 (W32 x.s0.shared), .int .u64 (W64 x.s0.nonce), .int .u64 (W64 x.s0.other), .int .u64 (W64 x.s0.commit), .bool x.s0.have_, .int .i64 x.s0.passkey, .int .i64 x.s0.round, .bool x.s0.agreed, .int .u64 (W64 x.s0.checkIn), .bool x.s0.haveIn, .bool x.s0.crypt, .int .u64 (W64 x.s0.ltk), .int .i64 x.s0.idn.adr.kind, .int .u64 (W64 x.s0.idn.adr.bits), .int .u64 (W64 x.s0.idn.irk), .int .i64 x.s0.drawn, .int .i64 x.s0.reason, .int .i64 x.s1.cfg.role, .int .i64 x.s1.cfg.feat.io, .bool x.s1.cfg.feat.oob, .bool x.s1.cfg.feat.bond, .bool x.s1.cfg.feat.mitm, .bool x.s1.cfg.feat.sid, .bool x.s1.cfg.feat.tid, .int .i64 x.s1.cfg.own.kind, .int .u64 (W64 x.s1.cfg.own.bits), .int .i64 x.s1.cfg.peer.kind, .int .u64 (W64 x.s1.cfg.peer.bits), .int .i64 x.s1.cfg.idn.adr.kind, .int .u64 (W64 x.s1.cfg.idn.adr.bits), .int .u64 (W64 x.s1.cfg.idn.irk), .int .u32 (W32 x.s1.cfg.secret), .int .u64 (W64 x.s1.cfg.seed), .int .u64 (W64 x.s1.cfg.mine), .int .u64 (W64 x.s1.cfg.oob.value), .int .u64 (W64 x.s1.cfg.oob.random), .int .i64 x.s1.phase, .int .i64 x.s1.since, .int .i64 x.s1.method, .int .i64 x.s1.peer.io, .bool x.s1.peer.oob, .bool x.s1.peer.bond, .bool x.s1.peer.mitm, .bool x.s1.peer.sid, .bool x.s1.peer.tid, .int .i64 x.s1.req.io, .bool x.s1.req.oob, .bool x.s1.req.bond, .bool x.s1.req.mitm, .bool x.s1.req.sid, .bool x.s1.req.tid, .int .i64 x.s1.res.io, .bool x.s1.res.oob, .bool x.s1.res.bond, .bool x.s1.res.mitm, .bool x.s1.res.sid, .bool x.s1.res.tid, .int .u32 (W32 x.s1.peerKey), .int .u32 (W32 x.s1.shared), .int .u64 (W64 x.s1.nonce), .int .u64 (W64 x.s1.other), .int .u64 (W64 x.s1.commit), .bool x.s1.have_, .int .i64 x.s1.passkey, .int .i64 x.s1.round, .bool x.s1.agreed, .int .u64 (W64 x.s1.checkIn), .bool x.s1.haveIn, .bool x.s1.crypt, .int .u64 (W64 x.s1.ltk), .int .i64 x.s1.idn.adr.kind, .int .u64 (W64 x.s1.idn.adr.bits), .int .u64 (W64 x.s1.idn.irk), .int .i64 x.s1.drawn, .int .i64 x.s1.reason, .bool x.ok, .int .i64 x.n0, .int .i64 x.n1, .bool x.a0, .bool x.a1, .bool x.h0, .bool x.h1, q0, q1, .int .i64 x.sent, qa, ql]
def Tk.put_s0 (x : Tk) (z : Pr) : Tk := ⟨z, x.s1, x.ok, x.n0, x.n1, x.a0, x.a1, x.h0, x.h1, x.g0, x.g1, x.sent, x.line⟩
def Tk.put_s1 (x : Tk) (z : Pr) : Tk := ⟨x.s0, z, x.ok, x.n0, x.n1, x.a0, x.a1, x.h0, x.h1, x.g0, x.g1, x.sent, x.line⟩
def Tk.put_ok (x : Tk) (z : Bool) : Tk := ⟨x.s0, x.s1, z, x.n0, x.n1, x.a0, x.a1, x.h0, x.h1, x.g0, x.g1, x.sent, x.line⟩
def Tk.put_n0 (x : Tk) (z : Int) : Tk := ⟨x.s0, x.s1, x.ok, z, x.n1, x.a0, x.a1, x.h0, x.h1, x.g0, x.g1, x.sent, x.line⟩
def Tk.put_n1 (x : Tk) (z : Int) : Tk := ⟨x.s0, x.s1, x.ok, x.n0, z, x.a0, x.a1, x.h0, x.h1, x.g0, x.g1, x.sent, x.line⟩
def Tk.put_a0 (x : Tk) (z : Bool) : Tk := ⟨x.s0, x.s1, x.ok, x.n0, x.n1, z, x.a1, x.h0, x.h1, x.g0, x.g1, x.sent, x.line⟩
def Tk.put_a1 (x : Tk) (z : Bool) : Tk := ⟨x.s0, x.s1, x.ok, x.n0, x.n1, x.a0, z, x.h0, x.h1, x.g0, x.g1, x.sent, x.line⟩
def Tk.put_h0 (x : Tk) (z : Bool) : Tk := ⟨x.s0, x.s1, x.ok, x.n0, x.n1, x.a0, x.a1, z, x.h1, x.g0, x.g1, x.sent, x.line⟩
def Tk.put_h1 (x : Tk) (z : Bool) : Tk := ⟨x.s0, x.s1, x.ok, x.n0, x.n1, x.a0, x.a1, x.h0, z, x.g0, x.g1, x.sent, x.line⟩
def Tk.put_sent (x : Tk) (z : Int) : Tk := ⟨x.s0, x.s1, x.ok, x.n0, x.n1, x.a0, x.a1, x.h0, x.h1, x.g0, x.g1, z, x.line⟩
def sideN (b : Bool) : Int := if b then 1 else 0
def rwL (v : Value) (L : List (Bool × Sec)) : Rw := ⟨SecT, 13, v, L.length, secs (L.map Prod.snd)⟩
def rwA (v : Value) (L : List (Bool × Sec)) : Rw := ⟨3, 1, v, L.length, L.map fun e => .int .i64 (sideN e.1)⟩
def rwS (v : Value) (ds : List Sec) : Rw := ⟨SecT, 13, v, ds.length, secs ds⟩
def rwE (v : Value) (es : List Evt) : Rw := ⟨EvtT, 8, v, es.length, evts es⟩
def chgL (c : Chg) : List Value := [.int .i64 c.at_, .int .u32 (W32 c.pub), .int .u64 (W64 c.value)]
theorem chgL_len (c : Chg) : (chgL c).length = 3 := rfl
section
variable {w0 W W' : World} {base : Nat} {rs rs' : List Rw} {bx bx' : List Bk}
theorem MR.perm (h : MR w0 W base rs bx) (hp : rs.Perm rs') : MR w0 W base rs' bx :=
  ⟨h.pre, h.below, h.low, fun r hr => h.rows r (hp.mem_iff.2 hr), h.ap.perm hp (fun {x y} hxy k hk e => hxy k e hk), fun b hb => ⟨(h.box b hb).1, (h.box b hb).2.1, fun r hr => (h.box b hb).2.2 r (hp.mem_iff.2 hr)⟩, h.nd⟩
theorem MR.bperm (h : MR w0 W base rs bx) (hp : bx.Perm bx') : MR w0 W base rs bx' :=
  ⟨h.pre, h.below, h.low, h.rows, h.ap, fun b hb => h.box b (hp.mem_iff.2 hb), h.nd.perm hp (fun {x y} hxy => Ne.symm hxy)⟩
theorem front2 {α : Type} {K a b : α} {t : List α} : (a :: b :: K :: t).Perm (K :: a :: b :: t) := by
  rw [show a :: b :: K :: t = [a, b] ++ (K :: t) from rfl, show K :: a :: b :: t = K :: ([a, b] ++ t) from rfl]
  exact List.perm_middle
theorem front3 {α : Type} {K a b c : α} {t : List α} : (a :: b :: c :: K :: t).Perm (K :: a :: b :: c :: t) := by
  rw [show a :: b :: c :: K :: t = [a, b, c] ++ (K :: t) from rfl, show K :: a :: b :: c :: t = K :: ([a, b, c] ++ t) from rfl]
  exact List.perm_middle
theorem MR.s3 {k : Nat} {ty : TypeId} {cs cs' : Array Value} {a b c : Bk} (h : MR w0 W base rs (a :: b :: c :: (k, ty, cs) :: bx)) (hU : Upd k W W') (hG : Blk W' k ty cs') : MR w0 W' base rs (a :: b :: c :: (k, ty, cs') :: bx) := ((h.bperm front3).s0 hU hG).bperm front3.symm
theorem front4 {α : Type} {K a b c d : α} {t : List α} : (a :: b :: c :: d :: K :: t).Perm (K :: a :: b :: c :: d :: t) := by
  rw [show a :: b :: c :: d :: K :: t = [a, b, c, d] ++ (K :: t) from rfl, show K :: a :: b :: c :: d :: t = K :: ([a, b, c, d] ++ t) from rfl]
  exact List.perm_middle
theorem MR.s4 {k : Nat} {ty : TypeId} {cs cs' : Array Value} {a b c d : Bk} (h : MR w0 W base rs (a :: b :: c :: d :: (k, ty, cs) :: bx)) (hU : Upd k W W') (hG : Blk W' k ty cs') : MR w0 W' base rs (a :: b :: c :: d :: (k, ty, cs') :: bx) := ((h.bperm front4).s0 hU hG).bperm front4.symm
theorem front5 {α : Type} {K a b c d f : α} {t : List α} : (a :: b :: c :: d :: f :: K :: t).Perm (K :: a :: b :: c :: d :: f :: t) := by
  rw [show a :: b :: c :: d :: f :: K :: t = [a, b, c, d, f] ++ (K :: t) from rfl, show K :: a :: b :: c :: d :: f :: t = K :: ([a, b, c, d, f] ++ t) from rfl]
  exact List.perm_middle
theorem MR.s5 {k : Nat} {ty : TypeId} {cs cs' : Array Value} {a b c d f : Bk} (h : MR w0 W base rs (a :: b :: c :: d :: f :: (k, ty, cs) :: bx)) (hU : Upd k W W') (hG : Blk W' k ty cs') : MR w0 W' base rs (a :: b :: c :: d :: f :: (k, ty, cs') :: bx) := ((h.bperm front5).s0 hU hG).bperm front5.symm
theorem front7 {α : Type} {K a b c d f g i : α} {t : List α} : (a :: b :: c :: d :: f :: g :: i :: K :: t).Perm (K :: a :: b :: c :: d :: f :: g :: i :: t) := by
  rw [show a :: b :: c :: d :: f :: g :: i :: K :: t = [a, b, c, d, f, g, i] ++ (K :: t) from rfl, show K :: a :: b :: c :: d :: f :: g :: i :: t = K :: ([a, b, c, d, f, g, i] ++ t) from rfl]
  exact List.perm_middle
theorem MR.b7 {k : Nat} {ty : TypeId} {cs : Array Value} {a b c d f g i : Bk} (h : MR w0 W base rs (a :: b :: c :: d :: f :: g :: i :: (k, ty, cs) :: bx)) : Blk W k ty cs := (h.bperm front7).b0
end
section
variable {w0 W W' : World} {base : Nat} {rs : List Rw} {bx : List Bk}
theorem MR.lt (h : MR w0 W base rs bx) : 2 ≤ base := h.pre.2
theorem Rd.low {w0 W : World} {base : Nat} {A : Option Addr} {xs : List Value} (h : Rd w0 A xs) (hb : Below base w0 W) (hl : ∀ ad, A = some ad → ad.block < base) : Rd W A xs := fun j u hu => by
  obtain ⟨ad, e, h1, h2⟩ := h j u hu
  exact ⟨ad, e, Nat.lt_of_lt_of_le h1 hb.size, (hb.cell (by rw [add_block]; exact hl ad e)).trans h2⟩
theorem op_new {P : Program} {o : Oper} {a : Act} {K : Act → World → Prop} {Q : Exit → Act → World → Prop} {cs : Array Value} {ty : TypeId} (V : Nat → Value) (hrun : (execOp a.eval o).run P W = .ok (.value (V W.heap.size)) (W.alloc (.cells cs ty)))
    (h : ∀ (g : Nat) (w' : World), (0 = 0) → W.heap.size ≤ g → Below W.heap.size W w' → Blk w' g ty cs → K (a.put o.dst (V g)) w') : Oper.wp P o a W K Q := by
  unfold Oper.wp
  rw [hrun]
  exact h W.heap.size _ rfl (Nat.le_refl _) ((Below.refl _ _).alloc (Nat.le_refl _) (.cells cs ty)) (Blk.new W ty cs)
theorem op_app_row {dst : Option Tmp} {t tt : TypeId} {x y : Operand} {pos : String} {after : Array Edge} {g : Option (Nat × Bool)} {a : Act} {Q : Exit → Act → World → Prop} {K : Act → World → Prop} {k c : Nat} {P : Program} {cs : List Value} (r : Rw)
    (h : MR w0 W base (r :: rs) bx) (hs : a.eval x = r.v) (hx : a.eval y = .slice (some ⟨k, 0, none⟩) 1 c) (hG : Blk W k r.e cs.toArray) (hl : r.n ≤ 100000) (h1 : cs.all (·.oneCell') = true) (hc : cs.length = r.size)
    (ht : P.underlying t = some (.slice r.e)) (hi : (P.info? r.e).map (fun i => (i.zero.map (·.cells.size), i.size)) = some (some r.size, r.size)) (hb : ((P.info? r.e).map (·.bytes)).getD 0 ≤ 1024)
    (hK : ∀ A' c' w', MR w0 w' base (⟨r.e, r.size, .slice A' (r.n + 1) c', r.n + 1, r.xs ++ cs⟩ :: rs) bx → K (a.put dst (.slice A' (r.n + 1) c')) w') :
    Oper.wp P { dst := dst, op := .call { callee := .builtin .append, args := #[x, y], argTypes := #[t, t] }, type := tt, pos := pos, after := after, guard := g } a W K Q := by
  cases hq : P.info? r.e with
  | none => rw [hq] at hi; cases hi
  | some i =>
    rw [hq] at hi hb
    have hi2 := Option.some.inj hi
    injection hi2 with hz hsz
    cases hzz : i.zero with
    | none => rw [hzz] at hz; cases hz
    | some z =>
      rw [hzz] at hz
      have hzs : z.cells.size = i.size := by rw [hsz]; exact Option.some.inj hz
      have hb2 : i.bytes ≤ 1024 := hb
      have hown : ownsAt W base r.e i.size r.v r.n r.xs := by rw [hsz]; exact h.row0
      obtain ⟨v', w', hr, h2, h3, h5⟩ := run_append_off (P := P) W base t tt r.e i z ht hq hzz hzs r.v r.n r.xs hown ⟨k, 0, none⟩ 1 c cs (by rw [hsz]; omega) (fun j u hj => by rw [add_zero_, hG.cell]; simpa using hj) (fun u hu => List.all_eq_true.1 h1 u hu) (by decide)
        (by unfold maxLen; omega) (by have := Nat.mul_le_mul (show r.n + 1 ≤ 100001 by omega) hb2; omega) h.low
      unfold Oper.wp execOp
      simp only [resolve, invoke, builtin, Sem.run_bind, Sem.run_pure, Result.andThen_ok, List.map_toArray, List.map_cons, List.map_nil, hs, hx, hr]
      rw [hsz] at h2
      obtain ⟨A', c', rfl, _⟩ := h2.slice
      exact hK A' c' w' (h.app h2 h3 h5)
theorem secInfo2 : (Tryd.prog.info? SecT).map (fun i => (i.zero.map (·.cells.size), i.size)) = some (some 13, 13) := by kernel_rfl
theorem evtInfo2 : (Tryd.prog.info? EvtT).map (fun i => (i.zero.map (·.cells.size), i.size)) = some (some 8, 8) := by kernel_rfl
theorem intInfo2 : (Tryd.prog.info? 3).map (fun i => (i.zero.map (·.cells.size), i.size)) = some (some 1, 1) := by kernel_rfl
theorem intBytes : ((Tryd.prog.info? 3).map (·.bytes)).getD 0 ≤ 1024 := by decide +kernel
theorem rwL_app (A : Option Addr) (c : Nat) (L : List (Bool × Sec)) (b : Bool) (d : Sec) : (⟨SecT, 13, .slice A (L.length + 1) c, L.length + 1, secs (L.map Prod.snd) ++ secL d⟩ : Rw) = rwL (.slice A (L.length + 1) c) (L ++ [(b, d)]) := by
  unfold rwL
  rw [List.length_append, List.map_append, secs_app]
  congr 1
theorem rwA_app (A : Option Addr) (c : Nat) (L : List (Bool × Sec)) (b : Bool) (d : Sec) : (⟨3, 1, .slice A (L.length + 1) c, L.length + 1, (L.map fun e => Value.int .i64 (sideN e.1)) ++ [.int .i64 (sideN b)]⟩ : Rw) = rwA (.slice A (L.length + 1) c) (L ++ [(b, d)]) := by
  unfold rwA
  rw [List.length_append, List.map_append]
  rfl
theorem rwE_app (A : Option Addr) (c : Nat) (es : List Evt) (e : Evt) : (⟨EvtT, 8, .slice A (es.length + 1) c, es.length + 1, evts es ++ evtL e⟩ : Rw) = rwE (.slice A (es.length + 1) c) (es ++ [e]) := by
  unfold rwE
  rw [List.length_append, evts_app]
  congr 1
section
variable {ops : Array Oper} {rest : List Oper} {dst : Option Tmp} {tt : TypeId} {x y : Operand} {pos : String} {after : Array Edge} {a : Act} {Q : Exit → Act → World → Prop} {k c : Nat} {v : Value}
theorem app_line {L : List (Bool × Sec)} (b : Bool) (d : Sec) (h : MR w0 W base (rwL v L :: rs) bx) (hs : a.eval x = v) (hx : a.eval y = .slice (some ⟨k, 0, none⟩) 1 c) (hG : Blk W k SecT (secL d).toArray) (hl : L.length ≤ 100000)
    (K : ∀ A' c' w', MR w0 w' base (rwL (.slice A' (L.length + 1) c') (L ++ [(b, d)]) :: rs) bx → wpList Tryd.prog ops Q rest (a.put dst (.slice A' (L.length + 1) c')) w') :
    wpList Tryd.prog ops Q ({ dst := dst, op := .call { callee := .builtin .append, args := #[x, y], argTypes := #[46, 46] }, type := tt, pos := pos, after := after, guard := none } :: rest) a W := by
  refine wpList_plain rfl fun K' hK => op_app_row (P := Tryd.prog) (cs := secL d) (rwL v L) h hs hx hG hl (sec_one d) rfl Tryd.underlying46 secInfo2 secBytes fun A' c' w' h2 => ?_
  have e := rwL_app A' c' L b d
  refine hK _ _ ?_
  exact K A' c' w' (by rw [← e]; exact h2)
theorem app_at {L : List (Bool × Sec)} {r0 : Rw} (b : Bool) (d : Sec) (h : MR w0 W base (r0 :: rwA v L :: rs) bx) (hs : a.eval x = v) (hx : a.eval y = .slice (some ⟨k, 0, none⟩) 1 c) (hG : Blk W k 3 #[.int .i64 (sideN b)]) (hl : L.length ≤ 100000)
    (K : ∀ A' c' w', MR w0 w' base (r0 :: rwA (.slice A' (L.length + 1) c') (L ++ [(b, d)]) :: rs) bx → wpList Tryd.prog ops Q rest (a.put dst (.slice A' (L.length + 1) c')) w') :
    wpList Tryd.prog ops Q ({ dst := dst, op := .call { callee := .builtin .append, args := #[x, y], argTypes := #[56, 56] }, type := tt, pos := pos, after := after, guard := none } :: rest) a W := by
  refine wpList_plain rfl fun K' hK => op_app_row (P := Tryd.prog) (cs := [.int .i64 (sideN b)]) (rwA v L) h.rswap hs hx hG hl rfl rfl Tryd.underlying56 intInfo2 intBytes fun A' c' w' h2 => ?_
  have e := rwA_app A' c' L b d
  refine hK _ _ ?_
  exact K A' c' w' (by rw [← e]; exact h2.rswap)
theorem op_app_g0 {r0 r1 : Rw} {es : List Evt} {g : Option (Nat × Bool)} {K : Act → World → Prop} (e : Evt) (h : MR w0 W base (r0 :: r1 :: rwE v es :: rs) bx) (hs : a.eval x = v) (hx : a.eval y = .slice (some ⟨k, 0, none⟩) 1 c) (hG : Blk W k EvtT (evtL e).toArray) (hl : es.length ≤ 100000)
    (hK : ∀ A' c' w', MR w0 w' base (r0 :: r1 :: rwE (.slice A' (es.length + 1) c') (es ++ [e]) :: rs) bx → K (a.put dst (.slice A' (es.length + 1) c')) w') :
    Oper.wp Tryd.prog { dst := dst, op := .call { callee := .builtin .append, args := #[x, y], argTypes := #[47, 47] }, type := tt, pos := pos, after := after, guard := g } a W K Q := by
  refine op_app_row (P := Tryd.prog) (cs := evtL e) (rwE v es) (h.perm front2) hs hx hG hl (evt_one e) rfl Tryd.underlying47 evtInfo2 evtBytes fun A' c' w' h2 => ?_
  have e1 := rwE_app A' c' es e
  exact hK A' c' w' (by rw [← e1]; exact h2.perm front2.symm)
theorem op_app_g1 {r0 r1 r2 : Rw} {es : List Evt} {g : Option (Nat × Bool)} {K : Act → World → Prop} (e : Evt) (h : MR w0 W base (r0 :: r1 :: r2 :: rwE v es :: rs) bx) (hs : a.eval x = v) (hx : a.eval y = .slice (some ⟨k, 0, none⟩) 1 c) (hG : Blk W k EvtT (evtL e).toArray) (hl : es.length ≤ 100000)
    (hK : ∀ A' c' w', MR w0 w' base (r0 :: r1 :: r2 :: rwE (.slice A' (es.length + 1) c') (es ++ [e]) :: rs) bx → K (a.put dst (.slice A' (es.length + 1) c')) w') :
    Oper.wp Tryd.prog { dst := dst, op := .call { callee := .builtin .append, args := #[x, y], argTypes := #[47, 47] }, type := tt, pos := pos, after := after, guard := g } a W K Q := by
  refine op_app_row (P := Tryd.prog) (cs := evtL e) (rwE v es) (h.perm front3) hs hx hG hl (evt_one e) rfl Tryd.underlying47 evtInfo2 evtBytes fun A' c' w' h2 => ?_
  have e1 := rwE_app A' c' es e
  exact hK A' c' w' (by rw [← e1]; exact h2.perm front3.symm)
end
end
end Go.Proofs.YtihmbcnccdiecaaDoor
namespace Go.Proofs.YtihmbcnccdiecaaDoor
set_option maxRecDepth 100000
open Go.ChangeShapes Go.WideShapes Go.ChangeAt Go.RowKit
set_option linter.unusedVariables false
set_option linter.unusedSimpArgs false
theorem add_zero_' (g j : Nat) : (⟨g, 0, none⟩ : Addr).add j = ⟨g, j, none⟩ := by unfold Addr.add; split <;> simp_all
theorem der_row (k : BitVec 64) (s : ByteArray) (xs : List (BitVec 64)) (n : Nat) (hn : xs.length = n) (hl : xs.length ≤ 1024) (hs : s.size ≤ 65536) (W : World) (t : TypeId) :
    Calls Tryd.prog 62 #[.int .u64 (W64 k), .string s, .slice (some ⟨W.heap.size, 0, none⟩) n n] (W.alloc (.cells (ucells xs).toArray t)) fun e w' => e = .returned (.int .u64 (W64 (derive k (lbytes s) xs))) ∧ Below W.heap.size W w' := by
  subst hn
  have hr : RdU (W.alloc (.cells (ucells xs).toArray t)) (some ⟨W.heap.size, 0, none⟩) xs := Rd.new W (ucells xs).toArray t
  refine (mac_Derive k s _ xs.length xs _ hr hl hs).mono ?_
  rintro e w' ⟨rfl, hb⟩
  exact ⟨rfl, ((Below.refl _ _).alloc (Nat.le_refl _) _).trans (hb.mono (by simp))⟩
theorem der_n (k : BitVec 64) (s : ByteArray) (A : Option Addr) (c n : Nat) (xs : List (BitVec 64)) (r : BitVec 64) (hr : derive k (lbytes s) xs = r) (hn : xs.length = n) (w : World) (h : RdU w A xs) (hl : n ≤ 1024) (hs : s.size ≤ 65536) :
    Calls Tryd.prog 62 #[.int .u64 (W64 k), .string s, .slice A n c] w fun e w' => e = .returned (.int .u64 (W64 r)) ∧ Below w.heap.size w w' := by
  subst hn
  subst hr
  exact mac_Derive k s A c xs w h hl hs
end Go.Proofs.YtihmbcnccdiecaaDoor
namespace Go.Proofs.YtihmbcnccdiecaaDoor
set_option maxRecDepth 100000
open Go.ChangeShapes Go.WideShapes Go.ChangeAt Go.RowKit
set_option linter.unusedVariables false
set_option linter.unusedSimpArgs false
theorem conf_pair (u v : BitVec 32) (w : World) :
  Calls Tryd.prog 85 #[.int .u32 (W32 u), .int .u32 (W32 v)] w fun e w' => e = .returned (.int .u64 (W64 (joinW u v))) ∧ w = w' := by
 go_enter Tryd.func85, Tryd.ntmps85
 go_wp2
 go_ret
 exact ⟨ret_int rfl, rfl⟩
theorem conf_number (kind : Int) (bits : BitVec 64) (w : World) :
  Calls Tryd.prog 64 #[.agg #[.int .i64 kind, .int .u64 (W64 bits)]] w fun e w' => e = .returned (.int .u64 (W64 (numA kind bits))) ∧ Below w.heap.size w w' := by
 go_enter Tryd.func64, Tryd.ntmps64
 go_wp2
 go_ret
 exact ⟨ret_int rfl, (Below.refl _ _).alloc (Nat.le_refl _) _⟩
theorem conf_Draw (seed : BitVec 64) (i : Int) (w : World) :
  Calls Tryd.prog 98 #[.int .u64 (W64 seed), .int .i64 i] w fun e w' => e = .returned (.int .u64 (W64 (mix seed (BitVec.ofInt 64 i)))) ∧ Below w.heap.size w w' := by
 go_enter Tryd.func98, Tryd.ntmps98
 go_wp2_with fail
 refine (block_Mix _ _ _).mono ?_; rintro e w1 ⟨rfl, hb1⟩
 go_wp2
 go_ret
 exact ⟨rfl, hb1⟩
theorem conf_Commit (u v : BitVec 32) (nonce : BitVec 64) (z : BitVec 8) (w : World) :
  Calls Tryd.prog 60 #[.int .u32 (W32 u), .int .u32 (W32 v), .int .u64 (W64 nonce), .int .u8 (W8 z)] w fun e w' => e = .returned (.int .u64 (W64 (commitK u v nonce z))) ∧ Below w.heap.size w w' := by
 obtain ⟨r, hr⟩ : ∃ r, derive (joinW u v) (lbytes lblCommit) [z.setWidth 64] = r := ⟨_, rfl⟩
 have hc : commitK u v nonce z = mix r nonce := by unfold commitK; rw [hr]
 rw [hc]
 have HR := Lib.hid (fun W t => der_row (joinW u v) lblCommit [z.setWidth 64] 1 rfl (by simp) (by decide) W t)
 rw [hr] at HR
 clear hr hc
 go_enter Tryd.func60, Tryd.ntmps60
 go_wp2_with fail
 refine (conf_pair _ _ _).mono ?_; rintro e w' ⟨rfl, rfl⟩
 go_wp2_with fail
 refine (HR.out _ _).mono ?_; rintro e w1 ⟨rfl, hb1⟩
 go_wp2_with fail
 refine (block_Mix _ _ _).mono ?_; rintro e w2 ⟨rfl, hb2⟩
 go_wp2
 go_ret
 exact ⟨rfl, hb1.trans (hb2.mono hb1.size)⟩
theorem conf_flags (bs : List Bool) (n : Nat) (hn : bs.length = n) (g c : Nat) (w : World) (hr : Rd w (some ⟨g, 0, none⟩) (bs.map Value.bool)) (hl : n ≤ 63) :
  Calls Tryd.prog 92 #[.slice (some ⟨g, 0, none⟩) n c] w fun e w' => e = .returned (.int .u64 (W64 (flagsTo bs n))) ∧ w = w' := by
 subst hn
 go_enter Tryd.func92, Tryd.ntmps92
 go_wp2
 go_loop [3, 8] (fun x i => ∃ k : Nat, k ≤ bs.length ∧ i = .int .i64 k ∧ x = .int .u64 (W64 (flagsTo bs k))) (fun _ i => bs.length - (intOf i).toNat)
 case atStart => exact ⟨0, Nat.zero_le _, rfl, rfl⟩
 case round =>
  obtain ⟨k, hk, rfl, rfl⟩ := hrel
  by_cases hlt : k < bs.length
  ·
   obtain ⟨ad, he, hb, hc⟩ := hr k (.bool bs[k]) (by simp [hlt])
   injection he with he
   subst he
   rw [add_zero_'] at hc
   have hg : bs.getD k false = bs[k] := by rw [List.getD_eq_getElem?_getD, List.getElem?_eq_getElem hlt]; rfl
   have HS := Lib.hid (flagsTo_succ bs k)
   rw [hg] at HS
   clear hg
   generalize bs[k] = b at *
   cases b
   ·
    go_wp2
    go_round
    case rel => exact ⟨k + 1, by omega, by go_num, by rw [HS.out]; rfl⟩
    case measure => simp [intOf]; omega
   go_wp2
   go_round
   case rel => exact ⟨k + 1, by omega, by go_num, by rw [HS.out]; rfl⟩
   case measure => simp [intOf]; omega
  obtain rfl : k = bs.length := by omega
  go_wp2
  go_ret
  exact ⟨rfl, rfl⟩
theorem conf_features (io : Int) (b1 b2 b3 b4 b5 : Bool) (w : World) :
  Calls Tryd.prog 63 #[.agg #[.int .i64 io, .bool b1, .bool b2, .bool b3, .bool b4, .bool b5]] w fun e w' => e = .returned (.int .u64 (W64 (featK io [b1, b2, b3, b4, b5]))) ∧ Below w.heap.size w w' := by
 go_enter Tryd.func63, Tryd.ntmps63
 go_wp2
 have hG0 := Blk.new w 23 #[.int .i64 io, .bool b1, .bool b2, .bool b3, .bool b4, .bool b5]
 have hB0 : Below w.heap.size w (w.alloc (.cells #[.int .i64 io, .bool b1, .bool b2, .bool b3, .bool b4, .bool b5] 23)) := (Below.refl _ _).alloc (Nat.le_refl _) _
 refine wp_region_v (fun W => Below w.heap.size w W ∧ Blk W w.heap.size 23 #[.int .i64 io, .bool b1, .bool b2, .bool b3, .bool b4, .bool b5]) 19 (stable_and (stable_below _ _ (Nat.le_refl _)) (stable_blk _ _ _)) ⟨hB0.drew, hG0⟩ ?_
 have hst := stable_and (stable_below w.heap.size w (Nat.le_refl _)) (stable_blk w.heap.size 23 #[.int .i64 io, .bool b1, .bool b2, .bool b3, .bool b4, .bool b5])
 refine wpU_take (v := ?_) 0 hst (fun _ h => h) rfl ?_ ?_; rotate_left; (intro W hS K hK; have hc := hS.2.cell; clear hS; go_simp; exact hK.out _ (Below.refl _ _)); simp only [nrm]
 refine wpU_take (v := ?_) 1 hst (fun _ h => h) rfl ?_ ?_; rotate_left; (intro W hS K hK; have hc := hS.2.cell; clear hS; go_simp; exact hK.out _ (Below.refl _ _)); simp only [nrm]
 refine wpU_take (v := ?_) 2 hst (fun _ h => h) rfl ?_ ?_; rotate_left; (intro W hS K hK; have hc := hS.2.cell; clear hS; go_simp; exact hK.out _ (Below.refl _ _)); simp only [nrm]
 refine wpU_take (v := ?_) 3 hst (fun _ h => h) rfl ?_ ?_; rotate_left; (intro W hS K hK; have hc := hS.2.cell; clear hS; go_simp; exact hK.out _ (Below.refl _ _)); simp only [nrm]
 refine wpU_take (v := ?_) 4 hst (fun _ h => h) rfl ?_ ?_; rotate_left; (intro W hS K hK; have hc := hS.2.cell; clear hS; go_simp; exact hK.out _ (Below.refl _ _)); simp only [nrm]
 refine wpU_take (v := ?_) 5 hst (fun _ h => h) rfl ?_ ?_; rotate_left; (intro W hS K hK; have hc := hS.2.cell; clear hS; go_simp; exact hK.out _ (Below.refl _ _)); simp only [nrm]
 refine wpU_take (v := ?_) 6 hst (fun _ h => h) rfl ?_ ?_; rotate_left; (intro W hS K hK; have hc := hS.2.cell; clear hS; go_simp; exact hK.out _ (Below.refl _ _)); simp only [nrm]
 refine wpU_take (v := ?_) 7 hst (fun _ h => h) rfl ?_ ?_; rotate_left; (intro W hS K hK; have hc := hS.2.cell; clear hS; go_simp; exact hK.out _ (Below.refl _ _)); simp only [nrm]
 refine wpU_take (v := ?_) 8 hst (fun _ h => h) rfl ?_ ?_; rotate_left; (intro W hS K hK; have hc := hS.2.cell; clear hS; go_simp; exact hK.out _ (Below.refl _ _)); simp only [nrm]
 refine wpU_take (v := ?_) 9 hst (fun _ h => h) rfl ?_ ?_; rotate_left; (intro W hS K hK; have hc := hS.2.cell; clear hS; go_simp; exact hK.out _ (Below.refl _ _)); simp only [nrm]
 refine wpU_take (v := ?_) 10 hst (fun _ h => h) rfl ?_ ?_; rotate_left; (intro W hS K hK; have hc := hS.2.cell; clear hS; go_simp; exact hK.out _ (Below.refl _ _)); simp only [nrm]
 refine wpU_take (v := ?_) 11 hst (fun _ h => h) rfl ?_ ?_; rotate_left; (intro W hS K hK; have hc := hS.2.cell; clear hS; go_simp; exact hK.out _ (Below.refl _ _)); simp only [nrm]
 refine wpU_take (v := ?_) 12 hst (fun _ h => h) rfl ?_ ?_; rotate_left; (intro W hS K hK; have hc := hS.2.cell; clear hS; go_simp; exact hK.out _ (Below.refl _ _)); simp only [nrm]
 refine wpU_take (v := ?_) 13 hst (fun _ h => h) rfl ?_ ?_; rotate_left; (intro W hS K hK; have hc := hS.2.cell; clear hS; go_simp; exact hK.out _ (Below.refl _ _)); simp only [nrm]
 refine wpV_new 14 hst rfl ?_; intro W hS K hK; go_simp
 refine hK.out (fun W' => Rd W' (some ⟨W.heap.size, 0, none⟩) ([b1, b2, b3, b4, b5].map Value.bool)) _ _ (stable_rd _ _) ((Below.refl _ _).alloc (Nat.le_refl _) _) (Rd.new _ _ _) (fun hst => ?_)
 clear hK K hS
 refine wpU_take (v := ?_) 15 hst (fun _ h => h) rfl ?_ ?_; rotate_left; (intro W hS K hK; have hr := hS.2; clear hS; go_simp; refine (conf_flags [b1, b2, b3, b4, b5] 5 rfl _ _ _ hr (by decide)).mono ?_; rintro e w9 ⟨rfl, hw⟩; refine CallPost.mk ?_; exact hK.out _ (below_eq hw)); simp only [nrm]
 refine wpU_take (v := ?_) 16 hst (fun _ h => h) rfl ?_ ?_; rotate_left; (intro W hS K hK; go_simp; exact hK.out _ (Below.refl _ _)); simp only [nrm]
 refine wpU_take (v := ?_) 17 hst (fun _ h => h) rfl ?_ ?_; rotate_left; (intro W hS K hK; go_simp; exact hK.out _ (Below.refl _ _)); simp only [nrm]
 refine wpU_take (v := ?_) 18 hst (fun _ h => h) rfl ?_ ?_; rotate_left; (intro W hS K hK; go_simp; exact hK.out _ (Below.refl _ _)); simp only [nrm]
 refine wpU_done (fun W hS => ?_)
 go_wp2
 go_ret
 exact ⟨ret_int rfl, hS.1.1⟩
theorem conf_Digits (u v : BitVec 32) (na nb : BitVec 64) (w : World) :
  Calls Tryd.prog 95 #[.int .u32 (W32 u), .int .u32 (W32 v), .int .u64 (W64 na), .int .u64 (W64 nb)] w fun e w' => e = .returned (.int .i64 (digitsK u v na nb).toNat) ∧ Below w.heap.size w w' := by
 obtain ⟨r, hr⟩ : ∃ r, derive (joinW u v) (lbytes lblDigits) [na, nb] = r := ⟨_, rfl⟩
 have hc : digitsK u v na nb = r % 1000000#64 := by unfold digitsK; rw [hr]
 have hlt := digitsK_lt u v na nb
 rw [hc] at hlt ⊢
 have HR := Lib.hid (fun W t => der_row (joinW u v) lblDigits [na, nb] 2 rfl (by simp) (by decide) W t)
 rw [hr] at HR
 clear hr hc
 have hw : W64 (r % 1000000#64) = ((r % 1000000#64).toNat : Int) := rfl
 have hi : IntKind.i64.wrap (W64 (r % 1000000#64)) = W64 (r % 1000000#64) := by rw [hw]; exact IntWalk.i64_in _ (by omega)
 have HW := Lib.hid hw
 clear hw
 go_enter Tryd.func95, Tryd.ntmps95
 go_wp2_with fail
 refine (conf_pair _ _ _).mono ?_; rintro e w' ⟨rfl, rfl⟩
 go_wp2_with fail
 refine (HR.out _ _).mono ?_; rintro e w1 ⟨rfl, hb1⟩
 go_wp2
 go_ret
 exact ⟨ret_int HW.out, hb1⟩
theorem conf_LongTerm (sh : BitVec 32) (na nb : BitVec 64) (ka : Int) (xa : BitVec 64) (kb : Int) (xb : BitVec 64) (w : World) :
  Calls Tryd.prog 77 #[.int .u32 (W32 sh), .int .u64 (W64 na), .int .u64 (W64 nb), .agg #[.int .i64 ka, .int .u64 (W64 xa)], .agg #[.int .i64 kb, .int .u64 (W64 xb)]] w fun e w' => e = .returned (.int .u64 (W64 (ltkK sh na nb (numA ka xa) (numA kb xb)))) ∧ Below w.heap.size w w' := by
 obtain ⟨r, hr⟩ : ∃ r, derive (sh.setWidth 64) (lbytes lblLtk) [na, nb, numA ka xa, numA kb xb] = r := ⟨_, rfl⟩
 have hc : ltkK sh na nb (numA ka xa) (numA kb xb) = r := hr
 rw [hc]
 have HR := Lib.hid hr
 clear hr hc
 go_enter Tryd.func77, Tryd.ntmps77
 go_wp2
 have hX := box2 w 26 #[.int .i64 ka, .int .u64 (W64 xa)] 26 #[.int .i64 kb, .int .u64 (W64 xb)]
 have hst := st2 w 26 #[.int .i64 ka, .int .u64 (W64 xa)] 26 #[.int .i64 kb, .int .u64 (W64 xb)]
 refine wp_region_v _ 11 hst ⟨hX.1.drew, hX.2⟩ ?_
 refine wpU_take (v := ?_) 0 hst (fun _ h => h) rfl ?_ ?_; rotate_left; (intro W hS K hK; have h1 := hS.2.1.cell; have h2 := hS.2.2.cell; clear hS; go_simp; exact hK.out _ (Below.refl _ _)); simp only [nrm]
 refine wpU_take (v := ?_) 1 hst (fun _ h => h) rfl ?_ ?_; rotate_left; (intro W hS K hK; have h1 := hS.2.1.cell; have h2 := hS.2.2.cell; clear hS; go_simp; exact hK.out _ (Below.refl _ _)); simp only [nrm]
 refine wpU_take (v := ?_) 2 hst (fun _ h => h) rfl ?_ ?_; rotate_left; (intro W hS K hK; have h1 := hS.2.1.cell; have h2 := hS.2.2.cell; clear hS; go_simp; exact hK.out _ (Below.refl _ _)); simp only [nrm]
 refine wpU_take (v := ?_) 3 hst (fun _ h => h) rfl ?_ ?_; rotate_left; (intro W hS K hK; have h1 := hS.2.1.cell; have h2 := hS.2.2.cell; clear hS; go_simp; exact hK.out _ (Below.refl _ _)); simp only [nrm]
 refine wpU_take (v := ?_) 4 hst (fun _ h => h) rfl ?_ ?_; rotate_left; (intro W hS K hK; have h1 := hS.2.1.cell; have h2 := hS.2.2.cell; clear hS; go_simp; exact hK.out _ (Below.refl _ _)); simp only [nrm]
 refine wpU_take (v := ?_) 5 hst (fun _ h => h) rfl ?_ ?_; rotate_left; (intro W hS K hK; clear hS; go_simp; refine (conf_number ka xa _).mono ?_; rintro e w9 ⟨rfl, hb⟩; refine CallPost.mk ?_; exact hK.out _ (hb)); simp only [nrm]
 refine wpU_take (v := ?_) 6 hst (fun _ h => h) rfl ?_ ?_; rotate_left; (intro W hS K hK; have h1 := hS.2.1.cell; have h2 := hS.2.2.cell; clear hS; go_simp; exact hK.out _ (Below.refl _ _)); simp only [nrm]
 refine wpU_take (v := ?_) 7 hst (fun _ h => h) rfl ?_ ?_; rotate_left; (intro W hS K hK; clear hS; go_simp; refine (conf_number kb xb _).mono ?_; rintro e w9 ⟨rfl, hb⟩; refine CallPost.mk ?_; exact hK.out _ (hb)); simp only [nrm]
 refine wpV_new 8 hst rfl ?_; intro W hS K hK; go_simp
 refine hK.out (fun W' => RdU W' (some ⟨W.heap.size, 0, none⟩) [na, nb, numA ka xa, numA kb xb]) _ _ (stable_rdU _ _) ((Below.refl _ _).alloc (Nat.le_refl _) _) (Rd.new _ _ _) (fun hst => ?_)
 clear hK K hS
 refine wpU_take (v := ?_) 9 hst (fun _ h => h) rfl ?_ ?_; rotate_left; (intro W hS K hK; have hr := hS.2; clear hS; go_simp; refine (der_n (sh.setWidth 64) lblLtk _ _ 4 _ r HR.out rfl _ hr (by decide) (by decide)).mono ?_; rintro e w9 ⟨rfl, hb⟩; refine CallPost.mk ?_; exact hK.out _ (hb)); simp only [nrm]
 refine wpU_take (v := ?_) 10 hst (fun _ h => h) rfl ?_ ?_; rotate_left; (intro W hS K hK; go_simp; exact hK.out _ (Below.refl _ _)); simp only [nrm]
 refine wpU_done (fun W hS => ?_)
 go_wp2
 go_ret
 exact ⟨rfl, hS.1.1⟩
theorem conf_Check (sh : BitVec 32) (n r : BitVec 64) (io : Int) (b1 b2 b3 b4 b5 : Bool) (ka : Int) (xa : BitVec 64) (kb : Int) (xb : BitVec 64) (w : World) :
  Calls Tryd.prog 35 #[.int .u32 (W32 sh), .int .u64 (W64 n), .int .u64 (W64 r), .agg #[.int .i64 io, .bool b1, .bool b2, .bool b3, .bool b4, .bool b5], .agg #[.int .i64 ka, .int .u64 (W64 xa)], .agg #[.int .i64 kb, .int .u64 (W64 xb)]] w fun e w' => e = .returned (.int .u64 (W64 (checkK sh n r (featK io [b1, b2, b3, b4, b5]) (numA ka xa) (numA kb xb)))) ∧ Below w.heap.size w w' := by
 obtain ⟨d, hd⟩ : ∃ d, derive 0#64 (lbytes lblCheck) [n, r, featK io [b1, b2, b3, b4, b5], numA ka xa, numA kb xb] = d := ⟨_, rfl⟩
 have hc : checkK sh n r (featK io [b1, b2, b3, b4, b5]) (numA ka xa) (numA kb xb) = mix d (sh.setWidth 64) := by unfold checkK; rw [hd]
 rw [hc]
 have HR := Lib.hid hd
 clear hd hc
 have HF := Lib.hid (fun W => conf_features io b1 b2 b3 b4 b5 W)
 generalize featK io [b1, b2, b3, b4, b5] = ft at *
 go_enter Tryd.func35, Tryd.ntmps35
 go_wp2
 have hX := box3 w 23 #[.int .i64 io, .bool b1, .bool b2, .bool b3, .bool b4, .bool b5] 26 #[.int .i64 ka, .int .u64 (W64 xa)] 26 #[.int .i64 kb, .int .u64 (W64 xb)]
 have hst := st3 w 23 #[.int .i64 io, .bool b1, .bool b2, .bool b3, .bool b4, .bool b5] 26 #[.int .i64 ka, .int .u64 (W64 xa)] 26 #[.int .i64 kb, .int .u64 (W64 xb)]
 refine wp_region_v _ 14 hst ⟨hX.1.drew, hX.2⟩ ?_
 refine wpU_take (v := ?_) 0 hst (fun _ h => h) rfl ?_ ?_; rotate_left; (intro W hS K hK; have h1 := hS.2.1.cell; have h2 := hS.2.2.1.cell; have h3 := hS.2.2.2.cell; clear hS; go_simp; exact hK.out _ (Below.refl _ _)); simp only [nrm]
 refine wpU_take (v := ?_) 1 hst (fun _ h => h) rfl ?_ ?_; rotate_left; (intro W hS K hK; have h1 := hS.2.1.cell; have h2 := hS.2.2.1.cell; have h3 := hS.2.2.2.cell; clear hS; go_simp; exact hK.out _ (Below.refl _ _)); simp only [nrm]
 refine wpU_take (v := ?_) 2 hst (fun _ h => h) rfl ?_ ?_; rotate_left; (intro W hS K hK; have h1 := hS.2.1.cell; have h2 := hS.2.2.1.cell; have h3 := hS.2.2.2.cell; clear hS; go_simp; exact hK.out _ (Below.refl _ _)); simp only [nrm]
 refine wpU_take (v := ?_) 3 hst (fun _ h => h) rfl ?_ ?_; rotate_left; (intro W hS K hK; clear hS; go_simp; refine (HF.out _).mono ?_; rintro e w9 ⟨rfl, hb⟩; refine CallPost.mk ?_; exact hK.out _ (hb)); simp only [nrm]
 refine wpU_take (v := ?_) 4 hst (fun _ h => h) rfl ?_ ?_; rotate_left; (intro W hS K hK; have h1 := hS.2.1.cell; have h2 := hS.2.2.1.cell; have h3 := hS.2.2.2.cell; clear hS; go_simp; exact hK.out _ (Below.refl _ _)); simp only [nrm]
 refine wpU_take (v := ?_) 5 hst (fun _ h => h) rfl ?_ ?_; rotate_left; (intro W hS K hK; clear hS; go_simp; refine (conf_number ka xa _).mono ?_; rintro e w9 ⟨rfl, hb⟩; refine CallPost.mk ?_; exact hK.out _ (hb)); simp only [nrm]
 refine wpU_take (v := ?_) 6 hst (fun _ h => h) rfl ?_ ?_; rotate_left; (intro W hS K hK; have h1 := hS.2.1.cell; have h2 := hS.2.2.1.cell; have h3 := hS.2.2.2.cell; clear hS; go_simp; exact hK.out _ (Below.refl _ _)); simp only [nrm]
 refine wpU_take (v := ?_) 7 hst (fun _ h => h) rfl ?_ ?_; rotate_left; (intro W hS K hK; clear hS; go_simp; refine (conf_number kb xb _).mono ?_; rintro e w9 ⟨rfl, hb⟩; refine CallPost.mk ?_; exact hK.out _ (hb)); simp only [nrm]
 refine wpU_take (v := ?_) 10 hst (fun _ h => h) rfl ?_ ?_; rotate_left; (intro W hS K hK; go_simp; exact hK.out _ (Below.refl _ _)); simp only [nrm]
 refine wpU_take (v := ?_) 11 hst (fun _ h => h) rfl ?_ ?_; rotate_left; (intro W hS K hK; go_simp; exact hK.out _ (Below.refl _ _)); simp only [nrm]
 refine wpV_new 8 hst rfl ?_; intro W hS K hK; go_simp
 refine hK.out (fun W' => RdU W' (some ⟨W.heap.size, 0, none⟩) [n, r, ft, numA ka xa, numA kb xb]) _ _ (stable_rdU _ _) ((Below.refl _ _).alloc (Nat.le_refl _) _) (Rd.new _ _ _) (fun hst => ?_)
 clear hK K hS
 refine wpU_take (v := ?_) 9 hst (fun _ h => h) rfl ?_ ?_; rotate_left; (intro W hS K hK; have hr := hS.2; clear hS; go_simp; refine (der_n 0#64 lblCheck _ _ 5 _ d HR.out rfl _ hr (by decide) (by decide)).mono ?_; rintro e w9 ⟨rfl, hb⟩; refine CallPost.mk ?_; exact hK.out _ (hb)); simp only [nrm]
 refine wpU_take (v := ?_) 12 hst (fun _ h => h) rfl ?_ ?_; rotate_left; (intro W hS K hK; clear hS; go_simp; refine (block_Mix _ _ _).mono ?_; rintro e w9 ⟨rfl, hb⟩; refine CallPost.mk ?_; exact hK.out _ (hb)); simp only [nrm]
 refine wpU_take (v := ?_) 13 hst (fun _ h => h) rfl ?_ ?_; rotate_left; (intro W hS K hK; go_simp; exact hK.out _ (Below.refl _ _)); simp only [nrm]
 refine wpU_done (fun W hS => ?_)
 go_wp2
 go_ret
 exact ⟨rfl, hS.1.1⟩
end Go.Proofs.YtihmbcnccdiecaaDoor
namespace Go.Proofs.YtihmbcnccdiecaaDoor
set_option maxRecDepth 100000
open Go.ChangeShapes Go.WideShapes Go.ChangeAt Go.RowKit
set_option linter.unusedVariables false
set_option linter.unusedSimpArgs false
theorem gr_times (a b : BitVec 64) (w : World) : Calls Tryd.prog 65 #[.int .u64 (W64 a), .int .u64 (W64 b)] w fun e w' => e = .returned (.int .u64 (W64 (a * b % 2147483647#64))) ∧ w = w' := by
 go_enter Tryd.func65, Tryd.ntmps65
 go_wp2
 go_ret
 exact ⟨rfl, rfl⟩
theorem mul_gp (a b : Nat) (ha : a < gp) (hb : b < gp) : BitVec.ofNat 64 a * BitVec.ofNat 64 b % 2147483647#64 = BitVec.ofNat 64 (a * b % gp) := by
  apply BitVec.eq_of_toNat_eq
  have hg : gp = 2147483647 := rfl
  have h1 : a * b < 2147483647 * 2147483647 := Nat.mul_lt_mul'' (by omega) (by omega)
  have h2 : a * b % 2147483647 < 2147483647 := Nat.mod_lt _ (by decide)
  rw [BitVec.toNat_umod, BitVec.toNat_mul]
  simp only [BitVec.toNat_ofNat]
  rw [hg, Nat.mod_eq_of_lt (show a < 2 ^ 64 by omega), Nat.mod_eq_of_lt (show b < 2 ^ 64 by omega)]
  rw [show 2147483647 % 2 ^ 64 = 2147483647 from rfl]
  generalize a * b = c at *
  omega
theorem gr_times_n (a b : Nat) (ha : a < gp) (hb : b < gp) (w : World) : Calls Tryd.prog 65 #[.int .u64 (W64 (BitVec.ofNat 64 a)), .int .u64 (W64 (BitVec.ofNat 64 b))] w fun e w' => e = .returned (.int .u64 (W64 (BitVec.ofNat 64 (a * b % gp)))) ∧ w = w' := by
  have := gr_times (BitVec.ofNat 64 a) (BitVec.ofNat 64 b) w
  rw [mul_gp a b ha hb] at this
  exact this
theorem bit_test (e : BitVec 32) (k : Nat) : ((e >>> k) &&& 1#32 == 1#32) = decide (e.toNat / 2 ^ k % 2 = 1) := by
  rw [Bool.eq_iff_iff, beq_iff_eq, decide_eq_true_iff, ← BitVec.toNat_inj, BitVec.toNat_and, BitVec.toNat_ushiftRight, Nat.shiftRight_eq_div_pow]
  have e1 : (1#32).toNat = 1 := rfl
  rw [e1, Nat.and_one_is_mod]
set_option maxHeartbeats 1000000 in
theorem gr_Power (b e : BitVec 32) (w : World) : Calls Tryd.prog 38 #[.int .u32 (W32 b), .int .u32 (W32 e)] w fun x w' => x = .returned (.int .u32 (W32 (BitVec.ofNat 32 (powK b.toNat e.toNat)))) ∧ Below w.heap.size w w' := by
 obtain ⟨B, hB⟩ : ∃ B, b.toNat = B := ⟨_, rfl⟩
 obtain ⟨X, hX⟩ : ∃ X, e.toNat = X := ⟨_, rfl⟩
 have h0 : b.setWidth 64 % 2147483647#64 = BitVec.ofNat 64 (powS B 0) := by
  rw [powS_zero, ← hB]
  apply BitVec.eq_of_toNat_eq
  have := b.isLt
  have e : 2147483647 % 2 ^ 64 = 2147483647 := rfl
  have hg : gp = 2147483647 := rfl
  have hl : b.toNat % gp < gp := Nat.mod_lt _ (by decide)
  rw [BitVec.toNat_umod, BitVec.toNat_setWidth, BitVec.toNat_ofNat, BitVec.toNat_ofNat, e, Nat.mod_eq_of_lt (show b.toNat < 2 ^ 64 by omega), Nat.mod_eq_of_lt (show b.toNat % gp < 2 ^ 64 by omega), hg]
 have hE := e.isLt
 have HT := fun k => bit_test e k
 rw [hX] at hE
 simp only [hX] at HT
 rw [hB, hX]
 have HB := Lib.hid hB
 have HX := Lib.hid hX
 have H0 := Lib.hid h0
 have HT2 := Lib.hid HT
 have HE := Lib.hid hE
 clear hB hX h0 HT hE
 go_enter Tryd.func38, Tryd.ntmps38
 go_wp2
 go_loop [5, 6, 11] (fun o s i => ∃ k : Nat, k ≤ 32 ∧ i = .int .i64 k ∧ o = .int .u64 (W64 (BitVec.ofNat 64 (powO B X k))) ∧ s = .int .u64 (W64 (BitVec.ofNat 64 (powS B k)))) (fun _ _ i => 32 - (intOf i).toNat)
 case atStart => exact ⟨0, by omega, rfl, by rw [powO_zero]; rfl, by rw [← H0.out]⟩
 case round =>
  obtain ⟨k, hk, rfl, rfl, rfl⟩ := hrel
  by_cases hlt : k < 32
  ·
   have hb := HT2.out k
   by_cases hbit : X / 2 ^ k % 2 = 1
   ·
    have hd : ((e >>> k) &&& 1#32 == 1#32) = true := by rw [hb]; simpa using hbit
    have hd2 : (W32 ((e >>> k) &&& 1#32) == W32 1#32) = true := by rw [W32_beq]; exact hd
    have hd3 : ((W32 ((e >>> k) &&& 1#32) : Int) == 1) = true := hd2
    have HS := Lib.hid hbit
    clear hb hbit hd hd2
    go_wp2_with (go_at_call 65; refine (gr_times_n _ _ ?_ ?_ _).mono ?_; rotate_left 2; rintro e w' ⟨rfl, rfl⟩)
    all_goals first | exact powO_lt _ _ _ | exact powS_lt _ _ | skip
    go_round
    case rel => exact ⟨k + 1, by omega, by go_num, by rw [powO_one _ _ _ HS.out], by rw [powS_succ]⟩
    case measure => simp [intOf]; omega
   have hd : ((e >>> k) &&& 1#32 == 1#32) = false := by rw [hb]; simpa using hbit
   have hd2 : (W32 ((e >>> k) &&& 1#32) == W32 1#32) = false := by rw [W32_beq]; exact hd
   have hd3 : ((W32 ((e >>> k) &&& 1#32) : Int) == 1) = false := hd2
   have HS := Lib.hid hbit
   clear hb hbit hd hd2
   go_wp2_with (go_at_call 65; refine (gr_times_n _ _ ?_ ?_ _).mono ?_; rotate_left 2; rintro e w' ⟨rfl, rfl⟩)
   all_goals first | exact powO_lt _ _ _ | exact powS_lt _ _ | skip
   go_round
   case rel => exact ⟨k + 1, by omega, by go_num, by rw [powO_none _ _ _ HS.out], by rw [powS_succ]⟩
   case measure => simp [intOf]; omega
  obtain rfl : k = 32 := by omega
  go_wp2
  go_ret
  refine ⟨?_, Below.refl _ _⟩
  have := powK_lt B X
  have hg : gp = 2147483647 := rfl
  have hE := HE.out
  rw [powO_all _ _ _ hE]
  rfl
theorem gr_Public (s : BitVec 32) (w : World) : Calls Tryd.prog 22 #[.int .u32 (W32 s)] w fun e w' => e = .returned (.int .u32 (W32 (pubK s))) ∧ Below w.heap.size w w' := by
 have H := Lib.hid (fun W => gr_Power 7#32 s W)
 go_enter Tryd.func22, Tryd.ntmps22
 go_wp2_with fail
 refine (H.out _).mono ?_; rintro e w' ⟨rfl, hb⟩
 go_wp2
 go_ret
 exact ⟨rfl, hb⟩
theorem gr_Shared (s k : BitVec 32) (w : World) : Calls Tryd.prog 68 #[.int .u32 (W32 s), .int .u32 (W32 k)] w fun e w' => e = .returned (.int .u32 (W32 (sharedK s k))) ∧ Below w.heap.size w w' := by
 have H := Lib.hid (fun W => gr_Power k s W)
 go_enter Tryd.func68, Tryd.ntmps68
 go_wp2_with fail
 refine (H.out _).mono ?_; rintro e w' ⟨rfl, hb⟩
 go_wp2
 go_ret
 exact ⟨rfl, hb⟩
theorem gr_Valid (k : BitVec 32) (w : World) : Calls Tryd.prog 21 #[.int .u32 (W32 k)] w fun e w' => e = .returned (.bool (validK k)) ∧ Below w.heap.size w w' := by
 obtain ⟨r, hr⟩ : ∃ r, validK k = r := ⟨_, rfl⟩
 rw [hr]
 have HR := Lib.hid hr
 clear hr
 have e2 : W32 k = (k.toNat : Int) := rfl
 have HE := Lib.hid e2
 clear e2
 by_cases h1 : (2 : Int) ≤ W32 k
 ·
  by_cases h2 : W32 k ≤ (2147483645 : Int)
  ·
   go_enter Tryd.func21, Tryd.ntmps21
   go_wp2
   go_ret
   refine ⟨?_, Below.refl _ _⟩
   rw [← HR.out]
   rw [HE.out] at h1 h2
   unfold validK
   rw [decide_eq_true (show 2 ≤ k.toNat by omega), decide_eq_true (show k.toNat ≤ 2147483645 by omega)]
   rfl
  go_enter Tryd.func21, Tryd.ntmps21
  go_wp2
  go_ret
  refine ⟨?_, Below.refl _ _⟩
  rw [← HR.out]
  rw [HE.out] at h1 h2
  unfold validK
  rw [decide_eq_true (show 2 ≤ k.toNat by omega), decide_eq_false (show ¬ k.toNat ≤ 2147483645 by omega)]
  rfl
 go_enter Tryd.func21, Tryd.ntmps21
 go_wp2
 go_ret
 refine ⟨?_, Below.refl _ _⟩
 rw [← HR.out]
 rw [HE.out] at h1
 unfold validK
 rw [decide_eq_false (show ¬ 2 ≤ k.toNat by omega)]
 rfl
end Go.Proofs.YtihmbcnccdiecaaDoor
namespace Go.Proofs.YtihmbcnccdiecaaDoor
set_option maxRecDepth 100000
set_option linter.unusedVariables false
set_option linter.unusedSimpArgs false
def Ln (s : Stp) (a b : Nat) : Prop := s.out.length ≤ a ∧ s.ev.length ≤ b
theorem Ln.mono {s : Stp} {a b a' b' : Nat} (h : Ln s a b) (h1 : a ≤ a') (h2 : b ≤ b') : Ln s a' b' := ⟨Nat.le_trans h.1 h1, Nat.le_trans h.2 h2⟩
theorem ln_fail (p : Pr) (r n : Int) : Ln (failR p r n) 2 1 := ⟨by simp [failR], by simp [failR]⟩
theorem ln_commit (s : Stp) : (commitR s).out.length = s.out.length + 1 ∧ (commitR s).ev.length = s.ev.length := ⟨by simp [commitR, sendR, freshR, nextR], by simp [commitR, sendR, freshR, nextR]⟩
theorem ln_begin (s : Stp) : Ln (beginR s) (s.out.length + 1) (s.ev.length + 1) := by
  rw [begin_q]
  obtain ⟨t, ht, h1, h2⟩ : ∃ t : Stp, (⟨{ s.p with phase := 3 }, s.out, s.ev⟩ : Stp) = t ∧ t.out = s.out ∧ t.ev = s.ev := ⟨_, rfl, rfl, rfl⟩
  rw [ht, ← h1, ← h2]
  unfold beginQ
  split
  · split
    · exact ⟨by simp [sendR, freshR, nextR], by simp [sendR, freshR, nextR]⟩
    · exact ⟨by simp, by simp⟩
  · split
    · split
      · exact ⟨by simp, by simp⟩
      · exact ⟨by rw [(ln_commit t).1]; exact Nat.le_refl _, by rw [(ln_commit t).2]; simp⟩
    · split
      · exact ⟨by simp [reportR], by simp [reportR]⟩
      · dsimp only
        split
        · exact ⟨by rw [(ln_commit _).1]; simp [reportR, nextR], by rw [(ln_commit _).2]; simp [reportR, nextR]⟩
        · exact ⟨by simp [reportR, nextR], by simp [reportR, nextR]⟩
theorem ln_proceed (s : Stp) : Ln (proceedR s) (s.out.length + 1) s.ev.length := by
  unfold proceedR
  dsimp only
  split
  · exact ⟨by simp [sendR], by simp [sendR]⟩
  · exact ⟨by simp, by simp⟩
theorem ln_agree (s : Stp) : Ln (agreeR s) (s.out.length + 1) (s.ev.length + 1) := by
  unfold agreeR
  split
  · exact (ln_proceed s).mono (Nat.le_refl _) (Nat.le_succ _)
  · dsimp only
    split <;> exact ⟨by simp [reportR], by simp [reportR]⟩
theorem ln_features (p : Pr) (d : Sec) (n : Int) : Ln (featuresR p d n) 2 1 := by
  unfold featuresR
  by_cases hi : initR p = true
  · simp only [hi, if_true]
    split
    · exact ln_fail ..
    · exact ⟨by simp, by simp⟩
  · simp only [hi, if_false, Bool.false_eq_true]
    split
    · exact ln_fail ..
    · exact ⟨by simp, by simp⟩
theorem ln_public (p : Pr) (d : Sec) (n : Int) : Ln (publicR p d n) 2 1 := by
  unfold publicR
  split
  · exact ln_fail ..
  · split
    · exact ln_fail ..
    · refine (ln_begin _).mono ?_ (by simp)
      dsimp only
      split <;> simp
theorem ln_simple (p : Pr) (d : Sec) (n : Int) : Ln (simpleR p d n) 2 1 := by
  unfold simpleR
  dsimp only
  split
  · exact (ln_agree _).mono (by simp [sendR, acceptR]) (by simp [sendR, acceptR])
  · split
    · exact ⟨by simp [sendR, freshR, nextR, acceptR], by simp [sendR, freshR, nextR, acceptR]⟩
    · split
      · split
        · exact ln_fail ..
        · exact (ln_agree _).mono (by simp [openedR, acceptR]) (by simp [openedR, acceptR])
      · exact ln_fail ..
theorem ln_outside (p : Pr) (d : Sec) (n : Int) : Ln (outsideR p d n) 2 1 := by
  unfold outsideR
  split
  · exact ln_fail ..
  · dsimp only
    split
    · exact (ln_proceed _).mono (by simp [acceptR]) (by simp [acceptR])
    · exact (ln_proceed _).mono (by simp [sendR, freshR, nextR, acceptR]) (by simp [sendR, freshR, nextR, acceptR])
theorem ln_rounds (p : Pr) (d : Sec) (n : Int) : Ln (roundsR p d n) 2 1 := by
  unfold roundsR
  dsimp only
  split
  · split
    · exact ⟨by simp [sendR, acceptR], by simp [sendR, acceptR]⟩
    · exact ⟨by rw [(ln_commit _).1]; simp [acceptR], by rw [(ln_commit _).2]; simp [acceptR]⟩
  · split
    · exact ln_fail ..
    · split
      · exact ln_fail ..
      · by_cases hi : initR p = true
        · simp only [hi, if_true]
          split
          · exact (ln_proceed _).mono (by simp [openedR, acceptR]) (by simp [openedR, acceptR])
          · exact ⟨by rw [(ln_commit _).1]; simp [openedR, acceptR], by rw [(ln_commit _).2]; simp [openedR, acceptR]⟩
        · simp only [hi, if_false, Bool.false_eq_true]
          split
          · exact (ln_proceed _).mono (by simp [sendR, openedR, acceptR]) (by simp [sendR, openedR, acceptR])
          · exact ⟨by simp [sendR, openedR, acceptR], by simp [sendR, openedR, acceptR]⟩
theorem ln_waiting (p : Pr) (d : Sec) (n : Int) : Ln (waitingR p d n) 2 1 := by
  unfold waitingR
  dsimp only
  split
  · exact ⟨by simp [acceptR], by simp [acceptR]⟩
  · split
    · exact ⟨by simp [acceptR], by simp [acceptR]⟩
    · exact ln_fail ..
theorem ln_checked (b : Pr) (s : Stp) (v : BitVec 64) (n : Int) (h : s.out.length ≤ 1) (h2 : s.ev.length ≤ 1) : Ln (checkedR b s v n) 2 1 := by
  unfold checkedR
  split
  · exact ln_fail ..
  · split
    · exact ⟨by simp; omega, by simpa using h2⟩
    · exact ⟨by simp [sendR]; omega, by simpa [sendR] using h2⟩
theorem ln_give (s : Stp) (b : Bool) : Ln (giveR s b) (s.out.length + 1) s.ev.length := by
  unfold giveR
  split
  · exact ⟨by simp, by simp⟩
  · exact ⟨by simp, by simp⟩
theorem ln_finish (s : Stp) : Ln (finishR s) s.out.length (s.ev.length + 1) := ⟨by simp [finishR], by simp [finishR]⟩
theorem ln_identity (p : Pr) (d : Sec) (n : Int) : Ln (identityR p d n) 2 1 := by
  unfold identityR
  split
  · exact ln_fail ..
  · have h := ln_give { acceptR p n with p := { (acceptR p n).p with idn := d.idn } } ((sidesR p).1 && initR p)
    have h2 := ln_finish (giveR { acceptR p n with p := { (acceptR p n).p with idn := d.idn } } ((sidesR p).1 && initR p))
    exact ⟨Nat.le_trans h2.1 (Nat.le_trans h.1 (by simp [acceptR])), Nat.le_trans h2.2 (by have := h.2; simp [acceptR] at this ⊢; exact this)⟩
theorem ln_known (p : Pr) (d : Sec) (n : Int) : Ln (knownR p d n) 2 1 := by
  unfold knownR
  split
  · split
    · exact ⟨by simp, by simp⟩
    · split
      · exact ln_features ..
      · exact ln_fail ..
  split
  · split
    · exact ln_features ..
    · exact ln_fail ..
  split
  · split
    · exact ln_public ..
    · exact ln_fail ..
  split
  · split
    · exact ln_outside ..
    · split
      · exact ln_rounds ..
      · exact ln_simple ..
  split
  · exact ln_waiting ..
  split
  · split
    · exact ln_checked _ _ _ _ (by simp [acceptR]) (by simp [acceptR])
    · exact ln_fail ..
  split
  · exact ln_identity ..
  · exact ln_fail ..
theorem ln_handle (p : Pr) (d : Sec) (n : Int) : Ln (handleR p d n) 2 1 := by
  unfold handleR
  split
  · exact ⟨by simp, by simp⟩
  split
  · exact ln_fail ..
  split
  · exact ln_known ..
  split
  · exact ⟨by simp, by simp⟩
  · exact ⟨by simp, (ln_fail p d.reason n).2⟩
theorem ln_user (p : Pr) (a n : Int) : Ln (userR p a n) 2 1 := by
  unfold userR
  split
  · exact ⟨by simp, by simp⟩
  dsimp only
  split
  · split
    · exact ln_fail ..
    · split
      · exact ⟨by rw [(ln_commit _).1]; simp [acceptR], by rw [(ln_commit _).2]; simp [acceptR]⟩
      · exact ⟨by simp [acceptR], by simp [acceptR]⟩
  split
  · exact ⟨by simp, by simp⟩
  split
  · exact ln_fail ..
  have h := ln_proceed { acceptR p n with p := { (acceptR p n).p with agreed := true } }
  split
  · exact h.mono (by simp [acceptR]) (by simp [acceptR])
  · exact ln_checked _ _ _ _ (by have := h.1; simp [acceptR] at this ⊢; exact this) (by have := h.2; simp [acceptR] at this ⊢; try rw [this]; try simp)
theorem ln_enc (p : Pr) (n : Int) : Ln (encR p n) 2 1 := by
  unfold encR
  split
  · exact ⟨by simp, by simp⟩
  dsimp only
  split
  · exact ⟨by simp [acceptR], by simp [acceptR]⟩
  have h := ln_give { acceptR p n with p := { (acceptR p n).p with crypt := true } } (sidesR p).1
  split
  · exact h.mono (by simp [acceptR]) (by simp [acceptR])
  · have h2 := ln_finish (giveR { acceptR p n with p := { (acceptR p n).p with crypt := true } } (sidesR p).1)
    exact ⟨Nat.le_trans h2.1 (Nat.le_trans h.1 (by simp [acceptR])), Nat.le_trans h2.2 (by have := h.2; simp [acceptR] at this ⊢; try rw [this]; try simp)⟩
structure Sm (x : Tk) (m : Nat) : Prop where
  s0 : 0 ≤ x.sent
  s1 : x.sent ≤ m
  ln : x.line.length ≤ m
  g0 : x.g0.length ≤ m
  g1 : x.g1.length ≤ m
theorem put_small {l : List Chg} {b : Bool} : ∀ (out : List Sec) (x : Tk), (out.foldl (put1 l b) x).sent = x.sent + out.length ∧ (out.foldl (put1 l b) x).line.length = x.line.length + out.length ∧ (out.foldl (put1 l b) x).g0 = x.g0 ∧ (out.foldl (put1 l b) x).g1 = x.g1 := by
  intro out
  induction out with
  | nil => intro x; exact ⟨by simp, rfl, rfl, rfl⟩
  | cons d out ih =>
    intro x
    obtain ⟨h1, h2, h3, h4⟩ := ih (put1 l b x d)
    rw [List.foldl_cons]
    refine ⟨?_, ?_, h3, h4⟩
    · rw [h1]; show x.sent + 1 + (out.length : Int) = x.sent + ((d :: out).length : Nat); rw [List.length_cons]; omega
    · rw [h2]; show (x.line ++ [_]).length + out.length = _; rw [List.length_append, List.length_cons, List.length_cons]; simp; omega
theorem note_small {b : Bool} : ∀ (ev : List Evt) (x : Tk), (ev.foldl (note1 b) x).sent = x.sent ∧ (ev.foldl (note1 b) x).line = x.line ∧ (ev.foldl (note1 b) x).g0.length ≤ x.g0.length + ev.length ∧ (ev.foldl (note1 b) x).g1.length ≤ x.g1.length + ev.length := by
  intro ev
  induction ev with
  | nil => intro x; exact ⟨rfl, rfl, by simp, by simp⟩
  | cons e ev ih =>
    intro x
    obtain ⟨h0, h1, h2, h3⟩ := ih (note1 b x e)
    rw [List.foldl_cons]
    have h : (note1 b x e).sent = x.sent ∧ (note1 b x e).line = x.line ∧ (note1 b x e).g0.length ≤ x.g0.length + 1 ∧ (note1 b x e).g1.length ≤ x.g1.length + 1 := by
      unfold note1
      split
      · split <;> exact ⟨rfl, rfl, Nat.le_succ _, Nat.le_succ _⟩
      · split
        · split <;> exact ⟨rfl, rfl, Nat.le_succ _, Nat.le_succ _⟩
        · split <;> exact ⟨rfl, rfl, by simp, by simp⟩
    rw [List.length_cons]
    exact ⟨h0.trans h.1, h1.trans h.2.1, by omega, by omega⟩
theorem Sm.step {l : List Chg} {b : Bool} {x x' : Tk} {s : Stp} {m : Nat} (h : Sm x m) (hs : Ln s 2 1) (e1 : x'.sent = x.sent) (e2 : x'.line.length ≤ x.line.length) (e3 : x'.g0 = x.g0) (e4 : x'.g1 = x.g1) : Sm (stepT l b x' s) (m + 2) := by
  obtain ⟨a1, a2, a3, a4⟩ := put_small (l := l) (b := b) s.out (x'.setSide b s.p)
  obtain ⟨b1, b2, b3, b4⟩ := note_small (b := b) s.ev (s.out.foldl (put1 l b) (x'.setSide b s.p))
  obtain ⟨c1, c2, c3, c4⟩ : (x'.setSide b s.p).sent = x'.sent ∧ (x'.setSide b s.p).line = x'.line ∧ (x'.setSide b s.p).g0 = x'.g0 ∧ (x'.setSide b s.p).g1 = x'.g1 := by cases b <;> exact ⟨rfl, rfl, rfl, rfl⟩
  obtain ⟨h1, h2, h3, h4, h5⟩ := h
  obtain ⟨d1, d2⟩ := hs
  unfold stepT postT
  refine ⟨?_, ?_, ?_, ?_, ?_⟩
  · rw [b1, a1, c1, e1]; omega
  · rw [b1, a1, c1, e1]; omega
  · rw [b2, a2, c2]; omega
  · refine Nat.le_trans b3 ?_; rw [a3, c3, e3]; omega
  · refine Nat.le_trans b4 ?_; rw [a4, c4, e4]; omega
end Go.Proofs.YtihmbcnccdiecaaDoor
namespace Go.Proofs.YtihmbcnccdiecaaDoor
set_option maxRecDepth 100000
set_option linter.unusedVariables false
def Tk.put_line (x : Tk) (z : List (Bool × Sec)) : Tk := { x with line := z }
def RunAt (l : List Chg) (common : Int) (x0 : Tk) (k : Nat) (y : Tk) : Prop := runT l common 400 0 x0 = runT l common (400 - k) (k : Int) y
theorem run_zero (l : List Chg) (common : Int) (x : Tk) : RunAt l common x 0 x := rfl
section
variable {l : List Chg} {common : Int} {x0 x y : Tk} {k : Nat}
theorem RunAt.step (h : RunAt l common x0 k x) (hk : k < 400) (hr : roundT l common (k : Int) x = some y) : RunAt l common x0 (k + 1) y := by
  unfold RunAt at *
  rw [h, show 400 - k = (400 - (k + 1)) + 1 by omega]
  show (match roundT l common (k : Int) x with | some y => runT l common (400 - (k + 1)) ((k : Int) + 1) y | none => x) = _
  rw [hr]
  rfl
theorem RunAt.stop (h : RunAt l common x0 k x) (hr : roundT l common (k : Int) x = none) : runT l common 400 0 x0 = x := by
  unfold RunAt at h
  rw [h]
  cases 400 - k with
  | zero => rfl
  | succ m =>
    show (match roundT l common (k : Int) x with | some y => runT l common m ((k : Int) + 1) y | none => x) = _
    rw [hr]
theorem RunAt.full (h : RunAt l common x0 k x) (hk : 400 ≤ k) : runT l common 400 0 x0 = x := by
  unfold RunAt at h
  rw [h, show 400 - k = 0 by omega]
  rfl
theorem time_in (hk : k < 400) : 0 ≤ (k : Int) ∧ (k : Int) ≤ 1099511627776 := by omega
theorem round_hand {c : Bool} {d : Sec} {rest : List (Bool × Sec)} {s : Stp} (hk : k < 400) (hi : Inv2 x) (hl : x.line = (c, d) :: rest) (hs : handleR (x.side c) d (k : Int) = s) :
    roundT l common (k : Int) x = some (stepT l c (x.put_line rest) s) ∧ Inv2 (stepT l c (x.put_line rest) s) := by
  subst hs
  constructor
  · unfold roundT
    rw [hl]
    show some (postT _ _ _ _ _ _) = _
    rw [show ({ x with line := rest } : Tk).side c = x.side c from by cases c <;> rfl, handle_eq _ _ _ (hi c)]
    rfl
  · refine inv2_step (x := x) (x' := x.put_line rest) hi (fun c => by cases c <;> rfl) ?_
    have := inv_handle d (hi c) (time_in hk)
    rwa [handle_eq _ _ _ (hi c)] at this
theorem inv_userR {p : Pr} {a n : Int} (h : Inv p) (hn : 0 ≤ n ∧ n ≤ 1099511627776) : Inv (userR p a n).p := by
  have := inv_user a h hn
  rwa [user_eq] at this
theorem inv_encR {p : Pr} {n : Int} (h : Inv p) (hn : 0 ≤ n ∧ n ≤ 1099511627776) : Inv (encR p n).p := by
  have := inv_enc h hn
  rwa [enc_eq] at this
theorem user_yes (c : Bool) (hk : k < 400) (hi : Inv2 x) (h4 : (x.side c).phase = 4) : userT l common (k : Int) c x = stepT l c x (userR (x.side c) (x.answer c common) (k : Int)) ∧ Inv2 (stepT l c x (userR (x.side c) (x.answer c common) (k : Int))) := by
  constructor
  · unfold userT
    rw [if_pos h4]
    simp only [user_eq]
    rfl
  · exact inv2_step hi (fun _ => rfl) (inv_userR (hi c) (time_in hk))
theorem user_no (c : Bool) (h4 : ¬ (x.side c).phase = 4) : userT l common (k : Int) c x = x := by
  unfold userT
  rw [if_neg h4]
theorem round_user (hl : x.line = []) (h4 : x.s0.phase = 4 ∨ (userT l common (k : Int) false x).s1.phase = 4) : roundT l common (k : Int) x = some (userT l common (k : Int) true (userT l common (k : Int) false x)) := by
  unfold roundT
  rw [hl]
  simp only
  rw [if_pos h4]
theorem enc_inv2 (c : Bool) (hk : k < 400) (hi : Inv2 x) : Inv2 (stepT l c x (encR (x.side c) (k : Int))) := inv2_step hi (fun _ => rfl) (inv_encR (hi c) (time_in hk))
theorem round_enc (hl : x.line = []) (h0 : x.s0.phase = 6) (h1 : x.s1.phase = 6) : roundT l common (k : Int) x = some (stepT l true (stepT l false x (encR x.s0 (k : Int))) (encR (stepT l false x (encR x.s0 (k : Int))).s1 (k : Int))) := by
  unfold roundT
  rw [hl]
  have hu : userT l common (k : Int) false x = x := by unfold userT; rw [if_neg (by show ¬ x.s0.phase = 4; omega)]
  simp only [hu]
  rw [if_neg (by omega), if_pos ⟨h0, h1⟩]
  unfold encT
  simp only [enc_eq]
  rfl
theorem round_none (hl : x.line = []) (h0 : ¬ x.s0.phase = 4) (h1 : ¬ x.s1.phase = 4) (h6 : ¬ (x.s0.phase = 6 ∧ x.s1.phase = 6)) : roundT l common (k : Int) x = none := by
  unfold roundT
  rw [hl]
  have hu : userT l common (k : Int) false x = x := by unfold userT; rw [if_neg (show ¬ (x.side false).phase = 4 from h0)]
  simp only [hu]
  rw [if_neg (by rintro (h | h); exact h0 h; exact h1 h), if_neg h6]
theorem play_run {a b : Cfg} (h1 : (newP a).2 = 0) (h2 : (newP b).2 = 0) (h3 : a.role = 0) (h4 : b.role = 1) : playT a b l common = runT l common 400 0 (startT a b l) := by
  rcases play_cases a b l common with h | h
  · exfalso
    have e : playT a b l common ≠ tk0 := by
      unfold playT
      rw [if_neg (by rintro (h | h | h | h); exact h h1; exact h h2; exact h h3; exact h h4)]
      intro e
      have h0 : (runT l common 400 0 (postT { tk0 with ok := true, s1 := (newP b).1 } false (startP (newP a).1 0).1 (startP (newP a).1 0).2.1 [] l)).ok = true := by
        have hs : ∀ (k : Nat) (n : Int) (x : Tk), x.ok = true → (runT l common k n x).ok = true := by
          intro k
          induction k with
          | zero => intro n x h; exact h
          | succ k ih =>
            intro n x h
            show (match roundT l common n x with | some y => runT l common k (n + 1) y | none => x).ok = true
            cases hr : roundT l common n x with
            | none => exact h
            | some y =>
              refine ih (n + 1) y ?_
              unfold roundT at hr
              split at hr
              · rw [← Option.some.inj hr]; exact (postF l _ _ _ _ _).ok.trans h
              · have hu : ∀ b x, x.ok = true → (userT l common n b x).ok = true := by
                  intro b x h
                  unfold userT
                  split
                  · exact (postF l _ _ _ _ _).ok.trans h
                  · exact h
                have he : ∀ b x, x.ok = true → (encT l n b x).ok = true := fun b x h => (postF l _ _ _ _ _).ok.trans h
                split at hr
                · rw [← Option.some.inj hr]; exact hu _ _ (hu _ _ h)
                · split at hr
                  · rw [← Option.some.inj hr]; exact he _ _ (he _ _ h)
                  · cases hr
        exact hs 400 0 _ ((postF l _ _ _ _ _).ok.trans rfl)
      rw [e] at h0
      exact absurd h0 (by decide)
    exact e h
  · exact h.2.2.2.2
theorem start_small (a b : Cfg) : Sm (startT a b l) 2 := by
  have h : Sm ({ tk0 with ok := true, s1 := begunP b } : Tk) 0 := ⟨Int.le_refl 0, Int.le_refl 0, Nat.le_refl 0, Nat.le_refl 0, Nat.le_refl 0⟩
  exact h.step (l := l) (b := false) (s := ⟨askedP a, [{ sec0 with kind := 1, feat := a.feat }], []⟩) ⟨by simp, by simp⟩ rfl (Nat.le_refl _) rfl rfl
end
end Go.Proofs.YtihmbcnccdiecaaDoor
namespace Go.Proofs.YtihmbcnccdiecaaDoor
set_option maxRecDepth 100000
theorem live_done : ((playT (cfgX 0 3) (cfgX 1 3) [] 0).done false && (playT (cfgX 0 3) (cfgX 1 3) [] 0).done true && decide ((playT (cfgX 0 3) (cfgX 1 3) [] 0).s0.ltk = (playT (cfgX 0 3) (cfgX 1 3) [] 0).s1.ltk) && decide ((playT (cfgX 0 3) (cfgX 1 3) [] 0).s0.idn.irk = 5#64)) = true := by decide +kernel
theorem live_new : (newP (cfgX 0 3)).2 = 0 := by decide +kernel
theorem live_refused : newP { cfg0 with role := 2 } = (pr0, 5) := by
  unfold newP
  rw [if_pos ⟨by decide, by decide⟩]
theorem done_one {x : Tk} (h : x.done false = true) : ∃ e, x.g0 = [e] := by
  unfold Tk.done at h
  simp only [Bool.and_eq_true, Bool.false_eq_true, if_false] at h
  rcases hx : x.g0 with _ | ⟨e, _ | ⟨f, t⟩⟩
  · rw [hx] at h; exact absurd h.2 (by simp)
  · exact ⟨e, rfl⟩
  · rw [hx] at h; exact absurd h.2 (by simp)
theorem done_one1 {x : Tk} (h : x.done true = true) : ∃ e, x.g1 = [e] := by
  unfold Tk.done at h
  simp only [Bool.and_eq_true, if_true] at h
  rcases hx : x.g1 with _ | ⟨e, _ | ⟨f, t⟩⟩
  · rw [hx] at h; exact absurd h.2 (by simp)
  · exact ⟨e, rfl⟩
  · rw [hx] at h; exact absurd h.2 (by simp)
end Go.Proofs.YtihmbcnccdiecaaDoor
namespace Go.Proofs.YtihmbcnccdiecaaDoor
set_option maxRecDepth 100000
open Go.ChangeShapes Go.WideShapes Go.ChangeAt Go.RowKit
set_option linter.unusedVariables false
def Lies (P : Program) (t : TypeId) (D : DataW Unit) (vs : List Value) : Prop :=
  P.cellsOf t = vs.length ∧ ∀ (enc : TypeId × Value → Unit) (w : World) (base : Nat) (sp : Nat → Bool) (held : Bool) (fuel : Nat) (cs : List Value) (x : DataW Unit × List MemPlace), DataW.trod enc P w base sp held fuel t cs = some x → x.1 = D → cs = vs
theorem lies_int {P : Program} {t : TypeId} {k : IntKind} {n : Int} (ht : P.underlying t = some (.int k)) (hc : P.cellsOf t = 1) : Lies P t (.lit (.int k n)) [.int k n] := by
  refine ⟨hc, fun enc w base sp held fuel cs x h e => ?_⟩
  obtain ⟨m, rfl, rfl, _⟩ := DataW.trod_int ht h
  simp at e
  rw [e]
theorem lies_rows {P : Program} {e : TypeId} {enc : TypeId × Value → Unit} {w : World} {base : Nat} {sp : Nat → Bool} {held : Bool} {m : Nat} :
    ∀ (Ds : List (DataW Unit)) (vss : List (List Value)) (xs : List (DataW Unit × List MemPlace)) (cs : List Value), Ds.length = vss.length → (∀ (i : Nat) D vs, Ds[i]? = some D → vss[i]? = some vs → Lies P e D vs) → xs.map (·.1) = Ds → cs.length = Ds.length * P.cellsOf e →
      (∀ (i : Nat), i < Ds.length → DataW.trod enc P w base sp held m e ((cs.drop (i * P.cellsOf e)).take (P.cellsOf e)) = xs[i]?) → cs = vss.flatten
  | [], [], xs, cs, _, _, _, hl, _ => by simp at hl; simp [hl]
  | [], _ :: _, _, _, h, _, _, _, _ => by simp at h
  | _ :: _, [], _, _, h, _, _, _, _ => by simp at h
  | D :: Ds, vs :: vss, xs, cs, hn, hL, hx, hl, ht => by
    match xs, hx with
    | x :: xs, hx =>
      simp only [List.map_cons, List.cons.injEq] at hx
      simp only [List.length_cons] at hl hn ht
      have h0 := ht 0 (by omega)
      rw [Nat.zero_mul, List.drop_zero] at h0
      have hc := hL 0 D vs rfl rfl
      have e0 := hc.2 enc w base sp held m _ x h0 hx.1
      have er := lies_rows Ds vss xs (cs.drop (P.cellsOf e)) (by omega) (fun i D vs h1 h2 => hL (i + 1) D vs h1 h2) hx.2 (by rw [List.length_drop, hl, Nat.add_mul]; omega) (fun i hi => by
        have := ht (i + 1) (by omega)
        rw [Nat.add_mul, Nat.one_mul] at this
        rw [List.drop_drop, Nat.add_comm]
        exact this)
      rw [List.flatten_cons, ← e0, ← er, List.take_append_drop]
theorem lies_array {P : Program} {t e : TypeId} {n : Nat} (Ds : List (DataW Unit)) (vss : List (List Value)) (ht : P.underlying t = some (.array n e)) (hn : Ds.length = n) (hv : vss.length = n) (hc : P.cellsOf t = n * P.cellsOf e) (hf : P.cellsOf t = vss.flatten.length)
    (hL : ∀ (i : Nat) D vs, Ds[i]? = some D → vss[i]? = some vs → Lies P e D vs) : Lies P t (.agg Ds) vss.flatten := by
  refine ⟨hf, fun enc w base sp held fuel cs x h ex => ?_⟩
  obtain ⟨xs, m, _, rfl, hlen, hxl, hel⟩ := DataW.trod_array ht h
  refine lies_rows Ds vss xs cs (by omega) hL (by simpa using ex) (by rw [hlen, hc, hn]) (fun i hi => hel i (by omega))
abbrev laidT : List (String × DataW Unit) := [("wireless/method.table", Rows.laid_wireless_method_table), ("wireless/address.prefixes", Rows.laid_wireless_address_prefixes)]
theorem gTab : Tryd.prog.globalNamed "wireless/method.table" = some 0 := by kernel_rfl
theorem gPre : Tryd.prog.globalNamed "wireless/address.prefixes" = some 1 := by kernel_rfl
theorem tTab : (Tryd.prog.globals[0]?).map (·.type) = some 95 := by kernel_rfl
theorem tPre : (Tryd.prog.globals[1]?).map (·.type) = some 101 := by kernel_rfl
theorem five {α β : Type} {R : α → β → Prop} {a0 a1 a2 a3 a4 : α} {b0 b1 b2 b3 b4 : β} (h0 : R a0 b0) (h1 : R a1 b1) (h2 : R a2 b2) (h3 : R a3 b3) (h4 : R a4 b4) : ∀ (i : Nat) D vs, [a0, a1, a2, a3, a4][i]? = some D → [b0, b1, b2, b3, b4][i]? = some vs → R D vs := by
  intro i D vs e1 e2
  match i, e1, e2 with
  | 0, e1, e2 => simp at e1 e2; rw [← e1, ← e2]; exact h0
  | 1, e1, e2 => simp at e1 e2; rw [← e1, ← e2]; exact h1
  | 2, e1, e2 => simp at e1 e2; rw [← e1, ← e2]; exact h2
  | 3, e1, e2 => simp at e1 e2; rw [← e1, ← e2]; exact h3
  | 4, e1, e2 => simp at e1 e2; rw [← e1, ← e2]; exact h4
  | i + 5, e1, _ => simp at e1
theorem lies_row (a b c d e : Int) : Lies Tryd.prog 94 (.agg [.lit (.int .i64 a), .lit (.int .i64 b), .lit (.int .i64 c), .lit (.int .i64 d), .lit (.int .i64 e)]) [.int .i64 a, .int .i64 b, .int .i64 c, .int .i64 d, .int .i64 e] :=
  lies_array (P := Tryd.prog) _ [[.int .i64 a], [.int .i64 b], [.int .i64 c], [.int .i64 d], [.int .i64 e]] Tryd.underlying94 rfl rfl (by kernel_rfl) (by kernel_rfl) (by
    have h : ∀ n : Int, Lies Tryd.prog 3 (.lit (.int .i64 n)) [.int .i64 n] := fun n => lies_int Tryd.underlying3 (by kernel_rfl)
    exact five (h a) (h b) (h c) (h d) (h e))
theorem lies_pre (a b c d e : Int) : Lies Tryd.prog 101 (.agg [.lit (.int .u64 a), .lit (.int .u64 b), .lit (.int .u64 c), .lit (.int .u64 d), .lit (.int .u64 e)]) [.int .u64 a, .int .u64 b, .int .u64 c, .int .u64 d, .int .u64 e] :=
  lies_array (P := Tryd.prog) _ [[.int .u64 a], [.int .u64 b], [.int .u64 c], [.int .u64 d], [.int .u64 e]] Tryd.underlying101 rfl rfl (by kernel_rfl) (by kernel_rfl) (by
    have h : ∀ n : Int, Lies Tryd.prog 24 (.lit (.int .u64 n)) [.int .u64 n] := fun n => lies_int Tryd.underlying24 (by kernel_rfl)
    exact five (h a) (h b) (h c) (h d) (h e))
theorem lies_tab : Lies Tryd.prog 95 Rows.laid_wireless_method_table tabL :=
  lies_array (P := Tryd.prog) _ [_, _, _, _, _] Tryd.underlying95 rfl rfl (by kernel_rfl) (by kernel_rfl) (five (lies_row 1 1 3 1 3) (lies_row 1 2 3 1 2) (lies_row 4 4 5 1 4) (lies_row 1 1 1 1 1) (lies_row 4 2 3 1 2))
theorem cell_blk {W : World} {b o : Nat} {v : Value} (h : W.cell? ⟨b, o, none⟩ = some v) : b < W.heap.size := by
  rcases Nat.lt_or_ge b W.heap.size with h' | h'
  · exact h'
  · unfold World.cell? at h
    rw [Array.getElem?_eq_none h'] at h
    cases h
theorem laid_of {W : World} (h : laidMetH Tryd.prog laidT W) : Laid W := by
  rw [MakeChecks.laidMetH_plain _ _ _ (by kernel_rfl)] at h
  obtain ⟨ps, ⟨g0, t0, cs0, f0, p0, q0, hg0, ht0, hv0, hd0, ⟨g1, t1, cs1, f1, p1, q1, hg1, ht1, hv1, hd1, _, _⟩, _⟩, _, _⟩ := h
  obtain rfl := Option.some.inj (gTab.symm.trans hg0)
  obtain rfl := Option.some.inj (gPre.symm.trans hg1)
  obtain rfl := Option.some.inj (tTab.symm.trans ht0)
  obtain rfl := Option.some.inj (tPre.symm.trans ht1)
  have e0 := lies_tab.2 _ _ _ _ _ _ _ _ hd0 rfl
  have e1 := (lies_pre 0 0 3 1 0).2 _ _ _ _ _ _ _ _ hd1 rfl
  have c0 := World.var?_cell hg0 hv0
  have c1 := World.var?_cell hg1 hv1
  have c0' : W.rangeAt 0 0 tabL := fun j v hj => by
    rw [Nat.zero_add, c0 j, ← Array.getElem?_toList, e0]
    exact hj
  have c1' : W.rangeAt 1 0 preL := fun j v hj => by
    rw [Nat.zero_add, c1 j, ← Array.getElem?_toList, e1]
    exact hj
  refine ⟨?_, c0', c1'⟩
  have h0 := cell_blk (c0' 0 _ rfl)
  have h1 := cell_blk (c1' 0 _ rfl)
  have e : 0 = 1 ∨ 1 = 1 := by decide
  omega
end Go.Proofs.YtihmbcnccdiecaaDoor
namespace Go.Proofs.YtihmbcnccdiecaaDoor
set_option maxRecDepth 100000
set_option linter.unusedVariables false
set_option linter.unusedSimpArgs false
def fx0 (a b : Cfg) (K : BitVec 32) (s : BitVec 32) : Fx := ⟨a, (chooseK a.feat b.feat).1, b.feat, a.feat, b.feat, K, s⟩
def fx1 (a b : Cfg) (K : BitVec 32) (s : BitVec 32) : Fx := ⟨b, (chooseK a.feat b.feat).1, a.feat, a.feat, b.feat, K, s⟩
def resX (a b : Cfg) (L : BitVec 64) (i : Idn) : Evt := { evt0 with kind := 3, key := L, strong := (chooseK a.feat b.feat).2, idn := i }
structure EndOk (a b : Cfg) (x : Tk) : Prop where
  ok : x.ok = true
  p0 : x.s0.phase = 7
  p1 : x.s1.phase = 7
  ltk : x.s0.ltk = x.s1.ltk
  sh : x.s0.shared = x.s1.shared
  g0 : x.g0 = [resX a b x.s0.ltk (if (identsK a.feat b.feat).2 then b.idn else idn0)]
  g1 : x.g1 = [resX a b x.s1.ltk (if (identsK a.feat b.feat).1 then a.idn else idn0)]
end Go.Proofs.YtihmbcnccdiecaaDoor
namespace Go.Proofs.YtihmbcnccdiecaaDoor
set_option maxRecDepth 100000
set_option linter.unusedVariables false
set_option linter.unusedSimpArgs false
section
variable {l : List Chg} {common : Int} {a b : Cfg} {K0 K1 : BitVec 32} {bad : Prop} {x : Tk} {p0 p1 : Pr} {v : Vw} {V0 V1 : Vx} {r : Int}
abbrev F0 (a b : Cfg) (K0 : BitVec 32) : Fx := fx0 a b K0 (sharedK a.secret K0)
abbrev F1 (a b : Cfg) (K1 : BitVec 32) : Fx := fx1 a b K1 (sharedK b.secret K1)
structure RR (a b : Cfg) (K0 K1 : BitVec 32) (p0 p1 : Pr) (V0 V1 : Vx) (v : Vw) (r : Int) : Prop where
  k0 : Sx p0 (F0 a b K0) V0
  k1 : Sx p1 (F1 a b K1) V1
  a0 : V0.ph = 3
  a1 : V1.ph = 3
  h0 : V0.hv = false
  w : V0.pw = V1.pw
  d0 : V0.rd = r
  d1 : V1.rd = r
  g0 : v.g0 = []
  g1 : v.g1 = []
end
end Go.Proofs.YtihmbcnccdiecaaDoor
