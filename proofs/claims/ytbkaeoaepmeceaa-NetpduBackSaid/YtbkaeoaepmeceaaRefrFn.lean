/- What the functions of layer 52 (refresh) compute. No program here. -/
import Derived.Test.YtbkaeoaepmeceaaMeshFn
import Derived.Test.YtbkaeoaepmeceaaBv
namespace Go.Proofs.Ytbkaeoaepmeceaa
structure NK where
  key : BitVec 64
  nid : Int
  enc : BitVec 64
  hide : BitVec 64
  bea : BitVec 64
  deriving DecidableEq
structure KS where
  phase : Int
  old : NK
  new : NK
  deriving DecidableEq
structure IV where
  index : BitVec 32
  upd : Bool
  since : Int
  deriving DecidableEq
structure Bea where
  ref : Bool
  upd : Bool
  index : BitVec 32
  deriving DecidableEq
def nkD (k : BitVec 64) : NK := ⟨k, W64 (nidK k), encK k, hideK k, beaK k⟩
def nk0 : NK := ⟨0#64, 0, 0#64, 0#64, 0#64⟩
def newKeyK (k : KS) (key : BitVec 64) : KS × Int :=
  if k.phase ≠ 0 ∧ key = k.new.key then (k, 0) else if k.phase ≠ 0 then (k, 9) else if key = k.old.key then (k, 7) else ({ k with phase := 1, new := nkD key }, 0)
def phaseK (k : KS) (p : Int) : KS × Bool :=
  if p = 2 ∧ k.phase = 1 then ({ k with phase := 2 }, true) else if p = 3 ∧ (k.phase = 1 ∨ k.phase = 2) then (⟨0, k.new, nk0⟩, true) else (k, false)
def recvK (k : KS) : List NK := if k.phase = 1 then [k.old, k.new] else if k.phase = 2 then [k.new, k.old] else [k.old]
def sendK (k : KS) : NK := if k.phase = 2 then k.new else k.old
def lastB (since now : Int) : Bool := decide (since + 1000 ≤ now)
def beginK (v : IV) (now : Int) : IV × Int :=
  if v.upd = true then (v, 9) else if lastB v.since now = false then (v, 20) else if v.index = 4294967295#32 then (v, 5) else (⟨v.index + 1#32, true, now⟩, 0)
def endK (v : IV) (now : Int) : IV × Int :=
  if v.upd = false then (v, 9) else if lastB v.since now = false then (v, 20) else (⟨v.index, false, now⟩, 0)
def txK (v : IV) : BitVec 32 := if v.upd = true ∧ v.index ≠ 0#32 then v.index - 1#32 else v.index
def rxK (v : IV) (bit : Int) : BitVec 32 × Bool :=
  if bit ≠ 0 ∧ bit ≠ 1 then (0#32, false) else if BitVec.ofInt 32 bit = v.index &&& 1#32 then (v.index, true) else if v.index = 0#32 then (0#32, false) else (v.index - 1#32, true)
def hearIVK (v : IV) (b : Bea) (now : Int) : IV :=
  if b.index = v.index ∧ v.upd = true ∧ b.upd = false ∧ lastB v.since now = true then ⟨b.index, b.upd, now⟩
  else if b.index ≤ v.index ∨ 42#32 < b.index - v.index then v
  else if b.index - v.index = 1#32 ∧ b.upd = true ∧ lastB v.since now = false then v
  else ⟨b.index, b.upd, now⟩
def hearK (k : KS) (v : IV) (b : Bea) (index now : Int) : KS × IV :=
  if index < 0 ∨ (recvK k).length ≤ index then (k, v)
  else if 1 < (recvK k).length ∧ (recvK k)[index.toNat]? = some k.new then ((phaseK k (if b.ref then 2 else 3)).1, hearIVK v b now)
  else (k, hearIVK v b now)
end Go.Proofs.Ytbkaeoaepmeceaa
