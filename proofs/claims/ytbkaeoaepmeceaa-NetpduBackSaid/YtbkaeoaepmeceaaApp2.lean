/- What calls return, for the printed walks. -/
import Derived.Test.YtbkaeoaepmeceaaApp
import Derived.Test.YtbkaeoaepmeceaaMacLawsA
namespace Go.Proofs.Ytbkaeoaepmeceaa
set_option maxRecDepth 100000
open Go.ChangeShapes Go.WideShapes Go.ChangeAt Go.RowKit
set_option linter.unusedVariables false
theorem retB_at {f : Nat} {args : Array Value} {W : World} {bs : List (BitVec 8)} {n base : Nat} (h : Calls Try.prog f args W (RetB W bs)) (hn : bs.length = n) (hb : base ≤ W.heap.size) :
    Calls Try.prog f args W fun e w' => ∃ (A : Option Addr) (c : Nat), e = .returned (.slice A n c) ∧ w'.ownsRow base 5 1 (.slice A n c) n (bcells bs) ∧ Below W.heap.size W w' := by
  subst hn
  exact h.mono fun e w' ⟨A, c, he, ho, hbl⟩ => ⟨A, c, he, own_mono ho hb, hbl⟩
theorem rg_at {W : World} {b o : Nat} {xs : List Value} (h : Rd W (some ⟨b, o, none⟩) xs) (k n : Nat) (ys : List Value) (hys : (xs.drop k).take n = ys) (h0 : 0 < ys.length) : Rg b (o + k) ys W := by
  have hx : 0 < xs.length := by
    rcases xs with _ | ⟨x, xs⟩
    · simp at hys; rw [hys] at h0; simp at h0
    · simp
  obtain ⟨b', o', hA, hb, hc⟩ := Rd.open_ h hx
  cases hA
  refine ⟨hb, fun j v hj => ?_⟩
  rw [Nat.add_assoc]
  refine hc (k + j) v ?_
  rw [← hys] at hj
  rw [List.getElem?_take] at hj
  split at hj
  · rwa [List.getElem?_drop] at hj
  · cases hj
theorem same_t {A B : Option Addr} {c d n m : Nat} {a b : List (BitVec 8)} {w : World} (h : a = b) (hra : RdB w A a) (hrb : RdB w B b) (hn : a.length = n) (hm : b.length = m) :
    Calls Try.prog 20 #[.slice A n c, .slice B m d] w fun e w' => e = .returned (.bool true) ∧ w = w' := by
  have := same_n A B c d n m a b w hra hrb hn hm
  rwa [decide_eq_true h] at this
theorem same_f {A B : Option Addr} {c d n m : Nat} {a b : List (BitVec 8)} {w : World} (h : a ≠ b) (hra : RdB w A a) (hrb : RdB w B b) (hn : a.length = n) (hm : b.length = m) :
    Calls Try.prog 20 #[.slice A n c, .slice B m d] w fun e w' => e = .returned (.bool false) ∧ w = w' := by
  have := same_n A B c d n m a b w hra hrb hn hm
  rwa [decide_eq_false h] at this
theorem join_at {W : World} {g n m base : Nat} {t : TypeId} {cs : Array Value} (ps : List Part) (bs : List (BitVec 8)) (hG : Blk W g t cs) (hv : cs.toList = pcells ps) (hn : ps.length = n) (hbs : ps.flatMap (·.2.2) = bs) (hm : bs.length = m)
    (hp : ∀ p ∈ ps, RdB W p.1 p.2.2) (hlen : m ≤ 1048576) (hl : n ≤ 1048576) (hb : base ≤ W.heap.size) :
    Calls Try.prog 42 #[.slice (some ⟨g, 0, none⟩) n n] W fun e w' => ∃ (A : Option Addr) (c : Nat), e = .returned (.slice A m c) ∧ w'.ownsRow base 5 1 (.slice A m c) m (bcells bs) ∧ Below W.heap.size W w' := by
  subst hn
  subst hbs
  subst hm
  exact (octets_Join (some ⟨g, 0, none⟩) ps.length ps W (by rw [← hv]; exact rd_blk hG) hp hlen hl).mono fun e w' ⟨A, c, he, ho, hbl⟩ => ⟨A, c, he, own_mono ho hb, hbl⟩
end Go.Proofs.Ytbkaeoaepmeceaa
