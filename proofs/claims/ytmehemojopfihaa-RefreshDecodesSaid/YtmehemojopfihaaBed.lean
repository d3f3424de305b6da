/- What Decode of layer 52 answers, and what its walks need. -/
import Derived.Test.YtmehemojopfihaaBeaE
import Derived.Test.YtmehemojopfihaaTakeW
import Derived.Test.YtmehemojopfihaaRefrF
import Derived.Test.YtmehemojopfihaaRecs
namespace Go.Proofs.Ytmehemojopfihaa
set_option maxRecDepth 100000
open Go.ChangeShapes Go.WideShapes Go.ChangeAt Go.RowKit
set_option linter.unusedVariables false
set_option linter.unusedSimpArgs false
def bea0 : Bea := ⟨false, false, 0#32⟩
def headBea (bs : List (BitVec 8)) : Bea := ⟨bs.headD 0#8 % 2#8 == 1#8, bs.headD 0#8 / 2#8 == 1#8, (leVal ((bs.drop 1).take 4)).setWidth 32⟩
def decK (ks : List NK) (bs : List (BitVec 8)) : Bea × Int × Int :=
  if bs.length < 13 then (bea0, 0, 3)
  else if 13 < bs.length then (bea0, 0, 4)
  else if 3#8 < bs.headD 0#8 then (bea0, 0, 2)
  else match ks.findIdx? (fun k => decide (beaB k (headBea bs) = bs)) with
    | some i => (headBea bs, (i : Int), 0)
    | none => (bea0, 0, 15)
theorem decK_hit (ks : List NK) (bs : List (BitVec 8)) (h13 : bs.length = 13) (h3 : ¬ 3#8 < bs.headD 0#8) (j : Nat) (hj : j < ks.length) (hit : beaB ks[j] (headBea bs) = bs) (hno : ∀ q, q < j → ∀ h : q < ks.length, beaB ks[q] (headBea bs) ≠ bs) :
    decK ks bs = (headBea bs, (j : Int), 0) := by
  have hf : ks.findIdx? (fun k => decide (beaB k (headBea bs) = bs)) = some j := by
    rw [List.findIdx?_eq_some_iff_getElem]
    exact ⟨hj, by simpa using hit, fun q hq => by simpa using hno q hq (by omega)⟩
  unfold decK
  rw [if_neg (by omega), if_neg (by omega), if_neg h3, hf]
theorem decK_miss (ks : List NK) (bs : List (BitVec 8)) (h13 : bs.length = 13) (h3 : ¬ 3#8 < bs.headD 0#8) (hno : ∀ q, ∀ h : q < ks.length, beaB ks[q] (headBea bs) ≠ bs) :
    decK ks bs = (bea0, 0, 15) := by
  have hf : ks.findIdx? (fun k => decide (beaB k (headBea bs) = bs)) = none := by
    rw [List.findIdx?_eq_none_iff]
    intro k hk
    obtain ⟨q, hq, rfl⟩ := List.getElem_of_mem hk
    simpa using hno q hq
  unfold decK
  rw [if_neg (by omega), if_neg (by omega), if_neg h3, hf]
theorem decK_cases (ks : List NK) (bs : List (BitVec 8)) (h : (decK ks bs).2.2 = 0) : ∃ j, ∃ hj : j < ks.length, decK ks bs = (headBea bs, (j : Int), 0) ∧ beaB ks[j] (headBea bs) = bs ∧ ∀ q, q < j → ∀ h : q < ks.length, beaB ks[q] (headBea bs) ≠ bs := by
  unfold decK at h ⊢
  by_cases h1 : bs.length < 13
  · rw [if_pos h1] at h; exact absurd h (by decide)
  rw [if_neg h1] at h ⊢
  by_cases h2 : 13 < bs.length
  · rw [if_pos h2] at h; exact absurd h (by decide)
  rw [if_neg h2] at h ⊢
  by_cases h3 : 3#8 < bs.headD 0#8
  · rw [if_pos h3] at h; exact absurd h (by decide)
  rw [if_neg h3] at h ⊢
  rcases hf : ks.findIdx? (fun k => decide (beaB k (headBea bs) = bs)) with _ | j
  · rw [hf] at h; dsimp only at h; omega
  · rw [List.findIdx?_eq_some_iff_getElem] at hf
    obtain ⟨hj, h1, h2⟩ := hf
    exact ⟨j, hj, rfl, by simpa using h1, fun q hq hh => by simpa using h2 q hq⟩
theorem decK_zero (ks : List NK) (bs : List (BitVec 8)) (h : (decK ks bs).2.2 ≠ 0) : (decK ks bs).1 = bea0 ∧ (decK ks bs).2.1 = 0 := by
  unfold decK at h ⊢
  by_cases h1 : bs.length < 13
  · rw [if_pos h1]; exact ⟨rfl, rfl⟩
  rw [if_neg h1] at h ⊢
  by_cases h2 : 13 < bs.length
  · rw [if_pos h2]; exact ⟨rfl, rfl⟩
  rw [if_neg h2] at h ⊢
  by_cases h3 : 3#8 < bs.headD 0#8
  · rw [if_pos h3]; exact ⟨rfl, rfl⟩
  rw [if_neg h3] at h ⊢
  rcases hf : ks.findIdx? (fun k => decide (beaB k (headBea bs) = bs)) with _ | j
  · exact ⟨rfl, rfl⟩
  · rw [hf] at h; exact absurd rfl h
theorem bea_flags : ∀ rf up : Bool, ∀ x : BitVec 8, x = BitVec.setWidth 8 (BitVec.ofNat 64 ((if rf then 1 else 0) + (if up then 2 else 0))) → (¬ 3#8 < x) ∧ (x % 2#8 == 1#8) = rf ∧ (x / 2#8 == 1#8) = up := by
  intro rf up x hx
  subst hx
  cases rf <;> cases up <;> decide
theorem leVal_numB4 (i : BitVec 32) : (leVal (numB 4 (i.setWidth 64))).setWidth 32 = i := by
  have e : numB 4 (i.setWidth 64) = [((i.setWidth 64) >>> 0).setWidth 8, ((i.setWidth 64) >>> 8).setWidth 8, ((i.setWidth 64) >>> 16).setWidth 8, ((i.setWidth 64) >>> 24).setWidth 8] := rfl
  rw [e]
  apply BitVec.eq_of_getLsbD_eq
  intro k hk
  simp only [leVal, BitVec.getLsbD_setWidth, BitVec.getLsbD_or, BitVec.getLsbD_shiftLeft, BitVec.getLsbD_ushiftRight]
  by_cases h1 : k < 8
  · simp [h1, hk, show k < 64 by omega]
  by_cases h2 : k < 16
  · simp [h1, hk, show k - 8 < 8 by omega, show k < 64 by omega, show k - 8 < 64 by omega, show 8 + (k - 8) = k by omega]
  by_cases h3 : k < 24
  · simp [h1, h2, hk, show k - 8 < 64 by omega, show k < 64 by omega, show ¬ k - 8 < 8 by omega, show k - 8 - 8 < 8 by omega, show k - 8 - 8 < 64 by omega, show 16 + (k - 8 - 8) = k by omega]
  · simp [h1, h2, h3, hk, show k - 8 < 64 by omega, show k < 64 by omega, show ¬ k - 8 < 8 by omega, show ¬ k - 8 - 8 < 8 by omega, show k - 8 - 8 < 64 by omega, show k - 8 - 8 - 8 < 8 by omega, show k - 8 - 8 - 8 < 64 by omega, show 24 + (k - 8 - 8 - 8) = k by omega]
theorem headBea_bea (k : NK) (b : Bea) : headBea (beaB k b) = b ∧ ¬ 3#8 < (beaB k b).headD 0#8 := by
  obtain ⟨rf, up, ix⟩ := b
  obtain ⟨x, hx⟩ : ∃ x, x = BitVec.setWidth 8 (BitVec.ofNat 64 ((if rf then 1 else 0) + (if up then 2 else 0))) := ⟨_, rfl⟩
  have e : beaB k ⟨rf, up, ix⟩ = x :: (numB 4 (ix.setWidth 64) ++ numB 8 (tag k.bea (beaHead ⟨rf, up, ix⟩))) := by
    subst hx
    unfold beaB
    generalize tag k.bea (beaHead ⟨rf, up, ix⟩) = t
    unfold beaHead
    cases rf <;> cases up <;> rfl
  obtain ⟨h1, h2, h3⟩ := bea_flags rf up x hx
  rw [e]
  unfold headBea
  simp only [List.headD_cons, List.drop_succ_cons, List.drop_zero]
  rw [List.take_left' (numB_length _ _), leVal_numB4, h2, h3]
  exact ⟨rfl, h1⟩
theorem decK_bea (ks : List NK) (b : Bea) (at_ : Nat) (hat : at_ < ks.length) : ∃ n, ∃ hn : n < ks.length, n ≤ at_ ∧ decK ks (beaB ks[at_] b) = (b, (n : Int), 0) ∧ beaB ks[n] b = beaB ks[at_] b := by
  obtain ⟨h1, h2⟩ := headBea_bea ks[at_] b
  have hl := beaB_length ks[at_] b
  have hex : ∃ n, n ≤ at_ ∧ ∃ hn : n < ks.length, beaB ks[n] b = beaB ks[at_] b := ⟨at_, Nat.le_refl _, hat, rfl⟩
  generalize hs : beaB ks[at_] b = s at *
  rcases hf : ks.findIdx? (fun k => decide (beaB k b = s)) with _ | n
  · rw [List.findIdx?_eq_none_iff] at hf
    have := hf ks[at_] (List.getElem_mem hat)
    simp [hs] at this
  · rw [List.findIdx?_eq_some_iff_getElem] at hf
    obtain ⟨hn, h3, h4⟩ := hf
    have hle : n ≤ at_ := by
      rcases Nat.lt_or_ge at_ n with h | h
      · have := h4 at_ h
        simp [hs] at this
      · exact h
    refine ⟨n, hn, hle, ?_, by simpa using h3⟩
    have := decK_hit ks s hl h2 n hn (by rw [h1]; simpa using h3) (fun q hq hh => by rw [h1]; simpa using h4 q hq)
    rw [this, h1]
/-! ### For the walks -/
theorem rg_at {W : World} {b o : Nat} {xs : List Value} (h : Rd W (some ⟨b, o, none⟩) xs) (k n : Nat) (ys : List Value) (hys : (xs.drop k).take n = ys) (h0 : 0 < ys.length) : Rg b (o + k) ys W := by
  have hx : 0 < xs.length := by
    rcases xs with _ | ⟨x, xs⟩
    · simp at hys; rw [hys] at h0; simp at h0
    · simp
  obtain ⟨b', o', hA, hb, hc⟩ := Rd.open_ h hx
  cases hA
  refine ⟨hb, fun j v hj => ?_⟩
  rw [Nat.add_assoc]
  refine hc (k + j) v ?_
  rw [← hys] at hj
  rw [List.getElem?_take] at hj
  split at hj
  · rwa [List.getElem?_drop] at hj
  · cases hj
theorem rg_nk {W : World} {b o : Nat} {l : List NK} (h : Rd W (some ⟨b, o, none⟩) (nksL l)) (j : Nat) (hj : j < l.length) : Rg b (o + j * 5) (nkA l[j]).toList W := by
  obtain ⟨b', o', hA, hr⟩ := srow_open (f := fun k : NK => (nkA k).toList) (sz := 5) (fun _ => rfl) (by decide) h j hj
  cases hA
  have hlen : 0 < (nksL l).length := by
    rcases l with _ | ⟨x, l⟩
    · simp at hj
    · unfold nksL; rw [List.flatMap_cons, List.length_append]; show 0 < 5 + _; omega
  obtain ⟨_, _, hA, hb, _⟩ := Rd.open_ h hlen
  cases hA
  exact ⟨hb, hr W (Below.refl _ _)⟩
theorem take14 {W : World} {B : Option Addr} {d g : Nat} {bs : List (BitVec 8)} (h13 : bs.length = 13) (hd : 13 ≤ d) (hb : RdB W B bs) (hg : Rd W (some ⟨g, 0, none⟩) [.int .i64 1, .int .i64 4]) :
    Calls Try.prog 83 #[.slice B 13 d, .slice (some ⟨g, 0, none⟩) 2 2] W fun e w' => ∃ q o c1 A2 c2, e = .returned (.tuple #[.slice (some ⟨q, o, none⟩) 2 c1, .slice A2 8 c2, .int .i64 0]) ∧ Rg q o [.int .u64 (W64 (leVal (bs.take 1))), .int .u64 (W64 (leVal ((bs.drop 1).take 4)))] w' ∧ Below W.heap.size W w' := by
  have h := octets_Take B d bs (some ⟨g, 0, none⟩) 2 [1, 4] W hb (by omega) hg (by decide) (by rw [h13]; decide) (by rw [h13]; decide) (by decide)
  rw [h13] at h
  refine h.mono ?_
  rintro e w' ⟨A1, c1, A2, c2, rfl, hr1, hr2, hbl⟩
  have hl : (bs.drop ([1, 4] : List Nat).sum).length = 8 := by rw [List.length_drop, h13]; rfl
  rw [hl]
  obtain ⟨q, o, rfl, hq, hc⟩ := Rd.open_ hr1 (by rw [ucells_length, valsTo_len]; decide)
  exact ⟨q, o, c1, A2, c2, rfl, by
    have := rg_at hr1 0 2 [.int .u64 (W64 (leVal (bs.take 1))), .int .u64 (W64 (leVal ((bs.drop 1).take 4)))] rfl (Nat.succ_pos _)
    rwa [Nat.add_zero] at this, hbl⟩
theorem same_t {A B : Option Addr} {c d n m : Nat} {a b : List (BitVec 8)} {w : World} (h : a = b) (hra : RdB w A a) (hrb : RdB w B b) (hn : a.length = n) (hm : b.length = m) :
    Calls Try.prog 55 #[.slice A n c, .slice B m d] w fun e w' => e = .returned (.bool true) ∧ w = w' := by
  have := same_n A B c d n m a b w hra hrb hn hm
  rwa [decide_eq_true h] at this
theorem same_f {A B : Option Addr} {c d n m : Nat} {a b : List (BitVec 8)} {w : World} (h : a ≠ b) (hra : RdB w A a) (hrb : RdB w B b) (hn : a.length = n) (hm : b.length = m) :
    Calls Try.prog 55 #[.slice A n c, .slice B m d] w fun e w' => e = .returned (.bool false) ∧ w = w' := by
  have := same_n A B c d n m a b w hra hrb hn hm
  rwa [decide_eq_false h] at this
theorem list13 {l : List (BitVec 8)} (h : l.length = 13) : ∃ b0 b1 b2 b3 b4 b5 b6 b7 b8 b9 b10 b11 b12, l = [b0, b1, b2, b3, b4, b5, b6, b7, b8, b9, b10, b11, b12] := by
  match l, h with
  | [b0, b1, b2, b3, b4, b5, b6, b7, b8, b9, b10, b11, b12], _ => exact ⟨b0, b1, b2, b3, b4, b5, b6, b7, b8, b9, b10, b11, b12, rfl⟩
theorem low3 : ∀ x : BitVec 8, ¬ 3#8 < x → (x % 2#8 == 1#8) = (x.setWidth 64 &&& 1#64 != 0#64) ∧ (x / 2#8 == 1#8) = (x.setWidth 64 &&& 2#64 != 0#64) := by decide
end Go.Proofs.Ytmehemojopfihaa
