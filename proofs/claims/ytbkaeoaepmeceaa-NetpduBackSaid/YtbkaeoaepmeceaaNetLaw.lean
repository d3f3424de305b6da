/- The laws of layer 48 (netpdu), on plain values: decoding undoes encoding, and the other way. No program here. -/
import Derived.Test.YtbkaeoaepmeceaaNetFn
import Derived.Test.YtbkaeoaepmeceaaMacLaws
namespace Go.Proofs.Ytbkaeoaepmeceaa
set_option linter.unusedVariables false
set_option linter.unusedSimpArgs false
theorem list6' {l : List (BitVec 8)} (h : l.length = 6) : ∃ b0 b1 b2 b3 b4 b5, l = [b0, b1, b2, b3, b4, b5] := by
  match l, h with
  | [b0, b1, b2, b3, b4, b5], _ => exact ⟨b0, b1, b2, b3, b4, b5, rfl⟩
theorem check_ok' {p : NP} (h : checkN p = 0) : 0 ≤ p.nid ∧ p.nid ≤ 127 ∧ 0 ≤ p.ttl ∧ p.ttl ≤ 127 ∧ p.seq ≤ 16777215#32 ∧ 0 < p.pay.length ∧ p.pay.length ≤ 16 := by
  unfold checkN at h
  by_cases h1 : rangeN p
  · rw [if_pos h1] at h; omega
  rw [if_neg h1] at h
  by_cases h2 : shapeN p
  · rw [if_pos h2] at h; omega
  rw [if_neg h2] at h
  by_cases h3 : 16 < p.pay.length
  · rw [if_pos h3] at h; omega
  unfold rangeN at h1
  unfold shapeN at h2
  simp only [not_or, BitVec.not_lt] at h1 h2
  exact ⟨by omega, by omega, by omega, by omega, h1.2.2.2.2, by omega, by omega⟩
theorem partL_length (k : NK) (p : NP) : (partL k p).length = p.pay.length + 6 := by
  unfold partL plainL
  rw [sealB_length, List.length_append, hdr_length]
  omega
theorem openL_length (p : NP) : (openL p).length = 6 := rfl
theorem xor6_length (k : NK) (iv : BitVec 32) (s o : List (BitVec 8)) (h : o.length = 6) : (xorB o (maskL k iv s)).length = 6 := by rw [xorB_length, h, maskL_length]; rfl
theorem encB_length (k : NK) (p : NP) : (encB k p).length = 13 + p.pay.length := by
  unfold encB
  simp only [List.length_append, List.length_cons, List.length_nil, partL_length, xor6_length k _ _ _ (openL_length p)]
  omega
theorem encB_drop (k : NK) (p : NP) : (encB k p).drop 7 = partL k p ∧ ((encB k p).drop 1).take 6 = xorB (openL p) (maskL k p.iv (partL k p)) ∧ (encB k p).headD 0#8 = headN p.iv p.nid := by
  have hl := xor6_length k p.iv (partL k p) _ (openL_length p)
  unfold encB
  generalize xorB (openL p) (maskL k p.iv (partL k p)) = x at *
  obtain ⟨b0, b1, b2, b3, b4, b5, rfl⟩ := list6' hl
  exact ⟨rfl, rfl, rfl⟩
theorem decOpen_enc (k : NK) (p : NP) : decOpen k p.iv (encB k p) = openL p := by
  unfold decOpen
  rw [(encB_drop k p).1, (encB_drop k p).2.1]
  exact xorB_back _ _ (by rw [maskL_length]; rfl)
theorem seq_ok (s : BitVec 32) (h : s ≤ 16777215#32) : (s.setWidth 8).setWidth 32 ||| (((s >>> 8).setWidth 8).setWidth 32 <<< 8) ||| (((s >>> 16).setWidth 8).setWidth 32 <<< 16) = s := by
  apply BitVec.eq_of_getLsbD_eq
  intro k hk
  simp only [BitVec.getLsbD_or, BitVec.getLsbD_setWidth, BitVec.getLsbD_shiftLeft, BitVec.getLsbD_ushiftRight]
  by_cases h1 : k < 8
  · simp [h1, hk, show k < 16 by omega]
  by_cases h2 : k < 16
  · simp [h1, h2, hk, show k - 8 < 8 by omega, show k - 8 < 32 by omega, show 8 + (k - 8) = k by omega]
  by_cases h3 : k < 24
  · simp [h1, h2, hk, show ¬ k - 8 < 8 by omega, show k - 16 < 8 by omega, show k - 16 < 32 by omega, show 16 + (k - 16) = k by omega]
  · have : s.getLsbD k = false := by
      have h4 : s.toNat ≤ 16777215 := h
      have h5 : 2 ^ 24 ≤ 2 ^ k := Nat.pow_le_pow_right (by decide) (by omega)
      show s.toNat.testBit k = false
      exact Nat.testBit_lt_two_pow (by omega)
    simp [h1, h2, hk, show ¬ k - 8 < 8 by omega, show ¬ k - 16 < 8 by omega]
    rw [← BitVec.getLsbD_eq_getElem hk]
    exact this
theorem two_ok (s : BitVec 16) : (s.setWidth 8).setWidth 16 ||| (((s >>> 8).setWidth 8).setWidth 16 <<< 8) = s := by
  apply BitVec.eq_of_getLsbD_eq
  intro k hk
  simp only [BitVec.getLsbD_or, BitVec.getLsbD_setWidth, BitVec.getLsbD_shiftLeft, BitVec.getLsbD_ushiftRight]
  by_cases h1 : k < 8
  · simp [h1, hk]
  · simp [h1, hk, show k - 8 < 8 by omega, show k - 8 < 16 by omega, show 8 + (k - 8) = k by omega]
theorem preN_open (p : NP) (h : checkN p = 0) : preN p.nid p.iv (openL p) = { p with dst := 0#16, pay := [] } := by
  obtain ⟨n0, n1, t0, t1, s1, _, _⟩ := check_ok' h
  obtain ⟨c1, c2⟩ := ctl_ok p.ctl p.ttl t0 t1
  unfold preN openL
  dsimp only
  rw [c1, c2, seq_ok _ s1, two_ok]
theorem dst_ok (d : BitVec 16) (l : List (BitVec 8)) : dstN (hdr d ++ l) = d ∧ (hdr d ++ l).drop 2 = l := by
  rw [hdr_eq]
  exact ⟨two_ok d, rfl⟩
/-- What is encoded is decoded. -/
theorem dec_enc (k : NK) (p : NP) (h : checkN p = 0) (hk : p.nid = k.nid) : decN k p.iv (encB k p) = (p, 0) := by
  obtain ⟨n0, n1, t0, t1, s1, p0, p1⟩ := check_ok' h
  have hl := encB_length k p
  obtain ⟨h1, h2⟩ := head_ok p.iv p.nid n0 n1
  unfold decN
  rw [if_neg (by omega), if_neg (by omega), (encB_drop k p).2.2, if_neg (by unfold badHint; rw [h1, h2, hk]; simp), decOpen_enc, ← hk, preN_open p h, (encB_drop k p).1]
  have ho : openB k.enc (nonceK 0 p.src p.seq p.iv) ((openL p).take 1) (partL k p) = (plainL p, 0) := open_seal _ _ _ _
  dsimp only
  rw [ho]
  unfold endN plainL
  dsimp only
  rw [if_neg (by decide), (dst_ok p.dst p.pay).1, (dst_ok p.dst p.pay).2, if_neg (by rw [show ({ p with dst := p.dst, pay := p.pay } : NP) = p from rfl, h]; decide)]
theorem xorB_cancel (a m : List (BitVec 8)) (h : m.length = a.length) : xorB (xorB a m) m = a := xorB_back a m h
theorem two_back (a b : BitVec 8) : hdr (a.setWidth 16 ||| (b.setWidth 16 <<< 8)) = [a, b] := by
  rw [hdr_eq]
  have e1 : BitVec.setWidth 8 (a.setWidth 16 ||| (b.setWidth 16 <<< 8)) = a := by
    apply BitVec.eq_of_getLsbD_eq
    intro k hk
    simp [hk, show k < 16 by omega]
  have e2 : BitVec.setWidth 8 ((a.setWidth 16 ||| (b.setWidth 16 <<< 8)) >>> 8) = b := by
    apply BitVec.eq_of_getLsbD_eq
    intro k hk
    simp [hk, show 8 + k < 16 by omega, show k < 16 by omega, BitVec.getLsbD_of_ge a (8 + k) (by omega)]
  rw [e1, e2]
theorem open_back (nid : Int) (iv : BitVec 32) (o0 o1 o2 o3 o4 o5 : BitVec 8) (d : BitVec 16) (l : List (BitVec 8)) : openL { preN nid iv [o0, o1, o2, o3, o4, o5] with dst := d, pay := l } = [o0, o1, o2, o3, o4, o5] := by
  unfold openL preN
  dsimp only
  rw [ctl_of]
  have e1 : BitVec.setWidth 8 (o1.setWidth 32 ||| (o2.setWidth 32 <<< 8) ||| (o3.setWidth 32 <<< 16)) = o1 := by
    apply BitVec.eq_of_getLsbD_eq
    intro k hk
    simp [hk, show k < 32 by omega, show k < 16 by omega]
  have e2 : BitVec.setWidth 8 ((o1.setWidth 32 ||| (o2.setWidth 32 <<< 8) ||| (o3.setWidth 32 <<< 16)) >>> 8) = o2 := by
    apply BitVec.eq_of_getLsbD_eq
    intro k hk
    simp [hk, show 8 + k < 32 by omega, show k < 32 by omega, show 8 + k < 16 by omega, BitVec.getLsbD_of_ge o1 (8 + k) (by omega)]
  have e3 : BitVec.setWidth 8 ((o1.setWidth 32 ||| (o2.setWidth 32 <<< 8) ||| (o3.setWidth 32 <<< 16)) >>> 16) = o3 := by
    apply BitVec.eq_of_getLsbD_eq
    intro k hk
    simp [hk, show 16 + k < 32 by omega, show k < 32 by omega, show 16 + k - 8 < 32 by omega, BitVec.getLsbD_of_ge o1 (16 + k) (by omega), BitVec.getLsbD_of_ge o2 (16 + k - 8) (by omega)]
  have h2 := two_back o4 o5
  rw [hdr_eq] at h2
  injection h2 with h3 h4
  injection h4 with h4 _
  rw [e1, e2, e3, h3, h4]
/-- What is decoded is encoded so. -/
theorem enc_dec (k : NK) (iv : BitVec 32) (b : List (BitVec 8)) (w : NP) (h : decN k iv b = (w, 0)) : encN k w = (b, 0) ∧ w.iv = iv ∧ checkN w = 0 ∧ w.nid = k.nid := by
  unfold decN at h
  by_cases h1 : b.length < 14
  · rw [if_pos h1] at h; injection h with _ h; exact absurd h (by decide)
  rw [if_neg h1] at h
  by_cases h2 : 29 < b.length
  · rw [if_pos h2] at h; injection h with _ h; exact absurd h (by decide)
  rw [if_neg h2] at h
  by_cases h3 : badHint k iv (b.headD 0#8)
  · rw [if_pos h3] at h; injection h with _ h; exact absurd h (by decide)
  rw [if_neg h3] at h
  unfold badHint at h3
  simp only [not_or, Decidable.not_not, ne_eq] at h3
  match b, h1, h2 with
  | b0 :: x0 :: x1 :: x2 :: x3 :: x4 :: x5 :: sd, h1, h2 =>
    simp only [List.headD_cons] at h3
    obtain ⟨o0, o1, o2, o3, o4, o5, ho⟩ := list6' (xor6_length k iv sd [x0, x1, x2, x3, x4, x5] rfl)
    have hop : decOpen k iv (b0 :: x0 :: x1 :: x2 :: x3 :: x4 :: x5 :: sd) = [o0, o1, o2, o3, o4, o5] := ho
    rw [hop] at h
    have hdr7 : (b0 :: x0 :: x1 :: x2 :: x3 :: x4 :: x5 :: sd).drop 7 = sd := rfl
    rw [hdr7] at h
    obtain ⟨q, hq⟩ : ∃ q, preN k.nid iv [o0, o1, o2, o3, o4, o5] = q := ⟨_, rfl⟩
    rw [hq] at h
    have ht1 : List.take 1 [o0, o1, o2, o3, o4, o5] = [o0] := rfl
    rw [ht1] at h
    obtain ⟨r, hr⟩ : ∃ r, openB k.enc (nonceK 0 q.src q.seq iv) [o0] sd = r := ⟨_, rfl⟩
    rw [hr] at h
    unfold endN at h
    by_cases h4 : r.2 ≠ 0
    · rw [if_pos h4] at h; injection h with _ h; exact absurd h h4
    rw [if_neg h4] at h
    by_cases h5 : checkN { q with dst := dstN r.1, pay := r.1.drop 2 } ≠ 0
    · rw [if_pos h5] at h; injection h with _ h; exact absurd h h5
    rw [if_neg h5] at h
    injection h with hw _
    have h5' : checkN w = 0 := by rw [← hw]; exact Decidable.not_not.1 h5
    have hs : sealB k.enc (nonceK 0 q.src q.seq iv) [o0] r.1 = sd := by
      have := seal_open k.enc (nonceK 0 q.src q.seq iv) [o0] sd (by rw [hr]; exact Decidable.not_not.1 h4)
      rwa [hr] at this
    have hpl : plainL w = r.1 := by
      obtain ⟨_, _, _, _, _, p0, _⟩ := check_ok' h5'
      rw [← hw] at p0 ⊢
      unfold plainL
      dsimp only at p0 ⊢
      rcases hr1 : r.1 with _ | ⟨a, _ | ⟨c, ps⟩⟩
      · rw [hr1] at p0; simp at p0
      · rw [hr1] at p0; simp at p0
      · show hdr (a.setWidth 16 ||| (c.setWidth 16 <<< 8)) ++ ps = _
        rw [two_back]; rfl
    have hwo : openL w = [o0, o1, o2, o3, o4, o5] := by rw [← hw, ← hq]; exact open_back k.nid iv o0 o1 o2 o3 o4 o5 _ _
    have hwn : w.nid = k.nid := by rw [← hw, ← hq]; rfl
    have hwi : w.iv = iv := by rw [← hw, ← hq]; rfl
    have hws : w.src = q.src ∧ w.seq = q.seq := by rw [← hw]; exact ⟨rfl, rfl⟩
    have hc0 : [ctlB w.ctl w.ttl] = [o0] := by
      unfold openL at hwo
      injection hwo with h _
      rw [h]
    have hpart : partL k w = sd := by unfold partL; rw [hc0, hpl, hws.1, hws.2, hwi]; exact hs
    refine ⟨?_, hwi, h5', hwn⟩
    unfold encN
    rw [if_neg (by rw [h5']; decide), if_neg (by rw [hwn]; simp)]
    unfold encB
    rw [hpart, hwo, hwi, hwn, ← ho, xorB_cancel _ _ (by rw [maskL_length]; rfl), ← h3.1, head_of iv b0 h3.2]
    rfl
theorem dec_err (k : NK) (iv : BitVec 32) (b : List (BitVec 8)) (h : (decN k iv b).2 ≠ 0) : (decN k iv b).1 = np0 := by
  unfold decN at h ⊢
  by_cases h1 : b.length < 14
  · rw [if_pos h1]
  rw [if_neg h1] at h ⊢
  by_cases h2 : 29 < b.length
  · rw [if_pos h2]
  rw [if_neg h2] at h ⊢
  by_cases h3 : badHint k iv (b.headD 0#8)
  · rw [if_pos h3]
  rw [if_neg h3] at h ⊢
  unfold endN at h ⊢
  split
  · rfl
  · split
    · rfl
    · rename_i h4 h5
      rw [if_neg h4, if_neg h5] at h
      exact absurd rfl h
/-- Another key or index. -/
theorem dec_other (k l : NK) (p : NP) (iv : BitVec 32) (h : checkN p = 0) (hk : p.nid = k.nid) (hn : l.nid ≠ k.nid ∨ iv &&& 1#32 ≠ p.iv &&& 1#32) : (decN l iv (encB k p)).2 = 17 := by
  obtain ⟨n0, n1, t0, t1, s1, p0, p1⟩ := check_ok' h
  have hl := encB_length k p
  obtain ⟨h1, h2⟩ := head_ok p.iv p.nid n0 n1
  unfold decN
  rw [if_neg (by omega), if_neg (by omega), (encB_drop k p).2.2, if_pos]
  unfold badHint
  rw [h1, h2]
  rcases hn with hn | hn
  · exact .inl (fun e => hn (by rw [← e, hk]))
  · exact .inr (fun e => hn (W32_inj e).symm)
theorem dec_head (k : NK) (p : NP) (h : checkN p = 0) (hk : p.nid = k.nid) (x : BitVec 8) (hx : x ≠ 0#8) : (decN k p.iv ((encB k p).set 0 (headN p.iv p.nid ^^^ x))).2 = 17 := by
  obtain ⟨n0, n1, t0, t1, s1, p0, p1⟩ := check_ok' h
  have hl := encB_length k p
  obtain ⟨h1, h2⟩ := head_ok p.iv p.nid n0 n1
  unfold decN
  have hh : ((encB k p).set 0 (headN p.iv p.nid ^^^ x)).headD 0#8 = headN p.iv p.nid ^^^ x := by unfold encB; rfl
  rw [List.length_set, if_neg (by omega), if_neg (by omega), hh, if_pos]
  unfold badHint
  rw [← hk]
  have key : ∀ a x : BitVec 8, (W8 ((a ^^^ x) &&& 127#8) ≠ W8 (a &&& 127#8) ∨ W8 ((a ^^^ x) >>> 7) ≠ W8 (a >>> 7)) ∨ x = 0#8 := by
    intro a x
    by_cases e1 : (a ^^^ x) &&& 127#8 = a &&& 127#8
    · by_cases e2 : (a ^^^ x) >>> 7 = a >>> 7
      · right
        have f1 : x &&& 127#8 = 0#8 := by
          have := congrArg (fun z => (a &&& 127#8) ^^^ z) e1
          simp only [BitVec.xor_self] at this
          rw [← this]
          apply BitVec.eq_of_getLsbD_eq
          intro i hi
          simp only [BitVec.getLsbD_xor, BitVec.getLsbD_and]
          cases a.getLsbD i <;> cases x.getLsbD i <;> cases (127#8).getLsbD i <;> rfl
        have f2 : x >>> 7 = 0#8 := by
          have := congrArg (fun z => (a >>> 7) ^^^ z) e2
          simp only [BitVec.xor_self] at this
          rw [← this]
          apply BitVec.eq_of_getLsbD_eq
          intro i hi
          simp only [BitVec.getLsbD_xor, BitVec.getLsbD_ushiftRight]
          cases a.getLsbD (7 + i) <;> cases x.getLsbD (7 + i) <;> rfl
        exact (by decide : ∀ x : BitVec 8, x &&& 127#8 = 0#8 → x >>> 7 = 0#8 → x = 0#8) x f1 f2
      · exact .inl (.inr (fun h => e2 (W8_inj h)))
    · exact .inl (.inl (fun h => e1 (W8_inj h)))
  have kk := (key (headN p.iv p.nid) x).resolve_right hx
  rw [h1, h2] at kk
  exact kk
end Go.Proofs.Ytbkaeoaepmeceaa
