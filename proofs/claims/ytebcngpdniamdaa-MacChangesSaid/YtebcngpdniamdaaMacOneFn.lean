/- Two strings that differ in one group have different tags. No program here. -/
import Derived.Test.YtebcngpdniamdaaMacFn
namespace Go.Proofs.Ytebcngpdniamdaa

def nval : List (BitVec 8) → Nat
  | [] => 0
  | c :: cs => nval cs * 256 + c.toNat
theorem nval_lt (l : List (BitVec 8)) : nval l < 256 ^ l.length := by
  induction l with
  | nil => simp [nval]
  | cons c cs ih =>
    simp only [nval, List.length_cons, Nat.pow_succ]
    have := c.isLt
    omega
theorem leVal_nval (l : List (BitVec 8)) : leVal l = BitVec.ofNat 64 (nval l) := by
  induction l with
  | nil => rfl
  | cons c cs ih =>
    rw [leVal_cons_mul, ih]
    apply BitVec.eq_of_toNat_eq
    have := c.isLt
    simp only [nval, BitVec.toNat_add, BitVec.toNat_mul, BitVec.toNat_ofNat, BitVec.toNat_setWidth]
    omega
theorem nval_inj : ∀ (l l' : List (BitVec 8)), l.length = l'.length → nval l = nval l' → l = l'
  | [], [], _, _ => rfl
  | [], _ :: _, h, _ => by simp at h
  | _ :: _, [], h, _ => by simp at h
  | a :: l, b :: l', h, hv => by
    simp only [nval] at hv
    have ha := a.isLt
    have hb := b.isLt
    have h1 : nval l = nval l' := by omega
    have h2 : a = b := BitVec.eq_of_toNat_eq (by omega)
    rw [h2, nval_inj l l' (by simpa using h) h1]
theorem leVal_inj (l l' : List (BitVec 8)) (h : l.length = l'.length) (h8 : l.length ≤ 8) (hv : leVal l = leVal l') : l = l' := by
  rw [leVal_nval, leVal_nval] at hv
  have h1 := nval_lt l
  have h2 := nval_lt l'
  have h3 : 256 ^ l.length ≤ 256 ^ 8 := Nat.pow_le_pow_right (by omega) h8
  have hv' := congrArg BitVec.toNat hv
  simp only [BitVec.toNat_ofNat] at hv'
  rw [← h] at h2
  rw [Nat.mod_eq_of_lt (by omega), Nat.mod_eq_of_lt (by omega)] at hv'
  exact nval_inj l l' h hv'
theorem mix_inj' (k x y : BitVec 64) (h : mix k x = mix k y) : x = y := by
  have := congrArg (unmix k) h
  rwa [unmix_mix, unmix_mix] at this
theorem tagFold_inj (k : BitVec 64) : ∀ (gs : List (BitVec 64)) (x y : BitVec 64), tagFold k x gs = tagFold k y gs → x = y
  | [], _, _, h => h
  | g :: gs, x, y, h => by
    have h1 := mix_inj' k _ _ (tagFold_inj k gs (mix k (x ^^^ g)) (mix k (y ^^^ g)) h)
    have := congrArg (· ^^^ g) h1
    simpa only [BitVec.xor_assoc, BitVec.xor_self, BitVec.xor_zero] using this
theorem groupsTo_split (bs : List (BitVec 8)) (g m : Nat) : groupsTo bs (g + (m + 1)) = groupsTo bs g ++ groupAt bs g :: (List.range m).map (fun i => groupAt bs (g + (i + 1))) := by
  unfold groupsTo
  rw [List.range_add, List.map_append, List.range_succ_eq_map]
  simp [Function.comp_def]
/-- They differ in group g alone. -/
theorem tag_one (k : BitVec 64) (bs cs : List (BitVec 8)) (g : Nat) (hl : cs.length = bs.length) (hg : 8 * g < bs.length) (hsame : ∀ i, i < 8 * g ∨ 8 * g + 8 ≤ i → bs[i]? = cs[i]?) (ht : tag k bs = tag k cs) : bs = cs := by
  have hch : ∀ g', g' ≠ g → chunk bs g' = chunk cs g' := fun g' hne => by
    apply List.ext_getElem?
    intro j
    unfold chunk
    rw [List.getElem?_take, List.getElem?_take]
    split
    · rw [List.getElem?_drop, List.getElem?_drop]
      exact hsame _ (by omega)
    · rfl
  obtain ⟨m, hm⟩ : ∃ m, nGroups bs.length = g + (m + 1) := ⟨nGroups bs.length - g - 1, by unfold nGroups; omega⟩
  have hpre : groupsTo bs g = groupsTo cs g := by
    unfold groupsTo
    apply List.map_congr_left
    intro i hi
    rw [List.mem_range] at hi
    rw [groupAt_chunk, groupAt_chunk, hch i (by omega)]
  have hpost : (List.range m).map (fun i => groupAt bs (g + (i + 1))) = (List.range m).map (fun i => groupAt cs (g + (i + 1))) := by
    apply List.map_congr_left
    intro i hi
    rw [groupAt_chunk, groupAt_chunk, hch _ (by omega)]
  unfold tag at ht
  rw [hl, hm, groupsTo_split, groupsTo_split, hpre, hpost] at ht
  have hf : ∀ x a post, tagFold k x (groupsTo cs g ++ a :: post) = tagFold k (mix k (tagFold k x (groupsTo cs g) ^^^ a)) post := fun x a post => by simp [tagFold]
  rw [hf, hf] at ht
  have h1 := mix_inj' k _ _ (tagFold_inj k _ _ _ ht)
  have h2 : groupAt bs g = groupAt cs g := by
    have := congrArg (tagFold k (tagStart k bs.length) (groupsTo cs g) ^^^ ·) h1
    simpa only [← BitVec.xor_assoc, BitVec.xor_self, BitVec.zero_xor] using this
  have h3 := leVal_inj (chunk bs g) (chunk cs g) (by rw [chunk_length, chunk_length, hl]) (by rw [chunk_length]; omega) h2
  apply List.ext_getElem?
  intro i
  by_cases hi : i < 8 * g ∨ 8 * g + 8 ≤ i
  · exact hsame i hi
  · have h4 := congrArg (fun l => l[i - 8 * g]?) h3
    unfold chunk at h4
    rw [List.getElem?_take, List.getElem?_take, if_pos (by omega), if_pos (by omega), List.getElem?_drop, List.getElem?_drop, show 8 * g + (i - 8 * g) = i by omega] at h4
    exact h4
/-- The bytes from j0 on combined with the bytes of x, i of them. -/
def patch (bs : List (BitVec 8)) (j0 : Nat) (x : BitVec 64) : Nat → List (BitVec 8)
  | 0 => bs
  | i + 1 => (patch bs j0 x i).set (j0 + i) (bs.getD (j0 + i) 0#8 ^^^ (x >>> (8 * i)).setWidth 8)
theorem patch_length (bs : List (BitVec 8)) (j0 : Nat) (x : BitVec 64) (i : Nat) : (patch bs j0 x i).length = bs.length := by
  induction i with
  | zero => rfl
  | succ i ih => rw [patch, List.length_set, ih]
theorem patch_get (bs : List (BitVec 8)) (j0 : Nat) (x : BitVec 64) (i j : Nat) (h : j < j0 ∨ j0 + i ≤ j) : (patch bs j0 x i)[j]? = bs[j]? := by
  induction i with
  | zero => rfl
  | succ i ih => rw [patch, List.getElem?_set_ne (by omega), ih (by omega)]
theorem patch_succ (bs : List (BitVec 8)) (j0 : Nat) (x : BitVec 64) (i : Nat) (h : j0 + i < bs.length) : patch bs j0 x (i + 1) = (patch bs j0 x i).set (j0 + i) (bs[j0 + i] ^^^ (x >>> (8 * i)).setWidth 8) := by
  rw [patch, List.getD_eq_getElem?_getD, List.getElem?_eq_getElem h]
  rfl
theorem patch_tag (k : BitVec 64) (bs : List (BitVec 8)) (g : Nat) (x : BitVec 64) (i : Nat) (hi : i ≤ 8) (hg : 8 * g < bs.length) (ht : tag k bs = tag k (patch bs (8 * g) x i)) : bs = patch bs (8 * g) x i :=
  tag_one k bs _ g (patch_length _ _ _ _) hg (fun j hj => (patch_get bs (8 * g) x i j (by omega)).symm) ht
end Go.Proofs.Ytebcngpdniamdaa
