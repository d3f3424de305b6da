/- Structs and arrays that came in, read flat: what type each cell has. Over any program. -/
import Derived.Test.YtbkaeoaepmeceaaRows
import Derived.Test.YtbkaeoaepmeceaaBv
import Derived.WalkKit
import Derived.ProofKit
import Derived.OpenShut
import Derived.ChangeOld
import Derived.ChangeSame
import Derived.Deep.Slices
import Derived.Test.YtbkaeoaepmeceaaIn
namespace Go.Proofs.Ytbkaeoaepmeceaa
set_option maxRecDepth 100000
open Go.ChangeShapes Go.WideShapes Go.ChangeAt Go.RowKit
set_option linter.unusedVariables false

/-- The cells of a value of type t are cells of the types ls. -/
def LeafOf (P : Program) (t : TypeId) (ls : List TypeId) : Prop :=
  P.cellsOf t = ls.length ∧ ∀ {H : Type} (enc : TypeId × Value → H) (w : World) (base : Nat) (sp : Nat → Bool) (held : Bool) (fuel : Nat) (cs : List Value) (x : DataW H × List MemPlace),
    DataW.trod enc P w base sp held fuel t cs = some x → cs.length = ls.length → ∀ (j : Nat) (l : TypeId) (c : Value), ls[j]? = some l → cs[j]? = some c → ∃ n y, DataW.trod enc P w base sp held n l [c] = some y
theorem leaf_one {P : Program} {t : TypeId} (hc : P.cellsOf t = 1) : LeafOf P t [t] := by
  refine ⟨hc, fun enc w base sp held fuel cs x h hl j l c h1 h2 => ?_⟩
  match cs, hl with
  | [c0], _ =>
    match j, h1, h2 with
    | 0, h1, h2 =>
      simp at h1 h2
      subst h1 h2
      exact ⟨fuel, x, h⟩
    | j + 1, h1, _ => simp at h1
/-- The fields of a struct, one behind the other from an offset on. -/
def FieldsLeaf (P : Program) : Nat → List Field → List (List TypeId) → Prop
  | _, [], [] => True
  | off, f :: fs, ls :: lss => LeafOf P f.type ls ∧ f.offset = off ∧ FieldsLeaf P (off + ls.length) fs lss
  | _, _, _ => False
theorem leaf_fields {H : Type} {enc : TypeId × Value → H} {P : Program} {w : World} {base : Nat} {sp : Nat → Bool} {held : Bool} {n : Nat} {cs : List Value} :
    ∀ (fs : List Field) (lss : List (List TypeId)) (off : Nat), FieldsLeaf P off fs lss → off + lss.flatten.length ≤ cs.length →
      (∀ (a : Nat) (f : Field), fs[a]? = some f → ∃ y, DataW.trod enc P w base sp held n f.type ((cs.drop f.offset).take (P.cellsOf f.type)) = some y) →
      ∀ (j : Nat) (l : TypeId) (c : Value), lss.flatten[j]? = some l → cs[off + j]? = some c → ∃ m y, DataW.trod enc P w base sp held m l [c] = some y
  | [], [], _, _, _, _, j, l, c, h1, _ => by simp at h1
  | [], _ :: _, _, hf, _, _, _, _, _, _, _ => by simp [FieldsLeaf] at hf
  | _ :: _, [], _, hf, _, _, _, _, _, _, _ => by simp [FieldsLeaf] at hf
  | f :: fs, ls :: lss, off, hf, hlen, ht, j, l, c, h1, h2 => by
    obtain ⟨⟨hc, hl⟩, ho, hr⟩ := hf
    rw [List.flatten_cons] at h1
    rw [List.flatten_cons, List.length_append] at hlen
    by_cases hj : j < ls.length
    · rw [List.getElem?_append_left hj] at h1
      obtain ⟨y, hy⟩ := ht 0 f rfl
      rw [ho, hc] at hy
      have hsl : ((cs.drop off).take ls.length).length = ls.length := by rw [List.length_take, List.length_drop]; omega
      refine hl enc w base sp held n _ y hy hsl j l c h1 ?_
      rw [List.getElem?_take, if_pos hj, List.getElem?_drop]
      exact h2
    · rw [List.getElem?_append_right (by omega)] at h1
      refine leaf_fields fs lss (off + ls.length) hr (by omega) (fun a f' h => ht (a + 1) f' h) (j - ls.length) l c h1 ?_
      rw [show off + ls.length + (j - ls.length) = off + j by omega]
      exact h2
theorem leaf_struct {P : Program} {t : TypeId} {fs : Array Field} (lss : List (List TypeId)) (ht : P.underlying t = some (.struct fs)) (hc : P.cellsOf t = lss.flatten.length) (hf : FieldsLeaf P 0 fs.toList lss) : LeafOf P t lss.flatten := by
  refine ⟨hc, fun enc w base sp held fuel cs x h hl j l c h1 h2 => ?_⟩
  obtain ⟨xs, n, _, _, _, hxl, hg⟩ := DataW.trod_struct ht h
  refine leaf_fields (n := n) fs.toList lss 0 hf (by rw [hl]; omega) (fun a f h => ?_) j l c h1 (by rw [Nat.zero_add]; exact h2)
  have ha : fs[a]? = some f := by rw [← Array.getElem?_toList]; exact h
  have hlt : a < xs.length := by rw [hxl]; exact (Array.getElem?_eq_some_iff.1 ha).1
  exact ⟨xs[a], (hg a f ha).trans (List.getElem?_eq_getElem hlt)⟩
theorem leaf_array {P : Program} {t e : TypeId} {n : Nat} (ls : List TypeId) (ht : P.underlying t = some (.array n e)) (he : LeafOf P e ls) (hc : P.cellsOf t = n * ls.length) : LeafOf P t (List.replicate n ls).flatten := by
  obtain ⟨hce, hl⟩ := he
  have hfl : (List.replicate n ls).flatten.length = n * ls.length := by simp
  refine ⟨by rw [hc, hfl], fun enc w base sp held fuel cs x h hlen j l c h1 h2 => ?_⟩
  obtain ⟨xs, m, _, _, _, hxl, hg⟩ := DataW.trod_array ht h
  have hj : j < n * ls.length := by
    rcases Nat.lt_or_ge j (n * ls.length) with h | h
    · exact h
    · rw [List.getElem?_eq_none (by omega)] at h1; cases h1
  have hpos : 0 < ls.length := by
    rcases Nat.eq_zero_or_pos ls.length with h | h
    · rw [h] at hj; omega
    · exact h
  have hi : j / ls.length < n := Nat.div_lt_of_lt_mul (by rw [Nat.mul_comm]; exact hj)
  have hmod := Nat.mod_lt j hpos
  have hdm := Nat.div_add_mod j ls.length
  have hmul : (j / ls.length + 1) * ls.length ≤ n * ls.length := Nat.mul_le_mul_right _ hi
  rw [Nat.add_mul, Nat.one_mul] at hmul
  have hcm : ls.length * (j / ls.length) = j / ls.length * ls.length := Nat.mul_comm _ _
  have ht' := (hg _ hi).trans (List.getElem?_eq_getElem (by omega))
  rw [hce] at ht'
  have hl1 : ls[j % ls.length]? = some l := by
    have key : ∀ (n j : Nat), j < n * ls.length → (List.replicate n ls).flatten[j]? = ls[j % ls.length]? := by
      intro n
      induction n with
      | zero => intro j h; omega
      | succ n ih =>
        intro j h
        rw [List.replicate_succ, List.flatten_cons]
        by_cases hj : j < ls.length
        · rw [List.getElem?_append_left hj, Nat.mod_eq_of_lt hj]
        · rw [List.getElem?_append_right (by omega), ih (j - ls.length) (by rw [Nat.add_mul] at h; omega)]
          congr 1
          rw [← Nat.mod_eq_sub_mod (by omega)]
    rw [← key n j hj]
    exact h1
  refine hl enc w base sp held m _ _ ht' (by rw [List.length_take, List.length_drop]; omega) _ l c hl1 ?_
  rw [List.getElem?_take, if_pos hmod, List.getElem?_drop, show j / ls.length * ls.length + j % ls.length = j by omega]
  exact h2
section
variable {H : Type} {enc : TypeId × Value → H} {P : Program} {w : World} {base n : Nat} {sp : Nat → Bool} {held : Bool} {l : TypeId} {c : Value} {y : DataW H × List MemPlace}
theorem leaf_int {k : IntKind} (ht : P.underlying l = some (.int k)) (h : DataW.trod enc P w base sp held n l [c] = some y) : ∃ a, c = .int k a ∧ (Lit.int k a).wf = true := by
  cases n with
  | zero => simp [DataW.trod] at h
  | succ n =>
    unfold DataW.trod at h
    rw [ht] at h
    cases c <;> simp at h
    rename_i k' a
    obtain ⟨⟨rfl, hw⟩, _⟩ := h
    exact ⟨a, rfl, hw⟩
theorem leaf_bool (ht : P.underlying l = some .bool) (h : DataW.trod enc P w base sp held n l [c] = some y) : ∃ b, c = .bool b := by
  cases n with
  | zero => simp [DataW.trod] at h
  | succ n =>
    unfold DataW.trod at h
    rw [ht] at h
    cases c <;> simp at h
    exact ⟨_, rfl⟩
theorem leaf_slice {e : TypeId} (ht : P.underlying l = some (.slice e)) (h : DataW.trod enc P w base sp held n l [c] = some y) : ∃ a len cap, c = .slice a len cap := by
  cases n with
  | zero => simp [DataW.trod] at h
  | succ n =>
    unfold DataW.trod at h
    rw [ht] at h
    cases c <;> simp at h
    exact ⟨_, _, _, rfl⟩
theorem leaf_trod (h : DataW.trod enc P w base sp held n l [c] = some y) (hc : c.cells.toList = [c]) : DataW.Trod enc P w base sp held l c y.1 y.2 := ⟨n, by rw [hc]; exact h⟩
theorem leaf_u64 (ht : P.underlying l = some (.int .u64)) (h : DataW.trod enc P w base sp held n l [c] = some y) : ∃ x : BitVec 64, c = .int .u64 (W64 x) := by
  obtain ⟨a, rfl, hw⟩ := leaf_int ht h
  obtain ⟨x, rfl⟩ := W64_of_wf hw
  exact ⟨x, rfl⟩
theorem leaf_u32 (ht : P.underlying l = some (.int .u32)) (h : DataW.trod enc P w base sp held n l [c] = some y) : ∃ x : BitVec 32, c = .int .u32 (W32 x) := by
  obtain ⟨a, rfl, hw⟩ := leaf_int ht h
  obtain ⟨x, rfl⟩ := W32_of_wf hw
  exact ⟨x, rfl⟩
theorem leaf_u16 (ht : P.underlying l = some (.int .u16)) (h : DataW.trod enc P w base sp held n l [c] = some y) : ∃ x : BitVec 16, c = .int .u16 (W16 x) := by
  obtain ⟨a, rfl, hw⟩ := leaf_int ht h
  obtain ⟨x, rfl⟩ := W16_of_wf hw
  exact ⟨x, rfl⟩
/-- A struct or array argument: its cells. -/
theorem agg_in {t : TypeId} {ls : List TypeId} {v : Value} {d : DataW H} {p : List MemPlace} (hv : ∃ cs, v = .agg cs ∧ cs.size = P.cellsOf t) (hl : LeafOf P t ls) (h : DataW.Trod enc P w base sp held t v d p) :
    ∃ cs : List Value, v = .agg cs.toArray ∧ cs.length = ls.length ∧ ∀ (j : Nat) (l : TypeId) (c : Value), ls[j]? = some l → cs[j]? = some c → ∃ n y, DataW.trod enc P w base sp held n l [c] = some y := by
  obtain ⟨cs, rfl, hs⟩ := hv
  obtain ⟨fuel, hf⟩ := h
  have hlen : cs.toList.length = ls.length := by rw [Array.length_toList, hs, hl.1]
  exact ⟨cs.toList, rfl, hlen, fun j l c h1 h2 => hl.2 enc w base sp held fuel _ _ hf hlen j l c h1 h2⟩
end
theorem okWide_array {P : Program} {w : World} {r : Reach} {base : Nat} {t e : TypeId} {n : Nat} {v : Value} (ht : P.underlying t = some (.array n e)) (h : Value.okWide P w r base t v) : ∃ cs, v = .agg cs ∧ cs.size = P.cellsOf t := by
  simp only [Value.okWide, ht] at h
  obtain ⟨cs, h1, h2, _⟩ := h
  exact ⟨cs, h1, h2⟩
end Go.Proofs.Ytbkaeoaepmeceaa
