/- Two structs of numbers and bools are compared cell by cell. Over any program. -/
import Derived.Test.YtmehemojopfihaaRows
import Derived.Test.YtmehemojopfihaaBv
import Derived.Laws.StructEq
import Derived.KernelRfl
namespace Go.Proofs.Ytmehemojopfihaa
set_option maxRecDepth 100000
open Go.RowKit
set_option linter.unusedVariables false

def cellEq : Value → Value → Bool
  | .int _ a, .int _ b => a == b
  | .bool a, .bool b => a == b
  | _, _ => false
def eqCells : List Value → List Value → Bool
  | [], [] => true
  | x :: xs, y :: ys => cellEq x y && eqCells xs ys
  | _, _ => false
/-- The cells are numbers of these kinds (none: a bool). -/
def Kinds : List (Option IntKind) → List Value → Prop
  | [], [] => True
  | some k :: ks, v :: vs => (∃ a, v = .int k a) ∧ Kinds ks vs
  | none :: ks, v :: vs => (∃ b, v = .bool b) ∧ Kinds ks vs
  | _, _ => False
theorem Kinds.length : ∀ {ks : List (Option IntKind)} {vs : List Value}, Kinds ks vs → vs.length = ks.length
  | [], [], _ => rfl
  | some k :: ks, v :: vs, h => by simp [Kinds.length h.2]
  | none :: ks, v :: vs, h => by simp [Kinds.length h.2]
  | [], _ :: _, h => by simp [Kinds] at h
  | some _ :: _, [], h => by simp [Kinds] at h
  | none :: _, [], h => by simp [Kinds] at h
theorem kinds_append : ∀ (k1 k2 : List (Option IntKind)) (vs : List Value), Kinds (k1 ++ k2) vs → Kinds k1 (vs.take k1.length) ∧ Kinds k2 (vs.drop k1.length)
  | [], k2, vs, h => ⟨trivial, by simpa using h⟩
  | some k :: k1, k2, v :: vs, h => ⟨⟨h.1, (kinds_append k1 k2 vs h.2).1⟩, (kinds_append k1 k2 vs h.2).2⟩
  | none :: k1, k2, v :: vs, h => ⟨⟨h.1, (kinds_append k1 k2 vs h.2).1⟩, (kinds_append k1 k2 vs h.2).2⟩
  | some _ :: _, _, [], h => by simp [Kinds] at h
  | none :: _, _, [], h => by simp [Kinds] at h
theorem eqCells_split : ∀ (n : Nat) (xs ys : List Value), xs.length = ys.length → eqCells xs ys = (eqCells (xs.take n) (ys.take n) && eqCells (xs.drop n) (ys.drop n))
  | 0, xs, ys, _ => by simp [eqCells]
  | n + 1, [], [], _ => by simp [eqCells]
  | n + 1, x :: xs, y :: ys, h => by
    simp only [List.take_succ_cons, List.drop_succ_cons, eqCells]
    rw [eqCells_split n xs ys (by simpa using h), Bool.and_assoc]
  | n + 1, [], _ :: _, h => by simp at h
  | n + 1, _ :: _, [], h => by simp at h
theorem eqCells_self : ∀ (ks : List (Option IntKind)) (xs : List Value), Kinds ks xs → eqCells xs xs = true
  | [], [], _ => rfl
  | some k :: ks, v :: vs, ⟨⟨a, ha⟩, h⟩ => by subst ha; simp [eqCells, cellEq, eqCells_self ks vs h]
  | none :: ks, v :: vs, ⟨⟨a, ha⟩, h⟩ => by subst ha; simp [eqCells, cellEq, eqCells_self ks vs h]
  | [], _ :: _, h => by simp [Kinds] at h
  | some _ :: _, [], h => by simp [Kinds] at h
  | none :: _, [], h => by simp [Kinds] at h
theorem eqCells_eq : ∀ (ks : List (Option IntKind)) (xs ys : List Value), Kinds ks xs → Kinds ks ys → (eqCells xs ys = true ↔ xs = ys)
  | [], [], [], _, _ => by simp [eqCells]
  | some k :: ks, v :: vs, u :: us, ⟨⟨a, ha⟩, h⟩, ⟨⟨b, hb⟩, h'⟩ => by
    subst ha hb
    simp only [eqCells, cellEq, Bool.and_eq_true, beq_iff_eq, List.cons.injEq, Value.int.injEq, true_and, eqCells_eq ks vs us h h']
  | none :: ks, v :: vs, u :: us, ⟨⟨a, ha⟩, h⟩, ⟨⟨b, hb⟩, h'⟩ => by
    subst ha hb
    simp only [eqCells, cellEq, Bool.and_eq_true, beq_iff_eq, List.cons.injEq, Value.bool.injEq, eqCells_eq ks vs us h h']
  | [], _ :: _, _, h, _ => by simp [Kinds] at h
  | [], [], _ :: _, _, h => by simp [Kinds] at h
  | some _ :: _, [], _, h, _ => by simp [Kinds] at h
  | none :: _, [], _, h, _ => by simp [Kinds] at h
  | some _ :: _, _ :: _, [], _, h => by simp [Kinds] at h
  | none :: _, _ :: _, [], _, h => by simp [Kinds] at h

/-- Values of type t are structs of these cells, and are compared so from depth m on. -/
def EqAgg (P : Program) (t : TypeId) (ks : List (Option IntKind)) (m : Nat) : Prop :=
  (∃ fs, P.underlying t = some (.struct fs)) ∧ (P.info? t).map (·.size) = some ks.length ∧
  ∀ (w : World) (d : Nat) (xs ys : List Value), m ≤ d → Kinds ks xs → Kinds ks ys → (Op.equalIn d t (.agg xs.toArray) (.agg ys.toArray)).run P w = .ok (eqCells xs ys) w
/-- What one field is: a number, a bool, or a struct. -/
def EqField (P : Program) (t : TypeId) (ks : List (Option IntKind)) (m : Nat) : Prop :=
  (∃ k, ks = [some k] ∧ P.underlying t = some (.int k)) ∨ (ks = [none] ∧ P.underlying t = some .bool) ∨ EqAgg P t ks m
def FieldsEq (P : Program) (m : Nat) : Nat → List Field → List (List (Option IntKind)) → Prop
  | _, [], [] => True
  | off, f :: fs, ks :: kss => (EqField P f.type ks m ∧ (f.name == "_") = false ∧ f.offset = off) ∧ FieldsEq P m (off + ks.length) fs kss
  | _, _, _ => False
theorem run_part_leaf {P : Program} (w : World) {t : TypeId} {d : TypeDesc} (hu : P.underlying t = some d) (hd : (match d with | .struct _ | .array _ _ => true | _ => false) = false) (cs : List Value) (off : Nat) (v : Value) (h : cs[off]? = some v) :
    (part t cs.toArray off).run P w = .ok v w := by
  have ha : (isAgg t).run P w = .ok false w := by
    unfold isAgg
    simp only [Sem.run_bind, run_underlying hu, Result.andThen_ok]
    cases d <;> simp_all
  unfold part
  simp only [Sem.run_bind, ha, Result.andThen_ok, Bool.false_eq_true, if_false, List.getElem?_toArray, h, Sem.run_pure]
theorem run_part_agg {P : Program} (w : World) {t : TypeId} {fs : Array Field} (hu : P.underlying t = some (.struct fs)) {n : Nat} (hs : (P.info? t).map (·.size) = some n) (cs : List Value) (off : Nat) :
    (part t cs.toArray off).run P w = .ok (.agg ((cs.drop off).take n).toArray) w := by
  have ha : (isAgg t).run P w = .ok true w := by
    unfold isAgg
    simp only [Sem.run_bind, run_underlying hu, Result.andThen_ok, Sem.run_pure]
  obtain ⟨i, hi, rfl⟩ : ∃ i, P.info? t = some i ∧ i.size = n := by
    cases h : P.info? t with
    | none => rw [h] at hs; simp at hs
    | some i => rw [h] at hs; exact ⟨i, rfl, by simpa using hs⟩
  have hz : (sizeOf t).run P w = .ok i.size w := by simp [sizeOf, typeInfo, hi]
  unfold part
  simp only [Sem.run_bind, ha, Result.andThen_ok, if_true, hz, Sem.run_pure]
  rw [List.extract_toArray, List.extract_eq_take_drop, Nat.add_sub_cancel_left]
theorem eqFields_run {P : Program} {m : Nat} (w : World) (d : Nat) (hd : m ≤ d) (hd1 : 1 ≤ d) (xs ys : List Value) : ∀ (fs : List Field) (kss : List (List (Option IntKind))) (off : Nat), FieldsEq P m off fs kss →
    Kinds kss.flatten (xs.drop off) → Kinds kss.flatten (ys.drop off) → (Op.eqFields d xs.toArray ys.toArray fs).run P w = .ok (eqCells (xs.drop off) (ys.drop off)) w
  | [], [], off, _, hx, hy => by
    have h1 : xs.drop off = [] := List.length_eq_zero_iff.1 (by rw [hx.length]; rfl)
    have h2 : ys.drop off = [] := List.length_eq_zero_iff.1 (by rw [hy.length]; rfl)
    rw [h1, h2]
    rfl
  | f :: fs, ks :: kss, off, ⟨⟨hf, hn, ho⟩, hr⟩, hx, hy => by
    rw [List.flatten_cons] at hx hy
    obtain ⟨hx1, hx2⟩ := kinds_append _ _ _ hx
    obtain ⟨hy1, hy2⟩ := kinds_append _ _ _ hy
    rw [List.drop_drop] at hx2 hy2
    have ih := eqFields_run w d hd hd1 xs ys fs kss (off + ks.length) hr hx2 hy2
    have hlen : (xs.drop off).length = (ys.drop off).length := by rw [hx.length, hy.length]
    have hsp := eqCells_split ks.length (xs.drop off) (ys.drop off) hlen
    rw [List.drop_drop, List.drop_drop] at hsp
    have hne : f.name ≠ "_" := by simpa using hn
    rw [hsp]
    have fin : ∀ a b, (part f.type xs.toArray f.offset).run P w = .ok a w → (part f.type ys.toArray f.offset).run P w = .ok b w → (Op.equalIn d f.type a b).run P w = .ok (eqCells ((xs.drop off).take ks.length) ((ys.drop off).take ks.length)) w →
        (Op.eqFields d xs.toArray ys.toArray (f :: fs)).run P w = .ok (eqCells ((xs.drop off).take ks.length) ((ys.drop off).take ks.length) && eqCells (xs.drop (off + ks.length)) (ys.drop (off + ks.length))) w := fun a b h1 h2 h3 => by
      simp only [Op.eqFields, Sem.run_ite, hne, ne_eq, not_false_eq_true, if_true, Sem.run_bind, h1, h2, h3, Result.andThen_ok]
      cases eqCells ((xs.drop off).take ks.length) ((ys.drop off).take ks.length)
      · simp
      · simp [ih]
    subst ho
    have one : ∀ (zs : List Value) (v : Value), (zs.drop f.offset).take 1 = [v] → zs[f.offset]? = some v := fun zs v h => by
      have := congrArg (fun l : List Value => l[0]?) h
      simpa using this
    obtain ⟨d', rfl⟩ : ∃ d', d = d' + 1 := ⟨d - 1, by omega⟩
    rcases hf with ⟨k, rfl, hu⟩ | ⟨rfl, hu⟩ | ⟨⟨gs, hu⟩, hz, he⟩
    · obtain ⟨x, hxe⟩ : ∃ x, (xs.drop f.offset).take 1 = [x] := by
        have := hx1.length; match h : (xs.drop f.offset).take 1, this with | [x], _ => exact ⟨x, rfl⟩
      obtain ⟨y, hye⟩ : ∃ y, (ys.drop f.offset).take 1 = [y] := by
        have := hy1.length; match h : (ys.drop f.offset).take 1, this with | [y], _ => exact ⟨y, rfl⟩
      simp only [List.length_cons, List.length_nil, Nat.zero_add] at hx1 hy1 fin
      rw [hxe] at hx1 fin
      rw [hye] at hy1 fin
      obtain ⟨⟨a, rfl⟩, _⟩ := hx1
      obtain ⟨⟨b, rfl⟩, _⟩ := hy1
      simp only [List.length_cons, List.length_nil, Nat.zero_add]
      rw [hxe, hye]
      refine fin _ _ (run_part_leaf w hu rfl xs _ _ (one xs _ hxe)) (run_part_leaf w hu rfl ys _ _ (one ys _ hye)) ?_
      rw [run_equalIn_int w d' f.type k k a b hu]
      simp [eqCells, cellEq]
    · obtain ⟨x, hxe⟩ : ∃ x, (xs.drop f.offset).take 1 = [x] := by
        have := hx1.length; match h : (xs.drop f.offset).take 1, this with | [x], _ => exact ⟨x, rfl⟩
      obtain ⟨y, hye⟩ : ∃ y, (ys.drop f.offset).take 1 = [y] := by
        have := hy1.length; match h : (ys.drop f.offset).take 1, this with | [y], _ => exact ⟨y, rfl⟩
      simp only [List.length_cons, List.length_nil, Nat.zero_add] at hx1 hy1 fin
      rw [hxe] at hx1 fin
      rw [hye] at hy1 fin
      obtain ⟨⟨a, rfl⟩, _⟩ := hx1
      obtain ⟨⟨b, rfl⟩, _⟩ := hy1
      simp only [List.length_cons, List.length_nil, Nat.zero_add]
      rw [hxe, hye]
      refine fin _ _ (run_part_leaf w hu rfl xs _ _ (one xs _ hxe)) (run_part_leaf w hu rfl ys _ _ (one ys _ hye)) ?_
      rw [run_equalIn_bool' w d' f.type a b hu]
      simp [eqCells, cellEq]
    · exact fin _ _ (run_part_agg w hu hz xs _) (run_part_agg w hu hz ys _) (he w _ _ _ hd hx1 hy1)
  | [], _ :: _, _, h, _, _ => by simp [FieldsEq] at h
  | _ :: _, [], _, h, _, _ => by simp [FieldsEq] at h
theorem eq_agg {P : Program} {t : TypeId} {fs : Array Field} {m : Nat} (kss : List (List (Option IntKind))) (ht : P.underlying t = some (.struct fs)) (hs : (P.info? t).map (·.size) = some kss.flatten.length) (hp : P.stoodInHeld t = false) (hf : FieldsEq P m 0 fs.toList kss) :
    EqAgg P t kss.flatten (m + 2) := by
  refine ⟨⟨fs, ht⟩, hs, fun w d xs ys hd hx hy => ?_⟩
  obtain ⟨d', rfl⟩ : ∃ d', d = d' + 1 := ⟨d - 1, by omega⟩
  have hfs : P.fieldsOf t = fs := by simp [Program.fieldsOf, ht]
  rw [run_equalIn_struct w d' t xs.toArray ys.toArray (by rw [hfs]; exact ht) hp, hfs]
  have := eqFields_run (P := P) (m := m) w d' (by omega) (by omega) xs ys fs.toList kss 0 hf (by simpa using hx) (by simpa using hy)
  simpa using this
theorem eq_int {P : Program} {t : TypeId} {m : Nat} {k : IntKind} (h : P.underlying t = some (.int k)) : EqField P t [some k] m := .inl ⟨k, rfl, h⟩
theorem eq_bool {P : Program} {t : TypeId} {m : Nat} (h : P.underlying t = some .bool) : EqField P t [none] m := .inr (.inl ⟨rfl, h⟩)
theorem eq_sub {P : Program} {t : TypeId} {m m' : Nat} {ks : List (Option IntKind)} (h : EqAgg P t ks m') (hm : m' ≤ m) : EqField P t ks m := .inr (.inr ⟨h.1, h.2.1, fun w d xs ys hd => h.2.2 w d xs ys (by omega)⟩)
theorem run_eql_ks {P : Program} {t : TypeId} {ks : List (Option IntKind)} {m : Nat} (h : EqAgg P t ks m) (hm : m ≤ 10000) (w : World) (xs ys : List Value) (hx : Kinds ks xs) (hy : Kinds ks ys) :
    (binOp .eql t (.agg xs.toArray) (.agg ys.toArray)).run P w = .ok (.bool (eqCells xs ys)) w := by
  rw [run_eql_struct, h.2.2 w 10000 xs ys hm hx hy]
  rfl
theorem run_neq_ks {P : Program} {t : TypeId} {ks : List (Option IntKind)} {m : Nat} (h : EqAgg P t ks m) (hm : m ≤ 10000) (w : World) (xs ys : List Value) (hx : Kinds ks xs) (hy : Kinds ks ys) :
    (binOp .neq t (.agg xs.toArray) (.agg ys.toArray)).run P w = .ok (.bool (!eqCells xs ys)) w := by
  rw [run_neq_struct, h.2.2 w 10000 xs ys hm hx hy]
  rfl
end Go.Proofs.Ytmehemojopfihaa
