/- Part of the proofs of the laws of pairing. -/
import Derived.ChangeArms
import Derived.ChangeOld
import Derived.ChangeSame
import Derived.ChangeSlices
import Derived.Deep.Slices
import Derived.LaidMore
import Derived.Laws.StructEq
import Derived.SevenTiedAt
import Derived.Stop.Joined
import Derived.Test.YtihmbcnccdiecaaGreatDoorCards
import Derived.Test.YtihmbcnccdiecaaGreatDoorTie
import Derived.Test.YtihmbcnccdiecaaGreatDoorA1
namespace Go.Proofs.YtihmbcnccdiecaaGreatDoor
set_option maxRecDepth 100000
set_option linter.unusedVariables false
set_option linter.unusedSimpArgs false
section
open Go.RowKit
def rJ : Value → Value → Bool
  | .int _ a, .int _ b => a == b
  | .bool a, .bool b => a == b
  | _, _ => false
def fA : List Value → List Value → Bool
  | [], [] => true
  | x :: xs, y :: ys => rJ x y && fA xs ys
  | _, _ => false
def iK : List (Option IntKind) → List Value → Prop
  | [], [] => True
  | some k :: ks, v :: vs => (∃ a, v = .int k a) ∧ iK ks vs
  | none :: ks, v :: vs => (∃ b, v = .bool b) ∧ iK ks vs
  | _, _ => False
theorem iK.length : ∀ {ks : List (Option IntKind)} {vs : List Value}, iK ks vs → vs.length = ks.length
  | [], [], _ => rfl
  | some k :: ks, v :: vs, h => by simp [iK.length h.2]
  | none :: ks, v :: vs, h => by simp [iK.length h.2]
  | [], _ :: _, h => by simp [iK] at h
  | some _ :: _, [], h => by simp [iK] at h
  | none :: _, [], h => by simp [iK] at h
theorem hO : ∀ (k1 k2 : List (Option IntKind)) (vs : List Value), iK (k1 ++ k2) vs → iK k1 (vs.take k1.length) ∧ iK k2 (vs.drop k1.length)
  | [], k2, vs, h => ⟨trivial, by simpa using h⟩
  | some k :: k1, k2, v :: vs, h => ⟨⟨h.1, (hO k1 k2 vs h.2).1⟩, (hO k1 k2 vs h.2).2⟩
  | none :: k1, k2, v :: vs, h => ⟨⟨h.1, (hO k1 k2 vs h.2).1⟩, (hO k1 k2 vs h.2).2⟩
  | some _ :: _, _, [], h => by simp [iK] at h
  | none :: _, _, [], h => by simp [iK] at h
theorem oW : ∀ (n : Nat) (xs ys : List Value), xs.length = ys.length → fA xs ys = (fA (xs.take n) (ys.take n) && fA (xs.drop n) (ys.drop n))
  | 0, xs, ys, _ => by simp [fA]
  | n + 1, [], [], _ => by simp [fA]
  | n + 1, x :: xs, y :: ys, h => by
    simp only [List.take_succ_cons, List.drop_succ_cons, fA]
    rw [oW n xs ys (by simpa using h), Bool.and_assoc]
  | n + 1, [], _ :: _, h => by simp at h
  | n + 1, _ :: _, [], h => by simp at h
def mY (P : Program) (t : TypeId) (ks : List (Option IntKind)) (m : Nat) : Prop :=
  (∃ fs, P.underlying t = some (.struct fs)) ∧ (P.info? t).map (·.size) = some ks.length ∧
  ∀ (w : World) (d : Nat) (xs ys : List Value), m ≤ d → iK ks xs → iK ks ys → (Op.equalIn d t (.agg xs.toArray) (.agg ys.toArray)).run P w = .ok (fA xs ys) w
def sA (P : Program) (t : TypeId) (ks : List (Option IntKind)) (m : Nat) : Prop :=
  (∃ k, ks = [some k] ∧ P.underlying t = some (.int k)) ∨ (ks = [none] ∧ P.underlying t = some .bool) ∨ mY P t ks m
def nP (P : Program) (m : Nat) : Nat → List Field → List (List (Option IntKind)) → Prop
  | _, [], [] => True
  | off, f :: fs, ks :: kss => (sA P f.type ks m ∧ (f.name == "_") = false ∧ f.offset = off) ∧ nP P m (off + ks.length) fs kss
  | _, _, _ => False
theorem jK {P : Program} (w : World) {t : TypeId} {d : TypeDesc} (hu : P.underlying t = some d) (hd : (match d with | .struct _ | .array _ _ => true | _ => false) = false) (cs : List Value) (off : Nat) (v : Value) (h : cs[off]? = some v) :
    (part t cs.toArray off).run P w = .ok v w := by
  have ha : (isAgg t).run P w = .ok false w := by
    unfold isAgg
    simp only [Sem.run_bind, run_underlying hu, Result.andThen_ok]
    cases d <;> simp_all
  unfold part
  simp only [Sem.run_bind, ha, Result.andThen_ok, Bool.false_eq_true, if_false, List.getElem?_toArray, h, Sem.run_pure]
theorem qE {P : Program} (w : World) {t : TypeId} {fs : Array Field} (hu : P.underlying t = some (.struct fs)) {n : Nat} (hs : (P.info? t).map (·.size) = some n) (cs : List Value) (off : Nat) :
    (part t cs.toArray off).run P w = .ok (.agg ((cs.drop off).take n).toArray) w := by
  have ha : (isAgg t).run P w = .ok true w := by
    unfold isAgg
    simp only [Sem.run_bind, run_underlying hu, Result.andThen_ok, Sem.run_pure]
  obtain ⟨i, hi, rfl⟩ : ∃ i, P.info? t = some i ∧ i.size = n := by
    cases h : P.info? t with
    | none => rw [h] at hs; simp at hs
    | some i => rw [h] at hs; exact ⟨i, rfl, by simpa using hs⟩
  have hz : (sizeOf t).run P w = .ok i.size w := by simp [sizeOf, typeInfo, hi]
  unfold part
  simp only [Sem.run_bind, ha, Result.andThen_ok, if_true, hz, Sem.run_pure]
  rw [List.extract_toArray, List.extract_eq_take_drop, Nat.add_sub_cancel_left]
theorem qK {P : Program} {m : Nat} (w : World) (d : Nat) (hd : m ≤ d) (hd1 : 1 ≤ d) (xs ys : List Value) : ∀ (fs : List Field) (kss : List (List (Option IntKind))) (off : Nat), nP P m off fs kss →
    iK kss.flatten (xs.drop off) → iK kss.flatten (ys.drop off) → (Op.eqFields d xs.toArray ys.toArray fs).run P w = .ok (fA (xs.drop off) (ys.drop off)) w
  | [], [], off, _, hx, hy => by
    have h1 : xs.drop off = [] := List.length_eq_zero_iff.1 (by rw [hx.length]; rfl)
    have h2 : ys.drop off = [] := List.length_eq_zero_iff.1 (by rw [hy.length]; rfl)
    rw [h1, h2]
    rfl
  | f :: fs, ks :: kss, off, ⟨⟨hf, hn, ho⟩, hr⟩, hx, hy => by
    rw [List.flatten_cons] at hx hy
    obtain ⟨hx1, hx2⟩ := hO _ _ _ hx
    obtain ⟨hy1, hy2⟩ := hO _ _ _ hy
    rw [List.drop_drop] at hx2 hy2
    have ih := qK w d hd hd1 xs ys fs kss (off + ks.length) hr hx2 hy2
    have hlen : (xs.drop off).length = (ys.drop off).length := by rw [hx.length, hy.length]
    have hsp := oW ks.length (xs.drop off) (ys.drop off) hlen
    rw [List.drop_drop, List.drop_drop] at hsp
    have hne : f.name ≠ "_" := by simpa using hn
    rw [hsp]
    have fin : ∀ a b, (part f.type xs.toArray f.offset).run P w = .ok a w → (part f.type ys.toArray f.offset).run P w = .ok b w → (Op.equalIn d f.type a b).run P w = .ok (fA ((xs.drop off).take ks.length) ((ys.drop off).take ks.length)) w →
        (Op.eqFields d xs.toArray ys.toArray (f :: fs)).run P w = .ok (fA ((xs.drop off).take ks.length) ((ys.drop off).take ks.length) && fA (xs.drop (off + ks.length)) (ys.drop (off + ks.length))) w := fun a b h1 h2 h3 => by
      simp only [Op.eqFields, Sem.run_ite, hne, ne_eq, not_false_eq_true, if_true, Sem.run_bind, h1, h2, h3, Result.andThen_ok]
      cases fA ((xs.drop off).take ks.length) ((ys.drop off).take ks.length)
      · simp
      · simp [ih]
    subst ho
    have one : ∀ (zs : List Value) (v : Value), (zs.drop f.offset).take 1 = [v] → zs[f.offset]? = some v := fun zs v h => by
      have := congrArg (fun l : List Value => l[0]?) h
      simpa using this
    obtain ⟨d', rfl⟩ : ∃ d', d = d' + 1 := ⟨d - 1, by omega⟩
    rcases hf with ⟨k, rfl, hu⟩ | ⟨rfl, hu⟩ | ⟨⟨gs, hu⟩, hz, he⟩
    · obtain ⟨x, hxe⟩ : ∃ x, (xs.drop f.offset).take 1 = [x] := by
        have := hx1.length; match h : (xs.drop f.offset).take 1, this with | [x], _ => exact ⟨x, rfl⟩
      obtain ⟨y, hye⟩ : ∃ y, (ys.drop f.offset).take 1 = [y] := by
        have := hy1.length; match h : (ys.drop f.offset).take 1, this with | [y], _ => exact ⟨y, rfl⟩
      simp only [List.length_cons, List.length_nil, Nat.zero_add] at hx1 hy1 fin
      rw [hxe] at hx1 fin
      rw [hye] at hy1 fin
      obtain ⟨⟨a, rfl⟩, _⟩ := hx1
      obtain ⟨⟨b, rfl⟩, _⟩ := hy1
      simp only [List.length_cons, List.length_nil, Nat.zero_add]
      rw [hxe, hye]
      refine fin _ _ (jK w hu rfl xs _ _ (one xs _ hxe)) (jK w hu rfl ys _ _ (one ys _ hye)) ?_
      rw [run_equalIn_int w d' f.type k k a b hu]
      simp [fA, rJ]
    · obtain ⟨x, hxe⟩ : ∃ x, (xs.drop f.offset).take 1 = [x] := by
        have := hx1.length; match h : (xs.drop f.offset).take 1, this with | [x], _ => exact ⟨x, rfl⟩
      obtain ⟨y, hye⟩ : ∃ y, (ys.drop f.offset).take 1 = [y] := by
        have := hy1.length; match h : (ys.drop f.offset).take 1, this with | [y], _ => exact ⟨y, rfl⟩
      simp only [List.length_cons, List.length_nil, Nat.zero_add] at hx1 hy1 fin
      rw [hxe] at hx1 fin
      rw [hye] at hy1 fin
      obtain ⟨⟨a, rfl⟩, _⟩ := hx1
      obtain ⟨⟨b, rfl⟩, _⟩ := hy1
      simp only [List.length_cons, List.length_nil, Nat.zero_add]
      rw [hxe, hye]
      refine fin _ _ (jK w hu rfl xs _ _ (one xs _ hxe)) (jK w hu rfl ys _ _ (one ys _ hye)) ?_
      rw [run_equalIn_bool' w d' f.type a b hu]
      simp [fA, rJ]
    · exact fin _ _ (qE w hu hz xs _) (qE w hu hz ys _) (he w _ _ _ hd hx1 hy1)
  | [], _ :: _, _, h, _, _ => by simp [nP] at h
  | _ :: _, [], _, h, _, _ => by simp [nP] at h
theorem nY {P : Program} {t : TypeId} {fs : Array Field} {m : Nat} (kss : List (List (Option IntKind))) (ht : P.underlying t = some (.struct fs)) (hs : (P.info? t).map (·.size) = some kss.flatten.length) (hp : P.stoodInHeld t = false) (hf : nP P m 0 fs.toList kss) :
    mY P t kss.flatten (m + 2) := by
  refine ⟨⟨fs, ht⟩, hs, fun w d xs ys hd hx hy => ?_⟩
  obtain ⟨d', rfl⟩ : ∃ d', d = d' + 1 := ⟨d - 1, by omega⟩
  have hfs : P.fieldsOf t = fs := by simp [Program.fieldsOf, ht]
  rw [run_equalIn_struct w d' t xs.toArray ys.toArray (by rw [hfs]; exact ht) hp, hfs]
  have := qK (P := P) (m := m) w d' (by omega) (by omega) xs ys fs.toList kss 0 hf (by simpa using hx) (by simpa using hy)
  simpa using this
theorem dL {P : Program} {t : TypeId} {m : Nat} {k : IntKind} (h : P.underlying t = some (.int k)) : sA P t [some k] m := .inl ⟨k, rfl, h⟩
theorem jI {P : Program} {t : TypeId} {m : Nat} (h : P.underlying t = some .bool) : sA P t [none] m := .inr (.inl ⟨rfl, h⟩)
theorem iV {P : Program} {t : TypeId} {m m' : Nat} {ks : List (Option IntKind)} (h : mY P t ks m') (hm : m' ≤ m) : sA P t ks m := .inr (.inr ⟨h.1, h.2.1, fun w d xs ys hd => h.2.2 w d xs ys (by omega)⟩)
theorem pJ {P : Program} {t : TypeId} {ks : List (Option IntKind)} {m : Nat} (h : mY P t ks m) (hm : m ≤ 10000) (w : World) (xs ys : List Value) (hx : iK ks xs) (hy : iK ks ys) :
    (binOp .neq t (.agg xs.toArray) (.agg ys.toArray)).run P w = .ok (.bool (!fA xs ys)) w := by
  rw [run_neq_struct, h.2.2 w 10000 xs ys hm hx hy]
  rfl
theorem qM : mY Tryz.prog 26 [some .i64, some .u64] 2 := nY (P := Tryz.prog) (m := 0) [[some .i64], [some .u64]] U26 (by kernel_rfl) (by kernel_rfl) ⟨⟨dL U3, rfl, rfl⟩, ⟨dL U24, rfl, rfl⟩, trivial⟩
theorem kN : mY Tryz.prog 23 [some .i64, none, none, none, none, none] 2 := nY (P := Tryz.prog) (m := 0) [[some .i64], [none], [none], [none], [none], [none]] U23 (by kernel_rfl) (by kernel_rfl) ⟨⟨dL U3, rfl, rfl⟩, ⟨jI U4, rfl, rfl⟩, ⟨jI U4, rfl, rfl⟩, ⟨jI U4, rfl, rfl⟩, ⟨jI U4, rfl, rfl⟩, ⟨jI U4, rfl, rfl⟩, trivial⟩
theorem kS : mY Tryz.prog 29 [some .i64, some .u64, some .u64] 4 := nY (P := Tryz.prog) (m := 2) [[some .i64, some .u64], [some .u64]] U29 (by kernel_rfl) (by kernel_rfl) ⟨⟨iV qM (by decide), rfl, rfl⟩, ⟨dL U27, rfl, rfl⟩, trivial⟩
theorem uD : mY Tryz.prog 32 [some .u64, some .u64] 2 := nY (P := Tryz.prog) (m := 0) [[some .u64], [some .u64]] U32 (by kernel_rfl) (by kernel_rfl) ⟨⟨dL U24, rfl, rfl⟩, ⟨dL U24, rfl, rfl⟩, trivial⟩
theorem AX : mY Tryz.prog 34 [some .i64, some .i64, none, none, none, none, none, some .i64, some .u64, some .i64, some .u64, some .i64, some .u64, some .u64, some .u32, some .u64, some .u64, some .u64, some .u64] 6 := nY (P := Tryz.prog) (m := 4) [[some .i64], [some .i64, none, none, none, none, none], [some .i64, some .u64], [some .i64, some .u64], [some .i64, some .u64, some .u64], [some .u32], [some .u64], [some .u64], [some .u64, some .u64]] U34 (by kernel_rfl) (by kernel_rfl) ⟨⟨dL U3, rfl, rfl⟩, ⟨iV kN (by decide), rfl, rfl⟩, ⟨iV qM (by decide), rfl, rfl⟩, ⟨iV qM (by decide), rfl, rfl⟩, ⟨iV kS (by decide), rfl, rfl⟩, ⟨dL U30, rfl, rfl⟩, ⟨dL U24, rfl, rfl⟩, ⟨dL U24, rfl, rfl⟩, ⟨iV uD (by decide), rfl, rfl⟩, trivial⟩
theorem vS : mY Tryz.prog 43 [some .i64, some .i64, none, none, none, none, none, some .u32, some .u64, some .i64, some .u64, some .u64, some .i64] 6 := nY (P := Tryz.prog) (m := 4) [[some .i64], [some .i64, none, none, none, none, none], [some .u32], [some .u64], [some .i64, some .u64, some .u64], [some .i64]] U43 (by kernel_rfl) (by kernel_rfl) ⟨⟨dL U3, rfl, rfl⟩, ⟨iV kN (by decide), rfl, rfl⟩, ⟨dL U30, rfl, rfl⟩, ⟨dL U24, rfl, rfl⟩, ⟨iV kS (by decide), rfl, rfl⟩, ⟨dL U3, rfl, rfl⟩, trivial⟩
end
section
open Go.ChangeShapes Go.WideShapes Go.ChangeAt Go.RowKit
theorem EC : mY Tryz.prog 80 [some .i64, some .i64, some .u64, none, some .i64, some .u64, some .u64, some .i64] 6 := nY (P := Tryz.prog) (m := 4) [[some .i64], [some .i64], [some .u64], [none], [some .i64, some .u64, some .u64], [some .i64]] U80 (by kernel_rfl) (by kernel_rfl) ⟨⟨dL U3, rfl, rfl⟩, ⟨dL U3, rfl, rfl⟩, ⟨dL U27, rfl, rfl⟩, ⟨jI U4, rfl, rfl⟩, ⟨iV kS (by decide), rfl, rfl⟩, ⟨dL U3, rfl, rfl⟩, trivial⟩
theorem wF : mY Tryz.prog 37 [some .i64, some .i64, none, none, none, none, none, some .i64, some .u64, some .i64, some .u64, some .i64, some .u64, some .u64, some .u32, some .u64, some .u64, some .u64, some .u64, some .i64, some .i64, some .i64, some .i64, none, none, none, none, none, some .i64, none, none, none, none, none, some .i64, none, none, none, none, none, some .u32, some .u32, some .u64, some .u64, some .u64, none, some .i64, some .i64, none, some .u64, none, none, some .u64, some .i64, some .u64, some .u64, some .i64, some .i64] 8 := nY (P := Tryz.prog) (m := 6) [[some .i64, some .i64, none, none, none, none, none, some .i64, some .u64, some .i64, some .u64, some .i64, some .u64, some .u64, some .u32, some .u64, some .u64, some .u64, some .u64], [some .i64], [some .i64], [some .i64], [some .i64, none, none, none, none, none], [some .i64, none, none, none, none, none], [some .i64, none, none, none, none, none], [some .u32], [some .u32], [some .u64], [some .u64], [some .u64], [none], [some .i64], [some .i64], [none], [some .u64], [none], [none], [some .u64], [some .i64, some .u64, some .u64], [some .i64], [some .i64]] U37 (by kernel_rfl) (by kernel_rfl) ⟨⟨iV AX (by decide), rfl, rfl⟩, ⟨dL U3, rfl, rfl⟩, ⟨dL U3, rfl, rfl⟩, ⟨dL U3, rfl, rfl⟩, ⟨iV kN (by decide), rfl, rfl⟩, ⟨iV kN (by decide), rfl, rfl⟩, ⟨iV kN (by decide), rfl, rfl⟩, ⟨dL U30, rfl, rfl⟩, ⟨dL U30, rfl, rfl⟩, ⟨dL U24, rfl, rfl⟩, ⟨dL U24, rfl, rfl⟩, ⟨dL U24, rfl, rfl⟩, ⟨jI U4, rfl, rfl⟩, ⟨dL U3, rfl, rfl⟩, ⟨dL U3, rfl, rfl⟩, ⟨jI U4, rfl, rfl⟩, ⟨dL U24, rfl, rfl⟩, ⟨jI U4, rfl, rfl⟩, ⟨jI U4, rfl, rfl⟩, ⟨dL U27, rfl, rfl⟩, ⟨iV kS (by decide), rfl, rfl⟩, ⟨dL U3, rfl, rfl⟩, ⟨dL U3, rfl, rfl⟩, trivial⟩
@[go_sem high] theorem L0 (x y : Pr) (w : World) : (binOp .neq 37 (.agg (prL x).toArray) (.agg (prL y).toArray)).run Tryz.prog w = .ok (.bool (!decide (x = y))) w := by
  rw [pJ wF (by decide) w (prL x) (prL y) ⟨⟨_, rfl⟩, ⟨_, rfl⟩, ⟨_, rfl⟩, ⟨_, rfl⟩, ⟨_, rfl⟩, ⟨_, rfl⟩, ⟨_, rfl⟩, ⟨_, rfl⟩, ⟨_, rfl⟩, ⟨_, rfl⟩, ⟨_, rfl⟩, ⟨_, rfl⟩, ⟨_, rfl⟩, ⟨_, rfl⟩, ⟨_, rfl⟩, ⟨_, rfl⟩, ⟨_, rfl⟩, ⟨_, rfl⟩, ⟨_, rfl⟩, ⟨_, rfl⟩, ⟨_, rfl⟩, ⟨_, rfl⟩, ⟨_, rfl⟩, ⟨_, rfl⟩, ⟨_, rfl⟩, ⟨_, rfl⟩, ⟨_, rfl⟩, ⟨_, rfl⟩, ⟨_, rfl⟩, ⟨_, rfl⟩, ⟨_, rfl⟩, ⟨_, rfl⟩, ⟨_, rfl⟩, ⟨_, rfl⟩, ⟨_, rfl⟩, ⟨_, rfl⟩, ⟨_, rfl⟩, ⟨_, rfl⟩, ⟨_, rfl⟩, ⟨_, rfl⟩, ⟨_, rfl⟩, ⟨_, rfl⟩, ⟨_, rfl⟩, ⟨_, rfl⟩, ⟨_, rfl⟩, ⟨_, rfl⟩, ⟨_, rfl⟩, ⟨_, rfl⟩, ⟨_, rfl⟩, ⟨_, rfl⟩, ⟨_, rfl⟩, ⟨_, rfl⟩, ⟨_, rfl⟩, ⟨_, rfl⟩, ⟨_, rfl⟩, ⟨_, rfl⟩, ⟨_, rfl⟩, ⟨_, rfl⟩, trivial⟩ ⟨⟨_, rfl⟩, ⟨_, rfl⟩, ⟨_, rfl⟩, ⟨_, rfl⟩, ⟨_, rfl⟩, ⟨_, rfl⟩, ⟨_, rfl⟩, ⟨_, rfl⟩, ⟨_, rfl⟩, ⟨_, rfl⟩, ⟨_, rfl⟩, ⟨_, rfl⟩, ⟨_, rfl⟩, ⟨_, rfl⟩, ⟨_, rfl⟩, ⟨_, rfl⟩, ⟨_, rfl⟩, ⟨_, rfl⟩, ⟨_, rfl⟩, ⟨_, rfl⟩, ⟨_, rfl⟩, ⟨_, rfl⟩, ⟨_, rfl⟩, ⟨_, rfl⟩, ⟨_, rfl⟩, ⟨_, rfl⟩, ⟨_, rfl⟩, ⟨_, rfl⟩, ⟨_, rfl⟩, ⟨_, rfl⟩, ⟨_, rfl⟩, ⟨_, rfl⟩, ⟨_, rfl⟩, ⟨_, rfl⟩, ⟨_, rfl⟩, ⟨_, rfl⟩, ⟨_, rfl⟩, ⟨_, rfl⟩, ⟨_, rfl⟩, ⟨_, rfl⟩, ⟨_, rfl⟩, ⟨_, rfl⟩, ⟨_, rfl⟩, ⟨_, rfl⟩, ⟨_, rfl⟩, ⟨_, rfl⟩, ⟨_, rfl⟩, ⟨_, rfl⟩, ⟨_, rfl⟩, ⟨_, rfl⟩, ⟨_, rfl⟩, ⟨_, rfl⟩, ⟨_, rfl⟩, ⟨_, rfl⟩, ⟨_, rfl⟩, ⟨_, rfl⟩, ⟨_, rfl⟩, ⟨_, rfl⟩, trivial⟩, ← K5]
  simp only [prL, fA, rJ, Bool.and_true]
@[go_sem high] theorem LO (x y : Sec) (w : World) : (binOp .neq 43 (.agg (aI x).toArray) (.agg (aI y).toArray)).run Tryz.prog w = .ok (.bool (!decide (x = y))) w := by
  rw [pJ vS (by decide) w (aI x) (aI y) ⟨⟨_, rfl⟩, ⟨_, rfl⟩, ⟨_, rfl⟩, ⟨_, rfl⟩, ⟨_, rfl⟩, ⟨_, rfl⟩, ⟨_, rfl⟩, ⟨_, rfl⟩, ⟨_, rfl⟩, ⟨_, rfl⟩, ⟨_, rfl⟩, ⟨_, rfl⟩, ⟨_, rfl⟩, trivial⟩ ⟨⟨_, rfl⟩, ⟨_, rfl⟩, ⟨_, rfl⟩, ⟨_, rfl⟩, ⟨_, rfl⟩, ⟨_, rfl⟩, ⟨_, rfl⟩, ⟨_, rfl⟩, ⟨_, rfl⟩, ⟨_, rfl⟩, ⟨_, rfl⟩, ⟨_, rfl⟩, ⟨_, rfl⟩, trivial⟩, ← I1]
  simp only [aI, fA, rJ, Bool.and_true]
@[go_sem high] theorem LV (x y : Evt) (w : World) : (binOp .neq 80 (.agg (dS x).toArray) (.agg (dS y).toArray)).run Tryz.prog w = .ok (.bool (!decide (x = y))) w := by
  rw [pJ EC (by decide) w (dS x) (dS y) ⟨⟨_, rfl⟩, ⟨_, rfl⟩, ⟨_, rfl⟩, ⟨_, rfl⟩, ⟨_, rfl⟩, ⟨_, rfl⟩, ⟨_, rfl⟩, ⟨_, rfl⟩, trivial⟩ ⟨⟨_, rfl⟩, ⟨_, rfl⟩, ⟨_, rfl⟩, ⟨_, rfl⟩, ⟨_, rfl⟩, ⟨_, rfl⟩, ⟨_, rfl⟩, ⟨_, rfl⟩, trivial⟩, ← I2]
  simp only [dS, fA, rJ, Bool.and_true]
end
section
structure Stp where
  p : Pr
  out : List Sec
  ev : List Evt
def aP (p : Pr) : Bool := decide (p.cfg.role = 0)
def tT (p : Pr) : BitVec 32 := cJ p.cfg.secret
def cE (p : Pr) (reason now : Int) : Stp := ⟨{ p with phase := 8, since := now, reason := reason }, [{ cL with kind := 5, reason := reason }], [{ sJ with kind := 4, reason := reason }]⟩
def aC (p : Pr) (now : Int) : Stp := ⟨{ p with since := now }, [], []⟩
def dQ (s : Stp) (kind : Int) (v : BitVec 64) : Stp := { s with out := s.out ++ [{ cL with kind := kind, value := v }] }
def eR (s : Stp) (kind n : Int) : Stp := { s with ev := s.ev ++ [{ sJ with kind := kind, number := n }] }
def kW (s : Stp) : BitVec 64 := eN s.p.cfg.seed s.p.drawn
def eX (s : Stp) : Stp := { s with p := { s.p with drawn := F2 s.p.drawn } }
def cK (s : Stp) : Stp := { eX s with p := { (eX s).p with nonce := kW s } }
def gB (p : Pr) : BitVec 8 := if aU p.method then BitVec.ofInt 8 (128 + (p.passkey / 2 ^ p.round.toNat) % 2) else 0#8
def fL (s : Stp) : Stp := dQ (cK s) 3 (eF (tT (cK s).p) (cK s).p.peerKey (cK s).p.nonce (gB (cK s).p))
def gN (p : Pr) (v : BitVec 64) : Bool := decide (eF p.peerKey (tT p) v (gB p) = p.commit)
def dB (p : Pr) (d : Sec) (now : Int) : Stp :=
  let q : Pr := if aP p then { p with since := now, peer := d.feat, res := d.feat } else { p with since := now, peer := d.feat, req := d.feat, res := p.cfg.feat }
  if cC q.req q.res = false then cE p 3 now
  else ⟨{ q with method := (bC q.req q.res).1, phase := 2 }, if aP p then [{ cL with kind := 12, pub := tT p }] else [{ cL with kind := 2, feat := p.cfg.feat }], []⟩
def eS (p : Pr) : Bool := (decide (p.method = 3) && aP p) || (decide (p.method = 4) && !aP p)
def gS (s0 : Stp) : Stp :=
  let s : Stp := { s0 with p := { s0.p with phase := 3 } }
  if s.p.method = 6 then (if aP s.p then dQ (cK s) 4 (cK s).p.nonce else s)
  else if aU s.p.method = false then (if aP s.p then s else fL s)
  else if eS s.p = false then eR { s with p := { s.p with phase := 4 } } 2 0
  else
    let t : Stp := { eX s with p := { (eX s).p with passkey := ((kW s % 1000000#64).toNat : Int) } }
    let u := eR t 1 t.p.passkey
    if aP u.p then fL u else u
def fK (p : Pr) (d : Sec) (now : Int) : Stp :=
  if fB d.pub = false ∨ d.pub = tT p then cE p 13 now
  else if p.cfg.feat.oob = true ∧ p.cfg.oob.value ≠ eF d.pub d.pub p.cfg.oob.random 0#8 then cE p 2 now
  else gS ⟨{ p with since := now, peerKey := d.pub, shared := dO p.cfg.secret d.pub }, if aP p then [] else [{ cL with kind := 12, pub := tT p }], []⟩
def gV (p : Pr) (has : Bool) (random : BitVec 64) : BitVec 64 := if aU p.method then BitVec.ofInt 64 p.passkey else if decide (p.method = 6) && has then random else 0#64
def eJ (p : Pr) : BitVec 64 := lI p.shared p.nonce (gV p p.cfg.feat.oob p.cfg.oob.random) p.cfg.feat p.cfg.own p.cfg.peer
def eU (p : Pr) : BitVec 64 := lI p.shared p.other (gV p p.peer.oob p.cfg.mine) p.peer p.cfg.peer p.cfg.own
def cF (s : Stp) : Stp :=
  let t : Stp := { s with p := { s.p with phase := 5 } }
  if aP t.p then dQ t 13 (eJ t.p) else t
def iO (s : Stp) : Stp :=
  if s.p.method = 1 then cF s
  else
    let t : Stp := { s with p := { s.p with phase := 4 } }
    if aP t.p then eR t 1 ((gO (tT t.p) t.p.peerKey t.p.nonce t.p.other).toNat : Int)
    else eR t 1 ((gO t.p.peerKey (tT t.p) t.p.other t.p.nonce).toNat : Int)
def cS (s : Stp) (v : BitVec 64) : Stp := { s with p := { s.p with have_ := false, commit := 0#64, other := v } }
def dU (p : Pr) (d : Sec) (now : Int) : Stp :=
  let s := aC p now
  if aP p = false ∧ d.kind = 4 then iO (dQ { s with p := { s.p with other := d.value } } 4 p.nonce)
  else if aP p = true ∧ d.kind = 3 ∧ p.have_ = false then
    (let t := cK { s with p := { s.p with commit := d.value, have_ := true } }
     dQ t 4 t.p.nonce)
  else if aP p = true ∧ d.kind = 4 ∧ p.have_ = true then (if gN p d.value = false then cE p 4 now else iO (cS s d.value))
  else cE p 7 now
def fP (p : Pr) (d : Sec) (now : Int) : Stp :=
  if d.kind ≠ 4 then cE p 7 now
  else
    let s : Stp := { aC p now with p := { (aC p now).p with other := d.value } }
    if aP p then cF s else cF (dQ (cK s) 4 (cK s).p.nonce)
def dI (p : Pr) (d : Sec) (now : Int) : Stp :=
  let s := aC p now
  if d.kind = 3 ∧ p.have_ = false then
    (let t : Stp := { s with p := { s.p with commit := d.value, have_ := true } }
     if aP p then dQ t 4 p.nonce else fL t)
  else if d.kind ≠ 4 ∨ p.have_ = false then cE p 7 now
  else if gN p d.value = false then cE p 4 now
  else
    let t : Stp := { cS s d.value with p := { (cS s d.value).p with round := p.round + 1 } }
    let u := if aP p then t else dQ t 4 p.nonce
    if u.p.round = 20 then cF u else if aP p then fL u else u
def cW (p : Pr) (d : Sec) (now : Int) : Stp :=
  let s := aC p now
  if aP p = false ∧ aU p.method = true ∧ d.kind = 3 ∧ p.have_ = false then { s with p := { s.p with commit := d.value, have_ := true } }
  else if aP p = false ∧ p.method = 2 ∧ d.kind = 13 ∧ p.haveIn = false then { s with p := { s.p with checkIn := d.value, haveIn := true } }
  else cE p 7 now
def eI (before : Pr) (s : Stp) (v : BitVec 64) (now : Int) : Stp :=
  if v ≠ eU s.p then cE before 11 now
  else if aP s.p then { s with p := { s.p with phase := 6, ltk := mS s.p.shared s.p.nonce s.p.other s.p.cfg.own s.p.cfg.peer } }
  else dQ { s with p := { s.p with phase := 6, ltk := mS s.p.shared s.p.other s.p.nonce s.p.cfg.peer s.p.cfg.own } } 13 (eJ s.p)
def oE (s : Stp) : Stp := { s with p := { s.p with phase := 7 }, ev := s.ev ++ [{ sJ with kind := 3, key := s.p.ltk, strong := (bC s.p.req s.p.res).2, idn := s.p.idn }] }
def iL (s : Stp) (sends : Bool) : Stp := if sends then { s with out := s.out ++ [{ cL with kind := 8, idn := s.p.cfg.idn }] } else s
def cU (p : Pr) : Bool × Bool := if aP p then aT p.req p.res else ((aT p.req p.res).2, (aT p.req p.res).1)
def eD (p : Pr) (d : Sec) (now : Int) : Stp :=
  if d.kind ≠ 8 ∨ p.crypt = false ∨ (cU p).2 = false then cE p 7 now
  else oE (iL { aC p now with p := { (aC p now).p with idn := d.idn } } ((cU p).1 && aP p))
def eO (p : Pr) (d : Sec) (now : Int) : Stp :=
  if p.phase = 0 then
    (if aP p = true ∧ d.kind = 11 then ⟨p, [], []⟩ else if aP p = false ∧ d.kind = 1 then dB p d now else cE p 7 now)
  else if p.phase = 1 then (if d.kind = 2 then dB p d now else cE p 7 now)
  else if p.phase = 2 then (if d.kind = 12 then fK p d now else cE p 7 now)
  else if p.phase = 3 then (if p.method = 6 then fP p d now else if aU p.method then dI p d now else dU p d now)
  else if p.phase = 4 then cW p d now
  else if p.phase = 5 then (if d.kind = 13 then eI p (aC p now) d.value now else cE p 7 now)
  else if p.phase = 6 then eD p d now
  else cE p 7 now
def bN (p : Pr) (d : Sec) (now : Int) : Stp :=
  if p.phase = 7 ∨ p.phase = 8 then ⟨p, [], []⟩
  else if gD d ≠ 0 then cE p 7 now
  else if d.kind ≠ 5 then eO p d now
  else if p.phase = 0 then ⟨p, [], []⟩
  else { cE p d.reason now with out := [] }
def bZ (p : Pr) (answer now : Int) : Stp :=
  if p.phase ≠ 4 ∨ answer < -1 ∨ 999999 < answer then ⟨p, [], []⟩
  else
    let s := aC p now
    if aU p.method then
      (if answer < 0 then cE p 1 now
       else
        let t : Stp := { s with p := { s.p with passkey := answer, phase := 3 } }
        if aP p = true ∨ p.have_ = true then fL t else t)
    else if 1 < answer then ⟨p, [], []⟩
    else if answer < 1 then cE p 12 now
    else
      let t := cF { s with p := { s.p with agreed := true } }
      if p.haveIn = false then t else eI p { t with p := { t.p with haveIn := false, checkIn := 0#64 } } p.checkIn now
def dX (p : Pr) (now : Int) : Stp :=
  if p.phase ≠ 6 ∨ p.crypt = true then ⟨p, [], []⟩
  else
    let s : Stp := { aC p now with p := { (aC p now).p with crypt := true } }
    if aP p = true ∧ (cU p).2 = true then s
    else if (cU p).2 = true then iL s (cU p).1 else oE (iL s (cU p).1)
def mH (p : Pr) (now : Int) : Pr × List Evt :=
  if p.phase = 0 ∨ p.phase = 7 ∨ p.phase = 8 then (p, [])
  else if now < p.since ∨ now - p.since < 30000000 then (p, [])
  else ((cE p 14 now).p, (cE p 14 now).ev)
structure Inv (p : Pr) : Prop where
  role : p.cfg.role = 0 ∨ p.cfg.role = 1
  ph : 0 ≤ p.phase ∧ p.phase ≤ 8
  since : 0 ≤ p.since ∧ p.since ≤ 1099511627776
  one : p.phase = 1 → p.cfg.role = 0
  user : p.phase = 4 → aU p.method = false → p.method = 2
  pass : p.phase = 3 → aU p.method = true → 0 ≤ p.passkey
  round : 0 ≤ p.round ∧ p.round ≤ 20
  less : p.phase ≤ 4 → p.round < 20
  meth : 2 ≤ p.phase → p.phase ≤ 6 → 1 ≤ p.method ∧ p.method ≤ 6
def yC (s : Stp) : Pr × List Sec × List Evt := (s.p, s.out, s.ev)
theorem JI (p : Pr) (d : Sec) (now : Int) (hr : p.cfg.role = 1) (hk : d.kind = 1) : ((aH p now).idle d).2 = true ∧ ((aH p now).idle d).1.out = yC (dB p d now) := by
  unfold Sd.idle Sd.first aH
  dsimp only
  rw [if_neg (by simp [hr, hk])]
  refine ⟨rfl, ?_⟩
  unfold dB aP Sd.idleS Sd.choose Sd.setP Sd.accept
  dsimp only
  rw [show decide (p.cfg.role = 0) = false by simp [hr]]
  by_cases he : cC d.feat p.cfg.feat = false
  · simp [he]; rfl
  · simp [he]; rfl
theorem yO (p : Pr) (d : Sec) (now : Int) (hr : p.cfg.role = 0) (hk : d.kind = 2) : ((aH p now).features d).2 = true ∧ ((aH p now).features d).1.out = yC (dB p d now) := by
  unfold Sd.features Sd.first aH
  dsimp only
  rw [if_neg (by simp [hr, hk])]
  refine ⟨rfl, ?_⟩
  unfold dB aP Sd.featS Sd.choose Sd.setP Sd.accept
  dsimp only
  rw [show decide (p.cfg.role = 0) = true by simp [hr]]
  by_cases he : cC p.req d.feat = false
  · simp [he]; rfl
  · simp [he]; rfl
theorem zr (s : Sd) : s.z = gB s.p := by
  unfold Sd.z gB Sd.pass
  by_cases h : aU s.p.method = true
  · rw [if_pos h, if_pos h, BitVec.ofInt_add]; rfl
  · rw [if_neg h, if_neg h]
def dD (s : Sd) : Stp := ⟨s.p, s.sent, s.told⟩
theorem qX (s : Sd) : s.out = yC (dD s) := rfl
theorem sM (s : Sd) : dD s.fresh = cK (dD s) := rfl
theorem lX (s : Sd) : dD s.commit = fL (dD s) := by
  unfold Sd.commit fL
  rw [← sM]
  have h := zr s
  have h2 : gB (dD s.fresh).p = gB s.p := rfl
  rw [h2, ← h]
  rfl
theorem lO (s : Sd) : dD s.random = dQ (dD s) 4 s.p.nonce := rfl
def C8 (s : Sd) : Sd := Sd.tell { (Sd.draw { s with p := { s.p with phase := 3 } }) with p := { (Sd.draw { s with p := { s.p with phase := 3 } }).p with passkey := ((s.drawV % 1000000#64).toNat : Int) } } { sJ with kind := 1, number := ((s.drawV % 1000000#64).toNat : Int) }
theorem yA (s : Sd) : dD (if ((decide (s.p.cfg.role = 0) && decide (s.p.method = 3)) || (!decide (s.p.cfg.role = 0) && decide (s.p.method = 4))) = true then (if decide (s.p.cfg.role = 0) = true then (C8 s).commit else C8 s) else Sd.tell { s with p := { s.p with phase := 4 } } { sJ with kind := 2 }) =
    (if ((decide (s.p.method = 3) && decide (s.p.cfg.role = 0)) || (decide (s.p.method = 4) && !decide (s.p.cfg.role = 0))) = false then eR { p := { s.p with phase := 4 }, out := s.sent, ev := s.told } 2 0 else (if decide (s.p.cfg.role = 0) = true then fL (dD (C8 s)) else dD (C8 s))) := by
  by_cases h0 : s.p.cfg.role = 0
  · by_cases h3 : s.p.method = 3
    · rw [if_pos (by simp [h0, h3]), if_pos (by simp [h0]), if_neg (by simp [h0, h3]), if_pos (by simp [h0])]
      exact lX _
    · rw [if_neg (by simp [h0, h3]), if_pos (by simp [h0, h3])]
      rfl
  · by_cases h4 : s.p.method = 4
    · rw [if_pos (by simp [h0, h4]), if_neg (by simp [h0]), if_neg (by simp [h0, h4]), if_neg (by simp [h0])]
    · rw [if_neg (by simp [h0, h4]), if_pos (by simp [h0, h4])]
      rfl
theorem zS (s : Sd) : dD s.begin_ = gS (dD s) := by
  unfold Sd.begin_ gS Sd.first aP Sd.pass Sd.shows eS Sd.setP
  dsimp only [dD]
  by_cases h6 : s.p.method = 6
  · rw [if_pos h6, if_pos h6]
    by_cases h0 : s.p.cfg.role = 0
    · simp [h0]; rfl
    · simp [h0]
  rw [if_neg h6, if_neg h6]
  by_cases hp : aU s.p.method = false
  · rw [if_pos hp, if_pos hp]
    by_cases h0 : s.p.cfg.role = 0
    · simp [h0]
    · simp [h0]
      exact lX { s with p := { s.p with phase := 3 } }
  · rw [if_neg hp, if_neg hp]
    exact yA s
theorem DW (p : Pr) (d : Sec) (now : Int) (hk : d.kind = 12) : ((aH p now).public_ d).2 = true ∧ dD ((aH p now).public_ d).1 = fK p d now := by
  unfold Sd.public_ fK
  rw [if_neg (by simp [hk])]
  have ho : (aH p now).own = tT p := rfl
  rw [ho]
  by_cases h1 : fB d.pub = false ∨ d.pub = tT p
  · rw [if_pos h1, if_pos h1]; exact ⟨rfl, rfl⟩
  rw [if_neg h1, if_neg h1]
  by_cases h2 : p.cfg.feat.oob = true ∧ p.cfg.oob.value ≠ eF d.pub d.pub p.cfg.oob.random 0#8
  · rw [if_pos (show (aH p now).p.cfg.feat.oob = true ∧ (aH p now).p.cfg.oob.value ≠ eF d.pub d.pub (aH p now).p.cfg.oob.random 0#8 from h2), if_pos h2]; exact ⟨rfl, rfl⟩
  rw [if_neg (show ¬ ((aH p now).p.cfg.feat.oob = true ∧ (aH p now).p.cfg.oob.value ≠ eF d.pub d.pub (aH p now).p.cfg.oob.random 0#8) from h2), if_neg h2]
  refine ⟨rfl, ?_⟩
  by_cases h0 : p.cfg.role = 0
  · have hf : (aH p now).first = true := by unfold Sd.first aH; simp [h0]
    have hi : aP p = true := by unfold aP; simp [h0]
    rw [if_neg (by simp [hf]), if_pos hi, zS]; rfl
  · have hf : (aH p now).first = false := by unfold Sd.first aH; simp [h0]
    have hi : ¬ aP p = true := by unfold aP; simp [h0]
    rw [if_pos hf, if_neg hi, zS]; rfl
theorem gR (s : Sd) : dD s.toChecks = cF (dD s) := by
  unfold Sd.toChecks cF Sd.first aP
  by_cases h0 : s.p.cfg.role = 0
  · simp [h0, dD, Sd.setP, Sd.send, dQ]; rfl
  · simp [h0, dD, Sd.setP]
theorem pW (s : Sd) : dD s.exchanged = iO (dD s) := by
  unfold Sd.exchanged iO
  by_cases h1 : s.p.method = 1
  · rw [if_pos h1, if_pos (show (dD s).p.method = 1 from h1)]; exact gR s
  · rw [if_neg h1, if_neg (show ¬ (dD s).p.method = 1 from h1)]
    unfold Sd.digits byR Sd.first aP
    by_cases h0 : s.p.cfg.role = 0
    · simp [h0, dD]; rfl
    · simp [h0, dD]; rfl
def pY (r : Sd × Bool) : Sd := if r.2 then r.1 else r.1.fail 7
theorem mJ (s : Sd) : pY (s, true) = s := rfl
theorem gX {s : Sd} {p : Pr} (h : s.p.cfg = p.cfg) : s.first = aP p := by unfold Sd.first aP; rw [h]
theorem iJ {p : Pr} (h : p.cfg.role = 0) : aP p = true := by unfold aP; simp [h]
theorem rG {p : Pr} (h : ¬ p.cfg.role = 0) : aP p = false := by unfold aP; simp [h]
theorem BO (p : Pr) (d : Sec) (now : Int) : dD (pY ((aH p now).authOOB d)) = fP p d now := by
  unfold Sd.authOOB fP
  by_cases hk : d.kind ≠ 4
  · rw [if_pos hk, if_pos hk]; rfl
  rw [if_neg hk, if_neg hk]
  have hf : (aH p now).first = aP p := gX rfl
  rw [mJ, hf]
  by_cases h0 : p.cfg.role = 0
  · rw [iJ h0, if_neg (by decide), if_pos rfl, gR]; rfl
  · rw [rG h0, if_pos rfl, if_neg (by decide), gR, lO, sM]; rfl
theorem xX (p : Pr) (now : Int) (v : BitVec 64) : (aH p now).opens v = gN p v := by
  unfold Sd.opens gN
  rw [zr]
  rfl
theorem sT (p : Pr) (d : Sec) (now : Int) (h3 : d.kind = 3) (hh : p.have_ = false) : (aH p now).take d = ((aH p now).accept.setP { (aH p now).accept.p with commit := d.value, have_ := true }, true) := by
  unfold Sd.take
  rw [if_neg]
  rintro (h | h)
  · exact h h3
  · rw [show (aH p now).p.have_ = p.have_ from rfl, hh] at h
    cases h
theorem vZ (p : Pr) (d : Sec) (now : Int) (h : ¬ (d.kind = 3 ∧ p.have_ = false)) : (aH p now).take d = (aH p now, false) := by
  unfold Sd.take
  rw [if_pos]
  by_cases h3 : d.kind = 3
  · refine .inr ?_
    show p.have_ = true
    rcases hh : p.have_ with _ | _
    · exact absurd ⟨h3, hh⟩ h
    · rfl
  · exact .inl h3
theorem CX (p : Pr) (d : Sec) (now : Int) (h : gN p d.value = false) : (aH p now).open_ d = ((aH p now).accept.fail 4, false) := by
  unfold Sd.open_
  rw [xX, if_pos h]
theorem xP (p : Pr) (d : Sec) (now : Int) (h : ¬ gN p d.value = false) : (aH p now).open_ d = ((aH p now).accept.setP { (aH p now).accept.p with have_ := false, commit := 0#64, other := d.value }, true) := by
  unfold Sd.open_
  rw [xX, if_neg h]
theorem vY (p : Pr) (d : Sec) (now : Int) (h0 : p.cfg.role = 0) : dD (pY ((aH p now).authFirst d)) = dU p d now := by
  unfold Sd.authFirst dU
  rw [iJ h0]
  have e1 : (aH p now).p.have_ = p.have_ := rfl
  rw [e1]
  by_cases h3 : d.kind = 3 ∧ p.have_ = false
  · rw [sT p d now h3.1 h3.2, if_pos rfl, if_neg (by simp), if_pos ⟨rfl, h3⟩, mJ, lO, sM]; rfl
  · rw [vZ p d now h3, if_neg (by simp), if_neg (fun h : true = false ∧ _ => by cases h.1), if_neg (fun h : true = true ∧ d.kind = 3 ∧ p.have_ = false => h3 h.2)]
    by_cases h4 : d.kind = 4 ∧ p.have_ = true
    · have n4 : ¬ (d.kind ≠ 4 ∨ p.have_ = false) := by
        rintro (h | h)
        · exact h h4.1
        · rw [h4.2] at h; cases h
      have y4 : true = true ∧ d.kind = 4 ∧ p.have_ = true := ⟨rfl, h4⟩
      rw [if_neg n4, if_pos y4]
      by_cases ho : gN p d.value = false
      · rw [CX p d now ho, if_pos ho]; rfl
      · rw [xP p d now ho, if_neg ho]
        exact pW _
    · have y4 : d.kind ≠ 4 ∨ p.have_ = false := by
        by_cases hk : d.kind = 4
        · refine .inr ?_
          rcases hh : p.have_ with _ | _
          · rfl
          · exact absurd ⟨hk, hh⟩ h4
        · exact .inl hk
      rw [if_pos y4, if_neg (fun h : true = true ∧ d.kind = 4 ∧ p.have_ = true => h4 h.2)]
      rfl
theorem xU (p : Pr) (d : Sec) (now : Int) (h0 : ¬ p.cfg.role = 0) : dD (pY (if d.kind ≠ 4 then (aH p now, false) else (((aH p now).accept.setP { (aH p now).accept.p with other := d.value }).random.exchanged, true))) = dU p d now := by
  unfold dU
  rw [rG h0]
  by_cases h4 : d.kind = 4
  · rw [if_neg (by simp [h4]), if_pos ⟨rfl, h4⟩, mJ, pW]; rfl
  · rw [if_pos h4, if_neg (by simp [h4]), if_neg (by simp), if_neg (by simp)]; rfl
theorem xM (p : Pr) (d : Sec) (now : Int) : dD (pY ((aH p now).authPasskey d)) = dI p d now := by
  unfold Sd.authPasskey dI
  have hf : (aH p now).first = aP p := gX rfl
  have e1 : (aH p now).p.have_ = p.have_ := rfl
  rw [e1, hf]
  by_cases h3 : d.kind = 3 ∧ p.have_ = false
  · rw [sT p d now h3.1 h3.2, if_pos rfl, if_pos h3, mJ]
    by_cases h0 : p.cfg.role = 0
    · rw [iJ h0, if_pos rfl, if_pos rfl, lO]; rfl
    · rw [rG h0, if_neg (by decide), if_neg (by decide), lX]; rfl
  · rw [vZ p d now h3, if_neg (by simp), if_neg h3]
    by_cases h4 : d.kind ≠ 4 ∨ p.have_ = false
    · rw [if_pos h4, if_pos h4]; rfl
    rw [if_neg h4, if_neg h4]
    by_cases ho : gN p d.value = false
    · rw [CX p d now ho, if_pos rfl, if_pos ho]; rfl
    rw [xP p d now ho, if_neg (by simp), if_neg ho, mJ]
    have er : (aH p now).p.round = p.round := rfl
    rw [er]
    by_cases h0 : p.cfg.role = 0
    · rw [iJ h0]
      dsimp only
      by_cases h20 : p.round + 1 = 20
      · rw [if_pos h20, if_neg (by decide), gR]
        exact (if_pos h20).symm
      · rw [if_neg h20, if_pos rfl, if_neg (by decide), lX]
        exact (if_neg h20).symm
    · rw [rG h0]
      dsimp only
      by_cases h20 : p.round + 1 = 20
      · rw [if_pos h20, if_pos rfl, gR, lO]
        exact (if_pos h20).symm
      · rw [if_neg h20, if_neg (by decide), if_pos rfl, lO]
        exact (if_neg h20).symm
theorem GL (p : Pr) (d : Sec) (now : Int) (hu : aU p.method = false → p.method = 2) : dD (pY ((aH p now).early d)) = cW p d now := by
  unfold Sd.early cW
  have hf : (aH p now).first = aP p := gX rfl
  have hpp : (aH p now).pass = aU p.method := rfl
  have e1 : (aH p now).p.haveIn = p.haveIn := rfl
  rw [hf, hpp, e1]
  by_cases h0 : p.cfg.role = 0
  · rw [iJ h0, if_pos rfl, if_neg (fun h : true = false ∧ _ => by cases h.1), if_neg (fun h : true = false ∧ _ => by cases h.1)]
    rfl
  rw [rG h0, if_neg Bool.false_ne_true]
  rcases hp : aU p.method with _ | _
  · rw [if_neg Bool.false_ne_true, if_neg (fun h : false = false ∧ false = true ∧ _ => by cases h.2.1)]
    by_cases hk : d.kind = 13 ∧ p.haveIn = false
    · have n1 : ¬ (d.kind ≠ 13 ∨ p.haveIn = true) := by
        rintro (h | h)
        · exact h hk.1
        · rw [hk.2] at h; cases h
      rw [if_neg n1, if_pos ⟨rfl, hu hp, hk⟩]
      rfl
    · have y1 : d.kind ≠ 13 ∨ p.haveIn = true := by
        by_cases h : d.kind = 13
        · refine .inr ?_
          rcases hh : p.haveIn with _ | _
          · exact absurd ⟨h, hh⟩ hk
          · rfl
        · exact .inl h
      rw [if_pos y1, if_neg (fun h : false = false ∧ p.method = 2 ∧ d.kind = 13 ∧ p.haveIn = false => hk h.2.2)]
      rfl
  · rw [if_pos rfl]
    have hm : ¬ p.method = 2 := by
      intro h
      rw [h] at hp
      exact absurd hp (by decide)
    by_cases h3 : d.kind = 3 ∧ p.have_ = false
    · rw [sT p d now h3.1 h3.2, if_pos ⟨rfl, rfl, h3⟩]; rfl
    · rw [vZ p d now h3, if_neg (fun h : false = false ∧ true = true ∧ d.kind = 3 ∧ p.have_ = false => h3 h.2.2), if_neg (fun h : false = false ∧ p.method = 2 ∧ _ => hm h.2.1)]
      rfl
theorem vF (s : Sd) (d : Sec) (hk : d.kind = 13) : dD (pY (s.checks d)) = eI s.was (dD s.accept) d.value s.now := by
  unfold Sd.checks eI
  rw [if_neg (show ¬ d.kind ≠ 13 from fun h => h hk)]
  have ho : s.otherCheck = eU (dD s.accept).p := rfl
  rw [ho]
  by_cases hv : d.value ≠ eU (dD s.accept).p
  · rw [if_pos hv, if_pos hv]; rfl
  rw [if_neg hv, if_neg hv, mJ]
  have hf : s.first = aP (dD s.accept).p := gX rfl
  rw [hf]
  unfold Sd.ltk byR
  rw [hf]
  rcases aP (dD s.accept).p with _ | _
  · rfl
  · rfl
theorem JU (p : Pr) (d : Sec) (now : Int) : dD (pY ((aH p now).keys d)) = eD p d now := by
  unfold Sd.keys eD
  have hf : (aH p now).first = aP p := gX rfl
  have e1 : (aH p now).p.crypt = p.crypt := rfl
  have hd : (aH p now).dist = cU p := by
    unfold Sd.dist cU byR
    rw [hf]
    rcases aP p with _ | _ <;> rfl
  rw [e1, hd, hf]
  by_cases h : d.kind ≠ 8 ∨ p.crypt = false ∨ (cU p).2 = false
  · rw [if_pos h, if_pos h]; rfl
  rw [if_neg h, if_neg h, mJ]
  have hi : ∀ t : Sd, t.p.cfg = p.cfg → t.p.req = p.req → t.p.res = p.res → t.identity = (if (cU p).1 = true then t.send { cL with kind := 8, idn := t.p.cfg.idn } else t) := by
    intro t h1 h2 h3
    unfold Sd.identity
    have : t.dist = cU p := by
      unfold Sd.dist cU byR
      rw [gX h1, h2, h3]
      rcases aP p with _ | _ <;> rfl
    rw [this]
  rcases hr : aP p with _ | _
  · rw [if_neg Bool.false_ne_true]
    unfold iL
    rw [if_neg (by simp)]
    rfl
  · rw [if_pos rfl]
    unfold iL
    rw [hi _ rfl rfl rfl]
    rcases (cU p).1 with _ | _ <;> rfl
theorem JX (p : Pr) (d : Sec) (now : Int) : dD (pY ((aH p now).auth d)) = (if p.method = 6 then fP p d now else if aU p.method = true then dI p d now else dU p d now) := by
  unfold Sd.auth
  have hm : (aH p now).p.method = p.method := rfl
  have hpp : (aH p now).pass = aU p.method := rfl
  have hf : (aH p now).first = aP p := gX rfl
  rw [hm, hpp, hf]
  by_cases h6 : p.method = 6
  · rw [if_pos h6, if_pos h6]; exact BO p d now
  rw [if_neg h6, if_neg h6]
  rcases hp : aU p.method with _ | _
  · rw [if_neg Bool.false_ne_true, if_neg Bool.false_ne_true]
    by_cases h0 : p.cfg.role = 0
    · rw [iJ h0, if_pos rfl]; exact vY p d now h0
    · rw [rG h0, if_neg Bool.false_ne_true]; exact xU p d now h0
  · rw [if_pos rfl, if_pos rfl]; exact xM p d now
theorem kH (p : Pr) (d : Sec) (now : Int) (hi : Inv p) : bU p d now = yC (bN p d now) := by
  unfold bU bE bN
  have e0 : (aH p now).p.phase = p.phase := rfl
  have hf : (aH p now).first = aP p := gX rfl
  rw [e0, hf]
  have hph := hi.ph
  by_cases h7 : p.phase = 7 ∨ p.phase = 8
  · rw [if_pos (show p.phase < 0 ∨ 6 < p.phase by omega), if_pos h7]; rfl
  rw [if_neg (show ¬ (p.phase < 0 ∨ 6 < p.phase) by omega), if_neg h7]
  by_cases hs : gD d ≠ 0
  · rw [if_pos hs, if_pos hs]; rfl
  rw [if_neg hs, if_neg hs]
  by_cases h5 : d.kind = 5
  · rw [if_pos h5, if_neg (show ¬ d.kind ≠ 5 from fun h => h h5)]
    by_cases h0 : p.phase = 0
    · rw [if_neg (show ¬ p.phase ≠ 0 from fun h => h h0), if_pos h0]; rfl
    · rw [if_pos h0, if_neg h0]; rfl
  rw [if_neg h5, if_pos h5]
  by_cases hst : d.kind = 11 ∧ aP p = true ∧ p.phase = 0
  · rw [if_pos hst]
    unfold eO
    rw [if_pos hst.2.2, if_pos ⟨hst.2.1, hst.1⟩]; rfl
  rw [if_neg hst]
  show (pY ((aH p now).call d)).out = _
  rw [qX]
  congr 1
  unfold Sd.call eO
  rw [e0]
  by_cases h0 : p.phase = 0
  · rw [if_pos h0, if_pos h0, if_neg (fun h : aP p = true ∧ d.kind = 11 => hst ⟨h.2, h.1, h0⟩)]
    by_cases hr : aP p = false ∧ d.kind = 1
    · have hr1 : p.cfg.role = 1 := by
        rcases hi.role with h | h
        · rw [iJ h] at hr; cases hr.1
        · exact h
      rw [if_pos hr]
      have := JI p d now hr1 hr.2
      unfold pY
      rw [if_pos this.1]
      have h2 := this.2
      rw [qX] at h2
      unfold yC at h2
      injection h2 with a b
      injection b with b c
      cases hx : dD ((aH p now).idle d).1
      cases hy : dB p d now
      rw [hx, hy] at a b c
      dsimp only at a b c
      rw [a, b, c]
    · rw [if_neg hr]
      unfold Sd.idle
      rw [hf, if_pos (by
        by_cases hk : d.kind = 1
        · refine .inl ?_
          rcases hq : aP p with _ | _
          · exact absurd ⟨hq, hk⟩ hr
          · rfl
        · exact .inr hk)]
      rfl
  rw [if_neg h0, if_neg h0]
  by_cases h1 : p.phase = 1
  · rw [if_pos h1, if_pos h1]
    have hr0 := hi.one h1
    by_cases hk : d.kind = 2
    · rw [if_pos hk]
      have := yO p d now hr0 hk
      unfold pY
      rw [if_pos this.1]
      have h2 := this.2
      rw [qX] at h2
      unfold yC at h2
      injection h2 with a b
      injection b with b c
      cases hx : dD ((aH p now).features d).1
      cases hy : dB p d now
      rw [hx, hy] at a b c
      dsimp only at a b c
      rw [a, b, c]
    · rw [if_neg hk]
      unfold Sd.features
      rw [if_pos (.inr hk)]
      rfl
  rw [if_neg h1, if_neg h1]
  by_cases h2 : p.phase = 2
  · rw [if_pos h2, if_pos h2]
    by_cases hk : d.kind = 12
    · rw [if_pos hk]
      have := DW p d now hk
      unfold pY
      rw [if_pos this.1]
      exact this.2
    · rw [if_neg hk]
      unfold Sd.public_
      rw [if_pos hk]
      rfl
  rw [if_neg h2, if_neg h2]
  by_cases h3 : p.phase = 3
  · rw [if_pos h3, if_pos h3]; exact JX p d now
  rw [if_neg h3, if_neg h3]
  by_cases h4 : p.phase = 4
  · rw [if_pos h4, if_pos h4]; exact GL p d now (hi.user h4)
  rw [if_neg h4, if_neg h4]
  by_cases h55 : p.phase = 5
  · rw [if_pos h55, if_pos h55]
    by_cases hk : d.kind = 13
    · rw [if_pos hk]; exact vF (aH p now) d hk
    · rw [if_neg hk]
      unfold Sd.checks
      rw [if_pos hk]
      rfl
  rw [if_neg h55, if_neg h55, if_pos (show p.phase = 6 by omega)]
  exact JU p d now
theorem CH (p : Pr) (now : Int) (hi : Inv p) (hn : 0 ≤ now ∧ now ≤ 1099511627776) : kJ p now = mH p now := by
  unfold kJ mH
  by_cases h : p.phase = 0 ∨ p.phase = 7 ∨ p.phase = 8
  · rw [if_pos h, if_pos h]
  rw [if_neg h, if_neg h]
  by_cases h2 : p.since + 30000000 ≤ now
  · rw [if_pos h2, if_neg (by omega)]; rfl
  · rw [if_neg h2, if_pos (by omega)]
theorem oK (p : Pr) (answer now : Int) : fU p answer now = yC (bZ p answer now) := by
  unfold fU jP bZ
  have e0 : (aH p now).p.phase = p.phase := rfl
  have hpp : (aH p now).pass = aU p.method := rfl
  have hf : (aH p now).first = aP p := gX rfl
  have e1 : (aH p now).p.have_ = p.have_ := rfl
  have e2 : (aH p now).p.haveIn = p.haveIn := rfl
  have e3 : (aH p now).p.checkIn = p.checkIn := rfl
  rw [e0, hpp, hf, e1, e2, e3]
  by_cases h4 : p.phase ≠ 4
  · rw [if_pos h4, if_pos (.inl h4)]; rfl
  rw [if_neg h4]
  rcases hp : aU p.method with _ | _
  · rw [if_neg (fun h : false = true ∧ _ => by cases h.1), if_neg (fun h : false = true ∧ _ => by cases h.1), if_neg Bool.false_ne_true]
    by_cases hb : answer < -1 ∨ 999999 < answer
    · rw [if_neg (show ¬ (answer = 0 ∨ answer = -1) by omega), if_neg (show ¬ answer = 1 by omega), if_pos (show p.phase ≠ 4 ∨ answer < -1 ∨ 999999 < answer from .inr hb)]
      rfl
    have nb : ¬ (p.phase ≠ 4 ∨ answer < -1 ∨ 999999 < answer) := by rintro (h | h); exact h4 h; exact hb h
    rw [if_neg nb]
    dsimp only
    rw [if_neg Bool.false_ne_true]
    by_cases ha : answer = 0 ∨ answer = -1
    · rw [if_pos ha, if_neg (show ¬ 1 < answer by omega), if_pos (show answer < 1 by omega)]
      rfl
    rw [if_neg ha]
    by_cases h1 : answer = 1
    · rw [if_pos h1, if_neg (show ¬ 1 < answer by omega), if_neg (show ¬ answer < 1 by omega)]
      rcases hh : p.haveIn with _ | _
      · rw [if_neg Bool.false_ne_true, if_pos rfl]
        rw [qX, gR]
        rfl
      · rw [if_pos rfl, if_neg (by simp)]
        have key := gR ((aH p now).accept.setP { (aH p now).accept.p with agreed := true })
        generalize hT : ((aH p now).accept.setP { (aH p now).accept.p with agreed := true }).toChecks = T at *
        have hw : T.was = p ∧ T.now = now ∧ T.p.since = now := by
          rw [← hT]
          unfold Sd.toChecks
          split <;> exact ⟨rfl, rfl, rfl⟩
        have hs : dD T = cF { aC p now with p := { (aC p now).p with agreed := true } } := key
        have hc := vF (T.setP { T.p with checkIn := 0#64, haveIn := false }) { cL with kind := 13, value := p.checkIn } rfl
        have h2 : ((T.setP { T.p with checkIn := 0#64, haveIn := false }).checks { cL with kind := 13, value := p.checkIn }).2 = true := by
          unfold Sd.checks
          rw [if_neg (show ¬ (13 : Int) ≠ 13 from fun h => h rfl)]
          split <;> rfl
        unfold pY at hc
        rw [if_pos h2] at hc
        rw [qX, hc]
        have hwas : (T.setP { T.p with checkIn := 0#64, haveIn := false }).was = p := hw.1
        have hnow : (T.setP { T.p with checkIn := 0#64, haveIn := false }).now = now := hw.2.1
        rw [hwas, hnow, ← hs]
        have hacc : dD (T.setP { T.p with checkIn := 0#64, haveIn := false }).accept = ({ dD T with p := { (dD T).p with haveIn := false, checkIn := 0#64 } } : Stp) := by
          have h3 := hw.2.2
          have h4 := hw.2.1
          unfold Sd.accept Sd.setP dD
          dsimp only
          rw [h4, ← h3]
        rw [hacc]
    · rw [if_neg h1, if_pos (show 1 < answer by omega)]
      rfl
  · by_cases hm : answer = -1
    · rw [if_pos ⟨rfl, hm⟩, if_neg (show ¬ (p.phase ≠ 4 ∨ answer < -1 ∨ 999999 < answer) by rintro (h | h); exact h4 h; omega)]
      dsimp only
      rw [if_pos rfl, if_pos (show answer < 0 by omega)]
      rfl
    rw [if_neg (fun h : true = true ∧ answer = -1 => hm h.2)]
    by_cases hr : 0 ≤ answer ∧ answer < 1000000
    · rw [if_pos ⟨rfl, hr⟩, if_neg (show ¬ (p.phase ≠ 4 ∨ answer < -1 ∨ 999999 < answer) by rintro (h | h); exact h4 h; omega)]
      dsimp only
      rw [if_pos rfl, if_neg (show ¬ answer < 0 by omega)]
      by_cases hq : aP p = true ∨ p.have_ = true
      · rw [if_pos hq, if_pos hq, qX, lX]; rfl
      · rw [if_neg hq, if_neg hq]; rfl
    · rw [if_neg (fun h : true = true ∧ 0 ≤ answer ∧ answer < 1000000 => hr h.2), if_pos rfl, if_pos (show p.phase ≠ 4 ∨ answer < -1 ∨ 999999 < answer by omega)]
      rfl
theorem rI (p : Pr) (now : Int) : kD p now = yC (dX p now) := by
  unfold kD rZ dX
  have e0 : (aH p now).p.phase = p.phase := rfl
  have e1 : (aH p now).p.crypt = p.crypt := rfl
  have hf : (aH p now).first = aP p := gX rfl
  have hd : (aH p now).dist = cU p := by
    unfold Sd.dist cU byR
    rw [hf]
    rcases aP p with _ | _ <;> rfl
  rw [e0, e1, hd, hf]
  by_cases h : p.phase ≠ 6 ∨ p.crypt = true
  · rw [if_pos h, if_pos h]; rfl
  rw [if_neg h, if_neg h]
  have hi : ∀ t : Sd, t.p.cfg = p.cfg → t.p.req = p.req → t.p.res = p.res → t.identity = (if (cU p).1 = true then t.send { cL with kind := 8, idn := t.p.cfg.idn } else t) := by
    intro t h1 h2 h3
    unfold Sd.identity
    have : t.dist = cU p := by
      unfold Sd.dist cU byR
      rw [gX h1, h2, h3]
      rcases aP p with _ | _ <;> rfl
    rw [this]
  dsimp only
  rw [hi _ rfl rfl rfl]
  unfold iL
  rcases aP p with _ | _ <;> rcases (cU p).2 with _ | _ <;> rcases (cU p).1 with _ | _ <;> rfl
theorem I3 (c : Cfg) (h : (cP c).2 = 0) : Inv (cP c).1 := by
  unfold cP at h ⊢
  by_cases h1 : c.role ≠ 0 ∧ c.role ≠ 1
  · rw [if_pos h1] at h; exact absurd h (by decide)
  rw [if_neg h1] at h ⊢
  by_cases h2 : bO c.feat ≠ 0
  · rw [if_pos h2] at h; exact absurd h h2
  rw [if_neg h2] at h ⊢
  by_cases h3 : eW c.own ≠ 0
  · rw [if_pos h3] at h; exact absurd h h3
  rw [if_neg h3] at h ⊢
  by_cases h4 : eW c.peer ≠ 0
  · rw [if_pos h4] at h; exact absurd h h4
  rw [if_neg h4] at h ⊢
  by_cases h5 : c.secret.toNat < 1 ∨ 2147483645 < c.secret.toNat
  · rw [if_pos h5] at h; exact absurd h (by decide)
  rw [if_neg h5] at h ⊢
  by_cases h6 : fB (cJ c.secret) = false
  · rw [if_pos h6] at h; exact absurd h (by decide)
  rw [if_neg h6] at h ⊢
  by_cases h7 : c.feat.sid = true ∧ iA c.idn ≠ 0
  · rw [if_pos h7] at h; exact absurd h h7.2
  rw [if_neg h7]
  have done : ∀ q : Pr, q.cfg = c → q.phase = 0 → q.since = 0 → q.round = 0 → Inv q := fun q e1 e2 e3 e4 =>
    ⟨by rw [e1]; omega, by omega, by omega, fun h => by omega, fun h => by omega, fun h => by omega, by omega, fun h => by omega, fun h => by omega⟩
  exact done _ rfl rfl rfl rfl
theorem dM {p : Pr} {now : Int} (r : Int) (hi : Inv p) (hn : 0 ≤ now ∧ now ≤ 1099511627776) : Inv (cE p r now).p :=
  ⟨hi.role, by show (0 : Int) ≤ 8 ∧ (8 : Int) ≤ 8; decide, hn, fun h => absurd h (by show ¬ (8 : Int) = 1; decide), fun h => absurd h (by show ¬ (8 : Int) = 4; decide), fun h => absurd h (by show ¬ (8 : Int) = 3; decide), hi.round, fun h => absurd h (by show ¬ (8 : Int) ≤ 4; decide), fun _ h => absurd h (by show ¬ (8 : Int) ≤ 6; decide)⟩
theorem xC (i r : fQ) (h : cC i r = true) : 1 ≤ (bC i r).1 ∧ (bC i r).1 ≤ 6 := by
  unfold cC at h
  have hne : (bC i r).1 ≠ 0 := by
    intro h0
    rw [h0] at h
    simp at h
  unfold bC at hne ⊢
  split
  · rename_i hc; rw [if_pos hc] at hne; exact absurd rfl hne
  · split
    · exact ⟨by decide, by decide⟩
    · split
      · exact ⟨by decide, by decide⟩
      · dsimp only
        unfold nN
        repeat' split
        all_goals exact ⟨by decide, by decide⟩
theorem uM {p : Pr} {now : Int} (hi : Inv p) (hn : 0 ≤ now ∧ now ≤ 1099511627776) : Inv (bX p now).1 := by
  unfold bX
  by_cases h : p.cfg.role ≠ 0 ∨ p.phase ≠ 0
  · rw [if_pos h]; exact hi
  · rw [if_neg h]
    have h0 : p.cfg.role = 0 ∧ p.phase = 0 := by omega
    exact ⟨hi.role, by show (0 : Int) ≤ 1 ∧ (1 : Int) ≤ 8; decide, hn, fun _ => h0.1, fun h => absurd h (by show ¬ (1 : Int) = 4; decide), fun h => absurd h (by show ¬ (1 : Int) = 3; decide), hi.round, fun _ => hi.less (by omega), fun h => absurd h (by show ¬ (2 : Int) ≤ 1; decide)⟩
theorem IU {p : Pr} {now : Int} (hi : Inv p) (hn : 0 ≤ now ∧ now ≤ 1099511627776) : Inv (kJ p now).1 := by
  rw [CH p now hi hn]
  unfold mH
  split
  · exact hi
  · split
    · exact hi
    · exact dM _ hi hn
theorem DP {p : Pr} {now : Int} (hi : Inv p) (hn : 0 ≤ now ∧ now ≤ 1099511627776) : Inv (kD p now).1 := by
  rw [rI]
  unfold dX
  by_cases h : p.phase ≠ 6 ∨ p.crypt = true
  · rw [if_pos h]; exact hi
  rw [if_neg h]
  have h6 : p.phase = 6 := by
    by_cases hq : p.phase = 6
    · exact hq
    · exact absurd (.inl hq) h
  have done : ∀ q : Pr, q.cfg = p.cfg → q.phase = 7 → q.since = now → q.round = p.round → Inv q := fun q h1 h2 h3 h4 =>
    ⟨by rw [h1]; exact hi.role, by omega, by rw [h3]; exact hn, fun h => by omega, fun h => by omega, fun h => by omega, by rw [h4]; exact hi.round, fun h => by omega, fun _ h => by omega⟩
  have keep : ∀ q : Pr, q.cfg = p.cfg → q.phase = 6 → q.since = now → q.round = p.round → q.method = p.method → Inv q := fun q h1 h2 h3 h4 h5 =>
    ⟨by rw [h1]; exact hi.role, by omega, by rw [h3]; exact hn, fun h => by omega, fun h => by omega, fun h => by omega, by rw [h4]; exact hi.round, fun h => by omega, fun _ _ => by rw [h5]; exact hi.meth (by omega) (by omega)⟩
  dsimp only
  split
  · exact keep _ rfl h6 rfl rfl rfl
  · unfold iL
    split
    · split
      · exact keep _ rfl h6 rfl rfl rfl
      · exact keep _ rfl h6 rfl rfl rfl
    · split
      · exact done _ rfl rfl rfl rfl
      · exact done _ rfl rfl rfl rfl
theorem eM {p : Pr} {now : Int} (hi : Inv p) (hn : 0 ≤ now ∧ now ≤ 1099511627776) (q : Pr) (k : Int) (e1 : q.cfg = p.cfg) (e2 : q.phase = k) (e3 : q.since = now) (e5 : q.method = p.method) (hr : 0 ≤ q.round ∧ q.round ≤ 20)
    (hk : 3 ≤ k ∧ k ≤ 7) (hm : 1 ≤ p.method ∧ p.method ≤ 6) (hlow : k ≤ 4 → q.round < 20) (hu : k = 4 → aU p.method = false → p.method = 2) (hpass : k = 3 → aU p.method = true → 0 ≤ q.passkey) : Inv q :=
  ⟨by rw [e1]; exact hi.role, by omega, by rw [e3]; exact hn, fun h => by omega, fun h => by rw [e5]; exact hu (by omega), fun h => by rw [e5]; exact hpass (by omega), hr, fun h => hlow (by omega), fun _ _ => by rw [e5]; exact hm⟩
theorem pT {p : Pr} {now : Int} (d : Sec) (hi : Inv p) (hn : 0 ≤ now ∧ now ≤ 1099511627776) (hp : p.phase ≤ 1) : Inv (dB p d now).p := by
  have key : ∀ (q : Pr) (o : List Sec), q.cfg = p.cfg → q.since = now → q.round = p.round → Inv (if cC q.req q.res = false then cE p 3 now else (⟨{ q with method := (bC q.req q.res).1, phase := 2 }, o, []⟩ : Stp)).p := by
    intro q o e1 e2 e3
    by_cases he : cC q.req q.res = false
    · rw [if_pos he]; exact dM _ hi hn
    · rw [if_neg he]
      have hc := xC _ _ (by simpa using he)
      have hr := hi.round
      have hl := hi.less (by omega)
      exact ⟨by show q.cfg.role = 0 ∨ q.cfg.role = 1; rw [e1]; exact hi.role, by show (0 : Int) ≤ 2 ∧ (2 : Int) ≤ 8; decide, by show 0 ≤ q.since ∧ q.since ≤ _; rw [e2]; exact hn, fun h => absurd h (by show ¬ (2 : Int) = 1; decide), fun h => absurd h (by show ¬ (2 : Int) = 4; decide), fun h => absurd h (by show ¬ (2 : Int) = 3; decide), by show 0 ≤ q.round ∧ q.round ≤ _; rw [e3]; exact hr, fun _ => by show q.round < 20; rw [e3]; exact hl, fun _ _ => hc⟩
  unfold dB
  rcases aP p with _ | _
  · exact key _ _ rfl rfl rfl
  · exact key _ _ rfl rfl rfl
theorem BC {m : Int} (h : aU m = true) : 3 ≤ m ∧ m ≤ 5 := by
  unfold aU at h
  simp at h
  omega
theorem EZ {p : Pr} {now : Int} (hi : Inv p) (hn : 0 ≤ now ∧ now ≤ 1099511627776) (h2 : p.phase = 2) (s : Stp) (e1 : s.p.cfg = p.cfg) (e3 : s.p.since = now) (e4 : s.p.round = p.round) (e5 : s.p.method = p.method) : Inv (gS s).p := by
  have hm := hi.meth (by omega) (by omega)
  have hr := hi.round
  have hl := hi.less (by omega)
  unfold gS
  dsimp only
  split
  · rename_i h6
    rw [e5] at h6
    have hnp : aU p.method = true → False := fun h => by have := BC h; omega
    split
    · exact eM hi hn _ 3 e1 rfl e3 e5 (by show 0 ≤ s.p.round ∧ _; rw [e4]; exact hr) (by decide) hm (fun _ => by show s.p.round < 20; rw [e4]; exact hl) (fun h => by omega) (fun _ h => (hnp h).elim)
    · exact eM hi hn _ 3 e1 rfl e3 e5 (by show 0 ≤ s.p.round ∧ _; rw [e4]; exact hr) (by decide) hm (fun _ => by show s.p.round < 20; rw [e4]; exact hl) (fun h => by omega) (fun _ h => (hnp h).elim)
  · split
    · rename_i hp
      rw [e5] at hp
      have hnp : aU p.method = true → False := fun h => by rw [hp] at h; cases h
      split
      · exact eM hi hn _ 3 e1 rfl e3 e5 (by show 0 ≤ s.p.round ∧ _; rw [e4]; exact hr) (by decide) hm (fun _ => by show s.p.round < 20; rw [e4]; exact hl) (fun h => by omega) (fun _ h => (hnp h).elim)
      · exact eM hi hn _ 3 e1 rfl e3 e5 (by show 0 ≤ s.p.round ∧ _; rw [e4]; exact hr) (by decide) hm (fun _ => by show s.p.round < 20; rw [e4]; exact hl) (fun h => by omega) (fun _ h => (hnp h).elim)
    · rename_i hp
      rw [e5] at hp
      split
      · exact eM hi hn _ 4 e1 rfl e3 e5 (by show 0 ≤ s.p.round ∧ _; rw [e4]; exact hr) (by decide) hm (fun _ => by show s.p.round < 20; rw [e4]; exact hl) (fun _ h => absurd h hp) (fun h => by omega)
      · split
        · exact eM hi hn _ 3 e1 rfl e3 e5 (by show 0 ≤ s.p.round ∧ _; rw [e4]; exact hr) (by decide) hm (fun _ => by show s.p.round < 20; rw [e4]; exact hl) (fun h => by omega) (fun _ _ => Int.natCast_nonneg _)
        · exact eM hi hn _ 3 e1 rfl e3 e5 (by show 0 ≤ s.p.round ∧ _; rw [e4]; exact hr) (by decide) hm (fun _ => by show s.p.round < 20; rw [e4]; exact hl) (fun h => by omega) (fun _ _ => Int.natCast_nonneg _)
theorem AW {p : Pr} {now : Int} (d : Sec) (hi : Inv p) (hn : 0 ≤ now ∧ now ≤ 1099511627776) (h2 : p.phase = 2) : Inv (fK p d now).p := by
  unfold fK
  split
  · exact dM _ hi hn
  · split
    · exact dM _ hi hn
    · exact EZ hi hn h2 _ rfl rfl rfl rfl
theorem lR {p : Pr} {now : Int} (hi : Inv p) (hn : 0 ≤ now ∧ now ≤ 1099511627776) (hm : 1 ≤ p.method ∧ p.method ≤ 6) (q : Pr) (k : Int) (e1 : q.cfg = p.cfg) (e2 : q.phase = k) (e3 : q.since = now) (e5 : q.method = p.method) (hr : 0 ≤ q.round ∧ q.round ≤ 20) (hk : 5 ≤ k ∧ k ≤ 7) : Inv q :=
  eM hi hn q k e1 e2 e3 e5 hr (by omega) hm (fun h => by omega) (fun h => by omega) (fun h => by omega)
theorem iM {p : Pr} {now : Int} (hi : Inv p) (hn : 0 ≤ now ∧ now ≤ 1099511627776) (hm : 1 ≤ p.method ∧ p.method ≤ 6) (s : Stp) (e1 : s.p.cfg = p.cfg) (e3 : s.p.since = now) (e5 : s.p.method = p.method) (hr : 0 ≤ s.p.round ∧ s.p.round ≤ 20) : Inv (cF s).p := by
  unfold cF
  dsimp only
  split
  · exact lR hi hn hm _ 5 e1 rfl e3 e5 hr (by decide)
  · exact lR hi hn hm _ 5 e1 rfl e3 e5 hr (by decide)
theorem vL {p : Pr} {now : Int} (hi : Inv p) (hn : 0 ≤ now ∧ now ≤ 1099511627776) (hm : 1 ≤ p.method ∧ p.method ≤ 6) (h3 : p.phase = 3) (h6 : ¬ p.method = 6) (hp : ¬ aU p.method = true) (s : Stp) (e1 : s.p.cfg = p.cfg) (e3 : s.p.since = now) (e4 : s.p.round = p.round) (e5 : s.p.method = p.method) : Inv (iO s).p := by
  have hr := hi.round
  have hl := hi.less (by omega)
  unfold iO
  split
  · exact iM hi hn hm s e1 e3 e5 (by rw [e4]; exact hr)
  · rename_i h1
    rw [e5] at h1
    have h2 : p.method = 2 := by
      have : ¬ (p.method = 3 ∨ p.method = 4 ∨ p.method = 5) := by
        rintro (h | h | h) <;> exact hp (by rw [h]; rfl)
      omega
    dsimp only
    split
    · exact eM hi hn _ 4 e1 rfl e3 e5 (by show 0 ≤ s.p.round ∧ _; rw [e4]; exact hr) (by decide) hm (fun _ => by show s.p.round < 20; rw [e4]; exact hl) (fun _ _ => h2) (fun h => by omega)
    · exact eM hi hn _ 4 e1 rfl e3 e5 (by show 0 ≤ s.p.round ∧ _; rw [e4]; exact hr) (by decide) hm (fun _ => by show s.p.round < 20; rw [e4]; exact hl) (fun _ _ => h2) (fun h => by omega)
theorem qZ {p : Pr} {now : Int} (hi : Inv p) (hn : 0 ≤ now ∧ now ≤ 1099511627776) (h3 : p.phase = 3) (q : Pr) (e1 : q.cfg = p.cfg) (e2 : q.phase = p.phase) (e3 : q.since = now) (e4 : q.round = p.round) (e5 : q.method = p.method) (e6 : q.passkey = p.passkey) : Inv q := by
  have hm := hi.meth (by omega) (by omega)
  have hr := hi.round
  have hl := hi.less (by omega)
  exact eM hi hn q 3 e1 (by rw [e2]; exact h3) e3 e5 (by rw [e4]; exact hr) (by decide) hm (fun _ => by rw [e4]; exact hl) (fun h => by omega) (fun _ h => by rw [e6]; exact hi.pass h3 h)
theorem CP {p : Pr} {now : Int} (d : Sec) (hi : Inv p) (hn : 0 ≤ now ∧ now ≤ 1099511627776) (h3 : p.phase = 3) (h6 : ¬ p.method = 6) (hp : ¬ aU p.method = true) : Inv (dU p d now).p := by
  have hm := hi.meth (by omega) (by omega)
  unfold dU
  dsimp only
  split
  · exact vL hi hn hm h3 h6 hp _ rfl rfl rfl rfl
  · split
    · exact qZ hi hn h3 _ rfl rfl rfl rfl rfl rfl
    · split
      · split
        · exact dM _ hi hn
        · exact vL hi hn hm h3 h6 hp _ rfl rfl rfl rfl
      · exact dM _ hi hn
theorem yY {p : Pr} {now : Int} (d : Sec) (hi : Inv p) (hn : 0 ≤ now ∧ now ≤ 1099511627776) (h3 : p.phase = 3) : Inv (fP p d now).p := by
  have hm := hi.meth (by omega) (by omega)
  unfold fP
  split
  · exact dM _ hi hn
  · dsimp only
    split
    · exact iM hi hn hm _ rfl rfl rfl hi.round
    · exact iM hi hn hm _ rfl rfl rfl hi.round
theorem CT {p : Pr} {now : Int} (d : Sec) (hi : Inv p) (hn : 0 ≤ now ∧ now ≤ 1099511627776) (h3 : p.phase = 3) : Inv (dI p d now).p := by
  have hm := hi.meth (by omega) (by omega)
  have hr := hi.round
  have hl := hi.less (by omega)
  unfold dI
  dsimp only
  split
  · split
    · exact qZ hi hn h3 _ rfl rfl rfl rfl rfl rfl
    · exact qZ hi hn h3 _ rfl rfl rfl rfl rfl rfl
  · split
    · exact dM _ hi hn
    · split
      · exact dM _ hi hn
      · have hr1 : 0 ≤ p.round + 1 ∧ p.round + 1 ≤ 20 := by omega
        have stay : ∀ q : Pr, q.cfg = p.cfg → q.phase = p.phase → q.since = now → q.round = p.round + 1 → q.method = p.method → q.passkey = p.passkey → ¬ p.round + 1 = 20 → Inv q := fun q e1 e2 e3 e4 e5 e6 h20 =>
          eM hi hn q 3 e1 (by rw [e2]; exact h3) e3 e5 (by rw [e4]; exact hr1) (by decide) hm (fun _ => by rw [e4]; omega) (fun h => by omega) (fun _ h => by rw [e6]; exact hi.pass h3 h)
        rcases aP p with _ | _
        · by_cases h20 : p.round + 1 = 20
          · exact (if_pos (c := p.round + 1 = 20) h20).symm ▸ iM hi hn hm _ rfl rfl rfl hr1
          · exact (if_neg (c := p.round + 1 = 20) h20).symm ▸ stay _ rfl rfl rfl rfl rfl rfl h20
        · by_cases h20 : p.round + 1 = 20
          · exact (if_pos (c := p.round + 1 = 20) h20).symm ▸ iM hi hn hm _ rfl rfl rfl hr1
          · exact (if_neg (c := p.round + 1 = 20) h20).symm ▸ stay _ rfl rfl rfl rfl rfl rfl h20
theorem zD {p : Pr} {now : Int} (d : Sec) (hi : Inv p) (hn : 0 ≤ now ∧ now ≤ 1099511627776) (h4 : p.phase = 4) : Inv (cW p d now).p := by
  have hm := hi.meth (by omega) (by omega)
  have hr := hi.round
  have hl := hi.less (by omega)
  have stay : ∀ q : Pr, q.cfg = p.cfg → q.phase = p.phase → q.since = now → q.round = p.round → q.method = p.method → Inv q := fun q e1 e2 e3 e4 e5 =>
    eM hi hn q 4 e1 (by rw [e2]; exact h4) e3 e5 (by rw [e4]; exact hr) (by decide) hm (fun _ => by rw [e4]; exact hl) (fun _ h => hi.user h4 h) (fun h => by omega)
  unfold cW
  dsimp only
  split
  · exact stay _ rfl rfl rfl rfl rfl
  · split
    · exact stay _ rfl rfl rfl rfl rfl
    · exact dM _ hi hn
theorem rT {p : Pr} {now : Int} (hi : Inv p) (hn : 0 ≤ now ∧ now ≤ 1099511627776) (hm : 1 ≤ p.method ∧ p.method ≤ 6) (s : Stp) (v : BitVec 64) (e1 : s.p.cfg = p.cfg) (e3 : s.p.since = now) (e4 : s.p.round = p.round) (e5 : s.p.method = p.method) : Inv (eI p s v now).p := by
  have hr := hi.round
  unfold eI
  split
  · exact dM _ hi hn
  · split
    · exact lR hi hn hm _ 6 e1 rfl e3 e5 (by show 0 ≤ s.p.round ∧ s.p.round ≤ 20; rw [e4]; exact hr) (by decide)
    · exact lR hi hn hm _ 6 e1 rfl e3 e5 (by show 0 ≤ s.p.round ∧ s.p.round ≤ 20; rw [e4]; exact hr) (by decide)
theorem xB {p : Pr} {now : Int} (d : Sec) (hi : Inv p) (hn : 0 ≤ now ∧ now ≤ 1099511627776) (h6 : p.phase = 6) : Inv (eD p d now).p := by
  have hm := hi.meth (by omega) (by omega)
  have hr := hi.round
  unfold eD
  split
  · exact dM _ hi hn
  · unfold iL
    split
    · exact lR hi hn hm _ 7 rfl rfl rfl rfl hr (by decide)
    · exact lR hi hn hm _ 7 rfl rfl rfl rfl hr (by decide)
theorem sK {p : Pr} {now : Int} (d : Sec) (hi : Inv p) (hn : 0 ≤ now ∧ now ≤ 1099511627776) : Inv (bU p d now).1 := by
  rw [kH p d now hi]
  show Inv (bN p d now).p
  have hph := hi.ph
  unfold bN
  split
  · exact hi
  · split
    · exact dM _ hi hn
    · split
      · unfold eO
        by_cases h0 : p.phase = 0
        · rw [if_pos h0]
          split
          · exact hi
          · split
            · exact pT d hi hn (by omega)
            · exact dM _ hi hn
        rw [if_neg h0]
        by_cases h1 : p.phase = 1
        · rw [if_pos h1]
          split
          · exact pT d hi hn (by omega)
          · exact dM _ hi hn
        rw [if_neg h1]
        by_cases h2 : p.phase = 2
        · rw [if_pos h2]
          split
          · exact AW d hi hn h2
          · exact dM _ hi hn
        rw [if_neg h2]
        by_cases h3 : p.phase = 3
        · rw [if_pos h3]
          split
          · exact yY d hi hn h3
          · rename_i h6
            split
            · exact CT d hi hn h3
            · rename_i hp
              exact CP d hi hn h3 h6 hp
        rw [if_neg h3]
        by_cases h4 : p.phase = 4
        · rw [if_pos h4]; exact zD d hi hn h4
        rw [if_neg h4]
        by_cases h5 : p.phase = 5
        · rw [if_pos h5]
          split
          · exact rT hi hn (hi.meth (by omega) (by omega)) _ _ rfl rfl rfl rfl
          · exact dM _ hi hn
        rw [if_neg h5]
        by_cases h6 : p.phase = 6
        · rw [if_pos h6]; exact xB d hi hn h6
        · rw [if_neg h6]; exact dM _ hi hn
      · split
        · exact hi
        · exact dM _ hi hn
theorem AB {p : Pr} {now : Int} (answer : Int) (hi : Inv p) (hn : 0 ≤ now ∧ now ≤ 1099511627776) : Inv (fU p answer now).1 := by
  rw [oK]
  show Inv (bZ p answer now).p
  unfold bZ
  split
  · exact hi
  · rename_i hc
    have h4 : p.phase = 4 := by
      by_cases h : p.phase = 4
      · exact h
      · exact absurd (.inl h) hc
    have hm := hi.meth (by omega) (by omega)
    have hr := hi.round
    have hl := hi.less (by omega)
    dsimp only
    split
    · split
      · exact dM _ hi hn
      · rename_i ha
        have back : ∀ q : Pr, q.cfg = p.cfg → q.phase = 3 → q.since = now → q.round = p.round → q.method = p.method → q.passkey = answer → Inv q := fun q e1 e2 e3 e4 e5 e6 =>
          eM hi hn q 3 e1 e2 e3 e5 (by rw [e4]; exact hr) (by decide) hm (fun _ => by rw [e4]; exact hl) (fun h => by omega) (fun _ _ => by rw [e6]; omega)
        split
        · exact back _ rfl rfl rfl rfl rfl rfl
        · exact back _ rfl rfl rfl rfl rfl rfl
    · split
      · exact hi
      · split
        · exact dM _ hi hn
        · split
          · exact iM hi hn hm _ rfl rfl rfl hr
          · have hf : ∀ s : Stp, (cF s).p.cfg = s.p.cfg ∧ (cF s).p.since = s.p.since ∧ (cF s).p.round = s.p.round ∧ (cF s).p.method = s.p.method := by
              intro s
              unfold cF
              dsimp only
              split <;> exact ⟨rfl, rfl, rfl, rfl⟩
            have hq := hf { aC p now with p := { (aC p now).p with agreed := true } }
            exact rT hi hn hm _ _ hq.1 hq.2.1 hq.2.2.1 hq.2.2.2
structure Chg where
  at_ : Int
  pub : BitVec 32
  value : BitVec 64
structure Tk where
  s0 : Pr
  s1 : Pr
  ok : Bool
  n0 : Int
  n1 : Int
  a0 : Bool
  a1 : Bool
  h0 : Bool
  h1 : Bool
  g0 : List Evt
  g1 : List Evt
  sent : Int
  line : List (Bool × Sec)
def tk0 : Tk := ⟨pr0, pr0, false, 0, 0, false, false, false, false, [], [], 0, []⟩
def Tk.side (x : Tk) (b : Bool) : Pr := if b then x.s1 else x.s0
def Tk.setSide (x : Tk) (b : Bool) (p : Pr) : Tk := if b then { x with s1 := p } else { x with s0 := p }
def K2 (n : Int) (d : Sec) (c : Chg) : Sec :=
  let d1 : Sec := if c.at_ = n ∧ d.kind = 12 then { d with pub := c.pub } else d
  if c.at_ = n ∧ (d1.kind = 3 ∨ d1.kind = 4) then { d1 with value := c.value } else d1
def chg (l : List Chg) (n : Int) (d : Sec) : Sec := l.foldl (K2 n) d
def kP (l : List Chg) (b : Bool) (x : Tk) (d : Sec) : Tk := { x with sent := x.sent + 1, line := x.line ++ [(!b, chg l x.sent d)] }
def cH (b : Bool) (x : Tk) (e : Evt) : Tk :=
  if e.kind = 1 then (if b then { x with h1 := true, n1 := e.number } else { x with h0 := true, n0 := e.number })
  else if e.kind = 2 then (if b then { x with a1 := true } else { x with a0 := true })
  else (if b then { x with g1 := x.g1 ++ [e] } else { x with g0 := x.g0 ++ [e] })
def cZ (x : Tk) (b : Bool) (p : Pr) (out : List Sec) (ev : List Evt) (l : List Chg) : Tk := ev.foldl (cH b) (out.foldl (kP l b) (x.setSide b p))
def Tk.answer (x : Tk) (b : Bool) (common : Int) : Int :=
  if (x.side b).method ≠ 2 then (if b then (if x.h0 then x.n0 else common) else (if x.h1 then x.n1 else common))
  else if x.h0 = true ∧ x.h1 = true ∧ x.n0 = x.n1 then 1 else 0
def iB (l : List Chg) (common n : Int) (b : Bool) (x : Tk) : Tk :=
  if (x.side b).phase = 4 then cZ x b (fU (x.side b) (x.answer b common) n).1 (fU (x.side b) (x.answer b common) n).2.1 (fU (x.side b) (x.answer b common) n).2.2 l else x
def IW (l : List Chg) (n : Int) (b : Bool) (x : Tk) : Tk := cZ x b (kD (x.side b) n).1 (kD (x.side b) n).2.1 (kD (x.side b) n).2.2 l
def iF (l : List Chg) (common n : Int) (x : Tk) : Option Tk :=
  match x.line with
  | (b, d) :: rest =>
    let y : Tk := { x with line := rest }
    some (cZ y b (bU (y.side b) d n).1 (bU (y.side b) d n).2.1 (bU (y.side b) d n).2.2 l)
  | [] =>
    if x.s0.phase = 4 ∨ (iB l common n false x).s1.phase = 4 then some (iB l common n true (iB l common n false x))
    else if x.s0.phase = 6 ∧ x.s1.phase = 6 then some (IW l n true (IW l n false x))
    else none
def pI (l : List Chg) (common : Int) : Nat → Int → Tk → Tk
  | 0, _, x => x
  | k + 1, n, x => match iF l common n x with
    | some y => pI l common k (n + 1) y
    | none => x
def iU (a b : Cfg) (l : List Chg) (common : Int) : Tk :=
  if (cP a).2 ≠ 0 ∨ (cP b).2 ≠ 0 ∨ a.role ≠ 0 ∨ b.role ≠ 1 then tk0
  else
    let x : Tk := { tk0 with ok := true, s1 := (cP b).1 }
    pI l common 400 0 (cZ x false (bX (cP a).1 0).1 (bX (cP a).1 0).2.1 [] l)
def Tk.done (x : Tk) (b : Bool) : Bool :=
  x.ok && (match (if b then x.g1 else x.g0) with
    | [e] => decide (e.kind = 3) && decide (e.key = (x.side b).ltk) && decide ((x.side b).phase = 7)
    | _ => false)
def Tk.keyed (x : Tk) (b : Bool) : Bool := x.ok && decide (6 ≤ (x.side b).phase) && decide ((x.side b).phase ≤ 7)
def lQ (role io : Int) : Cfg := ⟨role, ⟨io, false, false, false, true, true⟩, ⟨1, BitVec.ofInt 64 (10 + role)⟩, ⟨1, BitVec.ofInt 64 (11 - role)⟩, ⟨⟨1, BitVec.ofInt 64 (10 + role)⟩, 5#64⟩, BitVec.ofInt 32 (7 + role), BitVec.ofInt 64 (3 + role), 0#64, LW⟩
def JL (p : Pr) : BitVec 64 := if aP p then mS p.shared p.nonce p.other p.cfg.own p.cfg.peer else mS p.shared p.other p.nonce p.cfg.peer p.cfg.own
structure KY (p q : Pr) : Prop where
  ph : 5 ≤ q.phase
  sh : q.shared = p.shared
  no : q.nonce = p.nonce
  ot : q.other = p.other
  pk : q.passkey = p.passkey
structure Fct (p : Pr) (dk : Int) (dv : BitVec 64) (s : Stp) : Prop where
  cfg : s.p.cfg = p.cfg
  core : 5 ≤ p.phase → KY p s.p
  out : ∀ e ∈ s.out, e.kind = 13 → e.value = eJ s.p ∧ 5 ≤ s.p.phase
  hin : s.p.haveIn = true → (p.haveIn = true ∧ s.p.checkIn = p.checkIn) ∨ (dk = 13 ∧ s.p.checkIn = dv)
  key : 6 ≤ s.p.phase → s.p.phase ≤ 7 → (6 ≤ p.phase ∧ p.phase ≤ 7 ∧ s.p.ltk = p.ltk) ∨ (dk = 13 ∧ dv = eU s.p ∧ s.p.ltk = JL s.p)
  agr : s.p.agreed = p.agreed
  m2 : 5 ≤ s.p.phase → s.p.phase ≤ 7 → s.p.method = 2 → 5 ≤ p.phase
  shw : ∀ e ∈ s.ev, e.kind = 1 → (p.phase = 2 ∧ aU p.method = true ∧ s.p.phase = 3) ∨ (p.phase = 3 ∧ aU p.method = false ∧ s.p.phase = 4)
  up : (4 ≤ p.phase ∨ (p.phase = 3 ∧ aU p.method = true)) → (4 ≤ s.p.phase ∨ (s.p.phase = 3 ∧ aU s.p.method = true))
  meth : 2 ≤ p.phase → s.p.method = p.method ∧ s.p.peer = p.peer ∧ s.p.req = p.req ∧ s.p.res = p.res
structure Ufc (p : Pr) (ans : Int) (s : Stp) : Prop where
  cfg : s.p.cfg = p.cfg
  core : 5 ≤ p.phase → KY p s.p
  out : ∀ e ∈ s.out, e.kind = 13 → e.value = eJ s.p ∧ 5 ≤ s.p.phase
  hin : s.p.haveIn = true → (p.haveIn = true ∧ s.p.checkIn = p.checkIn)
  key : 6 ≤ s.p.phase → s.p.phase ≤ 7 → (6 ≤ p.phase ∧ p.phase ≤ 7 ∧ s.p.ltk = p.ltk) ∨ (p.haveIn = true ∧ p.checkIn = eU s.p ∧ s.p.ltk = JL s.p)
  agr : s.p.agreed = true → p.agreed = true ∨ (ans = 1 ∧ aU p.method = false)
  m2 : 5 ≤ s.p.phase → s.p.phase ≤ 7 → s.p.method = 2 → 5 ≤ p.phase ∨ s.p.agreed = true
  shw : ∀ e ∈ s.ev, e.kind ≠ 1
  up : (4 ≤ p.phase ∨ (p.phase = 3 ∧ aU p.method = true)) → (4 ≤ s.p.phase ∨ (s.p.phase = 3 ∧ aU s.p.method = true))
  meth : s.p.method = p.method ∧ s.p.peer = p.peer ∧ s.p.req = p.req ∧ s.p.res = p.res
def Tk.hh (x : Tk) (c : Bool) : Bool := if c then x.h1 else x.h0
def Tk.nn (x : Tk) (c : Bool) : Int := if c then x.n1 else x.n0
structure L4 (l : List Chg) (b : Bool) (out : List Sec) (x y : Tk) : Prop where
  sd : ∀ c, y.side c = x.side c
  ok : y.ok = x.ok
  hh : ∀ c, y.hh c = x.hh c
  nn : ∀ c, y.nn c = x.nn c
  line : ∀ e ∈ y.line, e ∈ x.line ∨ ∃ d ∈ out, ∃ n, e = (!b, chg l n d)
theorem L8 (l : List Chg) (b : Bool) : ∀ (out : List Sec) (x : Tk), L4 l b out x (out.foldl (kP l b) x) := by
  intro out
  induction out with
  | nil => intro x; exact ⟨fun _ => rfl, rfl, fun _ => rfl, fun _ => rfl, fun e h => .inl h⟩
  | cons d out ih =>
    intro x
    obtain ⟨i1, i2, i3, i4, i5⟩ := ih (kP l b x d)
    refine ⟨fun c => (i1 c).trans rfl, i2, fun c => (i3 c).trans rfl, fun c => (i4 c).trans rfl, fun e he => ?_⟩
    rcases i5 e he with h | ⟨d', hd, n, h⟩
    · rcases List.mem_append.mp h with h | h
      · exact .inl h
      · exact .inr ⟨d, List.mem_cons_self .., x.sent, List.mem_singleton.mp h⟩
    · exact .inr ⟨d', List.mem_cons_of_mem _ hd, n, h⟩
structure KA (b : Bool) (ev : List Evt) (x y : Tk) : Prop where
  sd : ∀ c, y.side c = x.side c
  ok : y.ok = x.ok
  line : y.line = x.line
  h : ∀ c, y.hh c = true → x.hh c = true ∨ (c = b ∧ ∃ e ∈ ev, e.kind = 1)
  n : ∀ c, (c = !b ∨ ∀ e ∈ ev, e.kind ≠ 1) → y.hh c = x.hh c ∧ y.nn c = x.nn c
theorem KZ (b : Bool) (x : Tk) (e : Evt) : KA b [e] x (cH b x e) := by
  unfold cH
  by_cases h1 : e.kind = 1
  · rw [if_pos h1]
    cases b
    · refine ⟨fun c => by cases c <;> rfl, rfl, rfl, fun c h => ?_, fun c h => ?_⟩
      · cases c
        · exact .inr ⟨rfl, e, List.mem_singleton.mpr rfl, h1⟩
        · exact .inl h
      · rcases h with h | h
        · subst h; exact ⟨rfl, rfl⟩
        · exact absurd h1 (h e (List.mem_singleton.mpr rfl))
    · refine ⟨fun c => by cases c <;> rfl, rfl, rfl, fun c h => ?_, fun c h => ?_⟩
      · cases c
        · exact .inl h
        · exact .inr ⟨rfl, e, List.mem_singleton.mpr rfl, h1⟩
      · rcases h with h | h
        · subst h; exact ⟨rfl, rfl⟩
        · exact absurd h1 (h e (List.mem_singleton.mpr rfl))
  · rw [if_neg h1]
    by_cases h2 : e.kind = 2
    · rw [if_pos h2]
      cases b
      · exact ⟨fun c => by cases c <;> rfl, rfl, rfl, fun c h => by cases c <;> exact .inl h, fun c _ => by cases c <;> exact ⟨rfl, rfl⟩⟩
      · exact ⟨fun c => by cases c <;> rfl, rfl, rfl, fun c h => by cases c <;> exact .inl h, fun c _ => by cases c <;> exact ⟨rfl, rfl⟩⟩
    · rw [if_neg h2]
      cases b
      · exact ⟨fun c => by cases c <;> rfl, rfl, rfl, fun c h => by cases c <;> exact .inl h, fun c _ => by cases c <;> exact ⟨rfl, rfl⟩⟩
      · exact ⟨fun c => by cases c <;> rfl, rfl, rfl, fun c h => by cases c <;> exact .inl h, fun c _ => by cases c <;> exact ⟨rfl, rfl⟩⟩
theorem LJ (b : Bool) : ∀ (ev : List Evt) (x : Tk), KA b ev x (ev.foldl (cH b) x) := by
  intro ev
  induction ev with
  | nil => intro x; exact ⟨fun _ => rfl, rfl, rfl, fun c h => .inl h, fun c _ => ⟨rfl, rfl⟩⟩
  | cons e ev ih =>
    intro x
    obtain ⟨i1, i2, i3, i4, i5⟩ := ih (cH b x e)
    obtain ⟨j1, j2, j3, j4, j5⟩ := KZ b x e
    refine ⟨fun c => (i1 c).trans (j1 c), i2.trans j2, i3.trans j3, fun c h => ?_, fun c h => ?_⟩
    · rcases i4 c h with h | ⟨h, e', he', h'⟩
      · rcases j4 c h with h | ⟨h, e', he', h'⟩
        · exact .inl h
        · exact .inr ⟨h, e', by rw [List.mem_singleton.mp he']; exact List.mem_cons_self .., h'⟩
      · exact .inr ⟨h, e', List.mem_cons_of_mem _ he', h'⟩
    · have ha := i5 c (h.imp_right fun h e' he' => h e' (List.mem_cons_of_mem _ he'))
      have hb := j5 c (h.imp_right fun h e' he' => h e' (by rw [List.mem_singleton.mp he']; exact List.mem_cons_self ..))
      exact ⟨ha.1.trans hb.1, ha.2.trans hb.2⟩
structure LL (l : List Chg) (b : Bool) (p : Pr) (out : List Sec) (ev : List Evt) (x y : Tk) : Prop where
  sb : y.side b = p
  so : y.side (!b) = x.side (!b)
  ok : y.ok = x.ok
  line : ∀ e ∈ y.line, e ∈ x.line ∨ ∃ d ∈ out, ∃ n, e = (!b, chg l n d)
  h : ∀ c, y.hh c = true → x.hh c = true ∨ (c = b ∧ ∃ e ∈ ev, e.kind = 1)
  n : ∀ c, (c = !b ∨ ∀ e ∈ ev, e.kind ≠ 1) → y.hh c = x.hh c ∧ y.nn c = x.nn c
theorem IM (x : Tk) (b : Bool) (p : Pr) : (x.setSide b p).side b = p ∧ (x.setSide b p).side (!b) = x.side (!b) ∧ (x.setSide b p).ok = x.ok ∧ (x.setSide b p).line = x.line ∧ (∀ c, (x.setSide b p).hh c = x.hh c) ∧ ∀ c, (x.setSide b p).nn c = x.nn c := by
  cases b <;> exact ⟨rfl, rfl, rfl, rfl, fun c => by cases c <;> rfl, fun c => by cases c <;> rfl⟩
theorem vH (l : List Chg) (b : Bool) (p : Pr) (out : List Sec) (ev : List Evt) (x : Tk) : LL l b p out ev x (cZ x b p out ev l) := by
  obtain ⟨k1, k2, k3, k4, k5, k6⟩ := IM x b p
  obtain ⟨i1, i2, i3, i4, i5⟩ := L8 l b out (x.setSide b p)
  obtain ⟨j1, j2, j3, j4, j5⟩ := LJ b ev (out.foldl (kP l b) (x.setSide b p))
  refine ⟨(j1 b).trans ((i1 b).trans k1), (j1 _).trans ((i1 _).trans k2), j2.trans (i2.trans k3), fun e he => ?_, fun c h => ?_, fun c h => ?_⟩
  · have he' : e ∈ (out.foldl (kP l b) (x.setSide b p)).line := by rw [← j3]; exact he
    have := i5 e he'
    rwa [k4] at this
  · rcases j4 c h with h | h
    · rw [i3, k5] at h; exact .inl h
    · exact .inr h
  · obtain ⟨h1, h2⟩ := j5 c h
    exact ⟨h1.trans ((i3 c).trans (k5 c)), h2.trans ((i4 c).trans (k6 c))⟩
def jS (l : List Chg) (b : Bool) (x : Tk) (s : Stp) : Tk := cZ x b s.p s.out s.ev l
def oU (x : Tk) : Prop := ∀ c, Inv (x.side c)
theorem qV {l : List Chg} {b : Bool} {x x' : Tk} {s : Stp} (hx : oU x) (e : ∀ c, x'.side c = x.side c) (hs : Inv s.p) : oU (jS l b x' s) := by
  intro c
  have hp := vH l b s.p s.out s.ev x'
  by_cases h : c = b
  · subst h; rw [show (jS l c x' s).side c = s.p from hp.sb]; exact hs
  · have h' : c = !b := by cases c <;> cases b <;> simp_all
    subst h'
    rw [show (jS l b x' s).side (!b) = x'.side (!b) from hp.so, e]; exact hx _
def aY (c : Cfg) : Pr := { pr0 with cfg := c, passkey := -1 }
def gW (c : Cfg) : Pr := { aY c with since := 0, req := c.feat, phase := 1 }
def nM (a b : Cfg) (l : List Chg) : Tk := cZ { tk0 with ok := true, s1 := aY b } false (gW a) [{ cL with kind := 1, feat := a.feat }] [] l
theorem oA (c : Cfg) (h : (cP c).2 = 0) : (cP c).1 = aY c := by
  unfold cP at h ⊢
  by_cases h1 : c.role ≠ 0 ∧ c.role ≠ 1
  · rw [if_pos h1] at h; exact absurd h (by simp)
  rw [if_neg h1] at h ⊢
  by_cases h2 : bO c.feat ≠ 0
  · rw [if_pos h2] at h; exact absurd h h2
  rw [if_neg h2] at h ⊢
  by_cases h3 : eW c.own ≠ 0
  · rw [if_pos h3] at h; exact absurd h h3
  rw [if_neg h3] at h ⊢
  by_cases h4 : eW c.peer ≠ 0
  · rw [if_pos h4] at h; exact absurd h h4
  rw [if_neg h4] at h ⊢
  by_cases h5 : c.secret.toNat < 1 ∨ 2147483645 < c.secret.toNat
  · rw [if_pos h5] at h; exact absurd h (by simp)
  rw [if_neg h5] at h ⊢
  by_cases h6 : fB (cJ c.secret) = false
  · rw [if_pos h6] at h; exact absurd h (by simp)
  rw [if_neg h6] at h ⊢
  by_cases h7 : c.feat.sid = true ∧ iA c.idn ≠ 0
  · rw [if_pos h7] at h; exact absurd h h7.2
  rw [if_neg h7]
  rfl
theorem BY (a b : Cfg) (l : List Chg) (common : Int) : iU a b l common = tk0 ∨ ((cP a).2 = 0 ∧ (cP b).2 = 0 ∧ a.role = 0 ∧ b.role = 1 ∧ iU a b l common = pI l common 400 0 (nM a b l)) := by
  unfold iU
  split
  · exact .inl rfl
  · rename_i h
    simp only [not_or, Decidable.not_not] at h
    obtain ⟨h1, h2, h3, h4⟩ := h
    refine .inr ⟨h1, h2, h3, h4, ?_⟩
    rw [oA a h1, oA b h2]
    have : bX (aY a) 0 = (gW a, [{ cL with kind := 1, feat := a.feat }], 0) := by
      unfold bX
      rw [if_neg]
      · rfl
      · rintro (h | h)
        · exact h h3
        · exact h rfl
    rw [this]
    rfl
theorem qS (c : Cfg) (h : (cP c).2 = 0) : Inv (aY c) := by
  rw [← oA c h]; exact I3 c h
theorem EK {a b : Cfg} (l : List Chg) (ha : (cP a).2 = 0) (hb : (cP b).2 = 0) (hr : a.role = 0) : oU (nM a b l) := by
  have hp := vH l false (gW a) [{ cL with kind := 1, feat := a.feat }] [] { tk0 with ok := true, s1 := aY b }
  have h1 : Inv (gW a) := by
    have := uM (now := 0) (qS a ha) (by omega)
    have e : bX (aY a) 0 = (gW a, [{ cL with kind := 1, feat := a.feat }], 0) := by
      unfold bX
      rw [if_neg]
      · rfl
      · rintro (h | h)
        · exact h hr
        · exact h rfl
    rwa [e] at this
  intro c
  cases c
  · rw [show (nM a b l).side false = _ from hp.sb]; exact h1
  · rw [show (nM a b l).side true = _ from hp.so]; exact qS b hb
structure JA (a b : Cfg) (x : Tk) : Prop where
  cf : ∀ c, (x.side c).cfg = if c then b else a
  line : ∀ e ∈ x.line, e.2.kind = 13 → e.2.value = eJ (x.side (!e.1)) ∧ 5 ≤ (x.side (!e.1)).phase
  kept : ∀ c, (x.side c).haveIn = true → (x.side c).checkIn = eJ (x.side (!c)) ∧ 5 ≤ (x.side (!c)).phase
  keyed : ∀ c, 6 ≤ (x.side c).phase → (x.side c).phase ≤ 7 → eU (x.side c) = eJ (x.side (!c)) ∧ 5 ≤ (x.side (!c)).phase ∧ (x.side c).ltk = JL (x.side c)
structure Gst (p : Pr) (V : BitVec 64 → Prop) (s : Stp) : Prop where
  cfg : s.p.cfg = p.cfg
  core : 5 ≤ p.phase → KY p s.p ∧ s.p.method = p.method ∧ s.p.peer = p.peer
  out : ∀ e ∈ s.out, e.kind = 13 → e.value = eJ s.p ∧ 5 ≤ s.p.phase
  hin : s.p.haveIn = true → V s.p.checkIn
  key : 6 ≤ s.p.phase → s.p.phase ≤ 7 → (6 ≤ p.phase ∧ p.phase ≤ 7 ∧ s.p.ltk = p.ltk) ∨ (V (eU s.p) ∧ s.p.ltk = JL s.p)
structure Ffc (p : Pr) (d : Sec) (s : Stp) : Prop where
  out1 : ∀ e ∈ s.out, e.kind ≠ 1
  out2 : ∀ e ∈ s.out, e.kind = 2 → e.feat = p.cfg.feat ∧ aP p = false
  low : p.phase ≤ 1 → (s.p.phase = p.phase ∧ s.p.req = p.req) ∨ s.p.phase = 8 ∨
    (s.p.phase = 2 ∧ cC s.p.req s.p.res = true ∧ s.p.method = (bC s.p.req s.p.res).1 ∧ s.p.peer = d.feat ∧
      ((aP p = true ∧ d.kind = 2 ∧ p.phase = 1 ∧ s.p.req = p.req ∧ s.p.res = d.feat) ∨ (aP p = false ∧ d.kind = 1 ∧ s.p.req = d.feat ∧ s.p.res = p.cfg.feat)))
  late : 2 ≤ p.phase → 2 ≤ s.p.phase
structure Gfc (p : Pr) (s : Stp) : Prop where
  out : ∀ e ∈ s.out, e.kind ≠ 1 ∧ e.kind ≠ 2
  low : p.phase ≤ 1 → s = ⟨p, [], []⟩
  late : 2 ≤ p.phase → 2 ≤ s.p.phase
structure JF (a b : Cfg) (x : Tk) : Prop where
  cf : ∀ c, (x.side c).cfg = if c then b else a
  l1 : ∀ e ∈ x.line, e.2.kind = 1 → e.2.feat = a.feat
  l2 : ∀ e ∈ x.line, e.2.kind = 2 → e.2.feat = b.feat
  one : ∀ c, (x.side c).phase = 1 → (x.side c).req = a.feat
  req : ∀ c, 2 ≤ (x.side c).phase → (x.side c).phase ≤ 7 → (x.side c).req = a.feat ∧ (x.side c).res = b.feat ∧ (x.side c).method = (bC a.feat b.feat).1 ∧ (x.side c).peer = (if c then a.feat else b.feat) ∧ cC a.feat b.feat = true
structure JC (x : Tk) : Prop where
  up : ∀ c, x.hh c = true → 4 ≤ (x.side c).phase ∨ ((x.side c).phase = 3 ∧ aU (x.side c).method = true)
  agr : ∀ c, (x.side c).agreed = true → x.h0 = true ∧ x.h1 = true ∧ x.n0 = x.n1
  key : ∀ c, 5 ≤ (x.side c).phase → (x.side c).phase ≤ 7 → (x.side c).method = 2 → (x.side c).agreed = true
def qL (b e i : Nat) : Nat := b ^ (e % 2 ^ i) % gp
def qU (b i : Nat) : Nat := b ^ 2 ^ i % gp
theorem uR (b e : Nat) : qL b e 0 = 1 := by
  unfold qL
  rw [Nat.pow_zero, Nat.mod_one, Nat.pow_zero]
  rfl
theorem vK (b : Nat) : qU b 0 = b % gp := by
  unfold qU
  rw [Nat.pow_zero, Nat.pow_one]
theorem oI (b i : Nat) : qU b (i + 1) = qU b i * qU b i % gp := by
  unfold qU
  rw [← Nat.mul_mod, ← Nat.pow_add, show 2 ^ i + 2 ^ i = 2 ^ (i + 1) by rw [Nat.pow_succ]; omega]
theorem yR (b e i : Nat) (h : e / 2 ^ i % 2 = 1) : qL b e (i + 1) = qL b e i * qU b i % gp := by
  unfold qL qU
  rw [← Nat.mul_mod, ← Nat.pow_add, Nat.mod_pow_succ, h, Nat.mul_one]
theorem uV (b e i : Nat) (h : ¬ e / 2 ^ i % 2 = 1) : qL b e (i + 1) = qL b e i := by
  unfold qL
  rw [Nat.mod_pow_succ, show e / 2 ^ i % 2 = 0 by omega, Nat.mul_zero, Nat.add_zero]
theorem yP (b e i : Nat) (h : e < 2 ^ i) : qL b e i = CW b e := by
  unfold qL CW
  rw [Nat.mod_eq_of_lt h]
theorem wH (b e i : Nat) : qL b e i < gp := Nat.mod_lt _ (by decide)
theorem mQ (b i : Nat) : qU b i < gp := Nat.mod_lt _ (by decide)
theorem DA (b e : Nat) : CW b e < gp := Nat.mod_lt _ (by decide)
structure Fx where
  c : Cfg
  m : Int
  f : fQ
  rq : fQ
  rs : fQ
  pk : BitVec 32
  sh : BitVec 32
structure Vx where
  ph : Int
  hv : Bool
  cm : BitVec 64
  no : BitVec 64
  ot : BitVec 64
  pw : Int
  rd : Int
  dr : Int
structure Sx (p : Pr) (F : Fx) (V : Vx) : Prop where
  cfg : p.cfg = F.c
  meth : p.method = F.m
  peer : p.peer = F.f
  req : p.req = F.rq
  res : p.res = F.rs
  pk : p.peerKey = F.pk
  sh : p.shared = F.sh
  hin : p.haveIn = false
  cry : p.crypt = false
  idn : p.idn = kE
  ph : p.phase = V.ph
  hv : p.have_ = V.hv
  cm : p.commit = V.cm
  no : p.nonce = V.no
  ot : p.other = V.ot
  pw : p.passkey = V.pw
  rd : p.round = V.rd
  dr : p.drawn = V.dr
section
variable {p : Pr} {F : Fx} {V : Vx}
def zK (pw rd : Int) : BitVec 8 := BitVec.ofInt 8 (128 + (pw / 2 ^ rd.toNat) % 2)
theorem Sx.z (h : Sx p F V) (hp : aU F.m = true) : gB p = zK V.pw V.rd := by
  unfold gB
  rw [h.meth, if_pos hp, h.pw, h.rd]
  rfl
def Vx.fresh (V : Vx) (F : Fx) : Vx := { V with no := eN F.c.seed V.dr, dr := F2 V.dr }
end
section
variable {p : Pr} {F : Fx} {V : Vx}
def FP (s : Stp) : Stp :=
  if s.p.method = 6 then (if aP s.p then dQ (cK s) 4 (cK s).p.nonce else s)
  else if aU s.p.method = false then (if aP s.p then s else fL s)
  else if eS s.p = false then eR { s with p := { s.p with phase := 4 } } 2 0
  else
    let t : Stp := { eX s with p := { (eX s).p with passkey := ((kW s % 1000000#64).toNat : Int) } }
    let u := eR t 1 t.p.passkey
    if aP u.p then fL u else u
theorem IZ (s : Stp) : gS s = FP ⟨{ s.p with phase := 3 }, s.out, s.ev⟩ := rfl
def Fx.key (F : Fx) (k : BitVec 32) : Fx := { F with pk := k, sh := dO F.c.secret k }
structure Kx (p : Pr) (F : Fx) (L : BitVec 64) (cr : Bool) (ph : Int) : Prop where
  cfg : p.cfg = F.c
  req : p.req = F.rq
  res : p.res = F.rs
  sh : p.shared = F.sh
  ltk : p.ltk = L
  cry : p.crypt = cr
  idn : p.idn = kE
  ph : p.phase = ph
end
def MA (x : Tk) : Prop := x.s0.phase = 8 ∨ x.s1.phase = 8
def Wn (l : List Chg) (common : Int) (bad : Prop) (E : Tk → Prop) (m : Nat) (x : Tk) : Prop :=
  oU x → ∀ (k : Nat) (n : Int), m ≤ k → 0 ≤ n → n + k ≤ 1099511627776 → (bad ∧ MA (pI l common k n x)) ∨ E (pI l common k n x)
section
variable {l : List Chg} {common : Int} {bad : Prop} {E : Tk → Prop}
theorem Wn.mono {m m' : Nat} {x : Tk} (h : Wn l common bad E m x) (hm : m ≤ m') : Wn l common bad E m' x := fun hi k n h1 h2 h3 => h hi k n (by omega) h2 h3
end
structure Vw where
  h0 : Bool
  h1 : Bool
  n0 : Int
  n1 : Int
  g0 : List Evt
  g1 : List Evt
structure At (x : Tk) (p0 p1 : Pr) (line : List (Bool × Sec)) (v : Vw) (k : Int) : Prop where
  s0 : x.s0 = p0
  s1 : x.s1 = p1
  line : x.line = line
  ok : x.ok = true
  h0 : x.h0 = v.h0
  h1 : x.h1 = v.h1
  n0 : x.n0 = v.n0
  n1 : x.n1 = v.n1
  g0 : x.g0 = v.g0
  g1 : x.g1 = v.g1
  sent : x.sent = k
end
section
open Go.ChangeShapes Go.WideShapes Go.ChangeAt Go.RowKit
theorem BP {w : World} {a : Addr} {u : Value} (h : w.cell? a = some u) : a.block < w.heap.size := by
  rcases Nat.lt_or_ge a.block w.heap.size with h1 | h1
  · exact h1
  · unfold World.cell? at h
    rw [Array.getElem?_eq_none h1] at h
    cases h
def jT (P : Program) (t : TypeId) (ls : List TypeId) : Prop :=
  P.cellsOf t = ls.length ∧ ∀ {H : Type} (enc : TypeId × Value → H) (w : World) (base : Nat) (sp : Nat → Bool) (held : Bool) (fuel : Nat) (cs : List Value) (x : DataW H × List MemPlace),
    DataW.trod enc P w base sp held fuel t cs = some x → cs.length = ls.length → ∀ (j : Nat) (l : TypeId) (c : Value), ls[j]? = some l → cs[j]? = some c → ∃ n y, DataW.trod enc P w base sp held n l [c] = some y
theorem dF {P : Program} {t : TypeId} (hc : P.cellsOf t = 1) : jT P t [t] := by
  refine ⟨hc, fun enc w base sp held fuel cs x h hl j l c h1 h2 => ?_⟩
  match cs, hl with
  | [c0], _ =>
    match j, h1, h2 with
    | 0, h1, h2 =>
      simp at h1 h2
      subst h1 h2
      exact ⟨fuel, x, h⟩
    | j + 1, h1, _ => simp at h1
def kL (P : Program) : Nat → List Field → List (List TypeId) → Prop
  | _, [], [] => True
  | off, f :: fs, ls :: lss => jT P f.type ls ∧ f.offset = off ∧ kL P (off + ls.length) fs lss
  | _, _, _ => False
theorem rQ {H : Type} {enc : TypeId × Value → H} {P : Program} {w : World} {base : Nat} {sp : Nat → Bool} {held : Bool} {n : Nat} {cs : List Value} :
    ∀ (fs : List Field) (lss : List (List TypeId)) (off : Nat), kL P off fs lss → off + lss.flatten.length ≤ cs.length →
      (∀ (a : Nat) (f : Field), fs[a]? = some f → ∃ y, DataW.trod enc P w base sp held n f.type ((cs.drop f.offset).take (P.cellsOf f.type)) = some y) →
      ∀ (j : Nat) (l : TypeId) (c : Value), lss.flatten[j]? = some l → cs[off + j]? = some c → ∃ m y, DataW.trod enc P w base sp held m l [c] = some y
  | [], [], _, _, _, _, j, l, c, h1, _ => by simp at h1
  | [], _ :: _, _, hf, _, _, _, _, _, _, _ => by simp [kL] at hf
  | _ :: _, [], _, hf, _, _, _, _, _, _, _ => by simp [kL] at hf
  | f :: fs, ls :: lss, off, hf, hlen, ht, j, l, c, h1, h2 => by
    obtain ⟨⟨hc, hl⟩, ho, hr⟩ := hf
    rw [List.flatten_cons] at h1
    rw [List.flatten_cons, List.length_append] at hlen
    by_cases hj : j < ls.length
    · rw [List.getElem?_append_left hj] at h1
      obtain ⟨y, hy⟩ := ht 0 f rfl
      rw [ho, hc] at hy
      have hsl : ((cs.drop off).take ls.length).length = ls.length := by rw [List.length_take, List.length_drop]; omega
      refine hl enc w base sp held n _ y hy hsl j l c h1 ?_
      rw [List.getElem?_take, if_pos hj, List.getElem?_drop]
      exact h2
    · rw [List.getElem?_append_right (by omega)] at h1
      refine rQ fs lss (off + ls.length) hr (by omega) (fun a f' h => ht (a + 1) f' h) (j - ls.length) l c h1 ?_
      rw [show off + ls.length + (j - ls.length) = off + j by omega]
      exact h2
theorem gQ {P : Program} {t : TypeId} {fs : Array Field} (lss : List (List TypeId)) (ht : P.underlying t = some (.struct fs)) (hc : P.cellsOf t = lss.flatten.length) (hf : kL P 0 fs.toList lss) : jT P t lss.flatten := by
  refine ⟨hc, fun enc w base sp held fuel cs x h hl j l c h1 h2 => ?_⟩
  obtain ⟨xs, n, _, _, _, hxl, hg⟩ := DataW.trod_struct ht h
  refine rQ (n := n) fs.toList lss 0 hf (by rw [hl]; omega) (fun a f h => ?_) j l c h1 (by rw [Nat.zero_add]; exact h2)
  have ha : fs[a]? = some f := by rw [← Array.getElem?_toList]; exact h
  have hlt : a < xs.length := by rw [hxl]; exact (Array.getElem?_eq_some_iff.1 ha).1
  exact ⟨xs[a], (hg a f ha).trans (List.getElem?_eq_getElem hlt)⟩
section
variable {H : Type} {enc : TypeId × Value → H} {P : Program} {w : World} {base n : Nat} {sp : Nat → Bool} {held : Bool} {l : TypeId} {c : Value} {y : DataW H × List MemPlace}
theorem fJ {k : IntKind} (ht : P.underlying l = some (.int k)) (h : DataW.trod enc P w base sp held n l [c] = some y) : ∃ a, c = .int k a ∧ (Lit.int k a).wf = true := by
  cases n with
  | zero => simp [DataW.trod] at h
  | succ n =>
    unfold DataW.trod at h
    rw [ht] at h
    cases c <;> simp at h
    rename_i k' a
    obtain ⟨⟨rfl, hw⟩, _⟩ := h
    exact ⟨a, rfl, hw⟩
theorem gK (ht : P.underlying l = some .bool) (h : DataW.trod enc P w base sp held n l [c] = some y) : ∃ b, c = .bool b := by
  cases n with
  | zero => simp [DataW.trod] at h
  | succ n =>
    unfold DataW.trod at h
    rw [ht] at h
    cases c <;> simp at h
    exact ⟨_, rfl⟩
theorem hJ (ht : P.underlying l = some (.int .u64)) (h : DataW.trod enc P w base sp held n l [c] = some y) : ∃ x : BitVec 64, c = .int .u64 (W64 x) := by
  obtain ⟨a, rfl, hw⟩ := fJ ht h
  obtain ⟨x, rfl⟩ := DR hw
  exact ⟨x, rfl⟩
theorem zE (ht : P.underlying l = some (.int .u32)) (h : DataW.trod enc P w base sp held n l [c] = some y) : ∃ x : BitVec 32, c = .int .u32 (W32 x) := by
  obtain ⟨a, rfl, hw⟩ := fJ ht h
  obtain ⟨x, rfl⟩ := DS hw
  exact ⟨x, rfl⟩
theorem KQ {t : TypeId} {ls : List TypeId} {v : Value} {d : DataW H} {p : List MemPlace} (hv : ∃ cs, v = .agg cs ∧ cs.size = P.cellsOf t) (hl : jT P t ls) (h : DataW.Trod enc P w base sp held t v d p) :
    ∃ cs : List Value, v = .agg cs.toArray ∧ cs.length = ls.length ∧ ∀ (j : Nat) (l : TypeId) (c : Value), ls[j]? = some l → cs[j]? = some c → ∃ n y, DataW.trod enc P w base sp held n l [c] = some y := by
  obtain ⟨cs, rfl, hs⟩ := hv
  obtain ⟨fuel, hf⟩ := h
  have hlen : cs.toList.length = ls.length := by rw [Array.length_toList, hs, hl.1]
  exact ⟨cs.toList, rfl, hlen, fun j l c h1 h2 => hl.2 enc w base sp held fuel _ _ hf hlen j l c h1 h2⟩
end
def vW : List TypeId := [3, 24]
theorem tS : jT Tryz.prog 26 vW := gQ (P := Tryz.prog) [[3], [24]] U26 (by kernel_rfl) ⟨dF (by kernel_rfl), rfl, dF (by kernel_rfl), rfl, trivial⟩
def wU : List TypeId := [3, 4, 4, 4, 4, 4]
theorem vG : jT Tryz.prog 23 wU := gQ (P := Tryz.prog) [[3], [4], [4], [4], [4], [4]] U23 (by kernel_rfl) ⟨dF (by kernel_rfl), rfl, dF (by kernel_rfl), rfl, dF (by kernel_rfl), rfl, dF (by kernel_rfl), rfl, dF (by kernel_rfl), rfl, dF (by kernel_rfl), rfl, trivial⟩
def sX : List TypeId := [3, 24, 27]
theorem sP : jT Tryz.prog 29 sX := gQ (P := Tryz.prog) [vW, [27]] U29 (by kernel_rfl) ⟨tS, rfl, dF (by kernel_rfl), rfl, trivial⟩
def sV : List TypeId := [24, 24]
theorem wB : jT Tryz.prog 32 sV := gQ (P := Tryz.prog) [[24], [24]] U32 (by kernel_rfl) ⟨dF (by kernel_rfl), rfl, dF (by kernel_rfl), rfl, trivial⟩
def IQ : List TypeId := [3, 3, 4, 4, 4, 4, 4, 3, 24, 3, 24, 3, 24, 27, 30, 24, 24, 24, 24]
theorem DT : jT Tryz.prog 34 IQ := gQ (P := Tryz.prog) [[3], wU, vW, vW, sX, [30], [24], [24], sV] U34 (by kernel_rfl) ⟨dF (by kernel_rfl), rfl, vG, rfl, tS, rfl, tS, rfl, sP, rfl, dF (by kernel_rfl), rfl, dF (by kernel_rfl), rfl, dF (by kernel_rfl), rfl, wB, rfl, trivial⟩
theorem J2 {H : Type} {enc : TypeId × Value → H} {W w : World} {r : Reach} {b0 base : Nat} {sp : Nat → Bool} {held : Bool} {v : Value} {d : DataW H} {p : List MemPlace} (hv : Value.okWide Tryz.prog W r b0 34 v) (h : DataW.Trod enc Tryz.prog w base sp held 34 v d p) :
    ∃ (role : Int) (feat_io : Int) (feat_oob : Bool) (feat_bond : Bool) (feat_mitm : Bool) (feat_sid : Bool) (feat_tid : Bool) (own_kind : Int) (own_bits : BitVec 64) (peer_kind : Int) (peer_bits : BitVec 64) (idn_adr_kind : Int) (idn_adr_bits : BitVec 64) (idn_irk : BitVec 64) (secret : BitVec 32) (seed : BitVec 64) (mine : BitVec 64) (oob_value : BitVec 64) (oob_random : BitVec 64), v = .agg #[.int .i64 role, .int .i64 feat_io, .bool feat_oob, .bool feat_bond, .bool feat_mitm, .bool feat_sid, .bool feat_tid, .int .i64 own_kind, .int .u64 (W64 own_bits), .int .i64 peer_kind, .int .u64 (W64 peer_bits), .int .i64 idn_adr_kind, .int .u64 (W64 idn_adr_bits), .int .u64 (W64 idn_irk), .int .u32 (W32 secret), .int .u64 (W64 seed), .int .u64 (W64 mine), .int .u64 (W64 oob_value), .int .u64 (W64 oob_random)] ∧ (Lit.int .i64 role).wf = true ∧ (Lit.int .i64 feat_io).wf = true ∧ (Lit.int .i64 own_kind).wf = true ∧ (Lit.int .i64 peer_kind).wf = true ∧ (Lit.int .i64 idn_adr_kind).wf = true := by
  obtain ⟨cs, rfl, hl, hg⟩ := KQ (okWide_struct U34 hv) DT h
  match cs, hl with
  | [c0, c1, c2, c3, c4, c5, c6, c7, c8, c9, c10, c11, c12, c13, c14, c15, c16, c17, c18], _ =>
    obtain ⟨n0, y0, h0⟩ := hg 0 _ _ rfl rfl
    obtain ⟨x0, rfl, w0⟩ := fJ (k := .i64) U3 h0
    obtain ⟨n1, y1, h1⟩ := hg 1 _ _ rfl rfl
    obtain ⟨x1, rfl, w1⟩ := fJ (k := .i64) U3 h1
    obtain ⟨n2, y2, h2⟩ := hg 2 _ _ rfl rfl
    obtain ⟨x2, rfl⟩ := gK U4 h2
    obtain ⟨n3, y3, h3⟩ := hg 3 _ _ rfl rfl
    obtain ⟨x3, rfl⟩ := gK U4 h3
    obtain ⟨n4, y4, h4⟩ := hg 4 _ _ rfl rfl
    obtain ⟨x4, rfl⟩ := gK U4 h4
    obtain ⟨n5, y5, h5⟩ := hg 5 _ _ rfl rfl
    obtain ⟨x5, rfl⟩ := gK U4 h5
    obtain ⟨n6, y6, h6⟩ := hg 6 _ _ rfl rfl
    obtain ⟨x6, rfl⟩ := gK U4 h6
    obtain ⟨n7, y7, h7⟩ := hg 7 _ _ rfl rfl
    obtain ⟨x7, rfl, w7⟩ := fJ (k := .i64) U3 h7
    obtain ⟨n8, y8, h8⟩ := hg 8 _ _ rfl rfl
    obtain ⟨x8, rfl⟩ := hJ U24 h8
    obtain ⟨n9, y9, h9⟩ := hg 9 _ _ rfl rfl
    obtain ⟨x9, rfl, w9⟩ := fJ (k := .i64) U3 h9
    obtain ⟨n10, y10, h10⟩ := hg 10 _ _ rfl rfl
    obtain ⟨x10, rfl⟩ := hJ U24 h10
    obtain ⟨n11, y11, h11⟩ := hg 11 _ _ rfl rfl
    obtain ⟨x11, rfl, w11⟩ := fJ (k := .i64) U3 h11
    obtain ⟨n12, y12, h12⟩ := hg 12 _ _ rfl rfl
    obtain ⟨x12, rfl⟩ := hJ U24 h12
    obtain ⟨n13, y13, h13⟩ := hg 13 _ _ rfl rfl
    obtain ⟨x13, rfl⟩ := hJ U27 h13
    obtain ⟨n14, y14, h14⟩ := hg 14 _ _ rfl rfl
    obtain ⟨x14, rfl⟩ := zE U30 h14
    obtain ⟨n15, y15, h15⟩ := hg 15 _ _ rfl rfl
    obtain ⟨x15, rfl⟩ := hJ U24 h15
    obtain ⟨n16, y16, h16⟩ := hg 16 _ _ rfl rfl
    obtain ⟨x16, rfl⟩ := hJ U24 h16
    obtain ⟨n17, y17, h17⟩ := hg 17 _ _ rfl rfl
    obtain ⟨x17, rfl⟩ := hJ U24 h17
    obtain ⟨n18, y18, h18⟩ := hg 18 _ _ rfl rfl
    obtain ⟨x18, rfl⟩ := hJ U24 h18
    exact ⟨x0, x1, x2, x3, x4, x5, x6, x7, x8, x9, x10, x11, x12, x13, x14, x15, x16, x17, x18, rfl, w0, w1, w7, w9, w11⟩
def vM : List TypeId := [3, 3, 4, 4, 4, 4, 4, 30, 24, 3, 24, 27, 3]
theorem xN : jT Tryz.prog 43 vM := gQ (P := Tryz.prog) [[3], wU, [30], [24], sX, [3]] U43 (by kernel_rfl) ⟨dF (by kernel_rfl), rfl, vG, rfl, dF (by kernel_rfl), rfl, dF (by kernel_rfl), rfl, sP, rfl, dF (by kernel_rfl), rfl, trivial⟩
def IN : List TypeId := [3, 3, 3, 4, 4, 4, 4, 4, 30, 24, 3, 24, 27, 3, 3, 3]
theorem FG : jT Tryz.prog 45 IN := gQ (P := Tryz.prog) [[3], vM, [3], [3]] U45 (by kernel_rfl) ⟨dF (by kernel_rfl), rfl, xN, rfl, dF (by kernel_rfl), rfl, dF (by kernel_rfl), rfl, trivial⟩
theorem DI {sz : Nat} {u : Value} : ∀ (css : List (List Value)) (j : Nat), (∀ cs ∈ css, cs.length = sz) → css.flatten[j]? = some u → ∃ i k cs, css[i]? = some cs ∧ j = i * sz + k ∧ cs[k]? = some u
  | [], j, _, h => by simp at h
  | c :: css, j, hl, h => by
    rw [List.flatten_cons] at h
    have hc := hl c (List.mem_cons_self ..)
    by_cases hj : j < c.length
    · rw [List.getElem?_append_left hj] at h
      exact ⟨0, j, c, rfl, by omega, h⟩
    · rw [List.getElem?_append_right (by omega)] at h
      obtain ⟨i, k, cs, h1, h2, h3⟩ := DI css (j - c.length) (fun cs hm => hl cs (List.mem_cons_of_mem _ hm)) h
      exact ⟨i + 1, k, cs, by simpa using h1, by rw [Nat.add_mul, Nat.one_mul]; omega, h3⟩
section
variable {H : Type} {enc : TypeId × Value → H} {P : Program} {w : World} {base : Nat} {sp : Nat → Bool} {held : Bool}
theorem CK {t e : TypeId} {ls : List TypeId} {a0 : Option Addr} {len0 cap0 : Nat} {d : DataW H} {ps : List MemPlace} (ht : P.underlying t = some (.slice e)) (he : jT P e ls)
    (h : DataW.Trod enc P w base sp held t (.slice a0 len0 cap0) d ps) : ∃ css : List (List Value), css.length = len0 ∧ len0 ≤ cap0 ∧ Rd w a0 css.flatten ∧
      ∀ cs ∈ css, cs.length = ls.length ∧ ∀ (j : Nat) (l : TypeId) (c : Value), ls[j]? = some l → cs[j]? = some c → ∃ n y, DataW.trod enc P w base sp held n l [c] = some y := by
  obtain ⟨fuel, hf⟩ := h
  have hf' : DataW.trod enc P w base sp held fuel t [.slice a0 len0 cap0] = some (d, ps) := hf
  rcases DataW.trod_slice ht hf' with ⟨hcs, _⟩ | ⟨a, len, cap, elems, rest, n, _, hcs, _, hb, hl, _, hel, hev, _, _⟩
  · have : Value.slice a0 len0 cap0 = .slice none 0 0 := by injection hcs
    injection this with h1 h2 h3
    subst h1 h2 h3
    exact ⟨[], rfl, Nat.le_refl _, Rd.nil _ _, fun cs hcs => by cases hcs⟩
  · have : Value.slice a0 len0 cap0 = .slice (some a) len cap := by injection hcs
    injection this with h1 h2 h3
    subst h1 h2 h3
    have hx : ∀ i : Nat, ∃ cs : List Value, i < len0 → w.cells? base (a.add (i * P.cellsOf e)) (P.cellsOf e) = some cs ∧ ∃ y, DataW.trod enc P w base sp held n e cs = some y := fun i => by
      by_cases hi : i < len0
      · have h1 := hev i hi
        rw [List.getElem?_eq_getElem (by omega)] at h1
        obtain ⟨cs, h2, h3⟩ := Option.bind_eq_some_iff.1 h1
        exact ⟨cs, fun _ => ⟨h2, _, h3⟩⟩
      · exact ⟨[], fun h => absurd h hi⟩
    obtain ⟨f, hfn⟩ := Classical.axiomOfChoice hx
    have hsz : ∀ i, i < len0 → (f i).length = ls.length ∧ ∀ k u, (f i)[k]? = some u → w.cell? (a.add (i * ls.length + k)) = some u := fun i hi => by
      obtain ⟨h2, _⟩ := hfn i hi
      rw [he.1] at h2
      obtain ⟨h3, h4, h5⟩ := World.cells?_some h2
      refine ⟨h4, fun k u hk => ?_⟩
      have hkl : k < ls.length := by
        rcases Nat.lt_or_ge k (f i).length with h | h
        · omega
        · rw [List.getElem?_eq_none h] at hk; cases hk
      have := h5 k hkl
      rw [F6] at this
      rw [this, hk]
    refine ⟨(List.range len0).map f, by simp, hl, fun j u hu => ?_, fun cs hm => ?_⟩
    · obtain ⟨i, k, cs, h1, h2, h3⟩ := DI (sz := ls.length) _ j (fun cs hm => by
        obtain ⟨i, hi, rfl⟩ := List.mem_map.1 hm
        exact (hsz i (List.mem_range.1 hi)).1) hu
      rw [List.getElem?_map] at h1
      have hi : i < len0 := by
        rcases Nat.lt_or_ge i len0 with h | h
        · exact h
        · rw [List.getElem?_eq_none (by simpa using h)] at h1; cases h1
      rw [List.getElem?_range hi] at h1
      have hcs : f i = cs := by simpa using h1
      subst hcs
      have hc := (hsz i hi).2 k u h3
      rw [← h2] at hc
      exact ⟨a, rfl, by have := BP hc; rwa [oD] at this, hc⟩
    · obtain ⟨i, hi, rfl⟩ := List.mem_map.1 hm
      have hi := List.mem_range.1 hi
      obtain ⟨_, y, hy⟩ := hfn i hi
      exact ⟨(hsz i hi).1, fun j l c h1 h2 => he.2 enc w base sp held n _ y hy (hsz i hi).1 j l c h1 h2⟩
theorem C6 {α : Type} (f : α → List Value) (Q : α → Prop) : ∀ (css : List (List Value)), (∀ cs ∈ css, ∃ r, cs = f r ∧ Q r) → ∃ rs : List α, css = rs.map f ∧ ∀ r ∈ rs, Q r
  | [], _ => ⟨[], rfl, fun r h => by cases h⟩
  | c :: css, h => by
    obtain ⟨r, rfl, hq⟩ := h c (List.mem_cons_self ..)
    obtain ⟨rs, rfl, hr⟩ := C6 f Q css fun cs hm => h cs (List.mem_cons_of_mem _ hm)
    exact ⟨r :: rs, rfl, fun x hx => by
      rcases List.mem_cons.1 hx with rfl | hx
      · exact hq
      · exact hr x hx⟩
theorem DU {α : Type} {f : α → List Value} {sz : Nat} {rs : List α} {A : Option Addr} (hf : ∀ r, (f r).length = sz) (h : Rd w A (rs.flatMap f)) (i : Nat) (hi : i < rs.length) (k : Nat) (u : Value) (hk : (f rs[i])[k]? = some u) :
    ∃ ad, A = some ad ∧ ad.block < w.heap.size ∧ w.cell? (ad.add (i * sz + k)) = some u := by
  refine h (i * sz + k) u ?_
  have key : ∀ (rs : List α) (i : Nat) (hi : i < rs.length), (f rs[i])[k]? = some u → (rs.flatMap f)[i * sz + k]? = some u := by
    intro rs
    induction rs with
    | nil => intro i hi; simp at hi
    | cons r rs ih =>
      intro i hi hk
      rw [List.flatMap_cons]
      cases i with
      | zero =>
        have hkl : k < (f r).length := by
          rcases Nat.lt_or_ge k (f r).length with h | h
          · exact h
          · rw [List.getElem?_eq_none (by simpa using h)] at hk; cases hk
        rw [Nat.zero_mul, Nat.zero_add, List.getElem?_append_left hkl]
        exact hk
      | succ i =>
        rw [List.getElem?_append_right (by rw [hf, Nat.add_mul]; omega), hf, show (i + 1) * sz + k - sz = i * sz + k by rw [Nat.add_mul]; omega]
        exact ih i (by simpa using hi) (by simpa using hk)
  exact key rs i hi hk
theorem fX {α : Type} {f : α → List Value} {sz : Nat} {rs : List α} {A : Option Addr} (hf : ∀ r, (f r).length = sz) (h0 : 0 < sz) (h : Rd w A (rs.flatMap f)) (i : Nat) (hi : i < rs.length) :
    ∃ b off, A = some ⟨b, off, none⟩ ∧ ∀ W : World, Below w.heap.size w W → W.rangeAt b (off + i * sz) (f rs[i]) := by
  have hlen : 0 < (rs.flatMap f).length := by
    rcases rs with _ | ⟨r, rs⟩
    · simp at hi
    · rw [List.flatMap_cons, List.length_append, hf]; omega
  obtain ⟨b, off, hA, hb, hc⟩ := h.open_ hlen
  refine ⟨b, off, hA, fun W hB k u hk => ?_⟩
  obtain ⟨ad, hA', _, hc'⟩ := DU hf h i hi k u hk
  rw [hA] at hA'
  cases hA'
  have e : (⟨b, off, none⟩ : Addr).add (i * sz + k) = ⟨b, off + i * sz + k, none⟩ := by rw [Addr.add_mid, Nat.add_assoc]
  rw [e] at hc'
  exact (hB.cell (p := ⟨b, off + i * sz + k, none⟩) hb).trans hc'
end
structure iI where
  kind : Int
  pdu_kind : Int
  pdu_feat_io : Int
  pdu_feat_oob : Bool
  pdu_feat_bond : Bool
  pdu_feat_mitm : Bool
  pdu_feat_sid : Bool
  pdu_feat_tid : Bool
  pdu_pub : BitVec 32
  pdu_value : BitVec 64
  pdu_idn_adr_kind : Int
  pdu_idn_adr_bits : BitVec 64
  pdu_idn_irk : BitVec 64
  pdu_reason : Int
  answer : Int
  now : Int
def iI.cells (r : iI) : List Value := [.int .i64 r.kind, .int .i64 r.pdu_kind, .int .i64 r.pdu_feat_io, .bool r.pdu_feat_oob, .bool r.pdu_feat_bond, .bool r.pdu_feat_mitm, .bool r.pdu_feat_sid, .bool r.pdu_feat_tid, .int .u32 (W32 r.pdu_pub), .int .u64 (W64 r.pdu_value), .int .i64 r.pdu_idn_adr_kind, .int .u64 (W64 r.pdu_idn_adr_bits), .int .u64 (W64 r.pdu_idn_irk), .int .i64 r.pdu_reason, .int .i64 r.answer, .int .i64 r.now]
theorem iI.len (r : iI) : r.cells.length = 16 := rfl
def iI.ok (w : World) (r : iI) : Prop := (Lit.int .i64 r.kind).wf = true ∧ (Lit.int .i64 r.pdu_kind).wf = true ∧ (Lit.int .i64 r.pdu_feat_io).wf = true ∧ (Lit.int .i64 r.pdu_idn_adr_kind).wf = true ∧ (Lit.int .i64 r.pdu_reason).wf = true ∧ (Lit.int .i64 r.answer).wf = true ∧ (Lit.int .i64 r.now).wf = true ∧ True
theorem wN {H : Type} {enc : TypeId × Value → H} {w : World} {base : Nat} {sp : Nat → Bool} {held : Bool} {a0 : Option Addr} {len0 cap0 : Nat} {d : DataW H} {ps : List MemPlace}
    (h : DataW.Trod enc Tryz.prog w base sp held 35 (.slice a0 len0 cap0) d ps) : ∃ rs : List iI, len0 = rs.length ∧ rs.length ≤ cap0 ∧ Rd w a0 (rs.flatMap iI.cells) ∧ ∀ r ∈ rs, r.ok w := by
  obtain ⟨css, hl, hc, hr, hcs⟩ := CK U35 FG h
  obtain ⟨rs, rfl, hq⟩ := C6 iI.cells (iI.ok w) css (fun cs hm => by
    obtain ⟨hl, hg⟩ := hcs cs hm
    match cs, hl with
    | [c0, c1, c2, c3, c4, c5, c6, c7, c8, c9, c10, c11, c12, c13, c14, c15], _ =>
      obtain ⟨n0, y0, h0⟩ := hg 0 _ _ rfl rfl
      obtain ⟨x0, rfl, w0⟩ := fJ (k := .i64) U3 h0
      obtain ⟨n1, y1, h1⟩ := hg 1 _ _ rfl rfl
      obtain ⟨x1, rfl, w1⟩ := fJ (k := .i64) U3 h1
      obtain ⟨n2, y2, h2⟩ := hg 2 _ _ rfl rfl
      obtain ⟨x2, rfl, w2⟩ := fJ (k := .i64) U3 h2
      obtain ⟨n3, y3, h3⟩ := hg 3 _ _ rfl rfl
      obtain ⟨x3, rfl⟩ := gK U4 h3
      obtain ⟨n4, y4, h4⟩ := hg 4 _ _ rfl rfl
      obtain ⟨x4, rfl⟩ := gK U4 h4
      obtain ⟨n5, y5, h5⟩ := hg 5 _ _ rfl rfl
      obtain ⟨x5, rfl⟩ := gK U4 h5
      obtain ⟨n6, y6, h6⟩ := hg 6 _ _ rfl rfl
      obtain ⟨x6, rfl⟩ := gK U4 h6
      obtain ⟨n7, y7, h7⟩ := hg 7 _ _ rfl rfl
      obtain ⟨x7, rfl⟩ := gK U4 h7
      obtain ⟨n8, y8, h8⟩ := hg 8 _ _ rfl rfl
      obtain ⟨x8, rfl⟩ := zE U30 h8
      obtain ⟨n9, y9, h9⟩ := hg 9 _ _ rfl rfl
      obtain ⟨x9, rfl⟩ := hJ U24 h9
      obtain ⟨n10, y10, h10⟩ := hg 10 _ _ rfl rfl
      obtain ⟨x10, rfl, w10⟩ := fJ (k := .i64) U3 h10
      obtain ⟨n11, y11, h11⟩ := hg 11 _ _ rfl rfl
      obtain ⟨x11, rfl⟩ := hJ U24 h11
      obtain ⟨n12, y12, h12⟩ := hg 12 _ _ rfl rfl
      obtain ⟨x12, rfl⟩ := hJ U27 h12
      obtain ⟨n13, y13, h13⟩ := hg 13 _ _ rfl rfl
      obtain ⟨x13, rfl, w13⟩ := fJ (k := .i64) U3 h13
      obtain ⟨n14, y14, h14⟩ := hg 14 _ _ rfl rfl
      obtain ⟨x14, rfl, w14⟩ := fJ (k := .i64) U3 h14
      obtain ⟨n15, y15, h15⟩ := hg 15 _ _ rfl rfl
      obtain ⟨x15, rfl, w15⟩ := fJ (k := .i64) U3 h15
      exact ⟨⟨x0, x1, x2, x3, x4, x5, x6, x7, x8, x9, x10, x11, x12, x13, x14, x15⟩, rfl, ⟨w0, w1, w2, w10, w13, w14, w15, trivial⟩⟩)
  rw [List.length_map] at hl
  exact ⟨rs, hl.symm, by omega, hr, hq⟩
structure lM where
  at_ : Int
  pub : BitVec 32
  value : BitVec 64
def lM.cells (r : lM) : List Value := [.int .i64 r.at_, .int .u32 (W32 r.pub), .int .u64 (W64 r.value)]
theorem lM.len (r : lM) : r.cells.length = 3 := rfl
def lM.ok (w : World) (r : lM) : Prop := (Lit.int .i64 r.at_).wf = true ∧ True
def tkL (x : Tk) (q0 q1 qa ql : Value) : List Value := [.int .i64 x.s0.cfg.role, .int .i64 x.s0.cfg.feat.io, .bool x.s0.cfg.feat.oob, .bool x.s0.cfg.feat.bond, .bool x.s0.cfg.feat.mitm, .bool x.s0.cfg.feat.sid, .bool x.s0.cfg.feat.tid, .int .i64 x.s0.cfg.own.kind, .int .u64 (W64 x.s0.cfg.own.bits), .int .i64 x.s0.cfg.peer.kind, .int .u64 (W64 x.s0.cfg.peer.bits), .int .i64 x.s0.cfg.idn.adr.kind, .int .u64 (W64 x.s0.cfg.idn.adr.bits), .int .u64 (W64 x.s0.cfg.idn.irk), .int .u32 (W32 x.s0.cfg.secret), .int .u64 (W64 x.s0.cfg.seed), .int .u64 (W64 x.s0.cfg.mine), .int .u64 (W64 x.s0.cfg.oob.value), .int .u64 (W64 x.s0.cfg.oob.random), .int .i64 x.s0.phase, .int .i64 x.s0.since, .int .i64 x.s0.method, .int .i64 x.s0.peer.io, .bool x.s0.peer.oob, .bool x.s0.peer.bond, .bool x.s0.peer.mitm, .bool x.s0.peer.sid, .bool x.s0.peer.tid, .int .i64 x.s0.req.io, .bool x.s0.req.oob, .bool x.s0.req.bond, .bool x.s0.req.mitm, .bool x.s0.req.sid, .bool x.s0.req.tid, .int .i64 x.s0.res.io, .bool x.s0.res.oob, .bool x.s0.res.bond, .bool x.s0.res.mitm, .bool x.s0.res.sid, .bool x.s0.res.tid, .int .u32 (W32 x.s0.peerKey), .int .u32 (W32 x.s0.shared), .int .u64 (W64 x.s0.nonce), .int .u64 (W64 x.s0.other), .int .u64 (W64 x.s0.commit), .bool x.s0.have_, .int .i64 x.s0.passkey, .int .i64 x.s0.round, .bool x.s0.agreed, .int .u64 (W64 x.s0.checkIn), .bool x.s0.haveIn, .bool x.s0.crypt, .int .u64 (W64 x.s0.ltk), .int .i64 x.s0.idn.adr.kind, .int .u64 (W64 x.s0.idn.adr.bits), .int .u64 (W64 x.s0.idn.irk), .int .i64 x.s0.drawn, .int .i64 x.s0.reason, .int .i64 x.s1.cfg.role, .int .i64 x.s1.cfg.feat.io, .bool x.s1.cfg.feat.oob, .bool x.s1.cfg.feat.bond, .bool x.s1.cfg.feat.mitm, .bool x.s1.cfg.feat.sid, .bool x.s1.cfg.feat.tid, .int .i64 x.s1.cfg.own.kind, .int .u64 (W64 x.s1.cfg.own.bits), .int .i64 x.s1.cfg.peer.kind, .int .u64 (W64 x.s1.cfg.peer.bits), .int .i64 x.s1.cfg.idn.adr.kind, .int .u64 (W64 x.s1.cfg.idn.adr.bits), .int .u64 (W64 x.s1.cfg.idn.irk), .int .u32 (W32 x.s1.cfg.secret), .int .u64 (W64 x.s1.cfg.seed), .int .u64 (W64 x.s1.cfg.mine), .int .u64 (W64 x.s1.cfg.oob.value), .int .u64 (W64 x.s1.cfg.oob.random), .int .i64 x.s1.phase, .int .i64 x.s1.since, .int .i64 x.s1.method, .int .i64 x.s1.peer.io, .bool x.s1.peer.oob, .bool x.s1.peer.bond, .bool x.s1.peer.mitm, .bool x.s1.peer.sid, .bool x.s1.peer.tid, .int .i64 x.s1.req.io, .bool x.s1.req.oob, .bool x.s1.req.bond, .bool x.s1.req.mitm, .bool x.s1.req.sid, .bool x.s1.req.tid, .int .i64 x.s1.res.io, .bool x.s1.res.oob, .bool x.s1.res.bond, .bool x.s1.res.mitm, .bool x.s1.res.sid, .bool x.s1.res.tid, .int .u32 (W32 x.s1.peerKey), .int .u32 (W32 x.s1.shared), .int .u64 (W64 x.s1.nonce), .int .u64 (W64 x.s1.other), .int .u64 (W64 x.s1.commit), .bool x.s1.have_, .int .i64 x.s1.passkey, .int .i64 x.s1.round, .bool x.s1.agreed, .int .u64 (W64 x.s1.checkIn), .bool x.s1.haveIn, .bool x.s1.crypt, .int .u64 (W64 x.s1.ltk), .int .i64 x.s1.idn.adr.kind, .int .u64 (W64 x.s1.idn.adr.bits), .int .u64 (W64 x.s1.idn.irk), .int .i64 x.s1.drawn, .int .i64 x.s1.reason, .bool x.ok, .int .i64 x.n0, .int .i64 x.n1, .bool x.a0, .bool x.a1, .bool x.h0, .bool x.h1, q0, q1, .int .i64 x.sent, qa, ql]
def Tk.put_s0 (x : Tk) (z : Pr) : Tk := ⟨z, x.s1, x.ok, x.n0, x.n1, x.a0, x.a1, x.h0, x.h1, x.g0, x.g1, x.sent, x.line⟩
def Tk.put_s1 (x : Tk) (z : Pr) : Tk := ⟨x.s0, z, x.ok, x.n0, x.n1, x.a0, x.a1, x.h0, x.h1, x.g0, x.g1, x.sent, x.line⟩
def Tk.put_ok (x : Tk) (z : Bool) : Tk := ⟨x.s0, x.s1, z, x.n0, x.n1, x.a0, x.a1, x.h0, x.h1, x.g0, x.g1, x.sent, x.line⟩
def Tk.put_n0 (x : Tk) (z : Int) : Tk := ⟨x.s0, x.s1, x.ok, z, x.n1, x.a0, x.a1, x.h0, x.h1, x.g0, x.g1, x.sent, x.line⟩
def Tk.put_n1 (x : Tk) (z : Int) : Tk := ⟨x.s0, x.s1, x.ok, x.n0, z, x.a0, x.a1, x.h0, x.h1, x.g0, x.g1, x.sent, x.line⟩
def Tk.put_a0 (x : Tk) (z : Bool) : Tk := ⟨x.s0, x.s1, x.ok, x.n0, x.n1, z, x.a1, x.h0, x.h1, x.g0, x.g1, x.sent, x.line⟩
def Tk.put_a1 (x : Tk) (z : Bool) : Tk := ⟨x.s0, x.s1, x.ok, x.n0, x.n1, x.a0, z, x.h0, x.h1, x.g0, x.g1, x.sent, x.line⟩
def Tk.put_h0 (x : Tk) (z : Bool) : Tk := ⟨x.s0, x.s1, x.ok, x.n0, x.n1, x.a0, x.a1, z, x.h1, x.g0, x.g1, x.sent, x.line⟩
def Tk.put_h1 (x : Tk) (z : Bool) : Tk := ⟨x.s0, x.s1, x.ok, x.n0, x.n1, x.a0, x.a1, x.h0, z, x.g0, x.g1, x.sent, x.line⟩
def Tk.put_sent (x : Tk) (z : Int) : Tk := ⟨x.s0, x.s1, x.ok, x.n0, x.n1, x.a0, x.a1, x.h0, x.h1, x.g0, x.g1, z, x.line⟩
def pA (b : Bool) : Int := if b then 1 else 0
def rwL (v : Value) (L : List (Bool × Sec)) : Rw := ⟨dE, 13, v, L.length, dG (L.map Prod.snd)⟩
def rwA (v : Value) (L : List (Bool × Sec)) : Rw := ⟨3, 1, v, L.length, L.map fun e => .int .i64 (pA e.1)⟩
def rwS (v : Value) (ds : List Sec) : Rw := ⟨dE, 13, v, ds.length, dG ds⟩
def rwE (v : Value) (es : List Evt) : Rw := ⟨dK, 8, v, es.length, dC es⟩
def ID (c : Chg) : List Value := [.int .i64 c.at_, .int .u32 (W32 c.pub), .int .u64 (W64 c.value)]
section
variable {w0 W W' : World} {base : Nat} {rs rs' : List Rw} {bx bx' : List Bk}
theorem MR.perm (h : MR w0 W base rs bx) (hp : rs.Perm rs') : MR w0 W base rs' bx :=
  ⟨h.pre, h.below, h.low, fun r hr => h.rows r (hp.mem_iff.2 hr), h.ap.perm hp (fun {x y} hxy k hk e => hxy k e hk), fun b hb => ⟨(h.box b hb).1, (h.box b hb).2.1, fun r hr => (h.box b hb).2.2 r (hp.mem_iff.2 hr)⟩, h.nd⟩
theorem MR.bperm (h : MR w0 W base rs bx) (hp : bx.Perm bx') : MR w0 W base rs bx' :=
  ⟨h.pre, h.below, h.low, h.rows, h.ap, fun b hb => h.box b (hp.mem_iff.2 hb), h.nd.perm hp (fun {x y} hxy => Ne.symm hxy)⟩
theorem F9 {α : Type} {K a b : α} {t : List α} : (a :: b :: K :: t).Perm (K :: a :: b :: t) := by
  rw [show a :: b :: K :: t = [a, b] ++ (K :: t) from rfl, show K :: a :: b :: t = K :: ([a, b] ++ t) from rfl]
  exact List.perm_middle
theorem wQ {α : Type} {K a b c : α} {t : List α} : (a :: b :: c :: K :: t).Perm (K :: a :: b :: c :: t) := by
  rw [show a :: b :: c :: K :: t = [a, b, c] ++ (K :: t) from rfl, show K :: a :: b :: c :: t = K :: ([a, b, c] ++ t) from rfl]
  exact List.perm_middle
theorem MR.s3 {k : Nat} {ty : TypeId} {cs cs' : Array Value} {a b c : Bk} (h : MR w0 W base rs (a :: b :: c :: (k, ty, cs) :: bx)) (hU : Upd k W W') (hG : Blk W' k ty cs') : MR w0 W' base rs (a :: b :: c :: (k, ty, cs') :: bx) := ((h.bperm wQ).s0 hU hG).bperm wQ.symm
theorem G9 {α : Type} {K a b c d : α} {t : List α} : (a :: b :: c :: d :: K :: t).Perm (K :: a :: b :: c :: d :: t) := by
  rw [show a :: b :: c :: d :: K :: t = [a, b, c, d] ++ (K :: t) from rfl, show K :: a :: b :: c :: d :: t = K :: ([a, b, c, d] ++ t) from rfl]
  exact List.perm_middle
theorem MR.s4 {k : Nat} {ty : TypeId} {cs cs' : Array Value} {a b c d : Bk} (h : MR w0 W base rs (a :: b :: c :: d :: (k, ty, cs) :: bx)) (hU : Upd k W W') (hG : Blk W' k ty cs') : MR w0 W' base rs (a :: b :: c :: d :: (k, ty, cs') :: bx) := ((h.bperm G9).s0 hU hG).bperm G9.symm
theorem GM {α : Type} {K a b c d f : α} {t : List α} : (a :: b :: c :: d :: f :: K :: t).Perm (K :: a :: b :: c :: d :: f :: t) := by
  rw [show a :: b :: c :: d :: f :: K :: t = [a, b, c, d, f] ++ (K :: t) from rfl, show K :: a :: b :: c :: d :: f :: t = K :: ([a, b, c, d, f] ++ t) from rfl]
  exact List.perm_middle
theorem MR.s5 {k : Nat} {ty : TypeId} {cs cs' : Array Value} {a b c d f : Bk} (h : MR w0 W base rs (a :: b :: c :: d :: f :: (k, ty, cs) :: bx)) (hU : Upd k W W') (hG : Blk W' k ty cs') : MR w0 W' base rs (a :: b :: c :: d :: f :: (k, ty, cs') :: bx) := ((h.bperm GM).s0 hU hG).bperm GM.symm
theorem GN {α : Type} {K a b c d f g : α} {t : List α} : (a :: b :: c :: d :: f :: g :: K :: t).Perm (K :: a :: b :: c :: d :: f :: g :: t) := by
  rw [show a :: b :: c :: d :: f :: g :: K :: t = [a, b, c, d, f, g] ++ (K :: t) from rfl, show K :: a :: b :: c :: d :: f :: g :: t = K :: ([a, b, c, d, f, g] ++ t) from rfl]
  exact List.perm_middle
theorem MR.s6 {k : Nat} {ty : TypeId} {cs cs' : Array Value} {a b c d f g : Bk} (h : MR w0 W base rs (a :: b :: c :: d :: f :: g :: (k, ty, cs) :: bx)) (hU : Upd k W W') (hG : Blk W' k ty cs') : MR w0 W' base rs (a :: b :: c :: d :: f :: g :: (k, ty, cs') :: bx) := ((h.bperm GN).s0 hU hG).bperm GN.symm
theorem BR {α : Type} {K a b c d f g i : α} {t : List α} : (a :: b :: c :: d :: f :: g :: i :: K :: t).Perm (K :: a :: b :: c :: d :: f :: g :: i :: t) := by
  rw [show a :: b :: c :: d :: f :: g :: i :: K :: t = [a, b, c, d, f, g, i] ++ (K :: t) from rfl, show K :: a :: b :: c :: d :: f :: g :: i :: t = K :: ([a, b, c, d, f, g, i] ++ t) from rfl]
  exact List.perm_middle
theorem MR.b7 {k : Nat} {ty : TypeId} {cs : Array Value} {a b c d f g i : Bk} (h : MR w0 W base rs (a :: b :: c :: d :: f :: g :: i :: (k, ty, cs) :: bx)) : Blk W k ty cs := (h.bperm BR).b0
theorem MR.s7 {k : Nat} {ty : TypeId} {cs cs' : Array Value} {a b c d f g i : Bk} (h : MR w0 W base rs (a :: b :: c :: d :: f :: g :: i :: (k, ty, cs) :: bx)) (hU : Upd k W W') (hG : Blk W' k ty cs') : MR w0 W' base rs (a :: b :: c :: d :: f :: g :: i :: (k, ty, cs') :: bx) := ((h.bperm BR).s0 hU hG).bperm BR.symm
theorem BS {α : Type} {K a b c d f g i j : α} {t : List α} : (a :: b :: c :: d :: f :: g :: i :: j :: K :: t).Perm (K :: a :: b :: c :: d :: f :: g :: i :: j :: t) := by
  rw [show a :: b :: c :: d :: f :: g :: i :: j :: K :: t = [a, b, c, d, f, g, i, j] ++ (K :: t) from rfl, show K :: a :: b :: c :: d :: f :: g :: i :: j :: t = K :: ([a, b, c, d, f, g, i, j] ++ t) from rfl]
  exact List.perm_middle
theorem MR.b8 {k : Nat} {ty : TypeId} {cs : Array Value} {a b c d f g i j : Bk} (h : MR w0 W base rs (a :: b :: c :: d :: f :: g :: i :: j :: (k, ty, cs) :: bx)) : Blk W k ty cs := (h.bperm BS).b0
theorem MR.s8 {k : Nat} {ty : TypeId} {cs cs' : Array Value} {a b c d f g i j : Bk} (h : MR w0 W base rs (a :: b :: c :: d :: f :: g :: i :: j :: (k, ty, cs) :: bx)) (hU : Upd k W W') (hG : Blk W' k ty cs') : MR w0 W' base rs (a :: b :: c :: d :: f :: g :: i :: j :: (k, ty, cs') :: bx) := ((h.bperm BS).s0 hU hG).bperm BS.symm
end
section
variable {w0 W W' : World} {base : Nat} {rs : List Rw} {bx : List Bk}
theorem MR.lt (h : MR w0 W base rs bx) : 2 ≤ base := h.pre.2
theorem Rd.low {w0 W : World} {base : Nat} {A : Option Addr} {xs : List Value} (h : Rd w0 A xs) (hb : Below base w0 W) (hl : ∀ ad, A = some ad → ad.block < base) : Rd W A xs := fun j u hu => by
  obtain ⟨ad, e, h1, h2⟩ := h j u hu
  exact ⟨ad, e, Nat.lt_of_lt_of_le h1 hb.size, (hb.cell (by rw [oD]; exact hl ad e)).trans h2⟩
theorem bR {w0 W : World} {base : Nat} {rs : List Rw} {bx : List Bk} (h : MR w0 W base rs bx) : aO fun W => MR w0 W base rs bx := D4 _ _ _ _
theorem dZ {P : Program} {o : Oper} {a : Act} {K : Act → World → Prop} {Q : Exit → Act → World → Prop} {cs : Array Value} {ty : TypeId} (V : Nat → Value) (hrun : (execOp a.eval o).run P W = .ok (.value (V W.heap.size)) (W.alloc (.cells cs ty)))
    (h : ∀ (g : Nat) (w' : World), (0 = 0) → W.heap.size ≤ g → Below W.heap.size W w' → Blk w' g ty cs → K (a.put o.dst (V g)) w') : Oper.wp P o a W K Q := by
  unfold Oper.wp
  rw [hrun]
  exact h W.heap.size _ rfl (Nat.le_refl _) ((Below.refl _ _).alloc (Nat.le_refl _) (.cells cs ty)) (Blk.new W ty cs)
theorem mT {dst : Option Tmp} {t tt : TypeId} {x y : Operand} {pos : String} {after : Array Edge} {g : Option (Nat × Bool)} {a : Act} {Q : Exit → Act → World → Prop} {K : Act → World → Prop} {k c : Nat} {P : Program} {cs : List Value} (r : Rw)
    (h : MR w0 W base (r :: rs) bx) (hs : a.eval x = r.v) (hx : a.eval y = .slice (some ⟨k, 0, none⟩) 1 c) (hG : Blk W k r.e cs.toArray) (hl : r.n ≤ 100000) (h1 : cs.all (·.oneCell') = true) (hc : cs.length = r.size)
    (ht : P.underlying t = some (.slice r.e)) (hi : (P.info? r.e).map (fun i => (i.zero.map (·.cells.size), i.size)) = some (some r.size, r.size)) (hb : ((P.info? r.e).map (·.bytes)).getD 0 ≤ 1024)
    (hK : ∀ A' c' w', MR w0 w' base (⟨r.e, r.size, .slice A' (r.n + 1) c', r.n + 1, r.xs ++ cs⟩ :: rs) bx → K (a.put dst (.slice A' (r.n + 1) c')) w') :
    Oper.wp P { dst := dst, op := .call { callee := .builtin .append, args := #[x, y], argTypes := #[t, t] }, type := tt, pos := pos, after := after, guard := g } a W K Q := by
  cases hq : P.info? r.e with
  | none => rw [hq] at hi; cases hi
  | some i =>
    rw [hq] at hi hb
    have hi2 := Option.some.inj hi
    injection hi2 with hz hsz
    cases hzz : i.zero with
    | none => rw [hzz] at hz; cases hz
    | some z =>
      rw [hzz] at hz
      have hzs : z.cells.size = i.size := by rw [hsz]; exact Option.some.inj hz
      have hb2 : i.bytes ≤ 1024 := hb
      have hown : aZ W base r.e i.size r.v r.n r.xs := by rw [hsz]; exact h.row0
      obtain ⟨v', w', hr, h2, h3, h5⟩ := sU (P := P) W base t tt r.e i z ht hq hzz hzs r.v r.n r.xs hown ⟨k, 0, none⟩ 1 c cs (by rw [hsz]; omega) (fun j u hj => by rw [oH, hG.cell]; simpa using hj) (fun u hu => List.all_eq_true.1 h1 u hu) (by decide)
        (by unfold maxLen; omega) (by have := Nat.mul_le_mul (show r.n + 1 ≤ 100001 by omega) hb2; omega) h.low
      unfold Oper.wp execOp
      simp only [resolve, invoke, builtin, Sem.run_bind, Sem.run_pure, Result.andThen_ok, List.map_toArray, List.map_cons, List.map_nil, hs, hx, hr]
      rw [hsz] at h2
      obtain ⟨A', c', rfl, _⟩ := h2.slice
      exact hK A' c' w' (h.app h2 h3 h5)
theorem F3 : (Tryz.prog.info? dE).map (fun i => (i.zero.map (·.cells.size), i.size)) = some (some 13, 13) := by kernel_rfl
theorem zQ : (Tryz.prog.info? dK).map (fun i => (i.zero.map (·.cells.size), i.size)) = some (some 8, 8) := by kernel_rfl
theorem GD : (Tryz.prog.info? 3).map (fun i => (i.zero.map (·.cells.size), i.size)) = some (some 1, 1) := by kernel_rfl
theorem IC : ((Tryz.prog.info? 3).map (·.bytes)).getD 0 ≤ 1024 := by decide +kernel
theorem IX (A : Option Addr) (c : Nat) (L : List (Bool × Sec)) (b : Bool) (d : Sec) : (⟨dE, 13, .slice A (L.length + 1) c, L.length + 1, dG (L.map Prod.snd) ++ aI d⟩ : Rw) = rwL (.slice A (L.length + 1) c) (L ++ [(b, d)]) := by
  unfold rwL
  rw [List.length_append, List.map_append, zN]
  congr 1
theorem IS (A : Option Addr) (c : Nat) (L : List (Bool × Sec)) (b : Bool) (d : Sec) : (⟨3, 1, .slice A (L.length + 1) c, L.length + 1, (L.map fun e => Value.int .i64 (pA e.1)) ++ [.int .i64 (pA b)]⟩ : Rw) = rwA (.slice A (L.length + 1) c) (L ++ [(b, d)]) := by
  unfold rwA
  rw [List.length_append, List.map_append]
  rfl
theorem DQ (A : Option Addr) (c : Nat) (es : List Evt) (e : Evt) : (⟨dK, 8, .slice A (es.length + 1) c, es.length + 1, dC es ++ dS e⟩ : Rw) = rwE (.slice A (es.length + 1) c) (es ++ [e]) := by
  unfold rwE
  rw [List.length_append, zU]
  congr 1
section
variable {ops : Array Oper} {rest : List Oper} {dst : Option Tmp} {tt : TypeId} {x y : Operand} {pos : String} {after : Array Edge} {a : Act} {Q : Exit → Act → World → Prop} {k c : Nat} {v : Value}
theorem zM {L : List (Bool × Sec)} (b : Bool) (d : Sec) (h : MR w0 W base (rwL v L :: rs) bx) (hs : a.eval x = v) (hx : a.eval y = .slice (some ⟨k, 0, none⟩) 1 c) (hG : Blk W k dE (aI d).toArray) (hl : L.length ≤ 100000)
    (K : ∀ A' c' w', MR w0 w' base (rwL (.slice A' (L.length + 1) c') (L ++ [(b, d)]) :: rs) bx → wpList Tryz.prog ops Q rest (a.put dst (.slice A' (L.length + 1) c')) w') :
    wpList Tryz.prog ops Q ({ dst := dst, op := .call { callee := .builtin .append, args := #[x, y], argTypes := #[46, 46] }, type := tt, pos := pos, after := after, guard := none } :: rest) a W := by
  refine wpList_plain rfl fun K' hK => mT (P := Tryz.prog) (cs := aI d) (rwL v L) h hs hx hG hl (CZ d) rfl U46 F3 xI fun A' c' w' h2 => ?_
  have e := IX A' c' L b d
  refine hK _ _ ?_
  exact K A' c' w' (by rw [← e]; exact h2)
theorem IA {L : List (Bool × Sec)} {r0 : Rw} (b : Bool) (d : Sec) (h : MR w0 W base (r0 :: rwA v L :: rs) bx) (hs : a.eval x = v) (hx : a.eval y = .slice (some ⟨k, 0, none⟩) 1 c) (hG : Blk W k 3 #[.int .i64 (pA b)]) (hl : L.length ≤ 100000)
    (K : ∀ A' c' w', MR w0 w' base (r0 :: rwA (.slice A' (L.length + 1) c') (L ++ [(b, d)]) :: rs) bx → wpList Tryz.prog ops Q rest (a.put dst (.slice A' (L.length + 1) c')) w') :
    wpList Tryz.prog ops Q ({ dst := dst, op := .call { callee := .builtin .append, args := #[x, y], argTypes := #[68, 68] }, type := tt, pos := pos, after := after, guard := none } :: rest) a W := by
  refine wpList_plain rfl fun K' hK => mT (P := Tryz.prog) (cs := [.int .i64 (pA b)]) (rwA v L) h.rswap hs hx hG hl rfl rfl U68 GD IC fun A' c' w' h2 => ?_
  have e := IS A' c' L b d
  refine hK _ _ ?_
  exact K A' c' w' (by rw [← e]; exact h2.rswap)
theorem qT {r0 r1 : Rw} {es : List Evt} {g : Option (Nat × Bool)} {K : Act → World → Prop} (e : Evt) (h : MR w0 W base (r0 :: r1 :: rwE v es :: rs) bx) (hs : a.eval x = v) (hx : a.eval y = .slice (some ⟨k, 0, none⟩) 1 c) (hG : Blk W k dK (dS e).toArray) (hl : es.length ≤ 100000)
    (hK : ∀ A' c' w', MR w0 w' base (r0 :: r1 :: rwE (.slice A' (es.length + 1) c') (es ++ [e]) :: rs) bx → K (a.put dst (.slice A' (es.length + 1) c')) w') :
    Oper.wp Tryz.prog { dst := dst, op := .call { callee := .builtin .append, args := #[x, y], argTypes := #[47, 47] }, type := tt, pos := pos, after := after, guard := g } a W K Q := by
  refine mT (P := Tryz.prog) (cs := dS e) (rwE v es) (h.perm F9) hs hx hG hl (wC e) rfl U47 zQ sW fun A' c' w' h2 => ?_
  have e1 := DQ A' c' es e
  exact hK A' c' w' (by rw [← e1]; exact h2.perm F9.symm)
theorem rA {r0 r1 r2 : Rw} {es : List Evt} {g : Option (Nat × Bool)} {K : Act → World → Prop} (e : Evt) (h : MR w0 W base (r0 :: r1 :: r2 :: rwE v es :: rs) bx) (hs : a.eval x = v) (hx : a.eval y = .slice (some ⟨k, 0, none⟩) 1 c) (hG : Blk W k dK (dS e).toArray) (hl : es.length ≤ 100000)
    (hK : ∀ A' c' w', MR w0 w' base (r0 :: r1 :: r2 :: rwE (.slice A' (es.length + 1) c') (es ++ [e]) :: rs) bx → K (a.put dst (.slice A' (es.length + 1) c')) w') :
    Oper.wp Tryz.prog { dst := dst, op := .call { callee := .builtin .append, args := #[x, y], argTypes := #[47, 47] }, type := tt, pos := pos, after := after, guard := g } a W K Q := by
  refine mT (P := Tryz.prog) (cs := dS e) (rwE v es) (h.perm wQ) hs hx hG hl (wC e) rfl U47 zQ sW fun A' c' w' h2 => ?_
  have e1 := DQ A' c' es e
  exact hK A' c' w' (by rw [← e1]; exact h2.perm wQ.symm)
end
end
theorem BK (g j : Nat) : (⟨g, 0, none⟩ : Addr).add j = ⟨g, j, none⟩ := by unfold Addr.add; split <;> simp_all
theorem DG (k : BitVec 64) (s : ByteArray) (xs : List (BitVec 64)) (n : Nat) (hn : xs.length = n) (hl : xs.length ≤ 1024) (hs : s.size ≤ 65536) (W : World) (t : TypeId) :
    Calls Tryz.prog 103 #[.int .u64 (W64 k), .string s, .slice (some ⟨W.heap.size, 0, none⟩) n n] (W.alloc (.cells (nH xs).toArray t)) fun e w' => e = .returned (.int .u64 (W64 (fS k (iE s) xs))) ∧ Below W.heap.size W w' := by
  subst hn
  have hr : RdU (W.alloc (.cells (nH xs).toArray t)) (some ⟨W.heap.size, 0, none⟩) xs := Rd.new W (nH xs).toArray t
  refine (tA k s _ xs.length xs _ hr hl hs).mono ?_
  rintro e w' ⟨rfl, hb⟩
  exact ⟨rfl, ((Below.refl _ _).alloc (Nat.le_refl _) _).trans (hb.mono (by simp))⟩
theorem yB (k : BitVec 64) (s : ByteArray) (xs : List (BitVec 64)) (n : Nat) (hn : xs.length = n) (hl : xs.length ≤ 1024) (hs : s.size ≤ 65536) (W : World) (t : TypeId) :
    Calls Tryz.prog 148 #[.int .u64 (W64 k), .string s, .slice (some ⟨W.heap.size, 0, none⟩) n n] (W.alloc (.cells (nH xs).toArray t)) fun e w' => e = .returned (.int .u64 (W64 (fS k (iE s) xs))) ∧ Below W.heap.size W w' := by
  subst hn
  have hr : RdU (W.alloc (.cells (nH xs).toArray t)) (some ⟨W.heap.size, 0, none⟩) xs := Rd.new W (nH xs).toArray t
  refine (rL k s _ xs.length xs _ hr hl hs).mono ?_
  rintro e w' ⟨rfl, hb⟩
  exact ⟨rfl, ((Below.refl _ _).alloc (Nat.le_refl _) _).trans (hb.mono (by simp))⟩
theorem KF (k : BitVec 64) (s : ByteArray) (A : Option Addr) (c n : Nat) (xs : List (BitVec 64)) (r : BitVec 64) (hr : fS k (iE s) xs = r) (hn : xs.length = n) (w : World) (h : RdU w A xs) (hl : n ≤ 1024) (hs : s.size ≤ 65536) :
    Calls Tryz.prog 103 #[.int .u64 (W64 k), .string s, .slice A n c] w fun e w' => e = .returned (.int .u64 (W64 r)) ∧ Below w.heap.size w w' := by
  subst hn
  subst hr
  exact tA k s A c xs w h hl hs
theorem FZ (k : BitVec 64) (s : ByteArray) (A : Option Addr) (c n : Nat) (xs : List (BitVec 64)) (r : BitVec 64) (hr : fS k (iE s) xs = r) (hn : xs.length = n) (w : World) (h : RdU w A xs) (hl : n ≤ 1024) (hs : s.size ≤ 65536) :
    Calls Tryz.prog 148 #[.int .u64 (W64 k), .string s, .slice A n c] w fun e w' => e = .returned (.int .u64 (W64 r)) ∧ Below w.heap.size w w' := by
  subst hn
  subst hr
  exact rL k s A c xs w h hl hs
theorem uY (u v : BitVec 32) (w : World) :
  Calls Tryz.prog 104 #[.int .u32 (W32 u), .int .u32 (W32 v)] w fun e w' => e = .returned (.int .u64 (W64 (kB u v))) ∧ w = w' := by
 go_enter Tryz.func104, Tryz.ntmps104
 go_wp2
 go_ret
 exact ⟨fH rfl, rfl⟩
theorem sY (u v : BitVec 32) (w : World) :
  Calls Tryz.prog 149 #[.int .u32 (W32 u), .int .u32 (W32 v)] w fun e w' => e = .returned (.int .u64 (W64 (kB u v))) ∧ w = w' := by
 go_enter Tryz.func149, Tryz.ntmps149
 go_wp2
 go_ret
 exact ⟨fH (congrArg W64 (zO _ _)), rfl⟩
theorem kV (kind : Int) (bits : BitVec 64) (w : World) :
  Calls Tryz.prog 111 #[.agg #[.int .i64 kind, .int .u64 (W64 bits)]] w fun e w' => e = .returned (.int .u64 (W64 (gM kind bits))) ∧ Below w.heap.size w w' := by
 go_enter Tryz.func111, Tryz.ntmps111
 go_wp2
 go_ret
 exact ⟨fH rfl, (Below.refl _ _).alloc (Nat.le_refl _) _⟩
theorem kF (kind : Int) (bits : BitVec 64) (w : World) :
  Calls Tryz.prog 152 #[.agg #[.int .i64 kind, .int .u64 (W64 bits)]] w fun e w' => e = .returned (.int .u64 (W64 (gM kind bits))) ∧ Below w.heap.size w w' := by
 go_enter Tryz.func152, Tryz.ntmps152
 go_wp2
 go_ret
 exact ⟨fH (congrArg W64 (GR _ _)), (Below.refl _ _).alloc (Nat.le_refl _) _⟩
theorem FD (seed : BitVec 64) (i : Int) (w : World) :
  Calls Tryz.prog 112 #[.int .u64 (W64 seed), .int .i64 i] w fun e w' => e = .returned (.int .u64 (W64 (mix seed (BitVec.ofInt 64 i)))) ∧ Below w.heap.size w w' := by
 go_enter Tryz.func112, Tryz.ntmps112
 go_wp2_with fail
 refine (mB _ _ _).mono ?_; rintro e w1 ⟨rfl, hb1⟩
 go_wp2
 go_ret
 exact ⟨rfl, hb1⟩
theorem BX (seed : BitVec 64) (i : Int) (w : World) :
  Calls Tryz.prog 165 #[.int .u64 (W64 seed), .int .i64 i] w fun e w' => e = .returned (.int .u64 (W64 (mix seed (BitVec.ofInt 64 i)))) ∧ Below w.heap.size w w' := by
 go_enter Tryz.func165, Tryz.ntmps165
 go_wp2_with fail
 refine (nX _ _ _).mono ?_; rintro e w1 ⟨rfl, hb1⟩
 go_wp2
 go_ret
 exact ⟨rfl, hb1⟩
theorem nG (u v : BitVec 32) (nonce : BitVec 64) (z : BitVec 8) (w : World) :
  Calls Tryz.prog 71 #[.int .u32 (W32 u), .int .u32 (W32 v), .int .u64 (W64 nonce), .int .u8 (W8 z)] w fun e w' => e = .returned (.int .u64 (W64 (eF u v nonce z))) ∧ Below w.heap.size w w' := by
 obtain ⟨r, hr⟩ : ∃ r, fS (kB u v) (iE lZ) [z.setWidth 64] = r := ⟨_, rfl⟩
 have hc : eF u v nonce z = mix r nonce := by unfold eF; rw [hr]
 rw [hc]
 have HR := Lib.hid (fun W t => DG (kB u v) lZ [z.setWidth 64] 1 rfl (by simp) (by decide) W t)
 rw [hr] at HR
 clear hr hc
 go_enter Tryz.func71, Tryz.ntmps71
 go_wp2_with fail
 refine (uY _ _ _).mono ?_; rintro e w' ⟨rfl, rfl⟩
 go_wp2_with fail
 refine (HR.out _ _).mono ?_; rintro e w1 ⟨rfl, hb1⟩
 go_wp2_with fail
 refine (mB _ _ _).mono ?_; rintro e w2 ⟨rfl, hb2⟩
 go_wp2
 go_ret
 exact ⟨rfl, hb1.trans (hb2.mono hb1.size)⟩
theorem AL (bs : List Bool) (n : Nat) (hn : bs.length = n) (g c : Nat) (w : World) (hr : Rd w (some ⟨g, 0, none⟩) (bs.map Value.bool)) (hl : n ≤ 63) :
  Calls Tryz.prog 161 #[.slice (some ⟨g, 0, none⟩) n c] w fun e w' => e = .returned (.int .u64 (W64 (kC bs n))) ∧ w = w' := by
 subst hn
 go_enter Tryz.func161, Tryz.ntmps161
 go_wp2
 go_loop [3, 8] (fun x i => ∃ k : Nat, k ≤ bs.length ∧ i = .int .i64 k ∧ x = .int .u64 (W64 (kC bs k))) (fun _ i => bs.length - (intOf i).toNat)
 case atStart => exact ⟨0, Nat.zero_le _, rfl, rfl⟩
 case round =>
  obtain ⟨k, hk, rfl, rfl⟩ := hrel
  by_cases hlt : k < bs.length
  rotate_left
  ·
   obtain rfl : k = bs.length := by omega
   go_wp2
   go_ret
   exact ⟨rfl, rfl⟩
  obtain ⟨ad, he, hb, hc⟩ := hr k (.bool bs[k]) (by simp [hlt])
  injection he with he
  subst he
  rw [BK] at hc
  have hg : bs.getD k false = bs[k] := by rw [List.getD_eq_getElem?_getD, List.getElem?_eq_getElem hlt]; rfl
  have HS := Lib.hid (wA bs k)
  rw [hg] at HS
  clear hg
  generalize bs[k] = b at *
  cases b
  ·
   go_wp2
   go_round
   case rel => exact ⟨k + 1, by omega, by go_num, by rw [HS.out]; rfl⟩
   case measure => simp [intOf]; omega
  go_wp2
  go_round
  case rel => exact ⟨k + 1, by omega, by go_num, by rw [HS.out]; rfl⟩
  case measure => simp [intOf]; omega
theorem uJ (io : Int) (b1 b2 b3 b4 b5 : Bool) (w : World) :
  Calls Tryz.prog 139 #[.agg #[.int .i64 io, .bool b1, .bool b2, .bool b3, .bool b4, .bool b5]] w fun e w' => e = .returned (.int .u64 (W64 (mW io [b1, b2, b3, b4, b5]))) ∧ Below w.heap.size w w' := by
 go_enter Tryz.func139, Tryz.ntmps139
 go_wp2
 have hG0 := Blk.new w 23 #[.int .i64 io, .bool b1, .bool b2, .bool b3, .bool b4, .bool b5]
 have hB0 : Below w.heap.size w (w.alloc (.cells #[.int .i64 io, .bool b1, .bool b2, .bool b3, .bool b4, .bool b5] 23)) := (Below.refl _ _).alloc (Nat.le_refl _) _
 refine aD (fun W => Below w.heap.size w W ∧ Blk W w.heap.size 23 #[.int .i64 io, .bool b1, .bool b2, .bool b3, .bool b4, .bool b5]) 19 (aB (aJ _ _ (Nat.le_refl _)) (aW _ _ _)) ⟨hB0.drew, hG0⟩ ?_
 have hst := aB (aJ w.heap.size w (Nat.le_refl _)) (aW w.heap.size 23 #[.int .i64 io, .bool b1, .bool b2, .bool b3, .bool b4, .bool b5])
 refine aF 0 rfl hst (fun W hS K hK => by have hc := hS.2.cell; clear hS; go_simp; exact hk hK) ?_
 refine aF 1 rfl hst (fun W hS K hK => by have hc := hS.2.cell; clear hS; go_simp; exact hk hK) ?_
 refine aF 2 rfl hst (fun W hS K hK => by have hc := hS.2.cell; clear hS; go_simp; exact hk hK) ?_
 refine aF 3 rfl hst (fun W hS K hK => by have hc := hS.2.cell; clear hS; go_simp; exact hk hK) ?_
 refine aF 4 rfl hst (fun W hS K hK => by have hc := hS.2.cell; clear hS; go_simp; exact hk hK) ?_
 refine aF 5 rfl hst (fun W hS K hK => by have hc := hS.2.cell; clear hS; go_simp; exact hk hK) ?_
 refine aF 6 rfl hst (fun W hS K hK => by have hc := hS.2.cell; clear hS; go_simp; exact hk hK) ?_
 refine aF 7 rfl hst (fun W hS K hK => by have hc := hS.2.cell; clear hS; go_simp; exact hk hK) ?_
 refine aF 8 rfl hst (fun W hS K hK => by have hc := hS.2.cell; clear hS; go_simp; exact hk hK) ?_
 refine aF 9 rfl hst (fun W hS K hK => by have hc := hS.2.cell; clear hS; go_simp; exact hk hK) ?_
 refine aF 10 rfl hst (fun W hS K hK => by have hc := hS.2.cell; clear hS; go_simp; exact hk hK) ?_
 refine aF 11 rfl hst (fun W hS K hK => by have hc := hS.2.cell; clear hS; go_simp; exact hk hK) ?_
 refine aF 12 rfl hst (fun W hS K hK => by have hc := hS.2.cell; clear hS; go_simp; exact hk hK) ?_
 refine aF 13 rfl hst (fun W hS K hK => by have hc := hS.2.cell; clear hS; go_simp; exact hk hK) ?_
 refine eH 14 hst rfl ?_; intro W hS K hK; go_simp
 refine hK.out (fun W' => Rd W' (some ⟨W.heap.size, 0, none⟩) ([b1, b2, b3, b4, b5].map Value.bool)) _ _ (EL _ _) ((Below.refl _ _).alloc (Nat.le_refl _) _) (Rd.new _ _ _) (fun hst => ?_)
 clear hK K hS
 refine aF 15 rfl hst (fun W hS K hK => by have hr := hS.2; clear hS; go_simp; refine (AL [b1, b2, b3, b4, b5] 5 rfl _ _ _ hr (by decide)).mono ?_; rintro e w9 ⟨rfl, hw⟩; refine fI.mk ?_; exact hK.out _ (lL hw)) ?_
 refine aF 16 rfl hst (fun W hS K hK => by go_simp; exact hk hK) ?_
 refine aF 17 rfl hst (fun W hS K hK => by go_simp; exact hk hK) ?_
 refine aF 18 rfl hst (fun W hS K hK => by go_simp; exact hk hK) ?_
 refine aE (fun W hS => ?_)
 go_wp2
 go_ret
 exact ⟨fH rfl, hS.1.1⟩
theorem EE (b : Bool) (n : BitVec 64) (w : World) :
  Calls Tryz.prog 175 #[.bool b, .int .u64 (W64 n)] w fun e w' => e = .returned (.int .u64 (W64 (AN b n))) ∧ w = w' := by
 cases b
 all_goals
  go_enter Tryz.func175, Tryz.ntmps175
  go_wp2
  go_ret
  exact ⟨rfl, rfl⟩
theorem jO (b : Bool) (n : Nat) (z : Int) (hz : z = W64 (BitVec.ofNat 64 n)) (w : World) :
    Calls Tryz.prog 175 #[.bool b, .int .u64 z] w fun e w' => e = .returned (.int .u64 (W64 (AN b (BitVec.ofNat 64 n)))) ∧ w = w' := by
  rw [hz]
  exact EE b _ w
theorem tE (io : Int) (b1 b2 b3 b4 b5 : Bool) (w : World) :
  Calls Tryz.prog 169 #[.agg #[.int .i64 io, .bool b1, .bool b2, .bool b3, .bool b4, .bool b5]] w fun e w' => e = .returned (.int .u64 (W64 (mW io [b1, b2, b3, b4, b5]))) ∧ Below w.heap.size w w' := by
 have HF := Lib.hid (G5 io b1 b2 b3 b4 b5)
 go_enter Tryz.func169, Tryz.ntmps169
 go_wp2
 have hG0 := Blk.new w 23 #[.int .i64 io, .bool b1, .bool b2, .bool b3, .bool b4, .bool b5]
 have hB0 : Below w.heap.size w (w.alloc (.cells #[.int .i64 io, .bool b1, .bool b2, .bool b3, .bool b4, .bool b5] 23)) := (Below.refl _ _).alloc (Nat.le_refl _) _
 have hst := aB (aJ w.heap.size w (Nat.le_refl _)) (aW w.heap.size 23 #[.int .i64 io, .bool b1, .bool b2, .bool b3, .bool b4, .bool b5])
 refine aD _ 20 hst ⟨hB0.drew, hG0⟩ ?_
 refine aF 0 rfl hst (fun W hS K hK => by have hc := hS.2.cell; clear hS; go_simp; exact hk hK) ?_
 refine aF 1 rfl hst (fun W hS K hK => by have hc := hS.2.cell; clear hS; go_simp; exact hk hK) ?_
 refine aF 2 rfl hst (fun W hS K hK => by clear hS; go_simp; refine (jO b1 1 _ rfl _).mono ?_; rintro e w9 ⟨rfl, hw⟩; refine fI.mk ?_; exact hK.out _ (lL hw)) ?_
 refine aF 3 rfl hst (fun W hS K hK => by have hc := hS.2.cell; clear hS; go_simp; exact hk hK) ?_
 refine aF 4 rfl hst (fun W hS K hK => by have hc := hS.2.cell; clear hS; go_simp; exact hk hK) ?_
 refine aF 5 rfl hst (fun W hS K hK => by clear hS; go_simp; refine (jO b2 2 _ rfl _).mono ?_; rintro e w9 ⟨rfl, hw⟩; refine fI.mk ?_; exact hK.out _ (lL hw)) ?_
 refine aF 6 rfl hst (fun W hS K hK => by have hc := hS.2.cell; clear hS; go_simp; exact hk hK) ?_
 refine aF 7 rfl hst (fun W hS K hK => by have hc := hS.2.cell; clear hS; go_simp; exact hk hK) ?_
 refine aF 8 rfl hst (fun W hS K hK => by have hc := hS.2.cell; clear hS; go_simp; exact hk hK) ?_
 refine aF 9 rfl hst (fun W hS K hK => by clear hS; go_simp; refine (jO b3 4 _ rfl _).mono ?_; rintro e w9 ⟨rfl, hw⟩; refine fI.mk ?_; exact hK.out _ (lL hw)) ?_
 refine aF 10 rfl hst (fun W hS K hK => by have hc := hS.2.cell; clear hS; go_simp; exact hk hK) ?_
 refine aF 11 rfl hst (fun W hS K hK => by have hc := hS.2.cell; clear hS; go_simp; exact hk hK) ?_
 refine aF 12 rfl hst (fun W hS K hK => by have hc := hS.2.cell; clear hS; go_simp; exact hk hK) ?_
 refine aF 13 rfl hst (fun W hS K hK => by clear hS; go_simp; refine (jO b4 8 _ rfl _).mono ?_; rintro e w9 ⟨rfl, hw⟩; refine fI.mk ?_; exact hK.out _ (lL hw)) ?_
 refine aF 14 rfl hst (fun W hS K hK => by have hc := hS.2.cell; clear hS; go_simp; exact hk hK) ?_
 refine aF 15 rfl hst (fun W hS K hK => by have hc := hS.2.cell; clear hS; go_simp; exact hk hK) ?_
 refine aF 16 rfl hst (fun W hS K hK => by have hc := hS.2.cell; clear hS; go_simp; exact hk hK) ?_
 refine aF 17 rfl hst (fun W hS K hK => by clear hS; go_simp; refine (jO b5 16 _ rfl _).mono ?_; rintro e w9 ⟨rfl, hw⟩; refine fI.mk ?_; exact hK.out _ (lL hw)) ?_
 refine aF 18 rfl hst (fun W hS K hK => by go_simp; exact hk hK) ?_
 refine aF 19 rfl hst (fun W hS K hK => by go_simp; exact hk hK) ?_
 refine aE (fun W hS => ?_)
 have hc := hS.2.cell
 go_wp2
 go_ret
 exact ⟨fH (congrArg W64 HF.out), hS.1⟩
theorem mN (u v : BitVec 32) (nonce : BitVec 64) (z : BitVec 8) (w : World) :
  Calls Tryz.prog 124 #[.int .u32 (W32 u), .int .u32 (W32 v), .int .u64 (W64 nonce), .int .u8 (W8 z)] w fun e w' => e = .returned (.int .u64 (W64 (eF u v nonce z))) ∧ Below w.heap.size w w' := by
 obtain ⟨r, hr⟩ : ∃ r, fS (kB u v) (iE lZ) [z.setWidth 64] = r := ⟨_, rfl⟩
 have hc : eF u v nonce z = mix r nonce := by unfold eF; rw [hr]
 rw [hc]
 have HR := Lib.hid (fun W t => yB (kB u v) lZ [z.setWidth 64] 1 rfl (by simp) (by decide) W t)
 rw [hr] at HR
 clear hr hc
 go_enter Tryz.func124, Tryz.ntmps124
 go_wp2_with fail
 refine (sY _ _ _).mono ?_; rintro e w' ⟨rfl, rfl⟩
 go_wp2_with fail
 refine (HR.out _ _).mono ?_; rintro e w1 ⟨rfl, hb1⟩
 go_wp2_with fail
 refine (nX _ _ _).mono ?_; rintro e w2 ⟨rfl, hb2⟩
 go_wp2
 go_ret
 exact ⟨rfl, hb1.trans (hb2.mono hb1.size)⟩
theorem zT (u v : BitVec 32) (na nb : BitVec 64) (w : World) :
  Calls Tryz.prog 107 #[.int .u32 (W32 u), .int .u32 (W32 v), .int .u64 (W64 na), .int .u64 (W64 nb)] w fun e w' => e = .returned (.int .i64 (gO u v na nb).toNat) ∧ Below w.heap.size w w' := by
 obtain ⟨r, hr⟩ : ∃ r, fS (kB u v) (iE lS) [na, nb] = r := ⟨_, rfl⟩
 have hc : gO u v na nb = r % 1000000#64 := by unfold gO; rw [hr]
 have hlt := tP u v na nb
 rw [hc] at hlt ⊢
 have HR := Lib.hid (fun W t => DG (kB u v) lS [na, nb] 2 rfl (by simp) (by decide) W t)
 rw [hr] at HR
 clear hr hc
 have hw : W64 (r % 1000000#64) = ((r % 1000000#64).toNat : Int) := rfl
 have hi : IntKind.i64.wrap (W64 (r % 1000000#64)) = W64 (r % 1000000#64) := by rw [hw]; exact IntWalk.i64_in _ (by omega)
 have HW := Lib.hid hw
 clear hw
 go_enter Tryz.func107, Tryz.ntmps107
 go_wp2_with fail
 refine (uY _ _ _).mono ?_; rintro e w' ⟨rfl, rfl⟩
 go_wp2_with fail
 refine (HR.out _ _).mono ?_; rintro e w1 ⟨rfl, hb1⟩
 go_wp2
 go_ret
 exact ⟨fH HW.out, hb1⟩
theorem tZ (sh : BitVec 32) (na nb : BitVec 64) (ka : Int) (xa : BitVec 64) (kb : Int) (xb : BitVec 64) (w : World) :
  Calls Tryz.prog 81 #[.int .u32 (W32 sh), .int .u64 (W64 na), .int .u64 (W64 nb), .agg #[.int .i64 ka, .int .u64 (W64 xa)], .agg #[.int .i64 kb, .int .u64 (W64 xb)]] w fun e w' => e = .returned (.int .u64 (W64 (HO sh na nb (gM ka xa) (gM kb xb)))) ∧ Below w.heap.size w w' := by
 obtain ⟨r, hr⟩ : ∃ r, fS (sh.setWidth 64) (iE sR) [na, nb, gM ka xa, gM kb xb] = r := ⟨_, rfl⟩
 have hc : HO sh na nb (gM ka xa) (gM kb xb) = r := hr
 rw [hc]
 have HR := Lib.hid hr
 clear hr hc
 go_enter Tryz.func81, Tryz.ntmps81
 go_wp2
 have hX := KM w 26 #[.int .i64 ka, .int .u64 (W64 xa)] 26 #[.int .i64 kb, .int .u64 (W64 xb)]
 have hst := st2 w 26 #[.int .i64 ka, .int .u64 (W64 xa)] 26 #[.int .i64 kb, .int .u64 (W64 xb)]
 refine aD _ 11 hst ⟨hX.1.drew, hX.2⟩ ?_
 refine aF 0 rfl hst (fun W hS K hK => by have h1 := hS.2.1.cell; have h2 := hS.2.2.cell; clear hS; go_simp; exact hk hK) ?_
 refine aF 1 rfl hst (fun W hS K hK => by have h1 := hS.2.1.cell; have h2 := hS.2.2.cell; clear hS; go_simp; exact hk hK) ?_
 refine aF 2 rfl hst (fun W hS K hK => by have h1 := hS.2.1.cell; have h2 := hS.2.2.cell; clear hS; go_simp; exact hk hK) ?_
 refine aF 3 rfl hst (fun W hS K hK => by have h1 := hS.2.1.cell; have h2 := hS.2.2.cell; clear hS; go_simp; exact hk hK) ?_
 refine aF 4 rfl hst (fun W hS K hK => by have h1 := hS.2.1.cell; have h2 := hS.2.2.cell; clear hS; go_simp; exact hk hK) ?_
 refine aF 5 rfl hst (fun W hS K hK => by clear hS; go_simp; exact cl (kV ka xa _) hK) ?_
 refine aF 6 rfl hst (fun W hS K hK => by have h1 := hS.2.1.cell; have h2 := hS.2.2.cell; clear hS; go_simp; exact hk hK) ?_
 refine aF 7 rfl hst (fun W hS K hK => by clear hS; go_simp; exact cl (kV kb xb _) hK) ?_
 refine eH 8 hst rfl ?_; intro W hS K hK; go_simp
 refine hK.out (fun W' => RdU W' (some ⟨W.heap.size, 0, none⟩) [na, nb, gM ka xa, gM kb xb]) _ _ (mM _ _) ((Below.refl _ _).alloc (Nat.le_refl _) _) (Rd.new _ _ _) (fun hst => ?_)
 clear hK K hS
 refine aF 9 rfl hst (fun W hS K hK => by have hr := hS.2; clear hS; go_simp; exact cl (KF (sh.setWidth 64) sR _ _ 4 _ r HR.out rfl _ hr (by decide) (by decide)) hK) ?_
 refine aF 10 rfl hst (fun W hS K hK => by go_simp; exact hk hK) ?_
 refine aE (fun W hS => ?_)
 go_wp2
 go_ret
 exact ⟨rfl, hS.1.1⟩
theorem BV (sh : BitVec 32) (n r : BitVec 64) (io : Int) (b1 b2 b3 b4 b5 : Bool) (ka : Int) (xa : BitVec 64) (kb : Int) (xb : BitVec 64) (w : World) :
  Calls Tryz.prog 109 #[.int .u32 (W32 sh), .int .u64 (W64 n), .int .u64 (W64 r), .agg #[.int .i64 io, .bool b1, .bool b2, .bool b3, .bool b4, .bool b5], .agg #[.int .i64 ka, .int .u64 (W64 xa)], .agg #[.int .i64 kb, .int .u64 (W64 xb)]] w fun e w' => e = .returned (.int .u64 (W64 (pD sh n r (mW io [b1, b2, b3, b4, b5]) (gM ka xa) (gM kb xb)))) ∧ Below w.heap.size w w' := by
 obtain ⟨d, hd⟩ : ∃ d, fS 0#64 (iE nD) [n, r, mW io [b1, b2, b3, b4, b5], gM ka xa, gM kb xb] = d := ⟨_, rfl⟩
 have hc : pD sh n r (mW io [b1, b2, b3, b4, b5]) (gM ka xa) (gM kb xb) = mix d (sh.setWidth 64) := by unfold pD; rw [hd]
 rw [hc]
 have HR := Lib.hid hd
 clear hd hc
 have HF := Lib.hid (fun W => uJ io b1 b2 b3 b4 b5 W)
 generalize mW io [b1, b2, b3, b4, b5] = ft at *
 go_enter Tryz.func109, Tryz.ntmps109
 go_wp2
 have hX := LS w 23 #[.int .i64 io, .bool b1, .bool b2, .bool b3, .bool b4, .bool b5] 26 #[.int .i64 ka, .int .u64 (W64 xa)] 26 #[.int .i64 kb, .int .u64 (W64 xb)]
 have hst := st3 w 23 #[.int .i64 io, .bool b1, .bool b2, .bool b3, .bool b4, .bool b5] 26 #[.int .i64 ka, .int .u64 (W64 xa)] 26 #[.int .i64 kb, .int .u64 (W64 xb)]
 refine aD _ 14 hst ⟨hX.1.drew, hX.2⟩ ?_
 refine aF 0 rfl hst (fun W hS K hK => by have h1 := hS.2.1.cell; have h2 := hS.2.2.1.cell; have h3 := hS.2.2.2.cell; clear hS; go_simp; exact hk hK) ?_
 refine aF 1 rfl hst (fun W hS K hK => by have h1 := hS.2.1.cell; have h2 := hS.2.2.1.cell; have h3 := hS.2.2.2.cell; clear hS; go_simp; exact hk hK) ?_
 refine aF 2 rfl hst (fun W hS K hK => by have h1 := hS.2.1.cell; have h2 := hS.2.2.1.cell; have h3 := hS.2.2.2.cell; clear hS; go_simp; exact hk hK) ?_
 refine aF 3 rfl hst (fun W hS K hK => by clear hS; go_simp; exact cl (HF.out _) hK) ?_
 refine aF 4 rfl hst (fun W hS K hK => by have h1 := hS.2.1.cell; have h2 := hS.2.2.1.cell; have h3 := hS.2.2.2.cell; clear hS; go_simp; exact hk hK) ?_
 refine aF 5 rfl hst (fun W hS K hK => by clear hS; go_simp; exact cl (kV ka xa _) hK) ?_
 refine aF 6 rfl hst (fun W hS K hK => by have h1 := hS.2.1.cell; have h2 := hS.2.2.1.cell; have h3 := hS.2.2.2.cell; clear hS; go_simp; exact hk hK) ?_
 refine aF 7 rfl hst (fun W hS K hK => by clear hS; go_simp; exact cl (kV kb xb _) hK) ?_
 refine aF 10 rfl hst (fun W hS K hK => by go_simp; exact hk hK) ?_
 refine aF 11 rfl hst (fun W hS K hK => by go_simp; exact hk hK) ?_
 refine eH 8 hst rfl ?_; intro W hS K hK; go_simp
 refine hK.out (fun W' => RdU W' (some ⟨W.heap.size, 0, none⟩) [n, r, ft, gM ka xa, gM kb xb]) _ _ (mM _ _) ((Below.refl _ _).alloc (Nat.le_refl _) _) (Rd.new _ _ _) (fun hst => ?_)
 clear hK K hS
 refine aF 9 rfl hst (fun W hS K hK => by have hr := hS.2; clear hS; go_simp; exact cl (KF 0#64 nD _ _ 5 _ d HR.out rfl _ hr (by decide) (by decide)) hK) ?_
 refine aF 12 rfl hst (fun W hS K hK => by clear hS; go_simp; exact cl (mB _ _ _) hK) ?_
 refine aF 13 rfl hst (fun W hS K hK => by go_simp; exact hk hK) ?_
 refine aE (fun W hS => ?_)
 go_wp2
 go_ret
 exact ⟨rfl, hS.1.1⟩
theorem pP (u v : BitVec 32) (na nb : BitVec 64) (w : World) :
  Calls Tryz.prog 164 #[.int .u32 (W32 u), .int .u32 (W32 v), .int .u64 (W64 na), .int .u64 (W64 nb)] w fun e w' => e = .returned (.int .i64 (gO u v na nb).toNat) ∧ Below w.heap.size w w' := by
 obtain ⟨r, hr⟩ : ∃ r, fS (kB u v) (iE lS) [na, nb] = r := ⟨_, rfl⟩
 have hc : gO u v na nb = r % 1000000#64 := by unfold gO; rw [hr]
 have hlt := tP u v na nb
 rw [hc] at hlt ⊢
 have HR := Lib.hid (fun W t => yB (kB u v) lS [na, nb] 2 rfl (by simp) (by decide) W t)
 rw [hr] at HR
 clear hr hc
 have hw : W64 (r % 1000000#64) = ((r % 1000000#64).toNat : Int) := rfl
 have hi : IntKind.i64.wrap (W64 (r % 1000000#64)) = W64 (r % 1000000#64) := by rw [hw]; exact IntWalk.i64_in _ (by omega)
 have HW := Lib.hid hw
 clear hw
 go_enter Tryz.func164, Tryz.ntmps164
 go_wp2_with fail
 refine (sY _ _ _).mono ?_; rintro e w' ⟨rfl, rfl⟩
 go_wp2_with fail
 refine (HR.out _ _).mono ?_; rintro e w1 ⟨rfl, hb1⟩
 go_wp2
 go_ret
 exact ⟨fH HW.out, hb1⟩
theorem tW (sh : BitVec 32) (na nb : BitVec 64) (ka : Int) (xa : BitVec 64) (kb : Int) (xb : BitVec 64) (w : World) :
  Calls Tryz.prog 129 #[.int .u32 (W32 sh), .int .u64 (W64 na), .int .u64 (W64 nb), .agg #[.int .i64 ka, .int .u64 (W64 xa)], .agg #[.int .i64 kb, .int .u64 (W64 xb)]] w fun e w' => e = .returned (.int .u64 (W64 (HO sh na nb (gM ka xa) (gM kb xb)))) ∧ Below w.heap.size w w' := by
 obtain ⟨r, hr⟩ : ∃ r, fS (sh.setWidth 64) (iE sR) [na, nb, gM ka xa, gM kb xb] = r := ⟨_, rfl⟩
 have hc : HO sh na nb (gM ka xa) (gM kb xb) = r := hr
 rw [hc]
 have HR := Lib.hid hr
 clear hr hc
 go_enter Tryz.func129, Tryz.ntmps129
 go_wp2
 have hX := KM w 26 #[.int .i64 ka, .int .u64 (W64 xa)] 26 #[.int .i64 kb, .int .u64 (W64 xb)]
 have hst := st2 w 26 #[.int .i64 ka, .int .u64 (W64 xa)] 26 #[.int .i64 kb, .int .u64 (W64 xb)]
 refine aD _ 11 hst ⟨hX.1.drew, hX.2⟩ ?_
 refine aF 0 rfl hst (fun W hS K hK => by have h1 := hS.2.1.cell; have h2 := hS.2.2.cell; clear hS; go_simp; exact hk hK) ?_
 refine aF 1 rfl hst (fun W hS K hK => by have h1 := hS.2.1.cell; have h2 := hS.2.2.cell; clear hS; go_simp; exact hk hK) ?_
 refine aF 2 rfl hst (fun W hS K hK => by have h1 := hS.2.1.cell; have h2 := hS.2.2.cell; clear hS; go_simp; exact hk hK) ?_
 refine aF 3 rfl hst (fun W hS K hK => by have h1 := hS.2.1.cell; have h2 := hS.2.2.cell; clear hS; go_simp; exact hk hK) ?_
 refine aF 4 rfl hst (fun W hS K hK => by have h1 := hS.2.1.cell; have h2 := hS.2.2.cell; clear hS; go_simp; exact hk hK) ?_
 refine aF 5 rfl hst (fun W hS K hK => by clear hS; go_simp; exact cl (kF ka xa _) hK) ?_
 refine aF 6 rfl hst (fun W hS K hK => by have h1 := hS.2.1.cell; have h2 := hS.2.2.cell; clear hS; go_simp; exact hk hK) ?_
 refine aF 7 rfl hst (fun W hS K hK => by clear hS; go_simp; exact cl (kF kb xb _) hK) ?_
 refine eH 8 hst rfl ?_; intro W hS K hK; go_simp
 refine hK.out (fun W' => RdU W' (some ⟨W.heap.size, 0, none⟩) [na, nb, gM ka xa, gM kb xb]) _ _ (mM _ _) ((Below.refl _ _).alloc (Nat.le_refl _) _) (Rd.new _ _ _) (fun hst => ?_)
 clear hK K hS
 refine aF 9 rfl hst (fun W hS K hK => by have hr := hS.2; clear hS; go_simp; exact cl (FZ (sh.setWidth 64) sR _ _ 4 _ r HR.out rfl _ hr (by decide) (by decide)) hK) ?_
 refine aF 10 rfl hst (fun W hS K hK => by go_simp; exact hk hK) ?_
 refine aE (fun W hS => ?_)
 go_wp2
 go_ret
 exact ⟨rfl, hS.1.1⟩
theorem xT (sh : BitVec 32) (n r : BitVec 64) (io : Int) (b1 b2 b3 b4 b5 : Bool) (ka : Int) (xa : BitVec 64) (kb : Int) (xb : BitVec 64) (w : World) :
  Calls Tryz.prog 150 #[.int .u32 (W32 sh), .int .u64 (W64 n), .int .u64 (W64 r), .agg #[.int .i64 io, .bool b1, .bool b2, .bool b3, .bool b4, .bool b5], .agg #[.int .i64 ka, .int .u64 (W64 xa)], .agg #[.int .i64 kb, .int .u64 (W64 xb)]] w fun e w' => e = .returned (.int .u64 (W64 (pD sh n r (mW io [b1, b2, b3, b4, b5]) (gM ka xa) (gM kb xb)))) ∧ Below w.heap.size w w' := by
 obtain ⟨d, hd⟩ : ∃ d, fS 0#64 (iE nD) [n, r, mW io [b1, b2, b3, b4, b5], gM ka xa, gM kb xb] = d := ⟨_, rfl⟩
 have hc : pD sh n r (mW io [b1, b2, b3, b4, b5]) (gM ka xa) (gM kb xb) = mix d (sh.setWidth 64) := by unfold pD; rw [hd]
 rw [hc]
 have HR := Lib.hid hd
 clear hd hc
 have HF := Lib.hid (fun W => tE io b1 b2 b3 b4 b5 W)
 generalize mW io [b1, b2, b3, b4, b5] = ft at *
 go_enter Tryz.func150, Tryz.ntmps150
 go_wp2
 have hX := LS w 23 #[.int .i64 io, .bool b1, .bool b2, .bool b3, .bool b4, .bool b5] 26 #[.int .i64 ka, .int .u64 (W64 xa)] 26 #[.int .i64 kb, .int .u64 (W64 xb)]
 have hst := st3 w 23 #[.int .i64 io, .bool b1, .bool b2, .bool b3, .bool b4, .bool b5] 26 #[.int .i64 ka, .int .u64 (W64 xa)] 26 #[.int .i64 kb, .int .u64 (W64 xb)]
 refine aD _ 14 hst ⟨hX.1.drew, hX.2⟩ ?_
 refine aF 0 rfl hst (fun W hS K hK => by have h1 := hS.2.1.cell; have h2 := hS.2.2.1.cell; have h3 := hS.2.2.2.cell; clear hS; go_simp; exact hk hK) ?_
 refine aF 1 rfl hst (fun W hS K hK => by have h1 := hS.2.1.cell; have h2 := hS.2.2.1.cell; have h3 := hS.2.2.2.cell; clear hS; go_simp; exact hk hK) ?_
 refine aF 2 rfl hst (fun W hS K hK => by have h1 := hS.2.1.cell; have h2 := hS.2.2.1.cell; have h3 := hS.2.2.2.cell; clear hS; go_simp; exact hk hK) ?_
 refine aF 3 rfl hst (fun W hS K hK => by clear hS; go_simp; exact cl (HF.out _) hK) ?_
 refine aF 4 rfl hst (fun W hS K hK => by have h1 := hS.2.1.cell; have h2 := hS.2.2.1.cell; have h3 := hS.2.2.2.cell; clear hS; go_simp; exact hk hK) ?_
 refine aF 5 rfl hst (fun W hS K hK => by clear hS; go_simp; exact cl (kF ka xa _) hK) ?_
 refine aF 6 rfl hst (fun W hS K hK => by have h1 := hS.2.1.cell; have h2 := hS.2.2.1.cell; have h3 := hS.2.2.2.cell; clear hS; go_simp; exact hk hK) ?_
 refine aF 7 rfl hst (fun W hS K hK => by clear hS; go_simp; exact cl (kF kb xb _) hK) ?_
 refine aF 10 rfl hst (fun W hS K hK => by go_simp; exact hk hK) ?_
 refine aF 11 rfl hst (fun W hS K hK => by go_simp; exact hk hK) ?_
 refine eH 8 hst rfl ?_; intro W hS K hK; go_simp
 refine hK.out (fun W' => RdU W' (some ⟨W.heap.size, 0, none⟩) [n, r, ft, gM ka xa, gM kb xb]) _ _ (mM _ _) ((Below.refl _ _).alloc (Nat.le_refl _) _) (Rd.new _ _ _) (fun hst => ?_)
 clear hK K hS
 refine aF 9 rfl hst (fun W hS K hK => by have hr := hS.2; clear hS; go_simp; exact cl (FZ 0#64 nD _ _ 5 _ d HR.out rfl _ hr (by decide) (by decide)) hK) ?_
 refine aF 12 rfl hst (fun W hS K hK => by clear hS; go_simp; exact cl (nX _ _ _) hK) ?_
 refine aF 13 rfl hst (fun W hS K hK => by go_simp; exact hk hK) ?_
 refine aE (fun W hS => ?_)
 go_wp2
 go_ret
 exact ⟨rfl, hS.1.1⟩
theorem IE (a b : BitVec 64) (w : World) : Calls Tryz.prog 68 #[.int .u64 (W64 a), .int .u64 (W64 b)] w fun e w' => e = .returned (.int .u64 (W64 (a * b % 2147483647#64))) ∧ w = w' := by
 go_enter Tryz.func68, Tryz.ntmps68
 go_wp2
 go_ret
 exact ⟨rfl, rfl⟩
theorem wY (a b : Nat) (ha : a < gp) (hb : b < gp) : BitVec.ofNat 64 a * BitVec.ofNat 64 b % 2147483647#64 = BitVec.ofNat 64 (a * b % gp) := by
  apply BitVec.eq_of_toNat_eq
  have hg : gp = 2147483647 := rfl
  have h1 : a * b < 2147483647 * 2147483647 := Nat.mul_lt_mul'' (by omega) (by omega)
  have h2 : a * b % 2147483647 < 2147483647 := Nat.mod_lt _ (by decide)
  rw [BitVec.toNat_umod, BitVec.toNat_mul]
  simp only [BitVec.toNat_ofNat]
  rw [hg, Nat.mod_eq_of_lt (show a < 2 ^ 64 by omega), Nat.mod_eq_of_lt (show b < 2 ^ 64 by omega)]
  rw [show 2147483647 % 2 ^ 64 = 2147483647 from rfl]
  generalize a * b = c at *
  omega
theorem tH (a b : Nat) (ha : a < gp) (hb : b < gp) (w : World) : Calls Tryz.prog 68 #[.int .u64 (W64 (BitVec.ofNat 64 a)), .int .u64 (W64 (BitVec.ofNat 64 b))] w fun e w' => e = .returned (.int .u64 (W64 (BitVec.ofNat 64 (a * b % gp)))) ∧ w = w' := by
  have := IE (BitVec.ofNat 64 a) (BitVec.ofNat 64 b) w
  rw [wY a b ha hb] at this
  exact this
theorem G6 (e : BitVec 32) (k : Nat) : ((e >>> k) &&& 1#32 == 1#32) = decide (e.toNat / 2 ^ k % 2 = 1) := by
  rw [Bool.eq_iff_iff, beq_iff_eq, decide_eq_true_iff, ← BitVec.toNat_inj, BitVec.toNat_and, BitVec.toNat_ushiftRight, Nat.shiftRight_eq_div_pow]
  have e1 : (1#32).toNat = 1 := rfl
  rw [e1, Nat.and_one_is_mod]
set_option maxHeartbeats 1000000 in
theorem yH (b e : BitVec 32) (w : World) : Calls Tryz.prog 37 #[.int .u32 (W32 b), .int .u32 (W32 e)] w fun x w' => x = .returned (.int .u32 (W32 (BitVec.ofNat 32 (CW b.toNat e.toNat)))) ∧ Below w.heap.size w w' := by
 obtain ⟨B, hB⟩ : ∃ B, b.toNat = B := ⟨_, rfl⟩
 obtain ⟨X, hX⟩ : ∃ X, e.toNat = X := ⟨_, rfl⟩
 have h0 : b.setWidth 64 % 2147483647#64 = BitVec.ofNat 64 (qU B 0) := by
  rw [vK, ← hB]
  apply BitVec.eq_of_toNat_eq
  have := b.isLt
  have e : 2147483647 % 2 ^ 64 = 2147483647 := rfl
  have hg : gp = 2147483647 := rfl
  have hl : b.toNat % gp < gp := Nat.mod_lt _ (by decide)
  rw [BitVec.toNat_umod, BitVec.toNat_setWidth, BitVec.toNat_ofNat, BitVec.toNat_ofNat, e, Nat.mod_eq_of_lt (show b.toNat < 2 ^ 64 by omega), Nat.mod_eq_of_lt (show b.toNat % gp < 2 ^ 64 by omega), hg]
 have hE := e.isLt
 have HT := fun k => G6 e k
 rw [hX] at hE
 simp only [hX] at HT
 rw [hB, hX]
 have HB := Lib.hid hB
 have HX := Lib.hid hX
 have H0 := Lib.hid h0
 have HT2 := Lib.hid HT
 have HE := Lib.hid hE
 clear hB hX h0 HT hE
 go_enter Tryz.func37, Tryz.ntmps37
 go_wp2
 go_loop [5, 6, 11] (fun o s i => ∃ k : Nat, k ≤ 32 ∧ i = .int .i64 k ∧ o = .int .u64 (W64 (BitVec.ofNat 64 (qL B X k))) ∧ s = .int .u64 (W64 (BitVec.ofNat 64 (qU B k)))) (fun _ _ i => 32 - (intOf i).toNat)
 case atStart => exact ⟨0, by omega, rfl, by rw [uR]; rfl, by rw [← H0.out]⟩
 case round =>
  obtain ⟨k, hk, rfl, rfl, rfl⟩ := hrel
  by_cases hlt : k < 32
  rotate_left
  ·
   obtain rfl : k = 32 := by omega
   go_wp2
   go_ret
   refine ⟨?_, Below.refl _ _⟩
   have := DA B X
   have hg : gp = 2147483647 := rfl
   have hE := HE.out
   rw [yP _ _ _ hE]
   rfl
  have hb := HT2.out k
  by_cases hbit : X / 2 ^ k % 2 = 1
  ·
   have hd : ((e >>> k) &&& 1#32 == 1#32) = true := by rw [hb]; simpa using hbit
   have hd2 : (W32 ((e >>> k) &&& 1#32) == W32 1#32) = true := by rw [mO]; exact hd
   have hd3 : ((W32 ((e >>> k) &&& 1#32) : Int) == 1) = true := hd2
   have HS := Lib.hid hbit
   clear hb hbit hd hd2
   go_wp2_with (go_at_call 68; refine (tH _ _ ?_ ?_ _).mono ?_; rotate_left 2; rintro e w' ⟨rfl, rfl⟩)
   all_goals first | exact wH _ _ _ | exact mQ _ _ | skip
   go_round
   case rel => exact ⟨k + 1, by omega, by go_num, by rw [yR _ _ _ HS.out], by rw [oI]⟩
   case measure => simp [intOf]; omega
  have hd : ((e >>> k) &&& 1#32 == 1#32) = false := by rw [hb]; simpa using hbit
  have hd2 : (W32 ((e >>> k) &&& 1#32) == W32 1#32) = false := by rw [mO]; exact hd
  have hd3 : ((W32 ((e >>> k) &&& 1#32) : Int) == 1) = false := hd2
  have HS := Lib.hid hbit
  clear hb hbit hd hd2
  go_wp2_with (go_at_call 68; refine (tH _ _ ?_ ?_ _).mono ?_; rotate_left 2; rintro e w' ⟨rfl, rfl⟩)
  all_goals first | exact wH _ _ _ | exact mQ _ _ | skip
  go_round
  case rel => exact ⟨k + 1, by omega, by go_num, by rw [uV _ _ _ HS.out], by rw [oI]⟩
  case measure => simp [intOf]; omega
theorem rC (s : BitVec 32) (w : World) : Calls Tryz.prog 15 #[.int .u32 (W32 s)] w fun e w' => e = .returned (.int .u32 (W32 (cJ s))) ∧ Below w.heap.size w w' := by
 have H := Lib.hid (fun W => yH 7#32 s W)
 go_enter Tryz.func15, Tryz.ntmps15
 go_wp2_with fail
 refine (H.out _).mono ?_; rintro e w' ⟨rfl, hb⟩
 go_wp2
 go_ret
 exact ⟨rfl, hb⟩
theorem uP (s k : BitVec 32) (w : World) : Calls Tryz.prog 72 #[.int .u32 (W32 s), .int .u32 (W32 k)] w fun e w' => e = .returned (.int .u32 (W32 (dO s k))) ∧ Below w.heap.size w w' := by
 have H := Lib.hid (fun W => yH k s W)
 go_enter Tryz.func72, Tryz.ntmps72
 go_wp2_with fail
 refine (H.out _).mono ?_; rintro e w' ⟨rfl, hb⟩
 go_wp2
 go_ret
 exact ⟨rfl, hb⟩
theorem tD (k : BitVec 32) (w : World) : Calls Tryz.prog 14 #[.int .u32 (W32 k)] w fun e w' => e = .returned (.bool (fB k)) ∧ Below w.heap.size w w' := by
 obtain ⟨r, hr⟩ : ∃ r, fB k = r := ⟨_, rfl⟩
 rw [hr]
 have HR := Lib.hid hr
 clear hr
 have e2 : W32 k = (k.toNat : Int) := rfl
 have HE := Lib.hid e2
 clear e2
 by_cases h1 : (2 : Int) ≤ W32 k
 rotate_left
 ·
  go_enter Tryz.func14, Tryz.ntmps14
  go_wp2
  go_ret
  refine ⟨?_, Below.refl _ _⟩
  rw [← HR.out]
  rw [HE.out] at h1
  unfold fB
  rw [decide_eq_false (show ¬ 2 ≤ k.toNat by omega)]
  rfl
 by_cases h2 : W32 k ≤ (2147483645 : Int)
 ·
  go_enter Tryz.func14, Tryz.ntmps14
  go_wp2
  go_ret
  refine ⟨?_, Below.refl _ _⟩
  rw [← HR.out]
  rw [HE.out] at h1 h2
  unfold fB
  rw [decide_eq_true (show 2 ≤ k.toNat by omega), decide_eq_true (show k.toNat ≤ 2147483645 by omega)]
  rfl
 go_enter Tryz.func14, Tryz.ntmps14
 go_wp2
 go_ret
 refine ⟨?_, Below.refl _ _⟩
 rw [← HR.out]
 rw [HE.out] at h1 h2
 unfold fB
 rw [decide_eq_true (show 2 ≤ k.toNat by omega), decide_eq_false (show ¬ k.toNat ≤ 2147483645 by omega)]
 rfl
end
section
theorem sE {w w' : World} {base g : Nat} {S T : Sd} {v u x : Value} {bx : List Bk} {X : List Sec} {Y : List Evt} (es : S = T) (h : Mem w w' base X Y v u ((g, cQ, (sdL T v u).toArray) :: bx)) (hX : X = T.sent := by rfl) (hY : Y = T.told := by rfl) : Ending.returned x = .returned x ∧ eA w w' base g S bx := by
  subst es hX hY
  exact ⟨rfl, v, u, h⟩
theorem sE2 {w w' : World} {base g : Nat} {A : Sd × Bool} {T : Sd} {b : Bool} {v u : Value} {bx : List Bk} {X : List Sec} {Y : List Evt} (es : A = (T, b)) (h : Mem w w' base X Y v u ((g, cQ, (sdL T v u).toArray) :: bx)) (hX : X = T.sent := by rfl) (hY : Y = T.told := by rfl) : Ending.returned (.bool b) = .returned (.bool A.2) ∧ eA w w' base g A.1 bx := by
  subst es hX hY
  exact ⟨rfl, v, u, h⟩
theorem bM {w0 W : World} {base : Nat} {S : List Sec} {E : List Evt} {v u : Value} {bx : List Bk} (h : Mem w0 W base S E v u bx) : aO fun W => Mem w0 W base S E v u bx := bD _ _ _ _ _ _ _
theorem bd {P : Program} {f : FuncId} {args : Array Value} {w0 W : World} {base g : Nat} {S : List Sec} {E : List Evt} {v u x : Value} {bx bx' : List Bk} {T : Sd} {R : Ending → World → Prop} (m : Mem w0 W base S E v u bx') (h : Calls P f args W fun e w' => e = .returned x ∧ eA W w' base g T bx)
    (k : ∀ v u w', Mem w0 w' base T.sent T.told v u ((g, cQ, (sdL T v u).toArray) :: bx) → R (.returned x) w') : Calls P f args W R :=
  h.mono fun e w' ⟨he, v, u, hn⟩ => he ▸ k v u w' (m.trans hn)
def Ln (s : Stp) (a b : Nat) : Prop := s.out.length ≤ a ∧ s.ev.length ≤ b
theorem Ln.mono {s : Stp} {a b a' b' : Nat} (h : Ln s a b) (h1 : a ≤ a') (h2 : b ≤ b') : Ln s a' b' := ⟨Nat.le_trans h.1 h1, Nat.le_trans h.2 h2⟩
theorem eE (p : Pr) (r n : Int) : Ln (cE p r n) 2 1 := ⟨by simp [cE], by simp [cE]⟩
theorem gL (s : Stp) : (fL s).out.length = s.out.length + 1 ∧ (fL s).ev.length = s.ev.length := ⟨by simp [fL, dQ, cK, eX], by simp [fL, dQ, cK, eX]⟩
theorem IF (s : Stp) : Ln (gS s) (s.out.length + 1) (s.ev.length + 1) := by
  rw [IZ]
  obtain ⟨t, ht, h1, h2⟩ : ∃ t : Stp, (⟨{ s.p with phase := 3 }, s.out, s.ev⟩ : Stp) = t ∧ t.out = s.out ∧ t.ev = s.ev := ⟨_, rfl, rfl, rfl⟩
  rw [ht, ← h1, ← h2]
  unfold FP
  split
  · split
    · exact ⟨by simp [dQ, cK, eX], by simp [dQ, cK, eX]⟩
    · exact ⟨by simp, by simp⟩
  · split
    · split
      · exact ⟨by simp, by simp⟩
      · exact ⟨by rw [(gL t).1]; exact Nat.le_refl _, by rw [(gL t).2]; simp⟩
    · split
      · exact ⟨by simp [eR], by simp [eR]⟩
      · dsimp only
        split
        · exact ⟨by rw [(gL _).1]; simp [eR, eX], by rw [(gL _).2]; simp [eR, eX]⟩
        · exact ⟨by simp [eR, eX], by simp [eR, eX]⟩
theorem jG (s : Stp) : Ln (cF s) (s.out.length + 1) s.ev.length := by
  unfold cF
  dsimp only
  split
  · exact ⟨by simp [dQ], by simp [dQ]⟩
  · exact ⟨by simp, by simp⟩
theorem xF (s : Stp) : Ln (iO s) (s.out.length + 1) (s.ev.length + 1) := by
  unfold iO
  split
  · exact (jG s).mono (Nat.le_refl _) (Nat.le_succ _)
  · dsimp only
    split <;> exact ⟨by simp [eR], by simp [eR]⟩
theorem rS (p : Pr) (d : Sec) (n : Int) : Ln (dB p d n) 2 1 := by
  unfold dB
  by_cases hi : aP p = true
  · simp only [hi, if_true]
    split
    · exact eE ..
    · exact ⟨by simp, by simp⟩
  · simp only [hi, if_false, Bool.false_eq_true]
    split
    · exact eE ..
    · exact ⟨by simp, by simp⟩
theorem DV (p : Pr) (d : Sec) (n : Int) : Ln (fK p d n) 2 1 := by
  unfold fK
  split
  · exact eE ..
  · split
    · exact eE ..
    · refine (IF _).mono ?_ (by simp)
      dsimp only
      split <;> simp
theorem E6 (p : Pr) (d : Sec) (n : Int) : Ln (dU p d n) 2 1 := by
  unfold dU
  dsimp only
  split
  · exact (xF _).mono (by simp [dQ, aC]) (by simp [dQ, aC])
  · split
    · exact ⟨by simp [dQ, cK, eX, aC], by simp [dQ, cK, eX, aC]⟩
    · split
      · split
        · exact eE ..
        · exact (xF _).mono (by simp [cS, aC]) (by simp [cS, aC])
      · exact eE ..
theorem CC (p : Pr) (d : Sec) (n : Int) : Ln (fP p d n) 2 1 := by
  unfold fP
  split
  · exact eE ..
  · dsimp only
    split
    · exact (jG _).mono (by simp [aC]) (by simp [aC])
    · exact (jG _).mono (by simp [dQ, cK, eX, aC]) (by simp [dQ, cK, eX, aC])
theorem EO (p : Pr) (d : Sec) (n : Int) : Ln (dI p d n) 2 1 := by
  unfold dI
  dsimp only
  split
  · split
    · exact ⟨by simp [dQ, aC], by simp [dQ, aC]⟩
    · exact ⟨by rw [(gL _).1]; simp [aC], by rw [(gL _).2]; simp [aC]⟩
  · split
    · exact eE ..
    · split
      · exact eE ..
      · by_cases hi : aP p = true
        · simp only [hi, if_true]
          split
          · exact (jG _).mono (by simp [cS, aC]) (by simp [cS, aC])
          · exact ⟨by rw [(gL _).1]; simp [cS, aC], by rw [(gL _).2]; simp [cS, aC]⟩
        · simp only [hi, if_false, Bool.false_eq_true]
          split
          · exact (jG _).mono (by simp [dQ, cS, aC]) (by simp [dQ, cS, aC])
          · exact ⟨by simp [dQ, cS, aC], by simp [dQ, cS, aC]⟩
theorem AP (p : Pr) (d : Sec) (n : Int) : Ln (cW p d n) 2 1 := by
  unfold cW
  dsimp only
  split
  · exact ⟨by simp [aC], by simp [aC]⟩
  · split
    · exact ⟨by simp [aC], by simp [aC]⟩
    · exact eE ..
theorem sH (b : Pr) (s : Stp) (v : BitVec 64) (n : Int) (h : s.out.length ≤ 1) (h2 : s.ev.length ≤ 1) : Ln (eI b s v n) 2 1 := by
  unfold eI
  split
  · exact eE ..
  · split
    · exact ⟨by simp; omega, by simpa using h2⟩
    · exact ⟨by simp [dQ]; omega, by simpa [dQ] using h2⟩
theorem C5 (s : Stp) (b : Bool) : Ln (iL s b) (s.out.length + 1) s.ev.length := by
  unfold iL
  split
  · exact ⟨by simp, by simp⟩
  · exact ⟨by simp, by simp⟩
theorem uW (s : Stp) : Ln (oE s) s.out.length (s.ev.length + 1) := ⟨by simp [oE], by simp [oE]⟩
theorem zC (p : Pr) (d : Sec) (n : Int) : Ln (eD p d n) 2 1 := by
  unfold eD
  split
  · exact eE ..
  · have h := C5 { aC p n with p := { (aC p n).p with idn := d.idn } } ((cU p).1 && aP p)
    have h2 := uW (iL { aC p n with p := { (aC p n).p with idn := d.idn } } ((cU p).1 && aP p))
    exact ⟨Nat.le_trans h2.1 (Nat.le_trans h.1 (by simp [aC])), Nat.le_trans h2.2 (by have := h.2; simp [aC] at this ⊢; exact this)⟩
theorem HH (p : Pr) (d : Sec) (n : Int) : Ln (eO p d n) 2 1 := by
  unfold eO
  split
  · split
    · exact ⟨by simp, by simp⟩
    · split
      · exact rS ..
      · exact eE ..
  split
  · split
    · exact rS ..
    · exact eE ..
  split
  · split
    · exact DV ..
    · exact eE ..
  split
  · split
    · exact CC ..
    · split
      · exact EO ..
      · exact E6 ..
  split
  · exact AP ..
  split
  · split
    · exact sH _ _ _ _ (by simp [aC]) (by simp [aC])
    · exact eE ..
  split
  · exact zC ..
  · exact eE ..
theorem uU (p : Pr) (d : Sec) (n : Int) : Ln (bN p d n) 2 1 := by
  unfold bN
  split
  · exact ⟨by simp, by simp⟩
  split
  · exact eE ..
  split
  · exact HH ..
  split
  · exact ⟨by simp, by simp⟩
  · exact ⟨by simp, (eE p d.reason n).2⟩
theorem wK (p : Pr) (a n : Int) : Ln (bZ p a n) 2 1 := by
  unfold bZ
  split
  · exact ⟨by simp, by simp⟩
  dsimp only
  split
  · split
    · exact eE ..
    · split
      · exact ⟨by rw [(gL _).1]; simp [aC], by rw [(gL _).2]; simp [aC]⟩
      · exact ⟨by simp [aC], by simp [aC]⟩
  split
  · exact ⟨by simp, by simp⟩
  split
  · exact eE ..
  have h := jG { aC p n with p := { (aC p n).p with agreed := true } }
  split
  · exact h.mono (by simp [aC]) (by simp [aC])
  · exact sH _ _ _ _ (by have := h.1; simp [aC] at this ⊢; exact this) (by have := h.2; simp [aC] at this ⊢; try rw [this]; try simp)
theorem G2 (p : Pr) (n : Int) : Ln (dX p n) 2 1 := by
  unfold dX
  split
  · exact ⟨by simp, by simp⟩
  dsimp only
  split
  · exact ⟨by simp [aC], by simp [aC]⟩
  have h := C5 { aC p n with p := { (aC p n).p with crypt := true } } (cU p).1
  split
  · exact h.mono (by simp [aC]) (by simp [aC])
  · have h2 := uW (iL { aC p n with p := { (aC p n).p with crypt := true } } (cU p).1)
    exact ⟨Nat.le_trans h2.1 (Nat.le_trans h.1 (by simp [aC])), Nat.le_trans h2.2 (by have := h.2; simp [aC] at this ⊢; try rw [this]; try simp)⟩
structure Sm (x : Tk) (m : Nat) : Prop where
  s0 : 0 ≤ x.sent
  s1 : x.sent ≤ m
  ln : x.line.length ≤ m
  g0 : x.g0.length ≤ m
  g1 : x.g1.length ≤ m
theorem EF {l : List Chg} {b : Bool} : ∀ (out : List Sec) (x : Tk), (out.foldl (kP l b) x).sent = x.sent + out.length ∧ (out.foldl (kP l b) x).line.length = x.line.length + out.length ∧ (out.foldl (kP l b) x).g0 = x.g0 ∧ (out.foldl (kP l b) x).g1 = x.g1 := by
  intro out
  induction out with
  | nil => intro x; exact ⟨by simp, rfl, rfl, rfl⟩
  | cons d out ih =>
    intro x
    obtain ⟨h1, h2, h3, h4⟩ := ih (kP l b x d)
    rw [List.foldl_cons]
    refine ⟨?_, ?_, h3, h4⟩
    · rw [h1]; show x.sent + 1 + (out.length : Int) = x.sent + ((d :: out).length : Nat); rw [List.length_cons]; omega
    · rw [h2]; show (x.line ++ [_]).length + out.length = _; rw [List.length_append, List.length_cons, List.length_cons]; simp; omega
theorem BQ {b : Bool} : ∀ (ev : List Evt) (x : Tk), (ev.foldl (cH b) x).sent = x.sent ∧ (ev.foldl (cH b) x).line = x.line ∧ (ev.foldl (cH b) x).g0.length ≤ x.g0.length + ev.length ∧ (ev.foldl (cH b) x).g1.length ≤ x.g1.length + ev.length := by
  intro ev
  induction ev with
  | nil => intro x; exact ⟨rfl, rfl, by simp, by simp⟩
  | cons e ev ih =>
    intro x
    obtain ⟨h0, h1, h2, h3⟩ := ih (cH b x e)
    rw [List.foldl_cons]
    have h : (cH b x e).sent = x.sent ∧ (cH b x e).line = x.line ∧ (cH b x e).g0.length ≤ x.g0.length + 1 ∧ (cH b x e).g1.length ≤ x.g1.length + 1 := by
      unfold cH
      split
      · split <;> exact ⟨rfl, rfl, Nat.le_succ _, Nat.le_succ _⟩
      · split
        · split <;> exact ⟨rfl, rfl, Nat.le_succ _, Nat.le_succ _⟩
        · split <;> exact ⟨rfl, rfl, by simp, by simp⟩
    rw [List.length_cons]
    exact ⟨h0.trans h.1, h1.trans h.2.1, by omega, by omega⟩
theorem Sm.step {l : List Chg} {b : Bool} {x x' : Tk} {s : Stp} {m : Nat} (h : Sm x m) (hs : Ln s 2 1) (e1 : x'.sent = x.sent) (e2 : x'.line.length ≤ x.line.length) (e3 : x'.g0 = x.g0) (e4 : x'.g1 = x.g1) : Sm (jS l b x' s) (m + 2) := by
  obtain ⟨a1, a2, a3, a4⟩ := EF (l := l) (b := b) s.out (x'.setSide b s.p)
  obtain ⟨b1, b2, b3, b4⟩ := BQ (b := b) s.ev (s.out.foldl (kP l b) (x'.setSide b s.p))
  obtain ⟨c1, c2, c3, c4⟩ : (x'.setSide b s.p).sent = x'.sent ∧ (x'.setSide b s.p).line = x'.line ∧ (x'.setSide b s.p).g0 = x'.g0 ∧ (x'.setSide b s.p).g1 = x'.g1 := by cases b <;> exact ⟨rfl, rfl, rfl, rfl⟩
  obtain ⟨h1, h2, h3, h4, h5⟩ := h
  obtain ⟨d1, d2⟩ := hs
  unfold jS cZ
  refine ⟨?_, ?_, ?_, ?_, ?_⟩
  · rw [b1, a1, c1, e1]; omega
  · rw [b1, a1, c1, e1]; omega
  · rw [b2, a2, c2]; omega
  · refine Nat.le_trans b3 ?_; rw [a3, c3, e3]; omega
  · refine Nat.le_trans b4 ?_; rw [a4, c4, e4]; omega
def Tk.put_line (x : Tk) (z : List (Bool × Sec)) : Tk := { x with line := z }
def mZ (l : List Chg) (common : Int) (x0 : Tk) (k : Nat) (y : Tk) : Prop := pI l common 400 0 x0 = pI l common (400 - k) (k : Int) y
theorem FV (l : List Chg) (common : Int) (x : Tk) : mZ l common x 0 x := rfl
section
variable {l : List Chg} {common : Int} {x0 x y : Tk} {k : Nat}
theorem mZ.step (h : mZ l common x0 k x) (hk : k < 400) (hr : iF l common (k : Int) x = some y) : mZ l common x0 (k + 1) y := by
  unfold mZ at *
  rw [h, show 400 - k = (400 - (k + 1)) + 1 by omega]
  show (match iF l common (k : Int) x with | some y => pI l common (400 - (k + 1)) ((k : Int) + 1) y | none => x) = _
  rw [hr]
  rfl
theorem mZ.stop (h : mZ l common x0 k x) (hr : iF l common (k : Int) x = none) : pI l common 400 0 x0 = x := by
  unfold mZ at h
  rw [h]
  cases 400 - k with
  | zero => rfl
  | succ m =>
    show (match iF l common (k : Int) x with | some y => pI l common m ((k : Int) + 1) y | none => x) = _
    rw [hr]
theorem mZ.full (h : mZ l common x0 k x) (hk : 400 ≤ k) : pI l common 400 0 x0 = x := by
  unfold mZ at h
  rw [h, show 400 - k = 0 by omega]
  rfl
theorem wZ (hk : k < 400) : 0 ≤ (k : Int) ∧ (k : Int) ≤ 1099511627776 := by omega
theorem tQ {c : Bool} {d : Sec} {rest : List (Bool × Sec)} {s : Stp} (hk : k < 400) (hi : oU x) (hl : x.line = (c, d) :: rest) (hs : bN (x.side c) d (k : Int) = s) :
    iF l common (k : Int) x = some (jS l c (x.put_line rest) s) ∧ oU (jS l c (x.put_line rest) s) := by
  subst hs
  constructor
  · unfold iF
    rw [hl]
    show some (cZ _ _ _ _ _ _) = _
    rw [show ({ x with line := rest } : Tk).side c = x.side c from by cases c <;> rfl, kH _ _ _ (hi c)]
    rfl
  · refine qV (x := x) (x' := x.put_line rest) hi (fun c => by cases c <;> rfl) ?_
    have := sK d (hi c) (wZ hk)
    rwa [kH _ _ _ (hi c)] at this
theorem EB {p : Pr} {a n : Int} (h : Inv p) (hn : 0 ≤ n ∧ n ≤ 1099511627776) : Inv (bZ p a n).p := by
  have := AB a h hn
  rwa [oK] at this
theorem FS {p : Pr} {n : Int} (h : Inv p) (hn : 0 ≤ n ∧ n ≤ 1099511627776) : Inv (dX p n).p := by
  have := DP h hn
  rwa [rI] at this
theorem kK (c : Bool) (hk : k < 400) (hi : oU x) (h4 : (x.side c).phase = 4) : iB l common (k : Int) c x = jS l c x (bZ (x.side c) (x.answer c common) (k : Int)) ∧ oU (jS l c x (bZ (x.side c) (x.answer c common) (k : Int))) := by
  constructor
  · unfold iB
    rw [if_pos h4]
    simp only [oK]
    rfl
  · exact qV hi (fun _ => rfl) (EB (hi c) (wZ hk))
theorem DE (c : Bool) (h4 : ¬ (x.side c).phase = 4) : iB l common (k : Int) c x = x := by
  unfold iB
  rw [if_neg h4]
theorem pG (hl : x.line = []) (h4 : x.s0.phase = 4 ∨ (iB l common (k : Int) false x).s1.phase = 4) : iF l common (k : Int) x = some (iB l common (k : Int) true (iB l common (k : Int) false x)) := by
  unfold iF
  rw [hl]
  simp only
  rw [if_pos h4]
theorem yW (c : Bool) (hk : k < 400) (hi : oU x) : oU (jS l c x (dX (x.side c) (k : Int))) := qV hi (fun _ => rfl) (FS (hi c) (wZ hk))
theorem D5 (hl : x.line = []) (h0 : x.s0.phase = 6) (h1 : x.s1.phase = 6) : iF l common (k : Int) x = some (jS l true (jS l false x (dX x.s0 (k : Int))) (dX (jS l false x (dX x.s0 (k : Int))).s1 (k : Int))) := by
  unfold iF
  rw [hl]
  have hu : iB l common (k : Int) false x = x := by unfold iB; rw [if_neg (by show ¬ x.s0.phase = 4; omega)]
  simp only [hu]
  rw [if_neg (by omega), if_pos ⟨h0, h1⟩]
  unfold IW
  simp only [rI]
  rfl
theorem tF (hl : x.line = []) (h0 : ¬ x.s0.phase = 4) (h1 : ¬ x.s1.phase = 4) (h6 : ¬ (x.s0.phase = 6 ∧ x.s1.phase = 6)) : iF l common (k : Int) x = none := by
  unfold iF
  rw [hl]
  have hu : iB l common (k : Int) false x = x := by unfold iB; rw [if_neg (show ¬ (x.side false).phase = 4 from h0)]
  simp only [hu]
  rw [if_neg (by rintro (h | h); exact h0 h; exact h1 h), if_neg h6]
theorem sN {a b : Cfg} (h1 : (cP a).2 = 0) (h2 : (cP b).2 = 0) (h3 : a.role = 0) (h4 : b.role = 1) : iU a b l common = pI l common 400 0 (nM a b l) := by
  rcases BY a b l common with h | h
  · exfalso
    have e : iU a b l common ≠ tk0 := by
      unfold iU
      rw [if_neg (by rintro (h | h | h | h); exact h h1; exact h h2; exact h h3; exact h h4)]
      intro e
      have h0 : (pI l common 400 0 (cZ { tk0 with ok := true, s1 := (cP b).1 } false (bX (cP a).1 0).1 (bX (cP a).1 0).2.1 [] l)).ok = true := by
        have hs : ∀ (k : Nat) (n : Int) (x : Tk), x.ok = true → (pI l common k n x).ok = true := by
          intro k
          induction k with
          | zero => intro n x h; exact h
          | succ k ih =>
            intro n x h
            show (match iF l common n x with | some y => pI l common k (n + 1) y | none => x).ok = true
            cases hr : iF l common n x with
            | none => exact h
            | some y =>
              refine ih (n + 1) y ?_
              unfold iF at hr
              split at hr
              · rw [← Option.some.inj hr]; exact (vH l _ _ _ _ _).ok.trans h
              · have hu : ∀ b x, x.ok = true → (iB l common n b x).ok = true := by
                  intro b x h
                  unfold iB
                  split
                  · exact (vH l _ _ _ _ _).ok.trans h
                  · exact h
                have he : ∀ b x, x.ok = true → (IW l n b x).ok = true := fun b x h => (vH l _ _ _ _ _).ok.trans h
                split at hr
                · rw [← Option.some.inj hr]; exact hu _ _ (hu _ _ h)
                · split at hr
                  · rw [← Option.some.inj hr]; exact he _ _ (he _ _ h)
                  · cases hr
        exact hs 400 0 _ ((vH l _ _ _ _ _).ok.trans rfl)
      rw [e] at h0
      exact absurd h0 (by decide)
    exact e h
  · exact h.2.2.2.2
theorem yX (a b : Cfg) : Sm (nM a b l) 2 := by
  have h : Sm ({ tk0 with ok := true, s1 := aY b } : Tk) 0 := ⟨Int.le_refl 0, Int.le_refl 0, Nat.le_refl 0, Nat.le_refl 0, Nat.le_refl 0⟩
  exact h.step (l := l) (b := false) (s := ⟨gW a, [{ cL with kind := 1, feat := a.feat }], []⟩) ⟨by simp, by simp⟩ rfl (Nat.le_refl _) rfl rfl
end
def Pk6 (p : Pr) : Prop := p.phase = 3 → aU p.method = true → p.passkey ≤ 999999
theorem i2 {p : Pr} (h : p.phase ≠ 3) : Pk6 p := fun k => absurd k h
theorem i2m {p : Pr} (h : aU p.method = false) : Pk6 p := fun _ k => absurd (h.symm.trans k) (by decide)
theorem i2k {p : Pr} (h : p.passkey ≤ 999999) : Pk6 p := fun _ _ => h
theorem pkb (x : BitVec 64) : ((x % 1000000#64).toNat : Int) ≤ 999999 := by
  have h : (x % 1000000#64).toNat < 1000000 := by rw [BitVec.toNat_umod]; exact Nat.mod_lt _ (by decide)
  omega
theorem gA (p : Pr) (r n : Int) : Pk6 (cE p r n).p := fun k => absurd (show (8 : Int) = 3 from k) (by decide)
theorem mC (s : Stp) : Pk6 (cF s).p := i2 (by unfold cF; dsimp only; split <;> (show (5 : Int) ≠ 3; decide))
theorem H7 (s : Stp) : Pk6 (iO s).p := by
  unfold iO
  dsimp only
  split
  · exact mC s
  · split <;> exact i2 (by show (4 : Int) ≠ 3; decide)
theorem rM (p : Pr) (d : Sec) (now : Int) : Pk6 (dB p d now).p := by
  unfold dB
  dsimp only
  (repeat' split) <;> first | exact gA _ _ _ | exact i2 (by show (2 : Int) ≠ 3; decide)
theorem F7 (s : Stp) : Pk6 (gS s).p := by
  unfold gS
  dsimp only
  split
  · rename_i h6
    have h : aU s.p.method = false := by rw [h6]; decide
    split <;> exact i2m h
  · split
    · rename_i h
      split <;> exact i2m h
    · split
      · exact i2 (by show (4 : Int) ≠ 3; decide)
      · split <;> exact i2k (pkb _)
theorem EV (p : Pr) (d : Sec) (now : Int) : Pk6 (fK p d now).p := by
  unfold fK
  (repeat' split) <;> first | exact gA _ _ _ | exact F7 _
theorem D3 (p : Pr) (d : Sec) (now : Int) (h : aU p.method = false) : Pk6 (dU p d now).p := by
  unfold dU
  dsimp only
  (repeat' split) <;> first | exact gA _ _ _ | exact H7 _ | exact i2m h
theorem CL (p : Pr) (d : Sec) (now : Int) : Pk6 (fP p d now).p := by
  unfold fP
  dsimp only
  (repeat' split) <;> first | exact gA _ _ _ | exact mC _
theorem EU (p : Pr) (d : Sec) (now : Int) (h : p.passkey ≤ 999999) : Pk6 (dI p d now).p := by
  unfold dI
  dsimp only
  (repeat' split) <;> first | exact gA _ _ _ | exact mC _ | exact i2k h
theorem CU (p : Pr) (d : Sec) (now : Int) (h : p.phase = 4) : Pk6 (cW p d now).p := by
  have h2 : p.phase ≠ 3 := by omega
  unfold cW
  dsimp only
  (repeat' split) <;> first | exact gA _ _ _ | exact i2 h2
theorem tG (q : Pr) (s : Stp) (v : BitVec 64) (now : Int) : Pk6 (eI q s v now).p := by
  unfold eI
  dsimp only
  (repeat' split) <;> first | exact gA _ _ _ | exact i2 (by show (6 : Int) ≠ 3; decide)
theorem zL (p : Pr) (d : Sec) (now : Int) : Pk6 (eD p d now).p := by
  unfold eD
  (repeat' split) <;> first | exact gA _ _ _ | exact i2 (by show (7 : Int) ≠ 3; decide)
theorem FT (p : Pr) (d : Sec) (now : Int) (hk : Pk6 p) : Pk6 (eO p d now).p := by
  unfold eO
  by_cases h0 : p.phase = 0
  · rw [if_pos h0]
    (repeat' split) <;> first | exact hk | exact gA _ _ _ | exact rM _ _ _
  rw [if_neg h0]
  by_cases h1 : p.phase = 1
  · rw [if_pos h1]
    split <;> first | exact gA _ _ _ | exact rM _ _ _
  rw [if_neg h1]
  by_cases h2 : p.phase = 2
  · rw [if_pos h2]
    split <;> first | exact gA _ _ _ | exact EV _ _ _
  rw [if_neg h2]
  by_cases h3 : p.phase = 3
  · rw [if_pos h3]
    split
    · exact CL _ _ _
    · by_cases hp : aU p.method = true
      · rw [if_pos hp]; exact EU _ _ _ (hk h3 hp)
      · rw [if_neg hp]; exact D3 _ _ _ (by simpa using hp)
  rw [if_neg h3]
  by_cases h4 : p.phase = 4
  · rw [if_pos h4]; exact CU _ _ _ h4
  rw [if_neg h4]
  (repeat' split) <;> first | exact gA _ _ _ | exact tG _ _ _ _ | exact zL _ _ _
theorem ES (p : Pr) (d : Sec) (now : Int) (hk : Pk6 p) : Pk6 (bN p d now).p := by
  unfold bN
  (repeat' split) <;> first | exact hk | exact gA _ _ _ | exact FT _ _ _ hk
theorem JV (p : Pr) (answer now : Int) (hk : Pk6 p) : Pk6 (bZ p answer now).p := by
  unfold bZ
  dsimp only
  split
  · exact hk
  · rename_i h
    have ha : answer ≤ 999999 := by omega
    (repeat' split) <;> first | exact hk | exact gA _ _ _ | exact i2k ha | exact tG _ _ _ _ | exact mC _
theorem KO (p : Pr) (now : Int) (hk : Pk6 p) : Pk6 (dX p now).p := by
  unfold dX
  dsimp only
  split
  · exact hk
  · rename_i h
    have h6 : p.phase ≠ 3 := by intro h3; exact h (.inl (by omega))
    (repeat' split) <;> first | exact i2 h6 | exact i2 (by show (7 : Int) ≠ 3; decide) | (unfold iL; split <;> exact i2 h6)
theorem LD (p : Pr) (now : Int) (hk : Pk6 p) : Pk6 (mH p now).1 := by
  unfold mH
  (repeat' split) <;> first | exact hk | exact gA _ _ _
theorem IL (p : Pr) (now : Int) (hk : Pk6 p) : Pk6 (bX p now).1 := by
  unfold bX
  split
  · exact hk
  · exact i2 (by show (1 : Int) ≠ 3; decide)
theorem LC (c : Cfg) : Pk6 (cP c).1 := by
  have h : (cP c).1.phase = 0 := by unfold cP; (repeat' split) <;> rfl
  exact i2 (by rw [h]; decide)
end
section
open Go.ChangeShapes Go.WideShapes Go.ChangeAt Go.RowKit
set_option maxHeartbeats 2000000 in
theorem GK (A B : Option Addr) (c d : Nat) (S : List Sec) (w : World) (hA : Rd w A (dG S)) (hC : Rd w B (dG S)) (hl : S.length ≤ 9223372036854775807) :
  Calls Tryz.prog 10 #[.slice A S.length c, .slice B S.length d] w (fun e w' => e = .returned (.bool true) ∧ Below w.heap.size w w') := by
 have HA := Lib.hid (show Rd w A (S.flatMap aI) from hA)
 have HB2 := Lib.hid (show Rd w B (S.flatMap aI) from hC)
 clear hA hC
 go_enter Tryz.func10, Tryz.ntmps10
 have hB := Below.refl w.heap.size w
 go_wp2_with with_reducible refine so ?_
 try simp only [nrm]
 go_loopw [5] (fun i wr => ∃ k : Nat, k ≤ S.length ∧ i = .int .i64 k ∧ Below w.heap.size w wr) (fun i _ => S.length - (intOf i).toNat)
 case atStart => exact ⟨0, Nat.zero_le _, rfl, hB⟩
 case round =>
  clear hB
  obtain ⟨k, hk, rfl, hB⟩ := hrel
  by_cases hlt : k < S.length
  rotate_left
  ·
   have i1 : decide ((k : Int) < ((S.length : Nat) : Int)) = false := by simp; omega
   have i2 : decide (k < S.length) = false := by simpa using hlt
   go_wp2_with with_reducible refine so ?_
   go_returns
   exact ⟨rfl, hB⟩
  obtain ⟨b1, o1, rfl, hr1⟩ := fX mA (by decide) HA.out k hlt
  obtain ⟨b2, o2, rfl, hr2⟩ := fX mA (by decide) HB2.out k hlt
  obtain ⟨x, hx⟩ : ∃ x, S[k] = x := ⟨_, rfl⟩
  rw [hx] at hr1 hr2
  have H1 := Lib.hid hr1
  have H2 := Lib.hid hr2
  clear hr1 hr2 hx
  have i1 : decide ((k : Int) < ((S.length : Nat) : Int)) = true := by simp; exact hlt
  have i2 : decide (k < S.length) = true := decide_eq_true hlt
  go_wp2_with with_reducible refine so ?_
  have hst := bB hB
  refine aD _ 9 hst (hB.drew) ?_
  clear hB
  refine aA 0 hst ?_
  refine aA 1 hst ?_
  refine aA 2 hst ?_
  refine bH (v := .agg (aI x).toArray) 3 hst (fun _ h => h) rfl (fun W hS K hK => aL rfl rfl (run_loadVar_mid W b1 (o1 + k * 13) 43 (aI x) _ (eP (H1.out _ hS) 0 (aI x) rfl) U43 rfl (by kernel_rfl)) (hK.out _ (Below.refl _ _))) ?_; simp only [nrm]
  refine aA 4 hst ?_
  refine aA 5 hst ?_
  refine aA 6 hst ?_
  refine bH (v := .agg (aI x).toArray) 7 hst (fun _ h => h) rfl (fun W hS K hK => aL rfl rfl (run_loadVar_mid W b2 (o2 + k * 13) 43 (aI x) _ (eP (H2.out _ hS) 0 (aI x) rfl) U43 rfl (by kernel_rfl)) (hK.out _ (Below.refl _ _))) ?_; simp only [nrm]
  refine aA 8 hst ?_
  refine aE (fun q hS => ?_)
  have hB := hS
  clear hst
  go_wp2_with with_reducible refine so ?_
  go_roundw
  case rel => exact ⟨k + 1, by omega, by go_num, hB⟩
  case measure => simp [intOf]; omega
set_option maxHeartbeats 2000000 in
theorem yM (A B : Option Addr) (c d : Nat) (S : List Evt) (w : World) (hA : Rd w A (dC S)) (hC : Rd w B (dC S)) (hl : S.length ≤ 9223372036854775807) :
  Calls Tryz.prog 11 #[.slice A S.length c, .slice B S.length d] w (fun e w' => e = .returned (.bool true) ∧ Below w.heap.size w w') := by
 have HA := Lib.hid (show Rd w A (S.flatMap dS) from hA)
 have HB2 := Lib.hid (show Rd w B (S.flatMap dS) from hC)
 clear hA hC
 go_enter Tryz.func11, Tryz.ntmps11
 have hB := Below.refl w.heap.size w
 go_wp2_with with_reducible refine so ?_
 try simp only [nrm]
 go_loopw [5] (fun i wr => ∃ k : Nat, k ≤ S.length ∧ i = .int .i64 k ∧ Below w.heap.size w wr) (fun i _ => S.length - (intOf i).toNat)
 case atStart => exact ⟨0, Nat.zero_le _, rfl, hB⟩
 case round =>
  clear hB
  obtain ⟨k, hk, rfl, hB⟩ := hrel
  by_cases hlt : k < S.length
  rotate_left
  ·
   have i1 : decide ((k : Int) < ((S.length : Nat) : Int)) = false := by simp; omega
   have i2 : decide (k < S.length) = false := by simpa using hlt
   go_wp2_with with_reducible refine so ?_
   go_returns
   exact ⟨rfl, hB⟩
  obtain ⟨b1, o1, rfl, hr1⟩ := fX lV (by decide) HA.out k hlt
  obtain ⟨b2, o2, rfl, hr2⟩ := fX lV (by decide) HB2.out k hlt
  obtain ⟨x, hx⟩ : ∃ x, S[k] = x := ⟨_, rfl⟩
  rw [hx] at hr1 hr2
  have H1 := Lib.hid hr1
  have H2 := Lib.hid hr2
  clear hr1 hr2 hx
  have i1 : decide ((k : Int) < ((S.length : Nat) : Int)) = true := by simp; exact hlt
  have i2 : decide (k < S.length) = true := decide_eq_true hlt
  go_wp2_with with_reducible refine so ?_
  have hst := bB hB
  refine aD _ 9 hst (hB.drew) ?_
  clear hB
  refine aA 0 hst ?_
  refine aA 1 hst ?_
  refine aA 2 hst ?_
  refine bH (v := .agg (dS x).toArray) 3 hst (fun _ h => h) rfl (fun W hS K hK => aL rfl rfl (run_loadVar_mid W b1 (o1 + k * 8) 80 (dS x) _ (eP (H1.out _ hS) 0 (dS x) rfl) U80 rfl (by kernel_rfl)) (hK.out _ (Below.refl _ _))) ?_; simp only [nrm]
  refine aA 4 hst ?_
  refine aA 5 hst ?_
  refine aA 6 hst ?_
  refine bH (v := .agg (dS x).toArray) 7 hst (fun _ h => h) rfl (fun W hS K hK => aL rfl rfl (run_loadVar_mid W b2 (o2 + k * 8) 80 (dS x) _ (eP (H2.out _ hS) 0 (dS x) rfl) U80 rfl (by kernel_rfl)) (hK.out _ (Below.refl _ _))) ?_; simp only [nrm]
  refine aA 8 hst ?_
  refine aE (fun q hS => ?_)
  have hB := hS
  clear hst
  go_wp2_with with_reducible refine so ?_
  go_roundw
  case rel => exact ⟨k + 1, by omega, by go_num, hB⟩
  case measure => simp [intOf]; omega
end
section
theorem D1 : ((iU (lQ 0 3) (lQ 1 3) [] 0).done false && (iU (lQ 0 3) (lQ 1 3) [] 0).done true && decide ((iU (lQ 0 3) (lQ 1 3) [] 0).s0.ltk = (iU (lQ 0 3) (lQ 1 3) [] 0).s1.ltk) && decide ((iU (lQ 0 3) (lQ 1 3) [] 0).s0.idn.irk = 5#64)) = true := by decide +kernel
theorem GB : (cP (lQ 0 3)).2 = 0 := by decide +kernel
theorem wT : cP { pN with role := 2 } = (pr0, 5) := by
  unfold cP
  rw [if_pos ⟨by decide, by decide⟩]
theorem G3 {x : Tk} (h : x.done false = true) : ∃ e, x.g0 = [e] := by
  unfold Tk.done at h
  simp only [Bool.and_eq_true, Bool.false_eq_true, if_false] at h
  rcases hx : x.g0 with _ | ⟨e, _ | ⟨f, t⟩⟩
  · rw [hx] at h; exact absurd h.2 (by simp)
  · exact ⟨e, rfl⟩
  · rw [hx] at h; exact absurd h.2 (by simp)
theorem E4 {x : Tk} (h : x.done true = true) : ∃ e, x.g1 = [e] := by
  unfold Tk.done at h
  simp only [Bool.and_eq_true, if_true] at h
  rcases hx : x.g1 with _ | ⟨e, _ | ⟨f, t⟩⟩
  · rw [hx] at h; exact absurd h.2 (by simp)
  · exact ⟨e, rfl⟩
  · rw [hx] at h; exact absurd h.2 (by simp)
end
open Go.ChangeShapes Go.WideShapes Go.ChangeAt Go.RowKit
def vU (P : Program) (t : TypeId) (D : DataW Unit) (vs : List Value) : Prop :=
  P.cellsOf t = vs.length ∧ ∀ (enc : TypeId × Value → Unit) (w : World) (base : Nat) (sp : Nat → Bool) (held : Bool) (fuel : Nat) (cs : List Value) (x : DataW Unit × List MemPlace), DataW.trod enc P w base sp held fuel t cs = some x → x.1 = D → cs = vs
theorem zH {P : Program} {t : TypeId} {k : IntKind} {n : Int} (ht : P.underlying t = some (.int k)) (hc : P.cellsOf t = 1) : vU P t (.lit (.int k n)) [.int k n] := by
  refine ⟨hc, fun enc w base sp held fuel cs x h e => ?_⟩
  obtain ⟨m, rfl, rfl, _⟩ := DataW.trod_int ht h
  simp at e
  rw [e]
theorem uL {P : Program} {e : TypeId} {enc : TypeId × Value → Unit} {w : World} {base : Nat} {sp : Nat → Bool} {held : Bool} {m : Nat} :
    ∀ (Ds : List (DataW Unit)) (vss : List (List Value)) (xs : List (DataW Unit × List MemPlace)) (cs : List Value), Ds.length = vss.length → (∀ (i : Nat) D vs, Ds[i]? = some D → vss[i]? = some vs → vU P e D vs) → xs.map (·.1) = Ds → cs.length = Ds.length * P.cellsOf e →
      (∀ (i : Nat), i < Ds.length → DataW.trod enc P w base sp held m e ((cs.drop (i * P.cellsOf e)).take (P.cellsOf e)) = xs[i]?) → cs = vss.flatten
  | [], [], xs, cs, _, _, _, hl, _ => by simp at hl; simp [hl]
  | [], _ :: _, _, _, h, _, _, _, _ => by simp at h
  | _ :: _, [], _, _, h, _, _, _, _ => by simp at h
  | D :: Ds, vs :: vss, xs, cs, hn, hL, hx, hl, ht => by
    match xs, hx with
    | x :: xs, hx =>
      simp only [List.map_cons, List.cons.injEq] at hx
      simp only [List.length_cons] at hl hn ht
      have h0 := ht 0 (by omega)
      rw [Nat.zero_mul, List.drop_zero] at h0
      have hc := hL 0 D vs rfl rfl
      have e0 := hc.2 enc w base sp held m _ x h0 hx.1
      have er := uL Ds vss xs (cs.drop (P.cellsOf e)) (by omega) (fun i D vs h1 h2 => hL (i + 1) D vs h1 h2) hx.2 (by rw [List.length_drop, hl, Nat.add_mul]; omega) (fun i hi => by
        have := ht (i + 1) (by omega)
        rw [Nat.add_mul, Nat.one_mul] at this
        rw [List.drop_drop, Nat.add_comm]
        exact this)
      rw [List.flatten_cons, ← e0, ← er, List.take_append_drop]
theorem pH {P : Program} {t e : TypeId} {n : Nat} (Ds : List (DataW Unit)) (vss : List (List Value)) (ht : P.underlying t = some (.array n e)) (hn : Ds.length = n) (hv : vss.length = n) (hc : P.cellsOf t = n * P.cellsOf e) (hf : P.cellsOf t = vss.flatten.length)
    (hL : ∀ (i : Nat) D vs, Ds[i]? = some D → vss[i]? = some vs → vU P e D vs) : vU P t (.agg Ds) vss.flatten := by
  refine ⟨hf, fun enc w base sp held fuel cs x h ex => ?_⟩
  obtain ⟨xs, m, _, rfl, hlen, hxl, hel⟩ := DataW.trod_array ht h
  refine uL Ds vss xs cs (by omega) hL (by simpa using ex) (by rw [hlen, hc, hn]) (fun i hi => hel i (by omega))
abbrev xV : List (String × DataW Unit) := [("wireless/method.table", Rows.laid_wireless_method_table), ("wireless/address.prefixes", Rows.laid_wireless_address_prefixes)]
theorem MD : Tryz.prog.globalNamed "wireless/method.table" = some 1 := by kernel_rfl
theorem L6 : Tryz.prog.globalNamed "wireless/address.prefixes" = some 0 := by kernel_rfl
theorem L5 : (Tryz.prog.globals[1]?).map (·.type) = some 140 := by kernel_rfl
theorem L2 : (Tryz.prog.globals[0]?).map (·.type) = some 84 := by kernel_rfl
theorem KW {α β : Type} {R : α → β → Prop} {a0 a1 a2 a3 a4 : α} {b0 b1 b2 b3 b4 : β} (h0 : R a0 b0) (h1 : R a1 b1) (h2 : R a2 b2) (h3 : R a3 b3) (h4 : R a4 b4) : ∀ (i : Nat) D vs, [a0, a1, a2, a3, a4][i]? = some D → [b0, b1, b2, b3, b4][i]? = some vs → R D vs := by
  intro i D vs e1 e2
  match i, e1, e2 with
  | 0, e1, e2 => simp at e1 e2; rw [← e1, ← e2]; exact h0
  | 1, e1, e2 => simp at e1 e2; rw [← e1, ← e2]; exact h1
  | 2, e1, e2 => simp at e1 e2; rw [← e1, ← e2]; exact h2
  | 3, e1, e2 => simp at e1 e2; rw [← e1, ← e2]; exact h3
  | 4, e1, e2 => simp at e1 e2; rw [← e1, ← e2]; exact h4
  | i + 5, e1, _ => simp at e1
theorem nE (a b c d e : Int) : vU Tryz.prog 139 (.agg [.lit (.int .i64 a), .lit (.int .i64 b), .lit (.int .i64 c), .lit (.int .i64 d), .lit (.int .i64 e)]) [.int .i64 a, .int .i64 b, .int .i64 c, .int .i64 d, .int .i64 e] :=
  pH (P := Tryz.prog) _ [[.int .i64 a], [.int .i64 b], [.int .i64 c], [.int .i64 d], [.int .i64 e]] ME rfl rfl (by kernel_rfl) (by kernel_rfl) (by
    have h : ∀ n : Int, vU Tryz.prog 3 (.lit (.int .i64 n)) [.int .i64 n] := fun n => zH U3 (by kernel_rfl)
    exact KW (h a) (h b) (h c) (h d) (h e))
theorem IB (a b c d e : Int) : vU Tryz.prog 84 (.agg [.lit (.int .u64 a), .lit (.int .u64 b), .lit (.int .u64 c), .lit (.int .u64 d), .lit (.int .u64 e)]) [.int .u64 a, .int .u64 b, .int .u64 c, .int .u64 d, .int .u64 e] :=
  pH (P := Tryz.prog) _ [[.int .u64 a], [.int .u64 b], [.int .u64 c], [.int .u64 d], [.int .u64 e]] U84 rfl rfl (by kernel_rfl) (by kernel_rfl) (by
    have h : ∀ n : Int, vU Tryz.prog 24 (.lit (.int .u64 n)) [.int .u64 n] := fun n => zH U24 (by kernel_rfl)
    exact KW (h a) (h b) (h c) (h d) (h e))
theorem GQ : vU Tryz.prog 140 Rows.laid_wireless_method_table GW :=
  pH (P := Tryz.prog) _ [_, _, _, _, _] MF rfl rfl (by kernel_rfl) (by kernel_rfl) (KW (nE 1 1 3 1 3) (nE 1 2 3 1 2) (nE 4 4 5 1 4) (nE 1 1 1 1 1) (nE 4 2 3 1 2))
theorem xE {W : World} {b o : Nat} {v : Value} (h : W.cell? ⟨b, o, none⟩ = some v) : b < W.heap.size := by
  rcases Nat.lt_or_ge b W.heap.size with h' | h'
  · exact h'
  · unfold World.cell? at h
    rw [Array.getElem?_eq_none h'] at h
    cases h
theorem JQ {W : World} (h : laidMetH Tryz.prog xV W) : bW W := by
  rw [MakeChecks.laidMetH_plain _ _ _ (by kernel_rfl)] at h
  obtain ⟨ps, ⟨g0, t0, cs0, f0, p0, q0, hg0, ht0, hv0, hd0, ⟨g1, t1, cs1, f1, p1, q1, hg1, ht1, hv1, hd1, _, _⟩, _⟩, _, _⟩ := h
  obtain rfl := Option.some.inj (MD.symm.trans hg0)
  obtain rfl := Option.some.inj (L6.symm.trans hg1)
  obtain rfl := Option.some.inj (L5.symm.trans ht0)
  obtain rfl := Option.some.inj (L2.symm.trans ht1)
  have e0 := GQ.2 _ _ _ _ _ _ _ _ hd0 rfl
  have e1 := (IB 0 0 3 1 0).2 _ _ _ _ _ _ _ _ hd1 rfl
  have c0 := World.var?_cell hg0 hv0
  have c1 := World.var?_cell hg1 hv1
  have c0' : W.rangeAt 1 0 GW := fun j v hj => by
    rw [Nat.zero_add, c0 j, ← Array.getElem?_toList, e0]
    exact hj
  have c1' : W.rangeAt 0 0 H9 := fun j v hj => by
    rw [Nat.zero_add, c1 j, ← Array.getElem?_toList, e1]
    exact hj
  refine ⟨?_, c0', c1'⟩
  have h0 := xE (c0' 0 _ rfl)
  have h1 := xE (c1' 0 _ rfl)
  have e : 1 = 1 ∨ 0 = 1 := by decide
  omega
end Go.Proofs.YtihmbcnccdiecaaGreatDoor
