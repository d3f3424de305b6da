/- A region that draws its order, walked once in the order of the text: every operation whose value is the same in all worlds that meet a condition, and that changes nothing which stood before, commutes with the rest. -/
import Derived.Test.YtbkaeoaepmeceaaMem
import Derived.Below
import Derived.Tactics
import Derived.KernelRfl
import Derived.OrdersHeld
import Derived.RegionTactic
import Derived.Laws.World
import Derived.Laws.Rows
namespace Go.Proofs.Ytbkaeoaepmeceaa
set_option maxRecDepth 100000
open Go.RowKit
set_option linter.unusedVariables false

/-- What one operation comes to: its value and the world behind it. -/
def calmUpon (P : Program) (K : Value → World → Prop) : Result Next → Prop
  | .ok (.value v) w' => K v w'
  | .ok (.enter f args) w' => Calls P f args w' fun e w'' => ∃ v, e = .returned v ∧ K v w''
  | _ => False
def calm (P : Program) (o : Oper) (a : Act) (w : World) (K : Value → World → Prop) : Prop := calmUpon P K ((execOp a.eval o).run P w)
@[go_sem] theorem calmUpon_value (P : Program) (K : Value → World → Prop) (v : Value) (w : World) : calmUpon P K (.ok (.value v) w) = K v w := rfl
/-- The value that a call returned, and the world behind it. -/
def CallPost (K : Value → World → Prop) (e : Ending) (w : World) : Prop := ∃ v, e = .returned v ∧ K v w
theorem CallPost.mk {K : Value → World → Prop} {v : Value} {w : World} (h : K v w) : CallPost K (.returned v) w := ⟨v, rfl, h⟩
@[go_sem] theorem calmUpon_enter (P : Program) (K : Value → World → Prop) (f : FuncId) (args : Array Value) (w : World) : calmUpon P K (.ok (.enter f args) w) = Calls P f args w (CallPost K) := rfl
attribute [go_sem] calm
theorem calm_mono {P : Program} {o : Oper} {a : Act} {w : World} {K K' : Value → World → Prop} (h : ∀ v w, K v w → K' v w) (hh : calm P o a w K) : calm P o a w K' := by
  unfold calm at *
  generalize (execOp a.eval o).run P w = r at *
  cases r with
  | ok n w' =>
    cases n <;> simp only [calmUpon] at hh ⊢
    case value v => exact h _ _ hh
    case enter f args => exact hh.mono fun e w'' ⟨v, hv, hk⟩ => ⟨v, hv, h _ _ hk⟩
  | halt x w' => simp only [calmUpon] at hh
theorem calm_wp {P : Program} {o : Oper} {a : Act} {w : World} {K : Act → World → Prop} {Q : Exit → Act → World → Prop} (hh : calm P o a w fun v w' => K (a.put o.dst v) w') : Oper.wp P o a w K Q := by
  unfold calm at hh
  unfold Oper.wp
  generalize (execOp a.eval o).run P w = r at *
  cases r with
  | ok n w' =>
    cases n <;> simp only [calmUpon] at hh <;> simp only [Oper.upon]
    case value v => exact hh
    case enter f args => exact hh.mono fun e w'' ⟨v, hv, hk⟩ => by subst hv; exact hk
  | halt x w' => simp only [calmUpon] at hh

/-- What holds on although memory grows. -/
def Stable (S : World → Prop) : Prop := ∀ w w', S w → Below w.heap.size w w' → S w'

section
variable {P : Program} {ops : Array Oper} {Q : Exit → Act → World → Prop} {md : Region.Mode} {S0 : World → Prop}
/-- In state 'a', in every world that meets S0, the operation yields 'v' and changes nothing that stood before. -/
def YieldsU (P : Program) (ops : Array Oper) (S0 : World → Prop) (o : Oper) (v : Value) (a : Act) : Prop :=
  (Region.wanted o (yielded ops a.tmps) = true ∧ ∀ w, S0 w → calm P o a w fun u w' => u = v ∧ Below w.heap.size w w') ∨
  (Region.wanted o (yielded ops a.tmps) = false ∧ v = undef)
theorem YieldsU.of_same {o : Oper} {v : Value} {a a' : Act} (hy : YieldsU P ops S0 o v a) (he : execOp a'.eval o = execOp a.eval o)
    (hw : Region.wanted o (yielded ops a'.tmps) = Region.wanted o (yielded ops a.tmps)) : YieldsU P ops S0 o v a' := by
  unfold YieldsU calm at *
  rw [he, hw]
  exact hy
theorem YieldsU.weak {S1 : World → Prop} {o : Oper} {v : Value} {a : Act} (hy : YieldsU P ops S0 o v a) (h : ∀ w, S1 w → S0 w) : YieldsU P ops S1 o v a :=
  hy.imp (fun ⟨hw, hv⟩ => ⟨hw, fun w hS => hv w (h w hS)⟩) id
theorem YieldsU.wpOp {i : Nat} {o : Oper} {v : Value} {a : Act} (hi : ops[i]? = some o) (hy : YieldsU P ops S0 o v a)
    {K : Act → World → Prop} {w : World} (hS : S0 w) (h : ∀ w', Below w.heap.size w w' → K (a.put o.dst v) w') : wpOp P ops Q i K a w := by
  unfold Go.wpOp
  simp only [hi]
  rcases hy with ⟨hw, hv⟩ | ⟨hw, rfl⟩
  · simp only [hw, if_true]
    exact .inl (calm_wp (calm_mono (fun u w' ⟨hu, hb⟩ => by subst hu; exact h w' hb) (hv w hS)))
  · simp only [hw, Bool.false_eq_true, if_false]
    exact h w (Below.refl _ _)
theorem wpOp_putU {j : Nat} {oi oj : Oper} {v : Value} (hj : ops[j]? = some oj) (hap : oi.apart ops oj = true)
    (hsi : ∀ cs b, oi.op ≠ .select cs b) (hsj : ∀ cs b, oj.op ≠ .select cs b)
    (hQ : ∀ c a w, Q (.panic c) (a.put oi.dst v) w → Q (.panic c) a w) {K : Act → World → Prop} {a : Act} {w : World}
    (hy : YieldsU P ops S0 oi v a) (h : wpOp P ops Q j K (a.put oi.dst v) w) :
    wpOp P ops Q j (fun a' w' => YieldsU P ops S0 oi v a' ∧ K (a'.put oi.dst v) w') a w := by
  obtain ⟨h1, h2, h3⟩ := Oper.apart_spec hap
  have keep : ∀ (a : Act), YieldsU P ops S0 oi v a → ∀ u, YieldsU P ops S0 oi v (a.put oj.dst u) := fun a hy u =>
    hy.of_same (execOp_put oi hsi a oj.dst u h3) (wanted_put oi a oj.dst u h3)
  have keepD : ∀ d, YieldsU P ops S0 oi v { a with defers := d :: a.defers } := fun d => hy.of_same rfl rfl
  unfold wpOp at *
  simp only [hj] at *
  rw [wanted_put oj a oi.dst v h1] at h
  split
  · rename_i hw
    simp only [hw, if_true] at h
    rcases h with h | ⟨hasks, hlets⟩
    case inr => exact .inr ⟨by unfold Oper.asks at *; rw [execOp_put oj hsj a oi.dst v h1] at hasks; exact hasks, hlets⟩
    refine .inl ?_
    unfold Oper.wp at *
    rw [execOp_put oj hsj a oi.dst v h1] at h
    generalize (execOp a.eval oj).run P w = r at *
    cases r with
    | ok n w' =>
      cases n <;> simp only [Oper.upon] at h ⊢
      case value u => exact ⟨keep a hy u, by rw [← Act.put_comm a v u h2]; exact h⟩
      case skip => exact ⟨keep a hy _, by rw [← Act.put_comm a v undef h2]; exact h⟩
      case defer d =>
        refine ⟨keep _ (keepD d) _, ?_⟩
        rw [← Act.put_comm _ v undef h2, ← Act.put_defers]
        exact h
      case enter f args =>
        refine Calls.mono h fun e w'' he => ?_
        cases e with
        | returned u => exact ⟨keep a hy u, by rw [← Act.put_comm a v u h2]; exact he⟩
        | panicked c => exact hQ _ _ _ he
        | outgrown => exact he
      case row row args => exact Rows.mono h fun u w'' he => ⟨keep a hy u, by rw [← Act.put_comm a v u h2]; exact he⟩
    | halt x w' =>
      cases x <;> simp only [Oper.upon] at h ⊢
      case panic u => exact hQ _ _ _ h
  · rename_i hw
    simp only [hw] at h
    exact ⟨keep a hy _, by rw [← Act.put_comm a v undef h2]; exact h⟩

/-- Whatever order is picked from here on, in whatever world that meets S. -/
def wpU (P : Program) (md : Region.Mode) (ops : Array Oper) (Q : Exit → Act → World → Prop) : Nat → (World → Prop) → (World → Prop) → Array Bool → Act → Prop
  | 0, _, S, listed, a => Region.ready md ops listed = [] ∧ ∀ w, S w → Q .normal a w
  | fuel + 1, S0, S, listed, a =>
    (Region.ready md ops listed = [] → ∀ w, S w → Q .normal a w) ∧
    ∀ i ∈ Region.ready md ops listed, ∀ w, S w → wpOp P ops Q i (fun a' w' => ∃ S0' S' : World → Prop, (∀ w, S0' w → S0 w) ∧ Stable S' ∧ (∀ w, S' w → S0' w) ∧ S' w' ∧ wpU P md ops Q fuel S0' S' (listed.setIfInBounds i true) a') a w
theorem wpAny_of_u : ∀ (fuel : Nat) (S0 S : World → Prop) (listed : Array Bool) (a : Act) (w : World), S w → wpU P md ops Q fuel S0 S listed a → wpAny P md ops Q fuel listed a w
  | 0, _, _, _, _, w, hS, h => ⟨h.1, h.2 w hS⟩
  | fuel + 1, _, _, _, _, w, hS, h => ⟨fun h0 => h.1 h0 w hS, fun i hi => wpOp_mono (fun a' w' ⟨S0', S', _, _, _, hS', h'⟩ => wpAny_of_u fuel S0' S' _ a' w' hS' h') (h.2 i hi w hS)⟩
theorem wpU_first {i : Nat} {oi : Oper} {v : Value} (hi : ops[i]? = some oi) (hsel : ∀ (j : Nat) (o : Oper) cs b, ops[j]? = some o → o.op ≠ .select cs b)
    (hQ : ∀ c a w, Q (.panic c) (a.put oi.dst v) w → Q (.panic c) a w) :
    ∀ (fuel : Nat) (S0 S : World → Prop) (listed : Array Bool) (a : Act),
      (∀ j oj, ops[j]? = some oj → j ≠ i → listed.getD j true = false → (∀ e ∈ oj.after, Region.binds md e = true → e.on ≠ i) → oi.apart ops oj = true) →
      i ∈ Region.ready md ops listed → YieldsU P ops S0 oi v a → Stable S → (∀ w, S w → S0 w) →
      wpU P md ops Q fuel S0 S (listed.setIfInBounds i true) (a.put oi.dst v) → wpU P md ops Q (fuel + 1) S0 S listed a := by
  intro fuel
  induction fuel with
  | zero =>
    intro S0 S listed a _ hr hy hst h0 H
    refine ⟨fun h => (by rw [h] at hr; cases hr), fun j hj w hS => ?_⟩
    by_cases hji : j = i
    · subst hji; exact hy.wpOp hi (h0 w hS) fun w' hb => ⟨S0, S, fun _ h => h, hst, h0, hst w w' hS hb, H⟩
    · have := ready_mono hj hji
      rw [H.1] at this
      cases this
  | succ fuel ih =>
    intro S0 S listed a hfree hr hy hst h0 H
    refine ⟨fun h => (by rw [h] at hr; cases hr), fun j hj w hS => ?_⟩
    by_cases hji : j = i
    · subst hji; exact hy.wpOp hi (h0 w hS) fun w' hb => ⟨S0, S, fun _ h => h, hst, h0, hst w w' hS hb, H⟩
    · have h1 := H.2 j (ready_mono hj hji) w hS
      obtain ⟨hjun, oj, hoj, hall⟩ := mem_ready.1 hj
      have hnot : ∀ e ∈ oj.after, Region.binds md e = true → e.on ≠ i := fun e he hb heq => by
        have h1 := hall e he hb
        have h0 := (mem_ready.1 hr).1
        rw [heq] at h1
        rcases Nat.lt_or_ge i listed.size with h' | h'
        · simp [h'] at h0 h1; rw [h0] at h1; cases h1
        · simp [Array.getElem?_eq_none h'] at h1
      have h2 := wpOp_putU hoj (hfree j oj hoj hji hjun hnot) (fun cs b => hsel i oi cs b hi) (fun cs b => hsel j oj cs b hoj) hQ hy h1
      have hfree' : ∀ k ok, ops[k]? = some ok → k ≠ i → (listed.setIfInBounds j true).getD k true = false →
          (∀ e ∈ ok.after, Region.binds md e = true → e.on ≠ i) → oi.apart ops ok = true := fun k ok hk hki hun hno => by
        refine hfree k ok hk hki ?_ hno
        by_cases hjk : j = k
        · subst hjk; exact hjun
        · rw [getD_set_ne true hjk] at hun; exact hun
      refine wpOp_mono (fun a' w' ⟨hya, S0', S', hs0, hst', h0', hS', hW'⟩ => ⟨S0', S', hs0, hst', h0', hS', ih S0' S' (listed.setIfInBounds j true) a' hfree' (ready_mono hr (Ne.symm hji)) (hya.weak hs0) hst' h0' ?_⟩) h2
      rw [Array.setIfInBounds_comm _ _ hji]
      exact hW'

/-- A hypothesis that no tactic looks into till it is opened. -/
def Kept (p : Prop) : Prop := p
theorem Kept.out {p : Prop} (h : Kept p) : p := h
/-! ### The moves -/
/-- Operation number i, whose value is the same in every world of S0. -/
theorem wpU_take {S : World → Prop} (i : Nat) {oi : Oper} {v : Value} {fuel : Nat} {listed : Array Bool} {a : Act} (hst : Stable S) (h0 : ∀ w, S w → S0 w) (hi : ops.toList[i]? = some oi)
    (hy : ∀ w, S0 w → ∀ K : Value → World → Prop, Kept (∀ w', Below w.heap.size w w' → K v w') → calm P oi a w K)
    (h : wpU P md ops Q fuel S0 S (listed.setIfInBounds i true) (a.put oi.dst v))
    (hs : Region.noSelect ops = true := by kernel_rfl) (hf : Region.free md ops listed i = true := by kernel_rfl) (hr : (Region.ready md ops listed).contains i = true := by kernel_rfl)
    (hQ : ∀ c a w, Q (.panic c) (a.put oi.dst v) w → Q (.panic c) a w := by exact fun _ _ _ h => h) (hw : Region.wanted oi (yielded ops a.tmps) = true := by rfl) : wpU P md ops Q (fuel + 1) S0 S listed a :=
  wpU_first (by rw [← hi, Array.getElem?_toList]) (Region.noSelect_spec hs) hQ fuel S0 S listed a (Region.free_spec (by rw [← hi, Array.getElem?_toList]) hf) (by simpa using hr) (.inl ⟨hw, fun w hS => hy w hS _ fun w' hb => ⟨rfl, hb⟩⟩) hst h0 h
/-- Operation number i, whose guard is false. -/
theorem wpU_skip {S : World → Prop} (i : Nat) {oi : Oper} {fuel : Nat} {listed : Array Bool} {a : Act} (hst : Stable S) (h0 : ∀ w, S w → S0 w) (hi : ops.toList[i]? = some oi)
    (h : wpU P md ops Q fuel S0 S (listed.setIfInBounds i true) (a.put oi.dst undef))
    (hs : Region.noSelect ops = true := by kernel_rfl) (hf : Region.free md ops listed i = true := by kernel_rfl) (hr : (Region.ready md ops listed).contains i = true := by kernel_rfl)
    (hQ : ∀ c a w, Q (.panic c) (a.put oi.dst undef) w → Q (.panic c) a w := by exact fun _ _ _ h => h) (hw : Region.wanted oi (yielded ops a.tmps) = false := by rfl) : wpU P md ops Q (fuel + 1) S0 S listed a :=
  wpU_first (by rw [← hi, Array.getElem?_toList]) (Region.noSelect_spec hs) hQ fuel S0 S listed a (Region.free_spec (by rw [← hi, Array.getElem?_toList]) hf) (by simpa using hr) (.inr ⟨hw, rfl⟩) hst h0 h
/-- The one operation that may come up. -/
theorem wpU_one {S : World → Prop} (k : Nat) {o : Oper} {fuel : Nat} {listed : Array Bool} {a : Act} (ho : ops.toList[k]? = some o)
    (h : ∀ w, S w → ∀ K : Act → World → Prop, Kept (∀ (S0' S' : World → Prop) a' w', (∀ w, S0' w → S0 w) → Stable S' → (∀ w, S' w → S0' w) → S' w' → wpU P md ops Q fuel S0' S' (listed.setIfInBounds k true) a' → K a' w') →
      if Region.wanted o (yielded ops a.tmps) = true then Oper.wp P o a w K Q else K (a.put o.dst undef) w)
    (hr : Region.ready md ops listed = [k] := by kernel_rfl) : wpU P md ops Q (fuel + 1) S0 S listed a := by
  refine ⟨fun h0 => (by rw [hr] at h0; cases h0), fun i hi w hS => ?_⟩
  rw [hr] at hi
  obtain rfl : i = k := by simpa using hi
  exact wpOp_step (by rw [← ho, Array.getElem?_toList]) fun K' hK => h w hS K' fun S0' S' a' w' h1 h2 h3 h4 h5 => hK a' w' ⟨S0', S', h1, h2, h3, h4, h5⟩
/-- The one operation that may come up; S stays, and T is new behind it. -/
theorem wpV_new {S : World → Prop} (k : Nat) {o : Oper} {fuel : Nat} {listed : Array Bool} {a : Act} (hst : Stable S) (ho : ops.toList[k]? = some o)
    (h : ∀ w, S w → ∀ K : Act → World → Prop, Kept (∀ (T : World → Prop) a' w', Stable T → Below w.heap.size w w' → T w' → (Stable (fun w => S w ∧ T w) → wpU P md ops Q fuel (fun w => S w ∧ T w) (fun w => S w ∧ T w) (listed.setIfInBounds k true) a') → K a' w') →
      if Region.wanted o (yielded ops a.tmps) = true then Oper.wp P o a w K Q else K (a.put o.dst undef) w)
    (hr : Region.ready md ops listed = [k] := by kernel_rfl) : wpU P md ops Q (fuel + 1) S S listed a :=
  wpU_one k ho (fun w hS K hK => h w hS K fun T a' w' hT hb ht hn =>
    have hs : Stable fun w => S w ∧ T w := fun w w' ⟨a, b⟩ hb => ⟨hst w w' a hb, hT w w' b hb⟩
    hK _ _ a' w' (fun _ h => h.1) hs (fun _ h => h) ⟨hst _ _ hS hb, ht⟩ (hn hs)) hr
/-- The one operation that may come up; S stays. -/
theorem wpV_one {S : World → Prop} (k : Nat) {o : Oper} {fuel : Nat} {listed : Array Bool} {a : Act} (hst : Stable S) (ho : ops.toList[k]? = some o)
    (h : ∀ w, S w → ∀ K : Act → World → Prop, Kept (∀ a' w', Below w.heap.size w w' → wpU P md ops Q fuel S S (listed.setIfInBounds k true) a' → K a' w') →
      if Region.wanted o (yielded ops a.tmps) = true then Oper.wp P o a w K Q else K (a.put o.dst undef) w)
    (hr : Region.ready md ops listed = [k] := by kernel_rfl) : wpU P md ops Q (fuel + 1) S S listed a :=
  wpU_one k ho (fun w hS K hK => h w hS K fun a' w' hb hn => hK _ _ a' w' (fun _ h => h) hst (fun _ h => h) (hst _ _ hS hb) hn) hr
/-- Two operations that may come up in either order, each with a value of which something is known. -/
theorem wpV_pair {S : World → Prop} (i j : Nat) {oi oj : Oper} {fuel : Nat} {listed : Array Bool} {a : Act} {α β : Type} (V1 : α → Value) (V2 : β → Value) (R1 : α → World → Prop) (R2 : β → World → Prop) (hst : Stable S) (hs1 : ∀ u, Stable (R1 u)) (hs2 : ∀ u, Stable (R2 u))
    (hoi : ops.toList[i]? = some oi) (hoj : ops.toList[j]? = some oj)
    (h1 : ∀ w, S w → ∀ K : Value → World → Prop, Kept (∀ x w', R1 x w' → Below w.heap.size w w' → K (V1 x) w') → calm P oi a w K)
    (h2 : ∀ w, S w → ∀ K : Value → World → Prop, Kept (∀ x w', R2 x w' → Below w.heap.size w w' → K (V2 x) w') → calm P oj a w K)
    (hrest : ∀ u1 u2, Stable (fun w => S w ∧ R1 u1 w ∧ R2 u2 w) → wpU P md ops Q fuel (fun w => S w ∧ R1 u1 w ∧ R2 u2 w) (fun w => S w ∧ R1 u1 w ∧ R2 u2 w) ((listed.setIfInBounds i true).setIfInBounds j true) ((a.put oi.dst (V1 u1)).put oj.dst (V2 u2)))
    (hr : Region.ready md ops listed = [i, j] := by kernel_rfl) (hr1 : Region.ready md ops (listed.setIfInBounds i true) = [j] := by kernel_rfl) (hr2 : Region.ready md ops (listed.setIfInBounds j true) = [i] := by kernel_rfl)
    (hs : Region.noSelect ops = true := by kernel_rfl) (hap : oi.apart ops oj = true := by kernel_rfl) (hij : (i == j) = false := by rfl)
    (hw1 : Region.wanted oi (yielded ops a.tmps) = true := by rfl) (hw2 : Region.wanted oj (yielded ops a.tmps) = true := by rfl) : wpU P md ops Q (fuel + 2) S S listed a := by
  have hi : ops[i]? = some oi := by rw [← hoi, Array.getElem?_toList]
  have hj : ops[j]? = some oj := by rw [← hoj, Array.getElem?_toList]
  have hsel := Region.noSelect_spec hs
  obtain ⟨p1, p2, p3⟩ := Oper.apart_spec hap
  have hne : i ≠ j := by intro h; rw [h] at hij; simp at hij
  have stp : ∀ {γ : Type} (V : γ → Value) (k : Nat) (o : Oper) (R : γ → World → Prop) (b : Act) (w : World) (K : Act → World → Prop), ops[k]? = some o → Region.wanted o (yielded ops b.tmps) = true →
      (∀ K : Value → World → Prop, Kept (∀ x w', R x w' → Below w.heap.size w w' → K (V x) w') → calm P o b w K) → (∀ x w', R x w' → Below w.heap.size w w' → K (b.put o.dst (V x)) w') → wpOp P ops Q k K b w := by
    intro γ V k o R b w K hk hw hc hK
    unfold Go.wpOp
    simp only [hk, hw, if_true]
    exact .inl (calm_wp (hc _ hK))
  have hstab : ∀ u1 u2, Stable (fun w => S w ∧ R1 u1 w ∧ R2 u2 w) := fun u1 u2 w w' ⟨a, b, c⟩ hb => ⟨hst w w' a hb, hs1 u1 w w' b hb, hs2 u2 w w' c hb⟩
  refine ⟨fun h0 => (by rw [hr] at h0; cases h0), fun k hk w hS => ?_⟩
  rw [hr] at hk
  rcases List.mem_cons.1 hk with rfl | hk
  · refine stp V1 k oi R1 a w _ hi hw1 (h1 w hS) fun u1 w1 hu1 hb1 => ?_
    have hsA : Stable fun w => S w ∧ R1 u1 w := fun w w' ⟨a, b⟩ hb => ⟨hst w w' a hb, hs1 u1 w w' b hb⟩
    refine ⟨_, _, fun _ h => h.1, hsA, fun _ h => h, ⟨hst _ _ hS hb1, hu1⟩, ?_⟩
    refine ⟨fun h0 => (by rw [hr1] at h0; cases h0), fun l hl w2 hS2 => ?_⟩
    rw [hr1] at hl
    obtain rfl : l = j := by simpa using hl
    refine stp V2 l oj R2 _ w2 _ hj (by rw [wanted_put oj a oi.dst (V1 u1) p1]; exact hw2) (fun K hK => ?_) fun u2 w3 hu2 hb2 => ?_
    · have := h2 w2 hS2.1 K hK
      unfold calm at this ⊢
      rw [execOp_put oj (fun cs b => hsel l oj cs b hj) a oi.dst (V1 u1) p1]
      exact this
    · exact ⟨_, _, fun _ h => ⟨h.1, h.2.1⟩, hstab u1 u2, fun _ h => h, ⟨hst _ _ hS2.1 hb2, hs1 u1 _ _ hS2.2 hb2, hu2⟩, hrest u1 u2 (hstab u1 u2)⟩
  · obtain rfl : k = j := by simpa using hk
    refine stp V2 k oj R2 a w _ hj hw2 (h2 w hS) fun u2 w1 hu2 hb1 => ?_
    have hsA : Stable fun w => S w ∧ R2 u2 w := fun w w' ⟨a, b⟩ hb => ⟨hst w w' a hb, hs2 u2 w w' b hb⟩
    refine ⟨_, _, fun _ h => h.1, hsA, fun _ h => h, ⟨hst _ _ hS hb1, hu2⟩, ?_⟩
    refine ⟨fun h0 => (by rw [hr2] at h0; cases h0), fun l hl w2 hS2 => ?_⟩
    rw [hr2] at hl
    obtain rfl : l = i := by simpa using hl
    refine stp V1 l oi R1 _ w2 _ hi (by rw [wanted_put oi a oj.dst (V2 u2) p3]; exact hw1) (fun K hK => ?_) fun u1 w3 hu1 hb2 => ?_
    · have := h1 w2 hS2.1 K hK
      unfold calm at this ⊢
      rw [execOp_put oi (fun cs b => hsel l oi cs b hi) a oj.dst (V2 u2) p3]
      exact this
    · refine ⟨_, _, fun _ h => ⟨h.1, h.2.2⟩, hstab u1 u2, fun _ h => h, ⟨hst _ _ hS2.1 hb2, hu1, hs2 u2 _ _ hS2.2 hb2⟩, ?_⟩
      rw [Array.setIfInBounds_comm _ _ (Ne.symm hne), ← Act.put_comm a (V1 u1) (V2 u2) p2]
      exact hrest u1 u2 (hstab u1 u2)
theorem wp_region_v {id : Nat} {a : Act} {w : World} (S : World → Prop) (n : Nat) (hst : Stable S) (hS : S w.drew)
    (h : wpU P .any ops Q n S S (Array.replicate n false) a) (hn : ops.size = n := by rfl) (hm : P.follows .mixedOrders = true := by kernel_rfl) : (Code.region id ops true).wp P Q a w := by
  subst hn
  exact wp_region_any hm (wpAny_of_u _ S S _ _ _ hS h)
theorem wpU_done {S : World → Prop} {fuel : Nat} {listed : Array Bool} {a : Act} (h : ∀ w, S w → Q .normal a w) (hr : Region.ready md ops listed = [] := by kernel_rfl) : wpU P md ops Q fuel S0 S listed a := by
  cases fuel with
  | zero => exact ⟨hr, h⟩
  | succ n => exact ⟨fun _ => h, by rw [hr]; simp⟩
theorem wp_region_u {id : Nat} {a : Act} {w : World} (S : World → Prop) (S0 : World → Prop) (hst : Stable S) (h0 : ∀ w, S w → S0 w) (hS : S w.drew)
    (n : Nat) (h : wpU P .any ops Q n S0 S (Array.replicate n false) a) (hn : ops.size = n := by rfl) (hm : P.follows .mixedOrders = true := by kernel_rfl) : (Code.region id ops true).wp P Q a w := by
  subst hn
  exact wp_region_any hm (wpAny_of_u _ S0 S _ _ _ hS h)
end
/-! ### Results in a block -/
theorem results_cell {P : Program} {fn : Func} {s : Tmp} {t : TypeId} {tmps : Array Value} {ad : Addr} {v : Value} {w : World} (h : fn.results = #[.cell s t]) (hs : tmps.getD s undef = .pointer (some ad)) (hl : (loadVar t ad).run P w = .ok v w) :
    (results fn tmps).run P w = .ok v w := by
  have hs' : tmps[s]?.getD undef = .pointer (some ad) := by simpa using hs
  simp [results, h, hs', hl, asAddr]
/-- A struct and a plain value. -/
theorem results_ct {P : Program} {fn : Func} {s u : Tmp} {t : TypeId} {tmps : Array Value} {ad : Addr} {v : Value} {w : World} (h : fn.results = #[.cell s t, .tmp u]) (hs : tmps.getD s undef = .pointer (some ad)) (hl : (loadVar t ad).run P w = .ok v w) :
    (results fn tmps).run P w = .ok (.tuple #[v, tmps.getD u undef]) w := by
  have hs' : tmps[s]?.getD undef = .pointer (some ad) := by simpa using hs
  simp [results, h, hs', hl, asAddr]
theorem load_blk {P : Program} {w : World} {g : Nat} {t ty : TypeId} {cs : Array Value} {d : TypeDesc} (hG : Blk w g t cs) (hu : P.underlying ty = some d) (hd : (match d with | .struct _ | .array _ _ => true | _ => false) = true) (hi : (P.info? ty).map (·.size) = some cs.size) :
    (loadVar ty ⟨g, 0, none⟩).run P w = .ok (.agg cs) w := run_loadVar_row w g t ty cs (0, 0) d hG hu hd hi
/-! ### Boxed arguments -/
theorem box1 (w : World) (t1 : TypeId) (c1 : Array Value) : Below w.heap.size w (w.alloc (.cells c1 t1)) ∧ Blk (w.alloc (.cells c1 t1)) w.heap.size t1 c1 :=
  ⟨(Below.refl _ _).alloc (Nat.le_refl _) _, Blk.new _ _ _⟩
theorem box2 (w : World) (t1 : TypeId) (c1 : Array Value) (t2 : TypeId) (c2 : Array Value) : Below w.heap.size w ((w.alloc (.cells c1 t1)).alloc (.cells c2 t2)) ∧
    Blk ((w.alloc (.cells c1 t1)).alloc (.cells c2 t2)) w.heap.size t1 c1 ∧ Blk ((w.alloc (.cells c1 t1)).alloc (.cells c2 t2)) (w.heap.size + 1) t2 c2 := by
  have h := Blk.new (w.alloc (.cells c1 t1)) t2 c2
  have e : (w.alloc (.cells c1 t1)).heap.size = w.heap.size + 1 := by simp
  rw [e] at h
  exact ⟨(box1 w t1 c1).1.alloc (by simp) _, (box1 w t1 c1).2.alloc _, h⟩
theorem box3 (w : World) (t1 : TypeId) (c1 : Array Value) (t2 : TypeId) (c2 : Array Value) (t3 : TypeId) (c3 : Array Value) :
    Below w.heap.size w (((w.alloc (.cells c1 t1)).alloc (.cells c2 t2)).alloc (.cells c3 t3)) ∧ Blk (((w.alloc (.cells c1 t1)).alloc (.cells c2 t2)).alloc (.cells c3 t3)) w.heap.size t1 c1 ∧
    Blk (((w.alloc (.cells c1 t1)).alloc (.cells c2 t2)).alloc (.cells c3 t3)) (w.heap.size + 1) t2 c2 ∧ Blk (((w.alloc (.cells c1 t1)).alloc (.cells c2 t2)).alloc (.cells c3 t3)) (w.heap.size + 2) t3 c3 := by
  have h := Blk.new ((w.alloc (.cells c1 t1)).alloc (.cells c2 t2)) t3 c3
  have e : ((w.alloc (.cells c1 t1)).alloc (.cells c2 t2)).heap.size = w.heap.size + 2 := by simp
  rw [e] at h
  have b := box2 w t1 c1 t2 c2
  exact ⟨b.1.alloc (by rw [e]; omega) _, b.2.1.alloc _, b.2.2.alloc _, h⟩
/-- Behind a call: what the boxes hold. -/
theorem box1_after {w w1 : World} {t1 : TypeId} {c1 : Array Value} (hb : Below (w.alloc (.cells c1 t1)).heap.size (w.alloc (.cells c1 t1)) w1) :
    (∀ i, w1.cell? ⟨w.heap.size, i, none⟩ = c1[i]?) ∧ (∀ i, w1.frozen? ⟨w.heap.size, i, none⟩ = false) ∧ Below w.heap.size w w1 := by
  have b := box1 w t1 c1
  have g := b.2.to hb b.2.lt
  exact ⟨g.cell, g.free, b.1.trans (hb.mono b.1.size)⟩
theorem box2_after {w w1 : World} {t1 t2 : TypeId} {c1 c2 : Array Value} (hb : Below ((w.alloc (.cells c1 t1)).alloc (.cells c2 t2)).heap.size ((w.alloc (.cells c1 t1)).alloc (.cells c2 t2)) w1) :
    (∀ i, w1.cell? ⟨w.heap.size, i, none⟩ = c1[i]?) ∧ (∀ i, w1.frozen? ⟨w.heap.size, i, none⟩ = false) ∧ (∀ i, w1.cell? ⟨w.heap.size + 1, i, none⟩ = c2[i]?) ∧ (∀ i, w1.frozen? ⟨w.heap.size + 1, i, none⟩ = false) ∧ Below w.heap.size w w1 := by
  have b := box2 w t1 c1 t2 c2
  have g1 := b.2.1.to hb b.2.1.lt
  have g2 := b.2.2.to hb b.2.2.lt
  exact ⟨g1.cell, g1.free, g2.cell, g2.free, b.1.trans (hb.mono b.1.size)⟩
theorem below_eq {w w' : World} (h : w = w') : Below w.heap.size w w' := by rw [h]; exact Below.refl _ _
/-! ### Conditions that hold on -/
theorem stable_true : Stable fun _ => True := fun _ _ _ _ => trivial
theorem stable_and {S T : World → Prop} (h : Stable S) (k : Stable T) : Stable fun w => S w ∧ T w := fun w w' ⟨a, b⟩ hb => ⟨h w w' a hb, k w w' b hb⟩
theorem stable_below (B : Nat) (w0 : World) (hB : B ≤ w0.heap.size) : Stable fun w => Below B w0 w := fun w w' h hb => h.trans (hb.mono (Nat.le_trans hB h.size))
theorem stable_rd (A : Option Addr) (xs : List Value) : Stable fun w => Rd w A xs := fun w w' h hb => h.to hb
theorem stable_rdB (A : Option Addr) (bs : List (BitVec 8)) : Stable fun w => RdB w A bs := fun w w' h hb => Rd.to h hb
theorem stable_rdU (A : Option Addr) (bs : List (BitVec 64)) : Stable fun w => RdU w A bs := fun w w' h hb => Rd.to h hb
theorem stable_blk (g : Nat) (t : TypeId) (cs : Array Value) : Stable fun w => Blk w g t cs := fun w w' h hb => h.to hb h.lt
theorem stable_own (base : Nat) (e : TypeId) (size : Nat) (v : Value) (n : Nat) (xs : List Value) : Stable fun w => w.ownsRow base e size v n xs := fun w w' h hb => own_to h hb
/-- A slice with these bytes. -/
def slV (n : Nat) (x : Option Addr × Nat) : Value := .slice x.1 n x.2
def SlR (bs : List (BitVec 8)) (x : Option Addr × Nat) (w : World) : Prop := RdB w x.1 bs ∧ bs.length ≤ x.2
theorem stable_slR (bs : List (BitVec 8)) (x : Option Addr × Nat) : Stable (SlR bs x) := fun w w' ⟨h, hc⟩ hb => ⟨Rd.to h hb, hc⟩
theorem stable_const (p : Prop) : Stable fun _ => p := fun _ _ h _ => h
theorem st1 (w : World) (t1 : TypeId) (c1 : Array Value) : Stable fun W => Below w.heap.size w W ∧ Blk W w.heap.size t1 c1 := stable_and (stable_below _ _ (Nat.le_refl _)) (stable_blk _ _ _)
theorem st2 (w : World) (t1 : TypeId) (c1 : Array Value) (t2 : TypeId) (c2 : Array Value) : Stable fun W => Below w.heap.size w W ∧ Blk W w.heap.size t1 c1 ∧ Blk W (w.heap.size + 1) t2 c2 :=
  stable_and (stable_below _ _ (Nat.le_refl _)) (stable_and (stable_blk _ _ _) (stable_blk _ _ _))
theorem st3 (w : World) (t1 : TypeId) (c1 : Array Value) (t2 : TypeId) (c2 : Array Value) (t3 : TypeId) (c3 : Array Value) : Stable fun W => Below w.heap.size w W ∧ Blk W w.heap.size t1 c1 ∧ Blk W (w.heap.size + 1) t2 c2 ∧ Blk W (w.heap.size + 2) t3 c3 :=
  stable_and (stable_below _ _ (Nat.le_refl _)) (stable_and (stable_blk _ _ _) (stable_and (stable_blk _ _ _) (stable_blk _ _ _)))
end Go.Proofs.Ytbkaeoaepmeceaa
