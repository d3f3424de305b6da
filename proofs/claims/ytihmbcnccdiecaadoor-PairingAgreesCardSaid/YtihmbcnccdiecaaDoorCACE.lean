/- Part of the proofs of the laws of pairing. -/
import Derived.Below
import Derived.ChangeArms
import Derived.ChangeOld
import Derived.ChangeSlices
import Derived.Deep.AppendLies
import Derived.Deep.AppendSrc
import Derived.Deep.MidRow
import Derived.Deep.OwnShut
import Derived.Laws.OwnMore
import Derived.OwnWalk
import Derived.ProofKit
import Derived.WalkSmall
import Derived.Test.YtihmbcnccdiecaaDoorA2
namespace Go.Proofs.YtihmbcnccdiecaaDoor
set_option maxRecDepth 100000
open Go.RowKit
theorem add_add_ (a : Addr) (i j : Nat) : (a.add i).add j = a.add (i + j) := by
  unfold Addr.add
  by_cases hi : i = 0 <;> by_cases hj : j = 0 <;> simp [hi, hj, Nat.add_assoc]
end Go.Proofs.YtihmbcnccdiecaaDoor
namespace Go.Proofs.YtihmbcnccdiecaaDoor
set_option maxRecDepth 100000
open Go.ChangeShapes Go.WideShapes Go.ChangeAt Go.RowKit
theorem lt_of_cell {w : World} {a : Addr} {u : Value} (h : w.cell? a = some u) : a.block < w.heap.size := by
  rcases Nat.lt_or_ge a.block w.heap.size with h1 | h1
  · exact h1
  · unfold World.cell? at h
    rw [Array.getElem?_eq_none h1] at h
    cases h
end Go.Proofs.YtihmbcnccdiecaaDoor
namespace Go.Proofs.YtihmbcnccdiecaaDoor
set_option maxRecDepth 100000
open Go.ChangeShapes Go.WideShapes Go.ChangeAt Go.RowKit
set_option linter.unusedVariables false
theorem flat_at {sz : Nat} {u : Value} : ∀ (css : List (List Value)) (j : Nat), (∀ cs ∈ css, cs.length = sz) → css.flatten[j]? = some u → ∃ i k cs, css[i]? = some cs ∧ j = i * sz + k ∧ cs[k]? = some u
  | [], j, _, h => by simp at h
  | c :: css, j, hl, h => by
    rw [List.flatten_cons] at h
    have hc := hl c (List.mem_cons_self ..)
    by_cases hj : j < c.length
    · rw [List.getElem?_append_left hj] at h
      exact ⟨0, j, c, rfl, by omega, h⟩
    · rw [List.getElem?_append_right (by omega)] at h
      obtain ⟨i, k, cs, h1, h2, h3⟩ := flat_at css (j - c.length) (fun cs hm => hl cs (List.mem_cons_of_mem _ hm)) h
      exact ⟨i + 1, k, cs, by simpa using h1, by rw [Nat.add_mul, Nat.one_mul]; omega, h3⟩
section
variable {H : Type} {enc : TypeId × Value → H} {P : Program} {w : World} {base : Nat} {sp : Nat → Bool} {held : Bool}
theorem structs_in {t e : TypeId} {ls : List TypeId} {a0 : Option Addr} {len0 cap0 : Nat} {d : DataW H} {ps : List MemPlace} (ht : P.underlying t = some (.slice e)) (he : LeafOf P e ls)
    (h : DataW.Trod enc P w base sp held t (.slice a0 len0 cap0) d ps) : ∃ css : List (List Value), css.length = len0 ∧ len0 ≤ cap0 ∧ Rd w a0 css.flatten ∧
      ∀ cs ∈ css, cs.length = ls.length ∧ ∀ (j : Nat) (l : TypeId) (c : Value), ls[j]? = some l → cs[j]? = some c → ∃ n y, DataW.trod enc P w base sp held n l [c] = some y := by
  obtain ⟨fuel, hf⟩ := h
  have hf' : DataW.trod enc P w base sp held fuel t [.slice a0 len0 cap0] = some (d, ps) := hf
  rcases DataW.trod_slice ht hf' with ⟨hcs, _⟩ | ⟨a, len, cap, elems, rest, n, _, hcs, _, hb, hl, _, hel, hev, _, _⟩
  · have : Value.slice a0 len0 cap0 = .slice none 0 0 := by injection hcs
    injection this with h1 h2 h3
    subst h1 h2 h3
    exact ⟨[], rfl, Nat.le_refl _, Rd.nil _ _, fun cs hcs => by cases hcs⟩
  · have : Value.slice a0 len0 cap0 = .slice (some a) len cap := by injection hcs
    injection this with h1 h2 h3
    subst h1 h2 h3
    have hx : ∀ i : Nat, ∃ cs : List Value, i < len0 → w.cells? base (a.add (i * P.cellsOf e)) (P.cellsOf e) = some cs ∧ ∃ y, DataW.trod enc P w base sp held n e cs = some y := fun i => by
      by_cases hi : i < len0
      · have h1 := hev i hi
        rw [List.getElem?_eq_getElem (by omega)] at h1
        obtain ⟨cs, h2, h3⟩ := Option.bind_eq_some_iff.1 h1
        exact ⟨cs, fun _ => ⟨h2, _, h3⟩⟩
      · exact ⟨[], fun h => absurd h hi⟩
    obtain ⟨f, hfn⟩ := Classical.axiomOfChoice hx
    have hsz : ∀ i, i < len0 → (f i).length = ls.length ∧ ∀ k u, (f i)[k]? = some u → w.cell? (a.add (i * ls.length + k)) = some u := fun i hi => by
      obtain ⟨h2, _⟩ := hfn i hi
      rw [he.1] at h2
      obtain ⟨h3, h4, h5⟩ := World.cells?_some h2
      refine ⟨h4, fun k u hk => ?_⟩
      have hkl : k < ls.length := by
        rcases Nat.lt_or_ge k (f i).length with h | h
        · omega
        · rw [List.getElem?_eq_none h] at hk; cases hk
      have := h5 k hkl
      rw [add_add_] at this
      rw [this, hk]
    refine ⟨(List.range len0).map f, by simp, hl, fun j u hu => ?_, fun cs hm => ?_⟩
    · obtain ⟨i, k, cs, h1, h2, h3⟩ := flat_at (sz := ls.length) _ j (fun cs hm => by
        obtain ⟨i, hi, rfl⟩ := List.mem_map.1 hm
        exact (hsz i (List.mem_range.1 hi)).1) hu
      rw [List.getElem?_map] at h1
      have hi : i < len0 := by
        rcases Nat.lt_or_ge i len0 with h | h
        · exact h
        · rw [List.getElem?_eq_none (by simpa using h)] at h1; cases h1
      rw [List.getElem?_range hi] at h1
      have hcs : f i = cs := by simpa using h1
      subst hcs
      have hc := (hsz i hi).2 k u h3
      rw [← h2] at hc
      exact ⟨a, rfl, by have := lt_of_cell hc; rwa [add_block] at this, hc⟩
    · obtain ⟨i, hi, rfl⟩ := List.mem_map.1 hm
      have hi := List.mem_range.1 hi
      obtain ⟨_, y, hy⟩ := hfn i hi
      exact ⟨(hsz i hi).1, fun j l c h1 h2 => he.2 enc w base sp held n _ y hy (hsz i hi).1 j l c h1 h2⟩
theorem rows_as {α : Type} (f : α → List Value) (Q : α → Prop) : ∀ (css : List (List Value)), (∀ cs ∈ css, ∃ r, cs = f r ∧ Q r) → ∃ rs : List α, css = rs.map f ∧ ∀ r ∈ rs, Q r
  | [], _ => ⟨[], rfl, fun r h => by cases h⟩
  | c :: css, h => by
    obtain ⟨r, rfl, hq⟩ := h c (List.mem_cons_self ..)
    obtain ⟨rs, rfl, hr⟩ := rows_as f Q css fun cs hm => h cs (List.mem_cons_of_mem _ hm)
    exact ⟨r :: rs, rfl, fun x hx => by
      rcases List.mem_cons.1 hx with rfl | hx
      · exact hq
      · exact hr x hx⟩
end
end Go.Proofs.YtihmbcnccdiecaaDoor
