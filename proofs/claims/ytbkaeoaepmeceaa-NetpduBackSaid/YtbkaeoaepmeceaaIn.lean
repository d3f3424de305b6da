/- What a law's arguments read as: slices of bytes, slices of numbers. -/
import Derived.Test.YtbkaeoaepmeceaaMem
import Derived.ChangeSlices
import Derived.ChangeOld
namespace Go.Proofs.Ytbkaeoaepmeceaa
set_option maxRecDepth 100000
open Go.ChangeShapes Go.WideShapes Go.ChangeAt Go.RowKit

theorem lt_of_cell {w : World} {a : Addr} {u : Value} (h : w.cell? a = some u) : a.block < w.heap.size := by
  rcases Nat.lt_or_ge a.block w.heap.size with h1 | h1
  · exact h1
  · unfold World.cell? at h
    rw [Array.getElem?_eq_none h1] at h
    cases h
theorem bytes_of_wf : ∀ (zs : List Int), (∀ n ∈ zs, (Lit.int .u8 n).wf = true) → ∃ bs : List (BitVec 8), zs = bs.map W8
  | [], _ => ⟨[], rfl⟩
  | z :: zs, h => by
    obtain ⟨bs, hb⟩ := bytes_of_wf zs fun n hn => h n (List.mem_cons_of_mem _ hn)
    obtain ⟨x, hx⟩ := W8_of_wf (h z (List.mem_cons_self ..))
    exact ⟨x :: bs, by rw [List.map_cons, ← hb, hx]⟩
theorem nums_of_wf : ∀ (zs : List Int), (∀ n ∈ zs, (Lit.int .u64 n).wf = true) → ∃ bs : List (BitVec 64), zs = bs.map W64
  | [], _ => ⟨[], rfl⟩
  | z :: zs, h => by
    obtain ⟨bs, hb⟩ := nums_of_wf zs fun n hn => h n (List.mem_cons_of_mem _ hn)
    obtain ⟨x, hx⟩ := W64_of_wf (h z (List.mem_cons_self ..))
    exact ⟨x :: bs, by rw [List.map_cons, ← hb, hx]⟩
section
variable {H : Type} {enc : TypeId × Value → H} {P : Program} {w : World} {base : Nat} {sp : Nat → Bool} {held : Bool}
theorem ints_in {k : IntKind} {t e : TypeId} {a0 : Option Addr} {len0 cap0 : Nat} {d : DataW H} {ps : List MemPlace} (ht : P.underlying t = some (.slice e)) (he : P.underlying e = some (.int k)) (hc : P.cellsOf e = 1)
    (h : DataW.Trod enc P w base sp held t (.slice a0 len0 cap0) d ps) : ∃ zs : List Int, zs.length = len0 ∧ len0 ≤ cap0 ∧ Rd w a0 (zs.map (Value.int k)) ∧ ∀ n ∈ zs, (Lit.int k n).wf = true := by
  obtain ⟨fuel, hf⟩ := h
  rcases open_ints ht he hc hf with ⟨hcs, _⟩ | ⟨a, len, cap, zs, hcs, _, hl, _, hzl, _, hcell, hwf⟩
  · have : Value.slice a0 len0 cap0 = .slice none 0 0 := by injection hcs
    injection this with h1 h2 h3
    subst h1 h2 h3
    exact ⟨[], rfl, Nat.le_refl _, Rd.nil _ _, fun n hn => by cases hn⟩
  · have : Value.slice a0 len0 cap0 = .slice (some a) len cap := by injection hcs
    injection this with h1 h2 h3
    subst h1 h2 h3
    have hlz : len0 ≤ zs.length := by split at hzl <;> omega
    refine ⟨zs.take len0, by rw [List.length_take]; omega, hl, fun j u hu => ?_, fun n hn => hwf n (List.mem_of_mem_take hn)⟩
    rw [List.getElem?_map, List.getElem?_take] at hu
    split at hu
    · rename_i hj
      have hjz : j < zs.length := by omega
      have hcj := hcell j hjz
      rw [List.getD_eq_getElem?_getD, List.getElem?_eq_getElem hjz] at hcj
      rw [List.getElem?_eq_getElem hjz] at hu
      have : u = .int k zs[j] := by injection hu with hu; exact hu.symm
      subst this
      exact ⟨a, rfl, by have := lt_of_cell hcj; rwa [add_block] at this, hcj⟩
    · cases hu
theorem bytes_in {t e : TypeId} {a0 : Option Addr} {len0 cap0 : Nat} {d : DataW H} {ps : List MemPlace} (ht : P.underlying t = some (.slice e)) (he : P.underlying e = some (.int .u8)) (hc : P.cellsOf e = 1)
    (h : DataW.Trod enc P w base sp held t (.slice a0 len0 cap0) d ps) : ∃ bs : List (BitVec 8), len0 = bs.length ∧ RdB w a0 bs ∧ bs.length ≤ cap0 := by
  obtain ⟨zs, hl, hc, hr, hw⟩ := ints_in ht he hc h
  obtain ⟨bs, rfl⟩ := bytes_of_wf zs hw
  rw [List.length_map] at hl
  refine ⟨bs, hl.symm, ?_, by omega⟩
  rw [List.map_map] at hr
  exact hr
theorem nums_in {t e : TypeId} {a0 : Option Addr} {len0 cap0 : Nat} {d : DataW H} {ps : List MemPlace} (ht : P.underlying t = some (.slice e)) (he : P.underlying e = some (.int .u64)) (hc : P.cellsOf e = 1)
    (h : DataW.Trod enc P w base sp held t (.slice a0 len0 cap0) d ps) : ∃ bs : List (BitVec 64), len0 = bs.length ∧ RdU w a0 bs ∧ bs.length ≤ cap0 := by
  obtain ⟨zs, hl, hc, hr, hw⟩ := ints_in ht he hc h
  obtain ⟨bs, rfl⟩ := nums_of_wf zs hw
  rw [List.length_map] at hl
  refine ⟨bs, hl.symm, ?_, by omega⟩
  rw [List.map_map] at hr
  exact hr
end
end Go.Proofs.Ytbkaeoaepmeceaa
