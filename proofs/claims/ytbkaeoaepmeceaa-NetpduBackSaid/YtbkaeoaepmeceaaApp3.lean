/- A store into an own row of bytes. -/
import Derived.Test.YtbkaeoaepmeceaaApp2
namespace Go.Proofs.Ytbkaeoaepmeceaa
set_option maxRecDepth 100000
open Go.ChangeShapes Go.WideShapes Go.ChangeAt Go.RowKit
set_option linter.unusedVariables false
theorem own_cell {w : World} {base g n cap a : Nat} {xs : List (BitVec 8)} {y : BitVec 8} (h : OwnC w base g n cap xs) (hy : xs[a]? = some y) : w.cell? ⟨g, a, none⟩ = some (.int .u8 (W8 y)) := by
  obtain ⟨hl, rfl⟩ := List.getElem?_eq_some_iff.1 hy
  exact h.cells a hl
theorem own_g {w : World} {base n c : Nat} {A : Option Addr} {xs : List (BitVec 8)} (h : w.ownsRow base 5 1 (.slice A n c) n (bcells xs)) (hn : 0 < n) : ∃ g, A = some ⟨g, 0, none⟩ ∧ OwnC w base g n c xs ∧ ∃ cur, w.heap[g]? = some (.cells cur 5 (0, 0)) := by
  have hl := h.1
  rw [bcells_length, Nat.mul_one] at hl
  rcases h.2 with ⟨_, h0⟩ | ⟨g, cap, cur, hv, hb, hg, hnc, hcm, hcs, ht⟩
  · omega
  · injection hv with h1 h2 h3
    subst h1 h3
    have hcell := fun j => cell_of_row w g j cur 5 (0, 0) hg
    refine ⟨g, rfl, ⟨hb, (Array.getElem?_eq_some_iff.1 hg).1, hl, hnc, hcm, fun j hj => ?_, fun j hj => ?_, fun j hj => ?_⟩, cur, hg⟩
    · rw [hcell j]
      have := bcells_at xs j hj
      rw [← ht, List.getElem?_take, if_pos (by omega), Array.getElem?_toList] at this
      exact this
    · rw [hcell j, Array.getElem?_eq_getElem (by omega)]
      rfl
    · exact Blk.free (g := g) hg j
theorem own_ne {w : World} {g g' : Nat} {cur cs : Array Value} {t : TypeId} (h : w.heap[g]? = some (.cells cur 5 (0, 0))) (hG : Blk w g' t cs) (ht : t ≠ 5) : g' ≠ g := by
  rintro rfl
  unfold Blk at hG
  rw [hG] at h
  injection h with h
  injection h with _ h2
  exact ht h2
theorem OwnC.put {w : World} {base g n c : Nat} {xs : List (BitVec 8)} (h : OwnC w base g n c xs) (j : Nat) (hj : j < n) (x : BitVec 8) : OwnC (w.setCell ⟨g, j, none⟩ (.int .u8 (W8 x))) base g n c (xs.set j x) := by
  have hlen := h.len
  have hroom := h.room
  refine ⟨h.ge, by simpa using h.lt, by rw [List.length_set]; exact h.len, h.room, h.max, fun i hi => ?_, fun i hi => ?_, fun i hi => by rw [World.frozen?_setCell]; exact h.free i hi⟩
  · rw [List.length_set] at hi
    by_cases he : i = j
    · subst he
      rw [List.getElem_set_self]
      exact World.cell?_setCell_same' _ _ _ (h.some_ i (by omega))
    · rw [List.getElem_set_ne (by omega)]
      exact (World.cell?_setCell_other _ _ _ _ (by intro e; injection e; omega)).trans (h.cells i hi)
  · by_cases he : i = j
    · subst he
      rw [World.cell?_setCell_same' _ _ _ (h.some_ i hi)]
      rfl
    · rw [World.cell?_setCell_other _ _ _ _ (by intro e; injection e; omega)]
      exact h.some_ i hi
theorem OwnC.upd {w w' : World} {base g k n c : Nat} {xs : List (BitVec 8)} (h : OwnC w base g n c xs) (hU : Upd k w w') (hne : g ≠ k) : OwnC w' base g n c xs := by
  have hb := hU.block g hne
  have hc : ∀ j, w'.cell? ⟨g, j, none⟩ = w.cell? ⟨g, j, none⟩ := fun j => World.cell?_of_block hb
  have hf : ∀ j, w'.frozen? ⟨g, j, none⟩ = w.frozen? ⟨g, j, none⟩ := fun j => by simp [World.frozen?, hb]
  exact ⟨h.ge, by rw [hU.size]; exact h.lt, h.len, h.room, h.max, fun j hj => by rw [hc]; exact h.cells j hj, fun j hj => by rw [hc]; exact h.some_ j hj, fun j hj => by rw [hf]; exact h.free j hj⟩
theorem wpList_stc {P : Program} {ops : Array Oper} {rest : List Oper} {dst : Option Tmp} {ty tt : TypeId} {x y : Operand} {pos : String} {after : Array Edge} {a : Act} {w : World} {Q : Exit → Act → World → Prop}
    {base g n cap : Nat} {xs : List (BitVec 8)} (HC : OwnC w base g n cap xs) (j : Nat) (hj : j < n) (v : BitVec 8) (hx : a.eval x = .pointer (some ⟨g, j, none⟩)) (hy : a.eval y = .int .u8 (W8 v)) (hi : (P.info? ty).map (·.size) = some 1)
    (h : ∀ w', OwnC w' base g n cap (xs.set j v) → Upd g w w' → wpList P ops Q rest (a.put dst undef) w') : wpList P ops Q ({ dst := dst, op := .store ty x y, type := tt, pos := pos, after := after, guard := none } :: rest) a w :=
  wpList_plain rfl fun _ hK => by
    have hroom := HC.room
    have hs : (store ⟨g, j, none⟩ (.int .u8 (W8 v)) .plain).run P w = .ok () (w.setCell ⟨g, j, none⟩ (.int .u8 (W8 v))) := by
      rw [run_store P w _ _ .plain rfl]
      obtain ⟨u, hu⟩ := Option.isSome_iff_exists.1 (HC.some_ j (by omega))
      simp [hu, HC.free j (by omega)]
    cases hq : P.info? ty with
    | none => simp [hq] at hi
    | some i =>
      have hsz : i.size = 1 := by simpa [hq] using hi
      have hsv : (storeVar ty ⟨g, j, none⟩ (.int .u8 (W8 v))).run P w = .ok () (w.setCell ⟨g, j, none⟩ (.int .u8 (W8 v))) := by
        simp [storeVar, sizeOf, typeInfo, hq, Value.cells, hsz, storeCells, Addr.add, hs]
      unfold Oper.wp execOp
      simp only [hx, hy, Instr.storeAt, Instr.sureAddr, Sem.run_bind, Sem.run_pure, Result.andThen_ok, hsv]
      have hu : Upd g w (w.setCell ⟨g, j, none⟩ (.int .u8 (W8 v))) := ⟨rfl, rfl, rfl, by simp [World.setCell], fun k hk => Below.heap_setCell w ⟨g, j, none⟩ _ k hk⟩
      exact hK _ _ (h _ (HC.put j hj v) hu)
end Go.Proofs.Ytbkaeoaepmeceaa
