/- Blocks that are known whole: a part is read, a part is written; the world behind a write is known by its blocks alone. -/
import Derived.Test.YtbkaeoaepmeceaaReg
import Derived.Deep.MidRow
import Derived.Laws.Tables
namespace Go.Proofs.Ytbkaeoaepmeceaa
set_option maxRecDepth 100000
open Go.RowKit
set_option linter.unusedVariables false

/-- The two worlds differ in block g alone. -/
structure Upd (g : Nat) (w w' : World) : Prop where
  os : w'.os = w.os
  tape : w'.tape = w.tape
  output : w'.output = w.output
  size : w'.heap.size = w.heap.size
  block : ∀ k, k ≠ g → w'.heap[k]? = w.heap[k]?
theorem Upd.below {g B : Nat} {w0 w w' : World} (h : Upd g w w') (hb : Below B w0 w) (hg : B ≤ g) : Below B w0 w' :=
  ⟨h.os.trans hb.os, h.tape.trans hb.tape, h.output.trans hb.output, by rw [h.size]; exact hb.size, fun k hk => (h.block k (by omega)).trans (hb.block k hk)⟩
theorem Upd.blk {g g' : Nat} {w w' : World} {t : TypeId} {cs : Array Value} (h : Upd g w w') (hG : Blk w g' t cs) (hne : g' ≠ g) : Blk w' g' t cs := (h.block g' hne).trans hG
theorem Upd.rd {g : Nat} {w w' : World} {A : Option Addr} {xs : List Value} (h : Upd g w w') (hr : Rd w A xs) (hne : ∀ ad, A = some ad → ad.block ≠ g) : Rd w' A xs := fun j u hu => by
  obtain ⟨ad, rfl, hlt, hc⟩ := hr j u hu
  exact ⟨ad, rfl, by rw [h.size]; exact hlt, (World.cell?_of_block (h.block _ (by rw [add_block]; exact hne ad rfl))).trans hc⟩
theorem Upd.trans {g : Nat} {a b c : World} (h : Upd g a b) (k : Upd g b c) : Upd g a c :=
  ⟨k.os.trans h.os, k.tape.trans h.tape, k.output.trans h.output, k.size.trans h.size, fun i hi => (k.block i hi).trans (h.block i hi)⟩
/-- The cells with others from place o on. -/
def putAt (cs : Array Value) (o : Nat) (vs : List Value) : Array Value := (cs.toList.take o ++ vs ++ cs.toList.drop (o + vs.length)).toArray
theorem putAt_size (cs : Array Value) (o : Nat) (vs : List Value) (h : o + vs.length ≤ cs.size) : (putAt cs o vs).size = cs.size := by
  unfold putAt
  rw [List.size_toArray, List.length_append, List.length_append, List.length_take, List.length_drop, Array.length_toList]
  omega
theorem setCells_blk {g : Nat} {t : TypeId} : ∀ (vs : List Value) (o : Nat) (w : World) (cs : Array Value), Blk w g t cs → o + vs.length ≤ cs.size → Blk (w.setCells g o vs) g t (putAt cs o vs) ∧ Upd g w (w.setCells g o vs)
  | [], o, w, cs, h, _ => by
    refine ⟨?_, ⟨rfl, rfl, rfl, rfl, fun _ _ => rfl⟩⟩
    have : putAt cs o [] = cs := by
      unfold putAt
      simp
    rw [this]
    exact h
  | v :: vs, o, w, cs, h, hl => by
    have h1 := h.set_ o v
    rw [List.length_cons] at hl
    obtain ⟨h2, u2⟩ := setCells_blk vs (o + 1) (w.setCell ⟨g, o, none⟩ v) (cs.setIfInBounds o v) h1 (by simp; omega)
    have hu : Upd g w (w.setCell ⟨g, o, none⟩ v) := ⟨rfl, rfl, rfl, by simp [World.setCell], fun k hk => Below.heap_setCell w ⟨g, o, none⟩ v k hk⟩
    refine ⟨?_, hu.trans u2⟩
    have e : putAt (cs.setIfInBounds o v) (o + 1) vs = putAt cs o (v :: vs) := by
      unfold putAt
      apply congrArg List.toArray
      rw [Array.toList_setIfInBounds, List.take_set, List.drop_set, if_pos (by omega), List.length_cons, show o + (vs.length + 1) = o + 1 + vs.length by omega]
      have ht : (cs.toList.take (o + 1)).set o v = cs.toList.take o ++ [v] := by
        have hlt : o < cs.toList.length := by rw [Array.length_toList]; omega
        rw [List.take_succ_eq_append_getElem hlt, List.set_append_right _ _ (by rw [List.length_take]; omega), List.length_take, Nat.min_eq_left (by omega), Nat.sub_self]
        rfl
      rw [ht]
      simp
    rw [← e]
    exact h2
theorem blk_there {w : World} {g : Nat} {t : TypeId} {cs : Array Value} (h : Blk w g t cs) (o n : Nat) (hn : o + n ≤ cs.size) : w.there g o n := fun j hj => by
  refine ⟨?_, h.free _⟩
  rw [h.cell, Array.getElem?_eq_getElem (by omega)]
  rfl
section
variable {P : Program}
/-- A row is stored into a block that is known whole. -/
theorem run_store_blk {w : World} {g o : Nat} {t ty : TypeId} {cs vs : Array Value} (hG : Blk w g t cs) (hi : (P.info? ty).map (·.size) = some vs.size) (h1 : vs.all (·.oneCell') = true) (hn : o + vs.size ≤ cs.size) :
    ∃ w', (storeVar ty ⟨g, o, none⟩ (.agg vs)).run P w = .ok () w' ∧ Blk w' g t (putAt cs o vs.toList) ∧ Upd g w w' := by
  have h := setCells_blk vs.toList o w cs hG (by simpa using hn)
  exact ⟨_, run_storeVar_mid w g o ty vs (blk_there hG o vs.size hn) hi h1, h.1, h.2⟩
theorem wpList_store_blk {ops : Array Oper} {rest : List Oper} {op : Oper} {a : Act} {w : World} {Q : Exit → Act → World → Prop} (hgd : op.guard = none) (ty : TypeId) (x y : Operand) (ho : op.op = .store ty x y)
    {g o : Nat} {t : TypeId} {cs vs : Array Value} (hG : Blk w g t cs) (hx : a.eval x = .pointer (some ⟨g, o, none⟩)) (hy : a.eval y = .agg vs)
    (hi : (P.info? ty).map (·.size) = some vs.size) (h1 : vs.all (·.oneCell') = true) (hn : o + vs.size ≤ cs.size)
    (h : ∀ w', Blk w' g t (putAt cs o vs.toList) → Upd g w w' → wpList P ops Q rest (a.put op.dst undef) w') : wpList P ops Q (op :: rest) a w := by
  have h2 := setCells_blk vs.toList o w cs hG (by simpa using hn)
  exact wpList_store_mid hgd ty x y ho g o vs hx hy (blk_there hG o vs.size hn) hi h1 (h _ h2.1 h2.2)
/-- One cell is stored into a block that is known whole. -/
theorem wpList_store_one {ops : Array Oper} {rest : List Oper} {op : Oper} {a : Act} {w : World} {Q : Exit → Act → World → Prop} (hgd : op.guard = none) (ty : TypeId) (x y : Operand) (ho : op.op = .store ty x y)
    {g o : Nat} {t : TypeId} {cs : Array Value} (v : Value) (hG : Blk w g t cs) (hx : a.eval x = .pointer (some ⟨g, o, none⟩)) (hy : a.eval y = v)
    (hc : v.cells = #[v]) (hi : (P.info? ty).map (·.size) = some 1) (h1 : v.oneCell' = true) (hn : o < cs.size)
    (h : ∀ w', Blk w' g t (cs.setIfInBounds o v) → Upd g w w' → wpList P ops Q rest (a.put op.dst undef) w') : wpList P ops Q (op :: rest) a w :=
  wpList_plain hgd fun _ hK => by
    have hth := blk_there hG o 1 (by omega)
    have hs : (store ⟨g, o, none⟩ v .plain).run P w = .ok () (w.setCell ⟨g, o, none⟩ v) := by
      rw [run_store P w _ v .plain h1]
      have := hth 0 (by omega)
      simp only [Nat.add_zero] at this
      obtain ⟨u, hu⟩ := Option.isSome_iff_exists.1 this.1
      simp [hu, this.2]
    cases hq : P.info? ty with
    | none => simp [hq] at hi
    | some i =>
      have hsz : i.size = 1 := by simpa [hq] using hi
      have hsv : (storeVar ty ⟨g, o, none⟩ v).run P w = .ok () (w.setCell ⟨g, o, none⟩ v) := by
        simp [storeVar, sizeOf, typeInfo, hq, hc, hsz, storeCells, Addr.add, hs]
      unfold Oper.wp execOp
      simp only [ho, hx, hy, Instr.storeAt, Instr.sureAddr, Sem.run_bind, Sem.run_pure, Result.andThen_ok, hsv]
      have hu : Upd g w (w.setCell ⟨g, o, none⟩ v) := ⟨rfl, rfl, rfl, by simp [World.setCell], fun k hk => Below.heap_setCell w ⟨g, o, none⟩ v k hk⟩
      exact hK _ _ (h _ (hG.set_ o v) hu)
/-- A part of a block that is known whole is read. -/
theorem blk_range {w : World} {g : Nat} {t : TypeId} {cs : Array Value} (hG : Blk w g t cs) (o : Nat) (vs : List Value) (h : (cs.toList.drop o).take vs.length = vs) : w.rangeAt g o vs := fun j v hv => by
  rw [hG.cell]
  rw [← h, List.getElem?_take] at hv
  split at hv
  · rw [List.getElem?_drop, Array.getElem?_toList] at hv
    exact hv
  · cases hv
theorem wpList_load_blk {ops : Array Oper} {rest : List Oper} {op : Oper} {a : Act} {w : World} {Q : Exit → Act → World → Prop} (hgd : op.guard = none) (ty : TypeId) (x : Operand) (ho : op.op = .load ty x)
    {g o : Nat} {t : TypeId} {cs : Array Value} {d : TypeDesc} (vs : List Value) (hG : Blk w g t cs) (hx : a.eval x = .pointer (some ⟨g, o, none⟩)) (hvs : (cs.toList.drop o).take vs.length = vs)
    (hu : P.underlying ty = some d) (hd : d.isRow = true) (hi : (P.info? ty).map (·.size) = some vs.length)
    (h : wpList P ops Q rest (a.put op.dst (.agg vs.toArray)) w) : wpList P ops Q (op :: rest) a w :=
  wpList_load_mid hgd ty x ho g o hx vs d (blk_range hG o vs hvs) hu hd hi h
/-! ### Arms: the operation is written out, so that an arm falls at once at any other -/
theorem wpList_st1 {ops : Array Oper} {rest : List Oper} {dst : Option Tmp} {ty tt : TypeId} {x y : Operand} {pos : String} {after : Array Edge} {a : Act} {w : World} {Q : Exit → Act → World → Prop}
    {g : Nat} {t : TypeId} {cs : Array Value} (o : Nat) (v : Value) (cs' : Array Value) (hG : Blk w g t cs) (hx : a.eval x = .pointer (some ⟨g, o, none⟩)) (hy : a.eval y = v)
    (hc : v.cells = #[v]) (hi : (P.info? ty).map (·.size) = some 1) (h1 : v.oneCell' = true) (hn : o < cs.size) (he : cs.setIfInBounds o v = cs')
    (h : ∀ w', Blk w' g t cs' → Upd g w w' → wpList P ops Q rest (a.put dst undef) w') : wpList P ops Q ({ dst := dst, op := .store ty x y, type := tt, pos := pos, after := after, guard := none } :: rest) a w :=
  wpList_store_one rfl ty x y rfl v hG hx hy hc hi h1 hn fun w' hG' hU => h w' (he ▸ hG') hU
theorem wpList_st {ops : Array Oper} {rest : List Oper} {dst : Option Tmp} {ty tt : TypeId} {x y : Operand} {pos : String} {after : Array Edge} {a : Act} {w : World} {Q : Exit → Act → World → Prop}
    {g : Nat} {t : TypeId} {cs : Array Value} (o : Nat) (vs cs' : Array Value) (hG : Blk w g t cs) (hx : a.eval x = .pointer (some ⟨g, o, none⟩)) (hy : a.eval y = .agg vs)
    (hi : (P.info? ty).map (·.size) = some vs.size) (h1 : vs.toList.all (·.oneCell') = true) (hn : o + vs.size ≤ cs.size) (he : putAt cs o vs.toList = cs')
    (h : ∀ w', Blk w' g t cs' → Upd g w w' → wpList P ops Q rest (a.put dst undef) w') : wpList P ops Q ({ dst := dst, op := .store ty x y, type := tt, pos := pos, after := after, guard := none } :: rest) a w :=
  wpList_store_blk rfl ty x y rfl hG hx hy hi (by rw [← Array.all_toList]; exact h1) hn fun w' hG' hU => h w' (he ▸ hG') hU
theorem wpList_ld {ops : Array Oper} {rest : List Oper} {dst : Option Tmp} {ty tt : TypeId} {x : Operand} {pos : String} {after : Array Edge} {a : Act} {w : World} {Q : Exit → Act → World → Prop}
    {g : Nat} {t : TypeId} {cs : Array Value} {d : TypeDesc} (o : Nat) (vs : List Value) (hG : Blk w g t cs) (hx : a.eval x = .pointer (some ⟨g, o, none⟩)) (hvs : (cs.toList.drop o).take vs.length = vs)
    (hu : P.underlying ty = some d) (hd : d.isRow = true) (hi : (P.info? ty).map (·.size) = some vs.length)
    (h : wpList P ops Q rest (a.put dst (.agg vs.toArray)) w) : wpList P ops Q ({ dst := dst, op := .load ty x, type := tt, pos := pos, after := after, guard := none } :: rest) a w :=
  wpList_load_blk rfl ty x rfl vs hG hx hvs hu hd hi h
end
end Go.Proofs.Ytbkaeoaepmeceaa
