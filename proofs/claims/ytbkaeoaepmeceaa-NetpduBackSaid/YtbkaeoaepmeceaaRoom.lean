/- Blocks that hold no byte; a struct stored whole in a drawn region; two operations in either order. -/
import Derived.Test.YtbkaeoaepmeceaaBlock
import Derived.Test.YtbkaeoaepmeceaaRet
namespace Go.Proofs.Ytbkaeoaepmeceaa
set_option maxRecDepth 100000
open Go.ChangeShapes Go.WideShapes Go.ChangeAt Go.RowKit
set_option linter.unusedVariables false
def noU8 (cs : Array Value) : Bool := cs.toList.all fun v => match v with | .int .u8 _ => false | _ => true
theorem RdB.upd {g : Nat} {w w' : World} {t : TypeId} {cs : Array Value} {A : Option Addr} {bs : List (BitVec 8)} (hr : RdB w A bs) (hG : Blk w g t cs) (hU : Upd g w w') (hc : noU8 cs = true) : RdB w' A bs := fun j u hu => by
  have hlen : 0 < (bcells bs).length := by
    rcases h : bcells bs with _ | ⟨x, xs⟩
    · rw [h] at hu; simp at hu
    · simp
  obtain ⟨b, off, rfl, hlt, hcell⟩ := Rd.open_ hr hlen
  have hu8 : ∃ x, u = .int .u8 x := by
    have := List.mem_of_getElem? hu
    simp only [bcells, List.mem_map] at this
    obtain ⟨x, _, rfl⟩ := this
    exact ⟨_, rfl⟩
  have hne : b ≠ g := by
    rintro rfl
    have h1 := hcell j u hu
    rw [hG.cell] at h1
    obtain ⟨x, rfl⟩ := hu8
    have h2 : Value.int .u8 x ∈ cs.toList := by
      rw [← Array.getElem?_toList] at h1
      exact List.mem_of_getElem? h1
    have h3 := List.all_eq_true.1 hc _ h2
    simp at h3
  exact Upd.rd hU hr (fun ad he => by cases he; exact hne) j u hu
/-- A block of a type that holds n cells, none of them a byte. -/
def Room (g : Nat) (t : TypeId) (n : Nat) (w : World) : Prop := ∃ cs, cs.size = n ∧ noU8 cs = true ∧ Blk w g t cs
theorem stable_room (g : Nat) (t : TypeId) (n : Nat) : Stable (Room g t n) := fun w w' ⟨cs, h1, h2, h3⟩ hb => ⟨cs, h1, h2, h3.to hb h3.lt⟩
section
variable {P : Program} {ops : Array Oper} {Q : Exit → Act → World → Prop} {md : Region.Mode} {S0 S : World → Prop}
/-- The last thing that writes: a struct is stored whole into a block. -/
theorem wpV_st (k : Nat) {o : Oper} {fuel : Nat} {listed : Array Bool} {a : Act} (hst : Stable S) (h0 : ∀ w, S w → S0 w) {ty : TypeId} {x y : Operand} {g : Nat} {t : TypeId} (vs : Array Value) (ho : ops.toList[k]? = some o) (hop : o.op = .store ty x y)
    (hx : a.eval x = .pointer (some ⟨g, 0, none⟩)) (hy : a.eval y = .agg vs) (hS : ∀ w, S w → Room g t vs.size w) (hU : ∀ w w', S w → Upd g w w' → Blk w' g t vs → S w')
    (hi : (P.info? ty).map (·.size) = some vs.size) (h1 : vs.toList.all (·.oneCell') = true)
    (h : Stable (fun w => S w ∧ Blk w g t vs) → wpU P md ops Q fuel S0 (fun w => S w ∧ Blk w g t vs) (listed.setIfInBounds k true) (a.put o.dst undef))
    (hw : Region.wanted o (yielded ops a.tmps) = true := by rfl) (hr : Region.ready md ops listed = [k] := by kernel_rfl) : wpU P md ops Q (fuel + 1) S0 S listed a :=
  wpU_one k ho (fun w hs K hK => by
    obtain ⟨cs, hsz, _, hG⟩ := hS w hs
    obtain ⟨w', hrun, hB, hUp⟩ := run_store_blk (P := P) hG hi (by rw [← Array.all_toList]; exact h1) (by omega : 0 + vs.size ≤ cs.size)
    have he : putAt cs 0 vs.toList = vs := by
      unfold putAt
      rw [List.take_zero, List.nil_append, List.drop_eq_nil_of_le (by simp [hsz]), List.append_nil]
    rw [he] at hB
    have hst2 := stable_and hst (stable_blk g t vs)
    rw [if_pos hw]
    unfold Oper.wp execOp
    simp only [hop, hx, hy, Instr.storeAt, Instr.sureAddr, Sem.run_bind, Sem.run_pure, Result.andThen_ok, hrun]
    exact hK.out S0 _ _ _ (fun _ h => h) hst2 (fun _ h => h0 _ h.1) ⟨hU _ _ hs hUp hB, hB⟩ (h hst2)) hr
/-- Two operations that may come up; both ways are walked. -/
theorem wpV_two (i j : Nat) {oi oj : Oper} {fuel : Nat} {listed : Array Bool} {a : Act} (hst : Stable S) (hoi : ops.toList[i]? = some oi) (hoj : ops.toList[j]? = some oj)
    (h1 : ∀ w, S w → ∀ K : Act → World → Prop, Kept (∀ (T : World → Prop) a' w', Stable T → Below w.heap.size w w' → T w' → (Stable (fun w => S w ∧ T w) → wpU P md ops Q fuel (fun w => S w ∧ T w) (fun w => S w ∧ T w) (listed.setIfInBounds i true) a') → K a' w') →
      if Region.wanted oi (yielded ops a.tmps) = true then Oper.wp P oi a w K Q else K (a.put oi.dst undef) w)
    (h2 : ∀ w, S w → ∀ K : Act → World → Prop, Kept (∀ (T : World → Prop) a' w', Stable T → Below w.heap.size w w' → T w' → (Stable (fun w => S w ∧ T w) → wpU P md ops Q fuel (fun w => S w ∧ T w) (fun w => S w ∧ T w) (listed.setIfInBounds j true) a') → K a' w') →
      if Region.wanted oj (yielded ops a.tmps) = true then Oper.wp P oj a w K Q else K (a.put oj.dst undef) w)
    (hr : Region.ready md ops listed = [i, j] := by kernel_rfl) : wpU P md ops Q (fuel + 1) S S listed a := by
  have hs : ∀ T, Stable T → Stable fun w => S w ∧ T w := fun T hT w w' ⟨a, b⟩ hb => ⟨hst w w' a hb, hT w w' b hb⟩
  refine ⟨fun h0 => (by rw [hr] at h0; cases h0), fun k hk w hS => ?_⟩
  rw [hr] at hk
  rcases List.mem_cons.1 hk with rfl | hk
  · exact wpOp_step (by rw [← hoi, Array.getElem?_toList]) fun K' hK => h1 w hS K' fun T a' w' hT hb ht hn => hK a' w' ⟨_, _, fun _ h => h.1, hs T hT, fun _ h => h, ⟨hst _ _ hS hb, ht⟩, hn (hs T hT)⟩
  · obtain rfl : k = j := by simpa using hk
    exact wpOp_step (by rw [← hoj, Array.getElem?_toList]) fun K' hK => h2 w hS K' fun T a' w' hT hb ht hn => hK a' w' ⟨_, _, fun _ h => h.1, hs T hT, fun _ h => h, ⟨hst _ _ hS hb, ht⟩, hn (hs T hT)⟩
end
end Go.Proofs.Ytbkaeoaepmeceaa
