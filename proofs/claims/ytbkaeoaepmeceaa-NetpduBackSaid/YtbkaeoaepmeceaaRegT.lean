/- A region that draws its order, with a tail: the head is walked once in the order of the text (as in Reg), the last operations come one behind the other and may do what they like. -/
import Derived.Test.YtbkaeoaepmeceaaRoom
import Derived.StillTail
import Derived.Lib.Hide
import Derived.Deep.Cut
namespace Go.Proofs.Ytbkaeoaepmeceaa
set_option maxRecDepth 100000
open Go.RowKit
set_option linter.unusedVariables false

section
variable {P : Program} {ops : Array Oper} {Q : Exit → Act → World → Prop} {md : Region.Mode} {S0 : World → Prop}
/-- What is left when the head is done. -/
def tailL (P : Program) (md : Region.Mode) (ops : Array Oper) (Q : Exit → Act → World → Prop) (n : Nat) (S : World → Prop) (listed : Array Bool) (a : Act) : Prop :=
  Region.seqB md ops (ops.size - n) n listed = true ∧ ∀ w, S w → wpList P ops Q (ops.toList.drop n) a w
def wpT (P : Program) (md : Region.Mode) (ops : Array Oper) (Q : Exit → Act → World → Prop) (n : Nat) : Nat → (World → Prop) → (World → Prop) → Array Bool → Act → Prop
  | 0, _, S, listed, a => tailL P md ops Q n S listed a
  | fuel + 1, S0, S, listed, a => Region.ready md ops listed ≠ [] ∧
    ∀ i ∈ Region.ready md ops listed, i < n ∧ ∀ w, S w → wpOp P ops Q i (fun a' w' => ∃ S0' S' : World → Prop, (∀ w, S0' w → S0 w) ∧ Stable S' ∧ (∀ w, S' w → S0' w) ∧ S' w' ∧ wpT P md ops Q n fuel S0' S' (listed.setIfInBounds i true) a') a w
theorem wpAny_of_t {n : Nat} (hn : n ≤ ops.size) : ∀ (fuel : Nat) (S0 S : World → Prop) (listed : Array Bool) (a : Act) (w : World), S w → wpT P md ops Q n fuel S0 S listed a → wpAny P md ops Q (fuel + (ops.size - n)) listed a w
  | 0, _, S, listed, a, w, hS, h => by
    rw [Nat.zero_add]
    have := wpAny_of_seq (md := md) (Q' := Q) (ops.toList.drop n) n listed a w (fun j => by simp [List.getElem?_drop]) (by simpa using h.1) (h.2 w hS)
    simpa using this
  | fuel + 1, _, _, _, _, w, hS, h => by
    rw [show fuel + 1 + (ops.size - n) = (fuel + (ops.size - n)) + 1 by omega]
    exact ⟨fun h0 => absurd h0 h.1, fun i hi => wpOp_mono (fun a' w' ⟨S0', S', _, _, _, hS', h'⟩ => wpAny_of_t hn fuel S0' S' _ a' w' hS' h') ((h.2 i hi).2 w hS)⟩
theorem seqB_tail {n : Nat} {listed : Array Bool} (h : Region.seqB md ops (ops.size - n) n listed = true) : ∀ j ∈ Region.ready md ops listed, n ≤ j := seqB_ready h
theorem wpT_first {n i : Nat} {oi : Oper} {v : Value} (hi : ops[i]? = some oi) (hsel : ∀ (j : Nat) (o : Oper) cs b, ops[j]? = some o → o.op ≠ .select cs b)
    (hs : Region.sinkB md ops n = true) (hc : Region.chainB md ops n = true) (hn : n < ops.size) (hin : i < n)
    (hQ : ∀ c a w, Q (.panic c) (a.put oi.dst v) w → Q (.panic c) a w) :
    ∀ (fuel : Nat) (S0 S : World → Prop) (listed : Array Bool) (a : Act), HeadInv md ops n listed →
      (∀ j oj, ops[j]? = some oj → j ≠ i → listed.getD j true = false → (∀ e ∈ oj.after, Region.binds md e = true → e.on ≠ i) → oi.apart ops oj = true) →
      i ∈ Region.ready md ops listed → YieldsU P ops S0 oi v a → Stable S → (∀ w, S w → S0 w) →
      wpT P md ops Q n fuel S0 S (listed.setIfInBounds i true) (a.put oi.dst v) → wpT P md ops Q n (fuel + 1) S0 S listed a := by
  intro fuel
  induction fuel with
  | zero =>
    intro S0 S listed a inv _ hr hy hst h0 H
    have hun := (mem_ready.1 hr).1
    refine ⟨fun h => (by rw [h] at hr; cases hr), fun j hj => ?_⟩
    have hjn : j < n := by
      rcases Nat.lt_or_ge j n with h | h
      · exact h
      · exact absurd hj (tail_waits hs hc hn inv _ i rfl hin hun j h)
    refine ⟨hjn, fun w hS => ?_⟩
    by_cases hji : j = i
    · subst hji; exact hy.wpOp hi (h0 w hS) fun w' hb => ⟨S0, S, fun _ h => h, hst, h0, hst w w' hS hb, H⟩
    · have := seqB_tail H.1 j (ready_mono hj hji)
      omega
  | succ fuel ih =>
    intro S0 S listed a inv hfree hr hy hst h0 H
    have hun := (mem_ready.1 hr).1
    refine ⟨fun h => (by rw [h] at hr; cases hr), fun j hj => ?_⟩
    have hjn : j < n := by
      rcases Nat.lt_or_ge j n with h | h
      · exact h
      · exact absurd hj (tail_waits hs hc hn inv _ i rfl hin hun j h)
    refine ⟨hjn, fun w hS => ?_⟩
    by_cases hji : j = i
    · subst hji; exact hy.wpOp hi (h0 w hS) fun w' hb => ⟨S0, S, fun _ h => h, hst, h0, hst w w' hS hb, H⟩
    · have h1 := (H.2 j (ready_mono hj hji)).2 w hS
      obtain ⟨hjun, oj, hoj, hall⟩ := mem_ready.1 hj
      have hnot : ∀ e ∈ oj.after, Region.binds md e = true → e.on ≠ i := fun e he hb heq => by
        have h1 := hall e he hb
        rw [heq, getD_both hun] at h1
        cases h1
      have h2 := wpOp_putU hoj (hfree j oj hoj hji hjun hnot) (fun cs b => hsel i oi cs b hi) (fun cs b => hsel j oj cs b hoj) hQ hy h1
      have hfree' : ∀ k ok, ops[k]? = some ok → k ≠ i → (listed.setIfInBounds j true).getD k true = false →
          (∀ e ∈ ok.after, Region.binds md e = true → e.on ≠ i) → oi.apart ops ok = true := fun k ok hk hki hun hno => by
        refine hfree k ok hk hki ?_ hno
        by_cases hjk : j = k
        · subst hjk; exact hjun
        · rw [getD_set_ne true hjk] at hun; exact hun
      refine wpOp_mono (fun a' w' ⟨hya, S0', S', hs0, hst', h0', hS', hW'⟩ => ⟨S0', S', hs0, hst', h0', hS', ih S0' S' (listed.setIfInBounds j true) a' (inv.set hj hjn) hfree' (ready_mono hr (Ne.symm hji)) (hya.weak hs0) hst' h0' ?_⟩) h2
      rw [Array.setIfInBounds_comm _ _ hji]
      exact hW'
/-! ### The moves. The facts of the region are one hypothesis: hR. -/
structure TailOk (md : Region.Mode) (ops : Array Oper) (n : Nat) : Prop where
  nosel : Region.noSelect ops = true
  sink : Region.sinkB md ops n = true
  chain : Region.chainB md ops n = true
  lt : n < ops.size
/-- Where the walk stands: the head invariant comes along. -/
def wpH (P : Program) (md : Region.Mode) (ops : Array Oper) (Q : Exit → Act → World → Prop) (n fuel : Nat) (S : World → Prop) (listed : Array Bool) (a : Act) : Prop :=
  HeadInv md ops n listed → wpT P md ops Q n fuel S S listed a
theorem wpH_take {S : World → Prop} {n : Nat} (i : Nat) {oi : Oper} {v : Value} {fuel : Nat} {listed : Array Bool} {a : Act} (hR : TailOk md ops n) (hst : Stable S) (hi : ops.toList[i]? = some oi)
    (hy : ∀ w, S w → ∀ K : Value → World → Prop, Kept (∀ w', Below w.heap.size w w' → K v w') → calm P oi a w K)
    (h : wpH P md ops Q n fuel S (listed.setIfInBounds i true) (a.put oi.dst v))
    (hf : Region.free md ops listed i = true := by kernel_rfl) (hr : (Region.ready md ops listed).contains i = true := by kernel_rfl) (hin : decide (i < n) = true := by rfl)
    (hQ : ∀ c a w, Q (.panic c) (a.put oi.dst v) w → Q (.panic c) a w := by exact fun _ _ _ h => h) (hw : Region.wanted oi (yielded ops a.tmps) = true := by rfl) : wpH P md ops Q n (fuel + 1) S listed a := fun inv => by
  have hi' : ops[i]? = some oi := by rw [← hi, Array.getElem?_toList]
  have hr' : i ∈ Region.ready md ops listed := by simpa using hr
  exact wpT_first hi' (Region.noSelect_spec hR.nosel) hR.sink hR.chain hR.lt (of_decide_eq_true hin) hQ fuel S S listed a inv (Region.free_spec hi' hf) hr' (.inl ⟨hw, fun w hS => hy w hS _ fun w' hb => ⟨rfl, hb⟩⟩) hst (fun _ h => h) (h (inv.set hr' (of_decide_eq_true hin)))
theorem wpH_skip {S : World → Prop} {n : Nat} (i : Nat) {oi : Oper} {fuel : Nat} {listed : Array Bool} {a : Act} (hR : TailOk md ops n) (hst : Stable S) (hi : ops.toList[i]? = some oi)
    (h : wpH P md ops Q n fuel S (listed.setIfInBounds i true) (a.put oi.dst undef))
    (hf : Region.free md ops listed i = true := by kernel_rfl) (hr : (Region.ready md ops listed).contains i = true := by kernel_rfl) (hin : decide (i < n) = true := by rfl)
    (hQ : ∀ c a w, Q (.panic c) (a.put oi.dst undef) w → Q (.panic c) a w := by exact fun _ _ _ h => h) (hw : Region.wanted oi (yielded ops a.tmps) = false := by rfl) : wpH P md ops Q n (fuel + 1) S listed a := fun inv => by
  have hi' : ops[i]? = some oi := by rw [← hi, Array.getElem?_toList]
  have hr' : i ∈ Region.ready md ops listed := by simpa using hr
  exact wpT_first hi' (Region.noSelect_spec hR.nosel) hR.sink hR.chain hR.lt (of_decide_eq_true hin) hQ fuel S S listed a inv (Region.free_spec hi' hf) hr' (.inr ⟨hw, rfl⟩) hst (fun _ h => h) (h (inv.set hr' (of_decide_eq_true hin)))
/-- The one operation that may come up; S stays, and T is new behind it. -/
theorem wpH_new {S : World → Prop} {n : Nat} (k : Nat) {o : Oper} {fuel : Nat} {listed : Array Bool} {a : Act} (hst : Stable S) (ho : ops.toList[k]? = some o)
    (h : ∀ w, S w → ∀ K : Act → World → Prop, Kept (∀ (T : World → Prop) a' w', Stable T → Below w.heap.size w w' → T w' → (Stable (fun w => S w ∧ T w) → wpH P md ops Q n fuel (fun w => S w ∧ T w) (listed.setIfInBounds k true) a') → K a' w') →
      if Region.wanted o (yielded ops a.tmps) = true then Oper.wp P o a w K Q else K (a.put o.dst undef) w)
    (hr : Region.ready md ops listed = [k] := by kernel_rfl) (hin : decide (k < n) = true := by rfl) : wpH P md ops Q n (fuel + 1) S listed a := fun inv => by
  refine ⟨fun h0 => (by rw [hr] at h0; cases h0), fun i hi => ?_⟩
  have hk : k ∈ Region.ready md ops listed := by rw [hr]; exact List.mem_singleton.2 rfl
  rw [hr] at hi
  obtain rfl : i = k := by simpa using hi
  refine ⟨of_decide_eq_true hin, fun w hS => ?_⟩
  exact wpOp_step (by rw [← ho, Array.getElem?_toList]) fun K' hK => h w hS K' fun T a' w' hT hb ht hn =>
    have hs : Stable fun w => S w ∧ T w := fun w w' ⟨a, b⟩ hb => ⟨hst w w' a hb, hT w w' b hb⟩
    hK a' w' ⟨_, _, fun _ h => h.1, hs, fun _ h => h, ⟨hst _ _ hS hb, ht⟩, hn hs (inv.set hk (of_decide_eq_true hin))⟩
theorem wpH_done {S : World → Prop} {n : Nat} {listed : Array Bool} {a : Act} (h : ∀ w, S w → wpList P ops Q (ops.toList.drop n) a w) (hr : Region.seqB md ops (ops.size - n) n listed = true := by kernel_rfl) : wpH P md ops Q n 0 S listed a := fun _ => ⟨hr, h⟩
theorem wp_region_h {id : Nat} {a : Act} {w : World} (S : World → Prop) (n : Nat) (hst : Stable S) (hS : S w.drew) (hR : TailOk .any ops n)
    (h : wpH P .any ops Q n n S (Array.replicate ops.size false) a) (hm : P.follows .mixedOrders = true := by kernel_rfl) : (Code.region id ops true).wp P Q a w := by
  have hn : n ≤ ops.size := Nat.le_of_lt hR.lt
  have inv0 : HeadInv .any ops n (Array.replicate ops.size false) :=
    ⟨by simp, fun j oj _ hl => (by rw [getD_replicate_false] at hl; cases hl), fun t _ ht => getD_in (by simpa using ht) (getD_replicate_false _ _)⟩
  have := wpAny_of_t hn n S S _ a _ hS (h inv0)
  rw [show n + (ops.size - n) = ops.size by omega] at this
  exact wp_region_any hm this
end
/-! ### Stops: what the walk does not do by itself -/
section
variable {P : Program} {ops : Array Oper} {Q : Exit → Act → World → Prop} {a : Act} {w : World} {rest : List Oper} {dst : Option Tmp} {ty tt : TypeId} {x y : Operand} {pos : String} {after : Array Edge}
theorem stop_store (h : Kept (wpList P ops Q ({ dst := dst, op := .store ty x y, type := tt, pos := pos, after := after, guard := none } :: rest) a w)) : wpList P ops Q ({ dst := dst, op := .store ty x y, type := tt, pos := pos, after := after, guard := none } :: rest) a w := h
theorem stop_box (h : Kept (wpList P ops Q ({ dst := dst, op := .box ty x, type := tt, pos := pos, after := after, guard := none } :: rest) a w)) : wpList P ops Q ({ dst := dst, op := .box ty x, type := tt, pos := pos, after := after, guard := none } :: rest) a w := h
theorem stop_alloc (h : Kept (wpList P ops Q ({ dst := dst, op := .alloc ty, type := tt, pos := pos, after := after, guard := none } :: rest) a w)) : wpList P ops Q ({ dst := dst, op := .alloc ty, type := tt, pos := pos, after := after, guard := none } :: rest) a w := h
theorem stop_bslice {k : Nat} {parts : Array (Nat × Operand)} (h : Kept (wpList P ops Q ({ dst := dst, op := .buildSlice ty k parts, type := tt, pos := pos, after := after, guard := none } :: rest) a w)) : wpList P ops Q ({ dst := dst, op := .buildSlice ty k parts, type := tt, pos := pos, after := after, guard := none } :: rest) a w := h
/-- Memory is made: the new world is known by what lies in the new block. -/
theorem go_mem {o : Oper} {cs : Array Value} (V : Nat → Value) (hg : o.guard = none) (hrun : (execOp a.eval o).run P w = .ok (.value (V w.heap.size)) (w.alloc (.cells cs ty)))
    (h : ∀ (g : Nat) (w' : World), Hid (w.heap.size = g) → w.heap.size ≤ g → Below w.heap.size w w' → Blk w' g ty cs → wpList P ops Q rest (a.put o.dst (V g)) w') : wpList P ops Q (o :: rest) a w := by
  refine wpList_plain hg fun K hK => ?_
  have := h w.heap.size _ (Lib.hid rfl) (Nat.le_refl _) ((Below.refl _ _).alloc (Nat.le_refl _) (.cells cs ty)) (Blk.new w ty cs)
  unfold Oper.wp
  rw [hrun]
  exact hK _ _ this
end
/-! ### Loads, results -/
theorem calm_load {P : Program} {o : Oper} {a : Act} {w : World} {K : Value → World → Prop} {ty : TypeId} {x : Operand} {ad : Addr} {v : Value} (ho : o.op = .load ty x) (hx : a.eval x = .pointer (some ad)) (hl : (loadVar ty ad).run P w = .ok v w) (h : K v w) : calm P o a w K := by
  unfold calm execOp
  simp only [ho, hx, Instr.loadAt, Instr.sureAddr, Sem.run_bind, Sem.run_pure, Result.andThen_ok, hl]
  exact h
theorem load_part {P : Program} {w : World} {g : Nat} {t ty : TypeId} {cs : Array Value} {d : TypeDesc} (hG : Blk w g t cs) (o : Nat) (vs : List Value) (hvs : (cs.toList.drop o).take vs.length = vs)
    (hu : P.underlying ty = some d) (hd : d.isRow = true) (hi : (P.info? ty).map (·.size) = some vs.length) : (loadVar ty ⟨g, o, none⟩).run P w = .ok (.agg vs.toArray) w :=
  run_loadVar_mid w g o ty vs d (blk_range hG o vs hvs) hu hd hi
theorem wpList_ldg {P : Program} {ops : Array Oper} {rest : List Oper} {dst : Option Tmp} {ty tt : TypeId} {x : Operand} {pos : String} {after : Array Edge} {gd : Nat × Bool} {a : Act} {w : World} {Q : Exit → Act → World → Prop}
    {g : Nat} {t : TypeId} {cs : Array Value} {d : TypeDesc} (o : Nat) (vs : List Value) (hG : Blk w g t cs) (hx : a.eval x = .pointer (some ⟨g, o, none⟩)) (hvs : (cs.toList.drop o).take vs.length = vs)
    (hu : P.underlying ty = some d) (hd : d.isRow = true) (hi : (P.info? ty).map (·.size) = some vs.length) (hw : Region.wanted { dst := dst, op := .load ty x, type := tt, pos := pos, after := after, guard := some gd } (yielded ops a.tmps) = true)
    (h : wpList P ops Q rest (a.put dst (.agg vs.toArray)) w) : wpList P ops Q ({ dst := dst, op := .load ty x, type := tt, pos := pos, after := after, guard := some gd } :: rest) a w :=
  wpList_step fun K hK => by
    rw [if_pos hw]
    exact calm_wp (calm_load rfl hx (load_part hG o vs hvs hu hd hi) (hK _ _ h))
theorem range_part {w : World} {b o : Nat} {cs : List Value} (h : w.rangeAt b o cs) (f : Nat) (vs : List Value) (hv : (cs.drop f).take vs.length = vs) : w.rangeAt b (o + f) vs := fun j v hj => by
  rw [Nat.add_assoc]
  refine h (f + j) v ?_
  rw [← hv, List.getElem?_take] at hj
  split at hj
  · rw [List.getElem?_drop] at hj
    exact hj
  · cases hj
theorem wpList_ldr {P : Program} {ops : Array Oper} {rest : List Oper} {dst : Option Tmp} {ty tt : TypeId} {x : Operand} {pos : String} {after : Array Edge} {a : Act} {w : World} {Q : Exit → Act → World → Prop}
    {g o : Nat} {d : TypeDesc} (vs : List Value) (hc : w.rangeAt g o vs) (hx : a.eval x = .pointer (some ⟨g, o, none⟩)) (hu : P.underlying ty = some d) (hd : d.isRow = true) (hi : (P.info? ty).map (·.size) = some vs.length)
    (h : wpList P ops Q rest (a.put dst (.agg vs.toArray)) w) : wpList P ops Q ({ dst := dst, op := .load ty x, type := tt, pos := pos, after := after, guard := none } :: rest) a w :=
  wpList_load_mid rfl ty x rfl g o hx vs d hc hu hd hi h
/-- A range of a block, known in part. -/
def Rg (b o : Nat) (cs : List Value) (w : World) : Prop := b < w.heap.size ∧ w.rangeAt b o cs
theorem Rg.to {b o : Nat} {cs : List Value} {w w' : World} (h : Rg b o cs w) (hb : Below w.heap.size w w') : Rg b o cs w' :=
  ⟨Nat.lt_of_lt_of_le h.1 hb.size, fun j v hj => (hb.cell (p := ⟨b, o + j, none⟩) h.1).trans (h.2 j v hj)⟩
theorem stable_rg (b o : Nat) (cs : List Value) : Stable (Rg b o cs) := fun w w' h hb => h.to hb
theorem Rg.upd {b o g : Nat} {cs : List Value} {w w' : World} (h : Rg b o cs w) (hU : Upd g w w') (hne : b ≠ g) : Rg b o cs w' :=
  ⟨by rw [hU.size]; exact h.1, fun j v hj => (World.cell?_of_block (hU.block b hne)).trans (h.2 j v hj)⟩
/-- Two structs. -/
theorem results_cc {P : Program} {fn : Func} {s u : Tmp} {t t2 : TypeId} {tmps : Array Value} {ad ad2 : Addr} {v v2 : Value} {w : World} (h : fn.results = #[.cell s t, .cell u t2]) (hs : tmps.getD s undef = .pointer (some ad)) (hu : tmps.getD u undef = .pointer (some ad2))
    (hl : (loadVar t ad).run P w = .ok v w) (hl2 : (loadVar t2 ad2).run P w = .ok v2 w) : (results fn tmps).run P w = .ok (.tuple #[v, v2]) w := by
  have hs' : tmps[s]?.getD undef = .pointer (some ad) := by simpa using hs
  have hu' : tmps[u]?.getD undef = .pointer (some ad2) := by simpa using hu
  simp [results, h, hs', hl, hu', hl2, asAddr]
/-- A struct and two plain values. -/
theorem results_ctt {P : Program} {fn : Func} {s u u2 : Tmp} {t : TypeId} {tmps : Array Value} {ad : Addr} {v : Value} {w : World} (h : fn.results = #[.cell s t, .tmp u, .tmp u2]) (hs : tmps.getD s undef = .pointer (some ad)) (hl : (loadVar t ad).run P w = .ok v w) :
    (results fn tmps).run P w = .ok (.tuple #[v, tmps.getD u undef, tmps.getD u2 undef]) w := by
  have hs' : tmps[s]?.getD undef = .pointer (some ad) := by simpa using hs
  simp [results, h, hs', hl, asAddr]
end Go.Proofs.Ytbkaeoaepmeceaa
