/- Stops and laws for appends to own rows, and for bytes that are read as a string, for the printed walks. -/
import Derived.Test.YtbkaeoaepmeceaaRegT
import Derived.Test.YtbkaeoaepmeceaaRef2
import Derived.Test.YtbkaeoaepmeceaaMac2
import Derived.Test.YtbkaeoaepmeceaaDer
namespace Go.Proofs.Ytbkaeoaepmeceaa
set_option maxRecDepth 100000
open Go.ChangeShapes Go.WideShapes Go.ChangeAt Go.RowKit
set_option linter.unusedVariables false
theorem own_nil (w : World) (base : Nat) (e : TypeId) (size : Nat) : w.ownsRow base e size (.slice none 0 0) 0 [] := ⟨by simp, .inl ⟨rfl, rfl⟩⟩
theorem rd_blk {w : World} {g : Nat} {t : TypeId} {cs : Array Value} (hG : Blk w g t cs) : Rd w (some ⟨g, 0, none⟩) cs.toList := fun j u hu =>
  ⟨_, rfl, hG.lt, by rw [add_zero_, hG.cell]; simpa using hu⟩
theorem own_row1 {w : World} {g base n : Nat} {t : TypeId} {cs : Array Value} (h : Blk w g t cs) (hb : base ≤ g) (hm : n ≤ maxLen) (size : Nat) (hc : cs.size = n * size) : w.ownsRow base t size (.slice (some ⟨g, 0, none⟩) n n) n cs.toList :=
  ⟨by rw [← hc, Array.length_toList], .inr ⟨g, n, _, rfl, hb, h, Nat.le_refl _, hm, hc, by rw [← hc, List.take_of_length_le (by simp)]⟩⟩
section
variable {P : Program} {ops : Array Oper} {Q : Exit → Act → World → Prop} {a : Act} {w : World} {rest : List Oper} {dst : Option Tmp} {tt : TypeId} {pos : String} {after : Array Edge}
theorem stop_append {args : Array Operand} {tys : Array TypeId} (h : Kept (wpList P ops Q ({ dst := dst, op := .call { callee := .builtin .append, args := args, argTypes := tys }, type := tt, pos := pos, after := after, guard := none } :: rest) a w)) : wpList P ops Q ({ dst := dst, op := .call { callee := .builtin .append, args := args, argTypes := tys }, type := tt, pos := pos, after := after, guard := none } :: rest) a w := h
end
theorem wp_region_hh {P : Program} {ops : Array Oper} {Q : Exit → Act → World → Prop} {id : Nat} {a : Act} {w : World} (S : World → Prop) (n : Nat) (hst : Stable S) (hS : S w.drew) (hR : TailOk .any ops n)
    (h : TailOk .any ops n → wpH P .any ops Q n n S (Array.replicate ops.size false) a) (hm : P.follows .mixedOrders = true := by kernel_rfl) : (Code.region id ops true).wp P Q a w :=
  wp_region_h S n hst hS hR (h hR) hm
theorem wpH_two {P : Program} {md : Region.Mode} {ops : Array Oper} {Q : Exit → Act → World → Prop} {S : World → Prop} {n : Nat} (i j : Nat) {oi oj : Oper} {fuel : Nat} {listed : Array Bool} {a : Act} (hst : Stable S) (hoi : ops.toList[i]? = some oi) (hoj : ops.toList[j]? = some oj)
    (h1 : ∀ w, S w → ∀ K : Act → World → Prop, Kept (∀ (T : World → Prop) a' w', Stable T → Below w.heap.size w w' → T w' → (Stable (fun w => S w ∧ T w) → wpH P md ops Q n fuel (fun w => S w ∧ T w) (listed.setIfInBounds i true) a') → K a' w') →
      if Region.wanted oi (yielded ops a.tmps) = true then Oper.wp P oi a w K Q else K (a.put oi.dst undef) w)
    (h2 : ∀ w, S w → ∀ K : Act → World → Prop, Kept (∀ (T : World → Prop) a' w', Stable T → Below w.heap.size w w' → T w' → (Stable (fun w => S w ∧ T w) → wpH P md ops Q n fuel (fun w => S w ∧ T w) (listed.setIfInBounds j true) a') → K a' w') →
      if Region.wanted oj (yielded ops a.tmps) = true then Oper.wp P oj a w K Q else K (a.put oj.dst undef) w)
    (hr : Region.ready md ops listed = [i, j] := by kernel_rfl) (hin : decide (i < n) = true := by rfl) (hjn : decide (j < n) = true := by rfl) : wpH P md ops Q n (fuel + 1) S listed a := fun inv => by
  have hs : ∀ T, Stable T → Stable fun w => S w ∧ T w := fun T hT w w' ⟨a, b⟩ hb => ⟨hst w w' a hb, hT w w' b hb⟩
  refine ⟨fun h0 => (by rw [hr] at h0; cases h0), fun k hk => ?_⟩
  have hkm : k ∈ Region.ready md ops listed := hk
  rw [hr] at hk
  rcases List.mem_cons.1 hk with rfl | hk
  · refine ⟨of_decide_eq_true hin, fun w hS => ?_⟩
    exact wpOp_step (by rw [← hoi, Array.getElem?_toList]) fun K' hK => h1 w hS K' fun T a' w' hT hb ht hn =>
      hK a' w' ⟨_, _, fun _ h => h.1, hs T hT, fun _ h => h, ⟨hst _ _ hS hb, ht⟩, hn (hs T hT) (inv.set hkm (of_decide_eq_true hin))⟩
  · obtain rfl : k = j := by simpa using hk
    refine ⟨of_decide_eq_true hjn, fun w hS => ?_⟩
    exact wpOp_step (by rw [← hoj, Array.getElem?_toList]) fun K' hK => h2 w hS K' fun T a' w' hT hb ht hn =>
      hK a' w' ⟨_, _, fun _ h => h.1, hs T hT, fun _ h => h, ⟨hst _ _ hS hb, ht⟩, hn (hs T hT) (inv.set hkm (of_decide_eq_true hjn))⟩
theorem str_at {w : World} {A : Option Addr} {bs : List (BitVec 8)} {n : Nat} (h : RdB w A bs) (hn : bs.length = n) (c : Nat) : (convert 36 9 (.slice A n c)).run Try.prog w = .ok (.string (bstr bs)) w := by
  subst hn
  exact run_string_of h c
theorem rd_own {w : World} {base : Nat} {e : TypeId} {n c : Nat} {A : Option Addr} {xs : List Value} (h : w.ownsRow base e 1 (.slice A n c) n xs) : Rd w A xs := Rd.of_own h
theorem own_upd {w w' : World} {g base n size : Nat} {t e : TypeId} {v : Value} {cs : Array Value} {xs : List Value} (ho : w.ownsRow base e size v n xs) (hG : Blk w g t cs) (hU : Upd g w w') (hne : t ≠ e) : w'.ownsRow base e size v n xs := by
  refine ⟨ho.1, ?_⟩
  rcases ho.2 with h2 | ⟨g', cap, cur, hv, hbg, hg, r⟩
  · exact .inl h2
  · refine .inr ⟨g', cap, cur, hv, hbg, (hU.block g' ?_).trans hg, r⟩
    rintro rfl
    unfold Blk at hG
    rw [hG] at hg
    injection hg with hg
    injection hg with _ ht
    exact hne ht
theorem own_len {w : World} {base : Nat} {e : TypeId} {v : Value} {n : Nat} {bs : List (BitVec 8)} (h : w.ownsRow base e 1 v n (bcells bs)) : bs.length = n := by
  have := h.1
  rw [bcells_length] at this
  omega
end Go.Proofs.Ytbkaeoaepmeceaa
