/- Stops and laws for appends to own rows, and for bytes that are read as a string, for the printed walks. -/
import Derived.Test.YtmehemojopfihaaRegT
import Derived.Test.YtmehemojopfihaaRef2
import Derived.Test.YtmehemojopfihaaMac2
import Derived.Test.YtmehemojopfihaaDer
namespace Go.Proofs.Ytmehemojopfihaa
set_option maxRecDepth 100000
open Go.ChangeShapes Go.WideShapes Go.ChangeAt Go.RowKit
set_option linter.unusedVariables false
theorem own_nil (w : World) (base : Nat) (e : TypeId) (size : Nat) : w.ownsRow base e size (.slice none 0 0) 0 [] := ⟨by simp, .inl ⟨rfl, rfl⟩⟩
theorem rd_blk {w : World} {g : Nat} {t : TypeId} {cs : Array Value} (hG : Blk w g t cs) : Rd w (some ⟨g, 0, none⟩) cs.toList := fun j u hu =>
  ⟨_, rfl, hG.lt, by rw [add_zero_, hG.cell]; simpa using hu⟩
theorem own_row1 {w : World} {g base n : Nat} {t : TypeId} {cs : Array Value} (h : Blk w g t cs) (hb : base ≤ g) (hm : n ≤ maxLen) (size : Nat) (hc : cs.size = n * size) : w.ownsRow base t size (.slice (some ⟨g, 0, none⟩) n n) n cs.toList :=
  ⟨by rw [← hc, Array.length_toList], .inr ⟨g, n, _, rfl, hb, h, Nat.le_refl _, hm, hc, by rw [← hc, List.take_of_length_le (by simp)]⟩⟩
section
variable {P : Program} {ops : Array Oper} {Q : Exit → Act → World → Prop} {a : Act} {w : World} {rest : List Oper} {dst : Option Tmp} {tt : TypeId} {pos : String} {after : Array Edge}
theorem stop_append {args : Array Operand} {tys : Array TypeId} (h : Kept (wpList P ops Q ({ dst := dst, op := .call { callee := .builtin .append, args := args, argTypes := tys }, type := tt, pos := pos, after := after, guard := none } :: rest) a w)) : wpList P ops Q ({ dst := dst, op := .call { callee := .builtin .append, args := args, argTypes := tys }, type := tt, pos := pos, after := after, guard := none } :: rest) a w := h
end
theorem str_at {w : World} {A : Option Addr} {bs : List (BitVec 8)} {n : Nat} (h : RdB w A bs) (hn : bs.length = n) (c : Nat) : (convert 45 9 (.slice A n c)).run Try.prog w = .ok (.string (bstr bs)) w := by
  subst hn
  exact run_string_of h c
theorem rd_own {w : World} {base : Nat} {e : TypeId} {n c : Nat} {A : Option Addr} {xs : List Value} (h : w.ownsRow base e 1 (.slice A n c) n xs) : Rd w A xs := Rd.of_own h
theorem own_upd {w w' : World} {g base n size : Nat} {t e : TypeId} {v : Value} {cs : Array Value} {xs : List Value} (ho : w.ownsRow base e size v n xs) (hG : Blk w g t cs) (hU : Upd g w w') (hne : t ≠ e) : w'.ownsRow base e size v n xs := by
  refine ⟨ho.1, ?_⟩
  rcases ho.2 with h2 | ⟨g', cap, cur, hv, hbg, hg, r⟩
  · exact .inl h2
  · refine .inr ⟨g', cap, cur, hv, hbg, (hU.block g' ?_).trans hg, r⟩
    rintro rfl
    unfold Blk at hG
    rw [hG] at hg
    injection hg with hg
    injection hg with _ ht
    exact hne ht
theorem own_len {w : World} {base : Nat} {e : TypeId} {v : Value} {n : Nat} {bs : List (BitVec 8)} (h : w.ownsRow base e 1 v n (bcells bs)) : bs.length = n := by
  have := h.1
  rw [bcells_length] at this
  omega
end Go.Proofs.Ytmehemojopfihaa
