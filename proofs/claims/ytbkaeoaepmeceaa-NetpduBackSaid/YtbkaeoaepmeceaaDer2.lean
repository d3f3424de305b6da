/- Derived keys at call sites: a label, and numbers that are read. -/
import Derived.Test.YtbkaeoaepmeceaaMac2
import Derived.Test.YtbkaeoaepmeceaaDer
import Derived.Test.YtbkaeoaepmeceaaConfFn
import Derived.Test.YtbkaeoaepmeceaaReg
import Derived.Handy
namespace Go.Proofs.Ytbkaeoaepmeceaa
set_option maxRecDepth 100000
open Go.ChangeShapes Go.WideShapes Go.ChangeAt Go.RowKit
set_option linter.unusedVariables false
set_option linter.unusedSimpArgs false

theorem bcell {W w1 : World} (hb : Below W.heap.size W w1) : (∀ b o, b < W.heap.size → w1.cell? ⟨b, o, none⟩ = W.cell? ⟨b, o, none⟩) ∧ (∀ b o, b < W.heap.size → w1.frozen? ⟨b, o, none⟩ = W.frozen? ⟨b, o, none⟩) :=
  ⟨fun b o h => hb.cell (p := ⟨b, o, none⟩) h, fun b o h => hb.frozen (p := ⟨b, o, none⟩) h⟩
theorem add_zero_' (g j : Nat) : (⟨g, 0, none⟩ : Addr).add j = ⟨g, j, none⟩ := by unfold Addr.add; split <;> simp_all
/-- A derived key: the label, and a row of numbers that was made just before. -/
theorem der_row (k : BitVec 64) (s : ByteArray) (xs : List (BitVec 64)) (n : Nat) (hn : xs.length = n) (hl : xs.length ≤ 1024) (hs : s.size ≤ 65536) (W : World) (t : TypeId) :
    Calls Try.prog 19 #[.int .u64 (W64 k), .string s, .slice (some ⟨W.heap.size, 0, none⟩) n n] (W.alloc (.cells (ucells xs).toArray t)) fun e w' => e = .returned (.int .u64 (W64 (derive k (lbytes s) xs))) ∧ Below W.heap.size W w' := by
  subst hn
  have hr : RdU (W.alloc (.cells (ucells xs).toArray t)) (some ⟨W.heap.size, 0, none⟩) xs := Rd.new W (ucells xs).toArray t
  refine (mac_Derive k s _ xs.length xs _ hr hl hs).mono ?_
  rintro e w' ⟨rfl, hb⟩
  exact ⟨rfl, ((Below.refl _ _).alloc (Nat.le_refl _) _).trans (hb.mono (by simp))⟩
theorem rder_row (k : BitVec 64) (s : ByteArray) (xs : List (BitVec 64)) (n : Nat) (hn : xs.length = n) (hl : xs.length ≤ 1024) (hs : s.size ≤ 65536) (W : World) (t : TypeId) :
    Calls Try.prog 39 #[.int .u64 (W64 k), .string s, .slice (some ⟨W.heap.size, 0, none⟩) n n] (W.alloc (.cells (ucells xs).toArray t)) fun e w' => e = .returned (.int .u64 (W64 (derive k (lbytes s) xs))) ∧ Below W.heap.size W w' := by
  subst hn
  have hr : RdU (W.alloc (.cells (ucells xs).toArray t)) (some ⟨W.heap.size, 0, none⟩) xs := Rd.new W (ucells xs).toArray t
  refine (ref6_Derive k s _ xs.length xs _ hr hl hs).mono ?_
  rintro e w' ⟨rfl, hb⟩
  exact ⟨rfl, ((Below.refl _ _).alloc (Nat.le_refl _) _).trans (hb.mono (by simp))⟩
/-- A derived key of numbers that are read. -/
theorem der_n (k : BitVec 64) (s : ByteArray) (A : Option Addr) (c n : Nat) (xs : List (BitVec 64)) (r : BitVec 64) (hr : derive k (lbytes s) xs = r) (hn : xs.length = n) (w : World) (h : RdU w A xs) (hl : n ≤ 1024) (hs : s.size ≤ 65536) :
    Calls Try.prog 19 #[.int .u64 (W64 k), .string s, .slice A n c] w fun e w' => e = .returned (.int .u64 (W64 r)) ∧ Below w.heap.size w w' := by
  subst hn
  subst hr
  exact mac_Derive k s A c xs w h hl hs
theorem rder_n (k : BitVec 64) (s : ByteArray) (A : Option Addr) (c n : Nat) (xs : List (BitVec 64)) (r : BitVec 64) (hr : derive k (lbytes s) xs = r) (hn : xs.length = n) (w : World) (h : RdU w A xs) (hl : n ≤ 1024) (hs : s.size ≤ 65536) :
    Calls Try.prog 39 #[.int .u64 (W64 k), .string s, .slice A n c] w fun e w' => e = .returned (.int .u64 (W64 r)) ∧ Below w.heap.size w w' := by
  subst hn
  subst hr
  exact ref6_Derive k s A c xs w h hl hs
end Go.Proofs.Ytbkaeoaepmeceaa
