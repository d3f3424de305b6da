/- What calls return: bytes of their own, bytes that are read, bytes and an error; a slice cut. -/
import Derived.Test.YtbkaeoaepmeceaaOct
namespace Go.Proofs.Ytbkaeoaepmeceaa
set_option maxRecDepth 100000
open Go.ChangeShapes Go.WideShapes Go.ChangeAt Go.RowKit
set_option linter.unusedVariables false

theorem rd_cut {w : World} {b off : Nat} {bs : List (BitVec 8)} (h : RdB w (some ⟨b, off, none⟩) bs) (hb : b < w.heap.size) (l : Nat) : RdB w (some ⟨b, off + l, none⟩) (bs.drop l) := fun j u hu => by
  unfold bcells at hu
  rw [List.map_drop, List.getElem?_drop] at hu
  obtain ⟨ad, he, hlt, hc⟩ := h (l + j) u hu
  injection he with he
  subst he
  refine ⟨_, rfl, hb, ?_⟩
  have e : ((⟨b, off, none⟩ : Addr).add (l + j)) = (⟨b, off + l, none⟩ : Addr).add j := by
    unfold Addr.add
    by_cases h1 : l + j = 0 <;> by_cases h2 : j = 0 <;> simp [h1, h2] <;> omega
  rw [← e]
  exact hc
/-- What a call returns that makes bytes and keeps the right to what lies behind them. -/
def RetR (w : World) (bs : List (BitVec 8)) (e : Ending) (w' : World) : Prop :=
  ∃ (A : Option Addr) (c : Nat), e = .returned (.slice A bs.length c) ∧ RdB w' A bs ∧ bs.length ≤ c ∧ Below w.heap.size w w'
theorem own_cap {w : World} {base : Nat} {e : TypeId} {size n c m : Nat} {A : Option Addr} {xs : List Value} (h : w.ownsRow base e size (.slice A m c) n xs) : n ≤ c ∧ n = m := by
  rcases h.2 with ⟨hv, rfl⟩ | ⟨g, cap, cur, hv, _, _, hc, _⟩
  · injection hv with h1 h2 h3
    exact ⟨by omega, by omega⟩
  · injection hv with h1 h2 h3
    exact ⟨by omega, by omega⟩
theorem RetB.r {w : World} {bs : List (BitVec 8)} {e : Ending} {w' : World} (h : RetB w bs e w') : RetR w bs e w' := by
  obtain ⟨A, c, rfl, ho, hb⟩ := h
  exact ⟨A, c, rfl, Rd.of_own ho, (own_cap ho).1, hb⟩
theorem RetB.at_ {w : World} {bs : List (BitVec 8)} {e : Ending} {w' : World} {n : Nat} (h : RetB w bs e w') (hn : bs.length = n) :
    ∃ (A : Option Addr) (c : Nat), e = .returned (.slice A n c) ∧ w'.ownsRow w.heap.size 5 1 (.slice A n c) n (bcells bs) ∧ Below w.heap.size w w' := by
  subst hn
  exact h
theorem RetR.at_ {w : World} {bs : List (BitVec 8)} {e : Ending} {w' : World} {n : Nat} (h : RetR w bs e w') (hn : bs.length = n) :
    ∃ (A : Option Addr) (c : Nat), e = .returned (.slice A n c) ∧ RdB w' A bs ∧ n ≤ c ∧ Below w.heap.size w w' := by
  subst hn
  exact h
def cutN (n : Int) : Nat := (min (max n 0) 65536).toNat
theorem cutN_le (n : Int) : cutN n ≤ 65536 := by unfold cutN; omega
theorem cutN_eq (n : Int) : max 0 (min n 65536) = (cutN n : Int) := by unfold cutN; omega
theorem cutN_eq2 (n : Int) : min (max n 0) 65536 = (cutN n : Int) := by unfold cutN; omega
theorem num32 (n : Nat) (h : n < 4294967296) : (BitVec.ofNat 32 n).setWidth 64 = BitVec.ofNat 64 n := by
  apply BitVec.eq_of_toNat_eq
  simp
  omega
theorem tagInput_length (nonce : BitVec 64) (header cs : List (BitVec 8)) : (tagInput nonce header cs).length = 12 + header.length + cs.length := by
  unfold tagInput
  simp only [List.length_append, numB_length]
/-- What Open returns: bytes and an error. -/
def RetO (w : World) (r : List (BitVec 8) × Int) (e : Ending) (w' : World) : Prop :=
  ∃ (A : Option Addr) (c : Nat), e = .returned (.tuple #[.slice A r.1.length c, .int .i64 r.2]) ∧ RdB w' A r.1 ∧ r.1.length ≤ c ∧ Below w.heap.size w w'
end Go.Proofs.Ytbkaeoaepmeceaa
