/- The walks of the laws of layer 6 (mac). -/
import Derived.Test.YtbkaeoaepmeceaaMac3
import Derived.Test.YtbkaeoaepmeceaaDer
namespace Go.Proofs.Ytbkaeoaepmeceaa
set_option maxRecDepth 100000
open Go.ChangeShapes Go.WideShapes Go.ChangeAt Go.RowKit
set_option linter.unusedVariables false

theorem xorB_back (p s : List (BitVec 8)) (h : s.length = p.length) : xorB (xorB p s) s = p := by
  induction p generalizing s with
  | nil => simp [xorB]
  | cons x p ih =>
    cases s with
    | nil => simp at h
    | cons y s =>
      have := ih s (by simpa using h)
      unfold xorB at this ⊢
      simp only [List.zipWith_cons_cons, this]
      rw [BitVec.xor_assoc, BitVec.xor_self, BitVec.xor_zero]
theorem crypt_def (k n : BitVec 64) (p : List (BitVec 8)) (m : Nat) (h : p.length = m) : crypt k n p = xorB p (stream k n m) := by
  subst h
  rfl
theorem crypt_crypt (k n : BitVec 64) (p : List (BitVec 8)) : crypt k n (crypt k n p) = p := by
  rw [crypt_def k n (crypt k n p) p.length (crypt_length k n p), crypt_def k n p p.length rfl]
  exact xorB_back p _ (stream_length _ _ _)
theorem open_seal (k n : BitVec 64) (h p : List (BitVec 8)) : openB k n h (sealB k n h p) = (p, 0) := by
  have hl := sealB_length k n h p
  have hc := crypt_length k n p
  have h1 : (sealB k n h p).take ((sealB k n h p).length - 4) = crypt k n p := by
    rw [hl]
    unfold sealB
    rw [List.take_left' (by omega)]
  have h2 : (sealB k n h p).drop ((sealB k n h p).length - 4) = tailB k n h (crypt k n p) := by
    rw [hl]
    unfold sealB
    rw [List.drop_left' (by omega)]
  unfold openB
  rw [if_neg (by omega), h1, h2, if_pos rfl, crypt_crypt]
theorem seal_open (k n : BitVec 64) (h s : List (BitVec 8)) (ho : (openB k n h s).2 = 0) : sealB k n h (openB k n h s).1 = s := by
  unfold openB at ho ⊢
  by_cases h4 : s.length < 4
  · rw [if_pos h4] at ho
    exact absurd ho (by decide)
  · rw [if_neg h4] at ho ⊢
    by_cases ht : tailB k n h (s.take (s.length - 4)) = s.drop (s.length - 4)
    · rw [if_pos ht]
      unfold sealB
      rw [crypt_crypt, ht, List.take_append_drop]
    · rw [if_neg ht] at ho
      exact absurd ho (by decide)
theorem RetO.at_ {w : World} {r : List (BitVec 8) × Int} {e : Ending} {w' : World} {n : Nat} {en : Int} {bs : List (BitVec 8)} (h : RetO w r e w') (hr : r = (bs, en)) (hn : bs.length = n) :
    ∃ (A : Option Addr) (c : Nat), e = .returned (.tuple #[.slice A n c, .int .i64 en]) ∧ RdB w' A bs ∧ n ≤ c ∧ Below w.heap.size w w' := by
  subst hr
  subst hn
  exact h
end Go.Proofs.Ytbkaeoaepmeceaa
