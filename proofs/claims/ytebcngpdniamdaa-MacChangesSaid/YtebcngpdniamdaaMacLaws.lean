/- The walks of the laws of layer 6 (mac). -/
import Derived.Test.YtebcngpdniamdaaMac3
import Derived.Test.YtebcngpdniamdaaDer
namespace Go.Proofs.Ytebcngpdniamdaa
open Go.ChangeShapes Go.WideShapes Go.ChangeAt Go.RowKit
set_option linter.unusedVariables false

theorem xorB_back (p s : List (BitVec 8)) (h : s.length = p.length) : xorB (xorB p s) s = p := by
  induction p generalizing s with
  | nil => simp [xorB]
  | cons x p ih =>
    cases s with
    | nil => simp at h
    | cons y s =>
      have := ih s (by simpa using h)
      unfold xorB at this ⊢
      simp only [List.zipWith_cons_cons, this]
      rw [BitVec.xor_assoc, BitVec.xor_self, BitVec.xor_zero]
theorem crypt_def (k n : BitVec 64) (p : List (BitVec 8)) (m : Nat) (h : p.length = m) : crypt k n p = xorB p (stream k n m) := by
  subst h
  rfl
theorem crypt_crypt (k n : BitVec 64) (p : List (BitVec 8)) : crypt k n (crypt k n p) = p := by
  rw [crypt_def k n (crypt k n p) p.length (crypt_length k n p), crypt_def k n p p.length rfl]
  exact xorB_back p _ (stream_length _ _ _)
theorem open_seal (k n : BitVec 64) (h p : List (BitVec 8)) : openB k n h (sealB k n h p) = (p, 0) := by
  have hl := sealB_length k n h p
  have hc := crypt_length k n p
  have h1 : (sealB k n h p).take ((sealB k n h p).length - 4) = crypt k n p := by
    rw [hl]
    unfold sealB
    rw [List.take_left' (by omega)]
  have h2 : (sealB k n h p).drop ((sealB k n h p).length - 4) = tailB k n h (crypt k n p) := by
    rw [hl]
    unfold sealB
    rw [List.drop_left' (by omega)]
  unfold openB
  rw [if_neg (by omega), h1, h2, if_pos rfl, crypt_crypt]
theorem seal_open (k n : BitVec 64) (h s : List (BitVec 8)) (ho : (openB k n h s).2 = 0) : sealB k n h (openB k n h s).1 = s := by
  unfold openB at ho ⊢
  by_cases h4 : s.length < 4
  · rw [if_pos h4] at ho
    exact absurd ho (by decide)
  · rw [if_neg h4] at ho ⊢
    by_cases ht : tailB k n h (s.take (s.length - 4)) = s.drop (s.length - 4)
    · rw [if_pos ht]
      unfold sealB
      rw [crypt_crypt, ht, List.take_append_drop]
    · rw [if_neg ht] at ho
      exact absurd ho (by decide)
theorem RetO.at_ {w : World} {r : List (BitVec 8) × Int} {e : Ending} {w' : World} {n : Nat} {en : Int} {bs : List (BitVec 8)} (h : RetO w r e w') (hr : r = (bs, en)) (hn : bs.length = n) :
    ∃ (A : Option Addr) (c : Nat), e = .returned (.tuple #[.slice A n c, .int .i64 en]) ∧ RdB w' A bs ∧ n ≤ c ∧ Below w.heap.size w w' := by
  subst hr
  subst hn
  exact h
theorem lives6 (w : World) : Calls Try.prog 12 #[] w fun e w' => e = .returned (.bool true) ∧ Below w.heap.size w w' := by
  obtain ⟨sb, hsb⟩ : ∃ sb, sealB 3#64 4#64 [1#8] [5#8, 6#8] = sb := ⟨_, rfl⟩
  have hl : sb.length = 6 := by rw [← hsb]; exact sealB_length _ _ _ _
  have hop : openB 3#64 4#64 [1#8] sb = ([5#8, 6#8], 0) := by rw [← hsb]; exact open_seal _ _ _ _
  have hS := Lib.hid (show ∀ W A B c d, RdB W A [1#8] → RdB W B [5#8, 6#8] → Calls Try.prog 16 #[.int .u64 3, .int .u64 4, .slice A 1 c, .slice B 2 d] W (RetB W sb) from
    fun W A B c d h1 h2 => by
      have := mac_Seal 3#64 4#64 A B c d [1#8] [5#8, 6#8] W h1 h2 (by decide) (by decide)
      rw [hsb] at this
      exact this)
  have hO := Lib.hid (show ∀ W A B c d, RdB W A [1#8] → RdB W B sb → 6 ≤ d → Calls Try.prog 18 #[.int .u64 3, .int .u64 4, .slice A 1 c, .slice B 6 d] W (RetO W ([5#8, 6#8], 0)) from
    fun W A B c d h1 h2 hd => by
      have := mac_Open 3#64 4#64 A B c d [1#8] sb W h1 h2 (by decide) (by omega) (by omega)
      rw [hop, hl] at this
      exact this)
  have hO2 := Lib.hid (show ∀ W B d, RdB W B [1#8, 2#8, 3#8] → 3 ≤ d → Calls Try.prog 18 #[.int .u64 3, .int .u64 4, .slice none 0 0, .slice B 3 d] W (RetO W ([], 3)) from
    fun W B d h2 hd => mac_Open 3#64 4#64 none B 0 d [] [1#8, 2#8, 3#8] W (Rd.nil _ _) h2 (by decide) (by decide) hd)
  have hT := Lib.hid (show ∀ W, Calls Try.prog 13 #[.int .u64 0, .slice none 0 0] W (fun e w' => e = .returned (.int .u64 0) ∧ Below W.heap.size W w') from fun W => by
    have := mac_Tag 0#64 none 0 [] W (Rd.nil _ _) (by decide) (by decide)
    rw [show tag 0#64 [] = 0#64 by decide +kernel] at this
    exact this)
  have HL := Lib.hid hl
  clear hsb hop hl
  have e1 : bcells [1#8] = [Value.int .u8 1] := rfl
  have e2 : bcells [5#8, 6#8] = [Value.int .u8 5, Value.int .u8 6] := rfl
  have e3 : bcells [1#8, 2#8, 3#8] = [Value.int .u8 1, Value.int .u8 2, Value.int .u8 3] := rfl
  have R0 : RdB (w.alloc (.cells #[.int .u8 1] 5)) (some ⟨w.heap.size, 0, none⟩) [1#8] := by unfold RdB; rw [e1]; exact Rd.new w #[.int .u8 1] 5
  have R1 : ∀ w : World, RdB (w.alloc (.cells #[.int .u8 1] 5)) (some ⟨w.heap.size, 0, none⟩) [1#8] := fun w => by unfold RdB; rw [e1]; exact Rd.new w #[.int .u8 1] 5
  have R2 : ∀ w : World, RdB (w.alloc (.cells #[.int .u8 5, .int .u8 6] 5)) (some ⟨w.heap.size, 0, none⟩) [5#8, 6#8] := fun w => by unfold RdB; rw [e2]; exact Rd.new w #[.int .u8 5, .int .u8 6] 5
  have R3 : ∀ w : World, RdB (w.alloc (.cells #[.int .u8 1, .int .u8 2, .int .u8 3] 5)) (some ⟨w.heap.size, 0, none⟩) [1#8, 2#8, 3#8] := fun w => by unfold RdB; rw [e3]; exact Rd.new w #[.int .u8 1, .int .u8 2, .int .u8 3] 5
  clear e1 e2 e3
  have W2 := Lib.hid R3
  have s1 : ∀ (w : World) (o : Obj), (w.alloc o).heap.size = w.heap.size + 1 := fun w o => by simp
  have hb0 : Below w.heap.size w (((w.alloc (.cells #[.int .u8 1] 5)).alloc (.cells #[.int .u8 1] 5)).alloc (.cells #[.int .u8 5, .int .u8 6] 5)) := (((Below.refl _ _).alloc (Nat.le_refl _) _).alloc (by simp) _).alloc (by simp <;> omega) _
  have hb00 : Below (w.alloc (.cells #[.int .u8 1] 5)).heap.size (w.alloc (.cells #[.int .u8 1] 5)) (((w.alloc (.cells #[.int .u8 1] 5)).alloc (.cells #[.int .u8 1] 5)).alloc (.cells #[.int .u8 5, .int .u8 6] 5)) := ((Below.refl _ _).alloc (Nat.le_refl _) _).alloc (by simp) _
  have Ra := R0.to hb00
  have Rb := (R1 (w.alloc (.cells #[.int .u8 1] 5))).to ((Below.refl _ _).alloc (Nat.le_refl _) (.cells #[.int .u8 5, .int .u8 6] 5))
  have Rc := R2 ((w.alloc (.cells #[.int .u8 1] 5)).alloc (.cells #[.int .u8 1] 5))
  simp only [s1] at Rb Rc
  have HS2 := Lib.hid (fun c d => hS.out _ _ _ c d Rb Rc)
  clear R0 R1 R2 R3 s1 hS hb00 Rb Rc
  go_enter Try.func12, Try.ntmps12
  go_wp2_with fail
  refine (HS2.out _ _).mono ?_; rintro e w1 hp1
  obtain ⟨A1, c1, rfl, ho1, hb1⟩ := hp1.at_ HL.out
  have hb01 := hb0.trans (hb1.mono hb0.size)
  have hr0 : RdB w1 (some ⟨w.heap.size, 0, none⟩) [1#8] := Rd.to Ra hb1
  go_wp2_with fail
  refine (hO.out _ _ _ _ _ hr0 (Rd.of_own ho1) (own_cap ho1).1).mono ?_; rintro e w2 hp2
  obtain ⟨A2, c2, rfl, hr2, hc2, hb2⟩ := hp2.at_ (n := 2) rfl rfl
  have hb02 := hb01.trans (hb2.mono hb01.size)
  go_wp2_with fail
  refine (hO2.out _ _ _ (W2.out _) (by omega)).mono ?_; rintro e w3 hp3
  obtain ⟨A3, c3, rfl, hr3, hc3, hb3⟩ := hp3.at_ (n := 0) rfl rfl
  have hb23 : Below w2.heap.size w2 w3 := ((Below.refl _ _).alloc (Nat.le_refl _) _).trans (hb3.mono (by simp))
  have hb03 := hb02.trans (hb23.mono hb02.size)
  obtain ⟨b, off, rfl, hbn, hcell⟩ := (Rd.to hr2 hb23).open_ (by decide)
  have hd0 : w3.cell? ⟨b, off, none⟩ = some (.int .u8 5) := hcell 0 _ rfl
  have hd1 : w3.cell? ⟨b, off + 1, none⟩ = some (.int .u8 6) := hcell 1 _ rfl
  clear hcell
  go_wp2_with fail
  refine (hT.out _).mono ?_; rintro e w4 ⟨rfl, hb4⟩
  go_wp2
  go_ret
  exact ⟨rfl, hb03.trans (hb4.mono hb03.size)⟩
end Go.Proofs.Ytebcngpdniamdaa
