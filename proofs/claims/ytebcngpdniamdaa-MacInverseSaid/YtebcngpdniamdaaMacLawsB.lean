/- The walks of three laws of layer 6 (mac): sealed bytes. -/
import Derived.Test.YtebcngpdniamdaaMacLawsA
namespace Go.Proofs.Ytebcngpdniamdaa
open Go.ChangeShapes Go.WideShapes Go.ChangeAt Go.RowKit
set_option linter.unusedVariables false

theorem law_MacSeals (k nonce : BitVec 64) (A : Option Addr) (c : Nat) (header : List (BitVec 8)) (B : Option Addr) (d : Nat) (plain : List (BitVec 8)) (w : World) (hra : RdB w A header) (hca : header.length ≤ c) (hrb : RdB w B plain) (hcb : plain.length ≤ d) :
    Calls Try.prog 4 #[.int .u64 (W64 k), .int .u64 (W64 nonce), .slice A header.length c, .slice B plain.length d] w fun e w' => e = .returned (.bool true) ∧ Below w.heap.size w w' := by
  by_cases h : 300 < header.length
  · go_enter Try.func4, Try.ntmps4
    go_wp2_with fail
    refine (lives6 _).mono ?_; rintro e w1 ⟨rfl, hb1⟩
    go_wp2
    go_ret
    exact ⟨rfl, hb1⟩
  · by_cases h2 : 300 < plain.length
    · go_enter Try.func4, Try.ntmps4
      go_wp2_with fail
      refine (lives6 _).mono ?_; rintro e w1 ⟨rfl, hb1⟩
      go_wp2
      go_ret
      exact ⟨rfl, hb1⟩
    · have H1 := Lib.hid (fun W (h1 : RdB W A header) (h2 : RdB W B plain) => mac_Seal k nonce A B c d header plain W h1 h2 (by omega) (by omega))
      have H2 := Lib.hid (fun W (h1 : RdB W A header) (h2 : RdB W B plain) => ref6_Seal k nonce A B c d header plain W h1 h2 (by omega) (by omega))
      generalize sealB k nonce header plain = sb at *
      go_enter Try.func4, Try.ntmps4
      go_wp2_with fail
      refine (lives6 _).mono ?_; rintro e w1 ⟨rfl, hb1⟩
      go_wp2_with fail
      refine (H1.out _ (hra.to hb1) (hrb.to hb1)).mono ?_; rintro e w2 ⟨A2, c2, rfl, ho2, hb2⟩
      have hb02 := hb1.trans (hb2.mono hb1.size)
      go_wp2_with fail
      refine (H2.out _ (hra.to hb02) (hrb.to hb02)).mono ?_; rintro e w3 ⟨A3, c3, rfl, ho3, hb3⟩
      have hb03 := hb02.trans (hb3.mono hb02.size)
      have hr2 : RdB w2 A2 sb := Rd.of_own ho2
      go_wp2_with fail
      refine (same_self A2 A3 c2 c3 sb.length sb.length sb w3 (Rd.to hr2 hb3) (Rd.of_own ho3) rfl rfl).mono ?_; rintro e w4 ⟨rfl, rfl⟩
      go_wp2
      go_ret
      exact ⟨rfl, hb03⟩
theorem openB_le (k n : BitVec 64) (h s : List (BitVec 8)) : (openB k n h s).1.length ≤ s.length := by
  unfold openB
  split
  · simp
  · split
    · simp only [crypt_length, List.length_take]; omega
    · simp
theorem law_MacOpens (k nonce : BitVec 64) (A : Option Addr) (c : Nat) (header : List (BitVec 8)) (B : Option Addr) (d : Nat) (sealed : List (BitVec 8)) (w : World) (hra : RdB w A header) (hca : header.length ≤ c) (hrb : RdB w B sealed) (hcb : sealed.length ≤ d) :
    Calls Try.prog 5 #[.int .u64 (W64 k), .int .u64 (W64 nonce), .slice A header.length c, .slice B sealed.length d] w fun e w' => e = .returned (.bool true) ∧ Below w.heap.size w w' := by
  by_cases h : 300 < header.length
  · go_enter Try.func5, Try.ntmps5
    go_wp2_with fail
    refine (lives6 _).mono ?_; rintro e w1 ⟨rfl, hb1⟩
    go_wp2
    go_ret
    exact ⟨rfl, hb1⟩
  · by_cases h2 : 300 < sealed.length
    · go_enter Try.func5, Try.ntmps5
      go_wp2_with fail
      refine (lives6 _).mono ?_; rintro e w1 ⟨rfl, hb1⟩
      go_wp2
      go_ret
      exact ⟨rfl, hb1⟩
    · have hle := openB_le k nonce header sealed
      have hback := seal_open k nonce header sealed
      have h1 := fun W (h1 : RdB W A header) (h2 : RdB W B sealed) => mac_Open k nonce A B c d header sealed W h1 h2 (by omega) (by omega) hcb
      have h3 := fun W (h1 : RdB W A header) (h2 : RdB W B sealed) => ref6_Open k nonce A B c d header sealed W h1 h2 (by omega) (by omega) hcb
      obtain ⟨bs, en, hr⟩ : ∃ bs en, openB k nonce header sealed = (bs, en) := ⟨_, _, rfl⟩
      rw [hr] at hle hback
      simp only [hr] at h1 h3
      dsimp only at hle hback
      have H1 := Lib.hid h1
      have H2 := Lib.hid h3
      clear h1 h3 hr
      have H3 := Lib.hid (fun W B d (h1 : RdB W A header) (h2 : RdB W B bs) => mac_Seal k nonce A B c d header bs W h1 h2 (by omega) (by omega))
      have hq : (en != 0) = true ∨ (en != 0) = false ∧ en = 0 := by
        by_cases h0 : en = 0
        · exact .inr ⟨by rw [h0]; rfl, h0⟩
        · exact .inl (by simpa using h0)
      have hself : (en != en) = false := by simp
      rcases hq with hq | ⟨hq, h0⟩
      · clear hback
        go_enter Try.func5, Try.ntmps5
        go_wp2_with fail
        refine (H1.out _ hra hrb).mono ?_; rintro e w1 ⟨A1, c1, rfl, hr1, hc1, hb1⟩
        go_wp2_with fail
        refine (H2.out _ (hra.to hb1) (hrb.to hb1)).mono ?_; rintro e w2 ⟨A2, c2, rfl, hr2, hc2, hb2⟩
        have hb02 := hb1.trans (hb2.mono hb1.size)
        dsimp only at *
        go_wp2_with fail
        refine (same_self A1 A2 c1 c2 bs.length bs.length bs w2 (Rd.to hr1 hb2) hr2 rfl rfl).mono ?_; rintro e w3 ⟨rfl, rfl⟩
        go_wp2_with fail
        refine (lives6 _).mono ?_; rintro e w4 ⟨rfl, hb4⟩
        go_wp2
        go_ret
        exact ⟨rfl, hb02.trans (hb4.mono hb02.size)⟩
      · have hbk := hback h0
        rw [hbk] at H3
        subst h0
        clear hback hbk
        go_enter Try.func5, Try.ntmps5
        go_wp2_with fail
        refine (H1.out _ hra hrb).mono ?_; rintro e w1 ⟨A1, c1, rfl, hr1, hc1, hb1⟩
        go_wp2_with fail
        refine (H2.out _ (hra.to hb1) (hrb.to hb1)).mono ?_; rintro e w2 ⟨A2, c2, rfl, hr2, hc2, hb2⟩
        have hb02 := hb1.trans (hb2.mono hb1.size)
        dsimp only at *
        go_wp2_with fail
        refine (same_self A1 A2 c1 c2 bs.length bs.length bs w2 (Rd.to hr1 hb2) hr2 rfl rfl).mono ?_; rintro e w3 ⟨rfl, rfl⟩
        go_wp2_with fail
        refine (lives6 _).mono ?_; rintro e w4 ⟨rfl, hb4⟩
        have hb24 : Below w1.heap.size w1 w4 := hb2.trans (hb4.mono hb2.size)
        have hb04 := hb1.trans (hb24.mono hb1.size)
        go_wp2_with fail
        refine (H3.out _ _ _ (hra.to hb04) (Rd.to hr1 hb24)).mono ?_; rintro e w5 ⟨A5, c5, rfl, ho5, hb5⟩
        have hb05 := hb04.trans (hb5.mono hb04.size)
        go_wp2_with fail
        refine (same_self A5 B c5 d sealed.length sealed.length sealed w5 (Rd.of_own ho5) (hrb.to hb05) rfl rfl).mono ?_; rintro e w6 ⟨rfl, rfl⟩
        go_wp2
        go_ret
        exact ⟨rfl, hb05⟩
theorem law_MacInverse (k x : BitVec 64) (A : Option Addr) (c : Nat) (header : List (BitVec 8)) (B : Option Addr) (d : Nat) (plain : List (BitVec 8)) (w : World) (hra : RdB w A header) (hca : header.length ≤ c) (hrb : RdB w B plain) (hcb : plain.length ≤ d) :
    Calls Try.prog 11 #[.int .u64 (W64 k), .int .u64 (W64 x), .slice A header.length c, .slice B plain.length d] w fun e w' => e = .returned (.bool true) ∧ Below w.heap.size w w' := by
  by_cases h : 300 < header.length
  · go_enter Try.func11, Try.ntmps11
    go_wp2_with fail
    refine (lives6 _).mono ?_; rintro e w1 ⟨rfl, hb1⟩
    go_wp2
    go_ret
    exact ⟨rfl, hb1⟩
  · by_cases h2 : 300 < plain.length
    · go_enter Try.func11, Try.ntmps11
      go_wp2_with fail
      refine (lives6 _).mono ?_; rintro e w1 ⟨rfl, hb1⟩
      go_wp2
      go_ret
      exact ⟨rfl, hb1⟩
    · have hl := sealB_length k x header plain
      have hop := open_seal k x header plain
      have H1 := Lib.hid (fun W (h1 : RdB W A header) (h2 : RdB W B plain) => mac_Seal k x A B c d header plain W h1 h2 (by omega) (by omega))
      generalize sealB k x header plain = sb at *
      have h3 := fun W B d (h1 : RdB W A header) (h2 : RdB W B sb) (h3 : sb.length ≤ d) => mac_Open k x A B c d header sb W h1 h2 (by omega) (by omega) h3
      simp only [hop, hl] at h3
      have H2 := Lib.hid h3
      have HL := Lib.hid hl
      have U := Lib.hid (unmix_mix k x)
      have M := Lib.hid (mix_unmix k x)
      clear h3 hl hop
      go_enter Try.func11, Try.ntmps11
      go_wp2_with fail
      refine (block_Mix _ _ _).mono ?_; rintro e w1 ⟨rfl, hb1⟩
      go_wp2_with fail
      refine (block_Unmix _ _ _).mono ?_; rintro e w2 ⟨rfl, hb2⟩
      rw [U.out]
      have hb02 := hb1.trans (hb2.mono hb1.size)
      go_wp2_with fail
      refine (block_Unmix _ _ _).mono ?_; rintro e w3 ⟨rfl, hb3⟩
      have hb03 := hb02.trans (hb3.mono hb02.size)
      go_wp2_with fail
      refine (block_Mix _ _ _).mono ?_; rintro e w4 ⟨rfl, hb4⟩
      rw [M.out]
      have hb04 := hb03.trans (hb4.mono hb03.size)
      go_wp2_with fail
      refine (H1.out _ (hra.to hb04) (hrb.to hb04)).mono ?_; rintro e w5 hp5
      obtain ⟨A5, c5, rfl, ho5, hb5⟩ := hp5.at_ HL.out
      have hb05 := hb04.trans (hb5.mono hb04.size)
      go_wp2_with fail
      refine (H2.out _ _ _ (hra.to hb05) (Rd.of_own ho5) (own_cap ho5).1).mono ?_; rintro e w6 hp6
      obtain ⟨A6, c6, rfl, hr6, hc6, hb6⟩ := hp6.at_ (n := plain.length) rfl rfl
      have hb06 := hb05.trans (hb6.mono hb05.size)
      go_wp2_with fail
      refine (lives6 _).mono ?_; rintro e w7 ⟨rfl, hb7⟩
      have hb07 := hb06.trans (hb7.mono hb06.size)
      go_wp2_with fail
      refine (same_self A6 B c6 d plain.length plain.length plain w7 (Rd.to hr6 hb7) (hrb.to hb07) rfl rfl).mono ?_; rintro e w8 ⟨rfl, rfl⟩
      go_wp2
      go_ret
      exact ⟨rfl, hb07⟩
end Go.Proofs.Ytebcngpdniamdaa
