/- The walks of four laws of layer 6 (mac): tags, derived keys, streams. -/
import Derived.Test.YtebcngpdniamdaaMacLaws
namespace Go.Proofs.Ytebcngpdniamdaa
open Go.ChangeShapes Go.WideShapes Go.ChangeAt Go.RowKit
set_option linter.unusedVariables false

theorem law_MacTags (k : BitVec 64) (A : Option Addr) (c : Nat) (bs : List (BitVec 8)) (w : World) (hr : RdB w A bs) (hc : bs.length ≤ c) :
    Calls Try.prog 3 #[.int .u64 (W64 k), .slice A bs.length c] w fun e w' => e = .returned (.bool true) ∧ Below w.heap.size w w' := by
  by_cases h : 400 < bs.length
  · go_enter Try.func3, Try.ntmps3
    go_wp2_with fail
    refine (lives6 _).mono ?_; rintro e w1 ⟨rfl, hb1⟩
    go_wp2
    go_ret
    exact ⟨rfl, hb1⟩
  · obtain ⟨tg, htg⟩ : ∃ tg, tag k bs = tg := ⟨_, rfl⟩
    have h1 := fun W (hW : RdB W A bs) => mac_Tag k A c bs W hW (by omega) hc
    have h2 := fun W (hW : RdB W A bs) => ref6_Tag k A c bs W hW (by omega) hc
    simp only [htg] at h1 h2
    have H1 := Lib.hid h1
    have H2 := Lib.hid h2
    clear h1 h2 htg
    go_enter Try.func3, Try.ntmps3
    go_wp2_with fail
    refine (lives6 _).mono ?_; rintro e w1 ⟨rfl, hb1⟩
    go_wp2_with fail
    refine (H1.out _ (hr.to hb1)).mono ?_; rintro e w2 ⟨rfl, hb2⟩
    have hb02 := hb1.trans (hb2.mono hb1.size)
    go_wp2_with fail
    refine (H2.out _ (hr.to hb02)).mono ?_; rintro e w3 ⟨rfl, hb3⟩
    have hb03 := hb02.trans (hb3.mono hb02.size)
    go_wp2
    go_ret
    exact ⟨rfl, hb03⟩
theorem law_MacDerives (k : BitVec 64) (s : ByteArray) (A : Option Addr) (c : Nat) (xs : List (BitVec 64)) (w : World) (hr : RdU w A xs) (hc : xs.length ≤ c) :
    Calls Try.prog 8 #[.int .u64 (W64 k), .string s, .slice A xs.length c] w fun e w' => e = .returned (.bool true) ∧ Below w.heap.size w w' := by
  by_cases h : 60 < s.size
  · go_enter Try.func8, Try.ntmps8
    go_wp2_with fail
    refine (lives6 _).mono ?_; rintro e w1 ⟨rfl, hb1⟩
    go_wp2
    go_ret
    exact ⟨rfl, hb1⟩
  · by_cases h2 : 20 < xs.length
    · go_enter Try.func8, Try.ntmps8
      go_wp2_with fail
      refine (lives6 _).mono ?_; rintro e w1 ⟨rfl, hb1⟩
      go_wp2
      go_ret
      exact ⟨rfl, hb1⟩
    · obtain ⟨tg, htg⟩ : ∃ tg, derive k (sbytes s) xs = tg := ⟨_, rfl⟩
      have h1 := fun W (hW : RdU W A xs) => mac_Derive k s A c xs W hW (by omega) (by omega)
      have h3 := fun W (hW : RdU W A xs) => ref6_Derive k s A c xs W hW (by omega) (by omega)
      simp only [htg] at h1 h3
      have H1 := Lib.hid h1
      have H2 := Lib.hid h3
      clear h1 h3 htg
      go_enter Try.func8, Try.ntmps8
      go_wp2_with fail
      refine (lives6 _).mono ?_; rintro e w1 ⟨rfl, hb1⟩
      go_wp2_with fail
      refine (H1.out _ (hr.to hb1)).mono ?_; rintro e w2 ⟨rfl, hb2⟩
      have hb02 := hb1.trans (hb2.mono hb1.size)
      go_wp2_with fail
      refine (H2.out _ (hr.to hb02)).mono ?_; rintro e w3 ⟨rfl, hb3⟩
      have hb03 := hb02.trans (hb3.mono hb02.size)
      go_wp2
      go_ret
      exact ⟨rfl, hb03⟩
theorem same_n (A B : Option Addr) (c d n m : Nat) (a b : List (BitVec 8)) (w : World) (hra : RdB w A a) (hrb : RdB w B b) (hn : a.length = n) (hm : b.length = m) :
    Calls Try.prog 15 #[.slice A n c, .slice B m d] w fun e w' => e = .returned (.bool (decide (a = b))) ∧ w = w' := by
  subst hn
  subst hm
  exact ref2_Same A B c d a b w hra hrb
theorem same_self (A B : Option Addr) (c d n m : Nat) (a : List (BitVec 8)) (w : World) (hra : RdB w A a) (hrb : RdB w B a) (hn : a.length = n) (hm : a.length = m) :
    Calls Try.prog 15 #[.slice A n c, .slice B m d] w fun e w' => e = .returned (.bool true) ∧ w = w' := by
  have := same_n A B c d n m a a w hra hrb hn hm
  rwa [decide_eq_true rfl] at this
theorem law_MacStreams (k nonce : BitVec 64) (n : Int) (wn : (Lit.int .i64 n).wf = true) (w : World) :
    Calls Try.prog 9 #[.int .u64 (W64 k), .int .u64 (W64 nonce), .int .i64 n] w fun e w' => e = .returned (.bool true) ∧ Below w.heap.size w w' := by
  by_cases h : 400 < n
  · go_enter Try.func9, Try.ntmps9
    go_wp2_with fail
    refine (lives6 _).mono ?_; rintro e w1 ⟨rfl, hb1⟩
    go_wp2
    go_ret
    exact ⟨rfl, hb1⟩
  · have H1 := Lib.hid (fun W => mac_Stream k nonce n W)
    have H2 := Lib.hid (fun W => ref6_Stream k nonce n W)
    generalize stream k nonce (cutN n) = st at *
    go_enter Try.func9, Try.ntmps9
    go_wp2_with fail
    refine (lives6 _).mono ?_; rintro e w1 ⟨rfl, hb1⟩
    go_wp2_with fail
    refine (H1.out _).mono ?_; rintro e w2 ⟨A2, c2, rfl, hr2, hc2, hb2⟩
    have hb02 := hb1.trans (hb2.mono hb1.size)
    go_wp2_with fail
    refine (H2.out _).mono ?_; rintro e w3 ⟨A3, c3, rfl, hr3, hc3, hb3⟩
    have hb03 := hb02.trans (hb3.mono hb02.size)
    go_wp2_with fail
    refine (same_self A2 A3 c2 c3 st.length st.length st w3 (hr2.to hb3) hr3 rfl rfl).mono ?_; rintro e w4 ⟨rfl, rfl⟩
    go_wp2
    go_ret
    exact ⟨rfl, hb03⟩
theorem nums8_append (a b : List (BitVec 64)) : nums8 (a ++ b) = nums8 a ++ nums8 b := by simp [nums8]
theorem streamNums_take (k nonce : BitVec 64) (a b : Nat) (h : a ≤ b) : (streamNums k nonce b).take a = streamNums k nonce a := by
  unfold streamNums
  rw [← List.map_take, List.take_range, Nat.min_eq_left h]
theorem stream_take (k nonce : BitVec 64) (a b : Nat) (h : a ≤ b) : (stream k nonce b).take a = stream k nonce a := by
  have hg : nGroups a ≤ nGroups b := by unfold nGroups; omega
  unfold stream
  rw [List.take_take, Nat.min_eq_left h]
  have h1 := List.take_append_drop (nGroups a) (streamNums k nonce (nGroups b))
  rw [streamNums_take k nonce _ _ hg] at h1
  rw [← h1, nums8_append, List.take_append_of_le_length]
  rw [nums8_length, streamNums_length]
  unfold nGroups
  omega
end Go.Proofs.Ytebcngpdniamdaa
