/- Contracts of layer 52 (refresh): what a beacon does, in the code and in the reference. -/
import Derived.Test.YtmehemojopfihaaRefrE
namespace Go.Proofs.Ytmehemojopfihaa
set_option maxRecDepth 100000
open Go.ChangeShapes Go.WideShapes Go.ChangeAt Go.RowKit
set_option linter.unusedVariables false
set_option linter.unusedSimpArgs false

set_option maxHeartbeats 4000000 in
theorem rf_hearIV (v : IV) (b : Bea) (now : Int) (w : World) (h0 : 0 ≤ v.since ∧ v.since ≤ 1099511627776) (h1 : 0 ≤ now ∧ now ≤ 1099511627776) :
    Calls Try.prog 77 #[.agg (ivA v), .agg (beA b), .int .i64 now] w fun e w' => e = .returned (.agg (ivA (hearIVK v b now))) ∧ Below w.heap.size w w' := by
  have L := Lib.hid (fun W => rf_lasted v now W h0 h1)
  obtain ⟨vi, vu, vs⟩ := v
  obtain ⟨br, bu, bi⟩ := b
  obtain ⟨r, hr⟩ : ∃ r, hearIVK ⟨vi, vu, vs⟩ ⟨br, bu, bi⟩ now = r := ⟨_, rfl⟩
  rw [hr]
  have HR := Lib.hid hr
  clear hr
  clear h0 h1
  unfold ivA at L
  unfold ivA beA
  dsimp only at L ⊢
  by_cases c1 : bi = vi
  · subst c1
    have e1 : (W32 bi == W32 bi) = true := by simp
    have e2 : (W32 bi ≤ W32 bi) = True := by simp
    have e2' : decide (W32 bi ≤ W32 bi) = true := by simp
    cases vu
    · skip
      skip
      have er : r = ⟨bi, false, vs⟩ := by rw [← HR.out]; simp [hearIVK]
      rw [er]
      clear er
      go_enter Try.func77, Try.ntmps77
      go_wp2_with (go_at_call 75; refine (L.out _).mono ?_; rintro e w1 ⟨rfl, rfl⟩)
      go_returns
      exact ⟨rfl, by go_grown⟩
    cases bu
    case true =>
      skip
      have er : r = ⟨bi, true, vs⟩ := by rw [← HR.out]; simp [hearIVK]
      rw [er]
      clear er
      go_enter Try.func77, Try.ntmps77
      go_wp2_with (go_at_call 75; refine (L.out _).mono ?_; rintro e w1 ⟨rfl, rfl⟩)
      go_returns
      exact ⟨rfl, by go_grown⟩
    obtain ⟨l, hl⟩ : ∃ l, lastB vs now = l := ⟨_, rfl⟩
    rw [hl] at L
    have HL := Lib.hid hl
    clear hl
    cases l
    case false =>
      skip
      have er : r = ⟨bi, true, vs⟩ := by rw [← HR.out]; have := HL.out; simp [hearIVK, this]
      rw [er]
      clear er
      go_enter Try.func77, Try.ntmps77
      go_wp2_with (go_at_call 75; refine (L.out _).mono ?_; rintro e w1 ⟨rfl, rfl⟩)
      go_returns
      exact ⟨rfl, by go_grown⟩
    case true =>
      skip
      have er : r = ⟨bi, false, now⟩ := by rw [← HR.out]; have := HL.out; simp [hearIVK, this]
      rw [er]
      clear er
      go_enter Try.func77, Try.ntmps77
      go_wp2_with (go_at_call 75; refine (L.out _).mono ?_; rintro e w1 ⟨rfl, rfl⟩)
      go_returns
      exact ⟨rfl, by go_grown⟩
  have c1' : vi ≠ bi := fun h => c1 h.symm
  have e1 : (W32 bi == W32 vi) = false := by rw [W32_beq]; simpa using c1
  have f1 := Lib.hid c1
  clear c1 c1'
  by_cases c2 : bi ≤ vi
  · have e2 : W32 bi ≤ W32 vi := by rw [W32_le]; exact c2
    have e2' : decide (W32 bi ≤ W32 vi) = true := by simpa using e2
    have f2 := Lib.hid c2
    clear c2
    skip
    have er : r = ⟨vi, vu, vs⟩ := by rw [← HR.out]; have h1 := f1.out; have h2 := f2.out; simp [hearIVK, h1, h2]
    rw [er]
    clear er
    go_enter Try.func77, Try.ntmps77
    go_wp2_with (go_at_call 75; refine (L.out _).mono ?_; rintro e w1 ⟨rfl, rfl⟩)
    go_returns
    exact ⟨rfl, by go_grown⟩
  have e2 : W32 vi < W32 bi := by rw [W32_lt]; exact BitVec.not_le.1 c2
  have e2' : decide (W32 bi ≤ W32 vi) = false := by simp; exact e2
  have f2 := Lib.hid c2
  clear c2
  by_cases c3 : 42#32 < bi - vi
  · have e3 : 42 < W32 (bi - vi) := by have : W32 42#32 < W32 (bi - vi) := by rw [W32_lt]; exact c3
                                       exact this
    have e3' : decide (42 < W32 (bi - vi)) = true := by simpa using e3
    have f3 := Lib.hid c3
    clear c3
    skip
    have er : r = ⟨vi, vu, vs⟩ := by rw [← HR.out]; have h1 := f1.out; have h2 := f2.out; have h3 := f3.out; simp [hearIVK, h1, h2, h3]
    rw [er]
    clear er
    go_enter Try.func77, Try.ntmps77
    go_wp2_with (go_at_call 75; refine (L.out _).mono ?_; rintro e w1 ⟨rfl, rfl⟩)
    go_returns
    exact ⟨rfl, by go_grown⟩
  have e3 : W32 (bi - vi) ≤ 42 := by have : W32 (bi - vi) ≤ W32 42#32 := by rw [W32_le]; exact BitVec.not_lt.1 c3
                                     exact this
  have e3' : decide (42 < W32 (bi - vi)) = false := by simp; exact e3
  have f3 := Lib.hid c3
  clear c3
  by_cases c4 : bi - vi = 1#32
  case neg =>
    have e4 : (W32 (bi - vi) == 1) = false := by have : (W32 (bi - vi) == W32 1#32) = false := by rw [W32_beq]; simpa using c4
                                                 exact this
    have f4 := Lib.hid c4
    clear c4
    skip
    have er : r = ⟨bi, bu, now⟩ := by rw [← HR.out]; have h1 := f1.out; have h2 := f2.out; have h3 := f3.out; have h4 := f4.out; simp [hearIVK, h1, h2, h3, h4]
    rw [er]
    clear er
    go_enter Try.func77, Try.ntmps77
    go_wp2_with (go_at_call 75; refine (L.out _).mono ?_; rintro e w1 ⟨rfl, rfl⟩)
    go_returns
    exact ⟨rfl, by go_grown⟩
  have e4 : (W32 (bi - vi) == 1) = true := by rw [c4]; rfl
  have f4 := Lib.hid c4
  clear c4
  cases bu
  case false =>
    skip
    have er : r = ⟨bi, false, now⟩ := by rw [← HR.out]; have h1 := f1.out; have h2 := f2.out; have h3 := f3.out; have h4 := f4.out; simp [hearIVK, h1, h2, h3, h4]
    rw [er]
    clear er
    go_enter Try.func77, Try.ntmps77
    go_wp2_with (go_at_call 75; refine (L.out _).mono ?_; rintro e w1 ⟨rfl, rfl⟩)
    go_returns
    exact ⟨rfl, by go_grown⟩
  obtain ⟨l, hl⟩ : ∃ l, lastB vs now = l := ⟨_, rfl⟩
  rw [hl] at L
  have HL := Lib.hid hl
  clear hl
  cases l
  case false =>
    skip
    have er : r = ⟨vi, vu, vs⟩ := by rw [← HR.out]; have h1 := f1.out; have h2 := f2.out; have h3 := f3.out; have h4 := f4.out; have := HL.out; simp [hearIVK, h1, h2, h3, h4, this]
    rw [er]
    clear er
    go_enter Try.func77, Try.ntmps77
    go_wp2_with (go_at_call 75; refine (L.out _).mono ?_; rintro e w1 ⟨rfl, rfl⟩)
    go_returns
    exact ⟨rfl, by go_grown⟩
  case true =>
    skip
    have er : r = ⟨bi, true, now⟩ := by rw [← HR.out]; have h1 := f1.out; have h2 := f2.out; have h3 := f3.out; have h4 := f4.out; have := HL.out; simp [hearIVK, h1, h2, h3, h4, this]
    rw [er]
    clear er
    go_enter Try.func77, Try.ntmps77
    go_wp2_with (go_at_call 75; refine (L.out _).mono ?_; rintro e w1 ⟨rfl, rfl⟩)
    go_returns
    exact ⟨rfl, by go_grown⟩
end Go.Proofs.Ytmehemojopfihaa
