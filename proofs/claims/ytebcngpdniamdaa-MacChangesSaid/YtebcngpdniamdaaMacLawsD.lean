/- The walk of the law MacChanges. -/
import Derived.Test.YtebcngpdniamdaaMacLawsC
import Derived.Test.YtebcngpdniamdaaMacChFn
namespace Go.Proofs.Ytebcngpdniamdaa
open Go.ChangeShapes Go.WideShapes Go.ChangeAt Go.RowKit
set_option linter.unusedVariables false

theorem OwnC.at_ {w : World} {base g n cap : Nat} {xs : List (BitVec 8)} (h : OwnC w base g n cap xs) (a : Nat) (y : BitVec 8) (hy : xs[a]? = some y) : w.cell? ⟨g, a, none⟩ = some (.int .u8 (W8 y)) := by
  obtain ⟨ha, rfl⟩ := List.getElem?_eq_some_iff.1 hy
  exact h.cells a ha
set_option maxHeartbeats 2000000 in
theorem law_MacChanges (k : BitVec 64) (A : Option Addr) (c : Nat) (header : List (BitVec 8)) (B : Option Addr) (d : Nat) (plain : List (BitVec 8)) (at_ : Int) (wat : (Lit.int .i64 at_).wf = true) (x : BitVec 8) (w : World) (hra : RdB w A header) (hca : header.length ≤ c) (hrb : RdB w B plain) (hcb : plain.length ≤ d) :
    Calls Try.prog 7 #[.int .u64 (W64 k), .slice A header.length c, .slice B plain.length d, .int .i64 at_, .int .u8 (W8 x)] w fun e w' => e = .returned (.bool true) ∧ Below w.heap.size w w' := by
  have hx : x = 0#8 ∧ (W8 x == 0) = true ∨ x ≠ 0#8 ∧ (W8 x == 0) = false := by
    by_cases h : x = 0#8
    · exact .inl ⟨h, by rw [h]; rfl⟩
    · refine .inr ⟨h, ?_⟩
      rw [beq_eq_false_iff_ne]
      intro h2
      apply h
      unfold W8 at h2
      apply BitVec.eq_of_toNat_eq
      have : (0#8).toNat = 0 := rfl
      omega
  have hcases : (200 < header.length ∨ ¬ 200 < header.length ∧ 200 < plain.length ∨ ¬ 200 < header.length ∧ ¬ 200 < plain.length ∧ at_ < 0 ∨ ¬ 200 < header.length ∧ ¬ 200 < plain.length ∧ ¬ at_ < 0 ∧ (plain.length : Int) + 4 ≤ at_) ∨ (¬ 200 < header.length ∧ ¬ 200 < plain.length ∧ ¬ at_ < 0 ∧ ¬ (plain.length : Int) + 4 ≤ at_) := by omega
  rcases hcases with hcs | ⟨h1, h2, h3, h4⟩
  · clear hx
    rcases hcs with h | ⟨h1, h2⟩ | ⟨h1, h2, h3⟩ | ⟨h1, h2, h3, h4⟩
    all_goals
      go_enter Try.func7, Try.ntmps7
      go_wp2_with fail
      refine (lives6 _).mono ?_; rintro e w1 ⟨rfl, hb1⟩
      go_wp2
      go_ret
      exact ⟨rfl, hb1⟩
  · have e1 : decide ((200 : Int) < (header.length : Int)) = false := by rw [decide_eq_false_iff_not]; omega
    have e2 : decide ((200 : Int) < (plain.length : Int)) = false := by rw [decide_eq_false_iff_not]; omega
    rcases hx with ⟨hx, hxb⟩ | ⟨hx, hxb⟩
    · go_enter Try.func7, Try.ntmps7
      go_wp2_with fail
      refine (lives6 _).mono ?_; rintro e w1 ⟨rfl, hb1⟩
      go_wp2
      go_ret
      exact ⟨rfl, hb1⟩
    · obtain ⟨a, rfl⟩ := Int.eq_ofNat_of_zero_le (show 0 ≤ at_ by omega)
      obtain ⟨i0, hi0, hz0, hz1, hz2⟩ := info_parts info_u8
      have hal : a < plain.length + 4 := by omega
      have hch := changes k 7#64 header plain a x hal hx
      have hl := sealB_length k 7#64 header plain
      have hS := fun W (h1 : RdB W A header) (h2 : RdB W B plain) => mac_Seal k 7#64 A B c d header plain W h1 h2 (by omega) (by omega)
      generalize sealB k 7#64 header plain = sb at *
      obtain ⟨y, hy⟩ : ∃ y, sb[a]? = some y := ⟨sb[a]'(by omega), List.getElem?_eq_getElem (by omega)⟩
      have hfl : flipB sb a x = sb.set a (y ^^^ x) := by unfold flipB; rw [List.getD_eq_getElem?_getD, hy]; rfl
      have hol := flipB_length sb a x
      have hO := fun W B' d' (h1 : RdB W A header) (h2 : RdB W B' (flipB sb a x)) (h3 : (flipB sb a x).length ≤ d') => mac_Open k 7#64 A B' c d' header (flipB sb a x) W h1 h2 (by omega) (by omega) h3
      generalize flipB sb a x = ob at *
      simp only [hol, hl] at hO
      have hlt1 : (sb.take plain.length).length = plain.length := by rw [List.length_take]; omega
      have hlt2 : (ob.take plain.length).length = plain.length := by rw [List.length_take]; omega
      have hI1 := fun W B' d' (h1 : RdB W A header) (h2 : RdB W B' (sb.take plain.length)) => ref6_Input 7#64 A B' c d' header (sb.take plain.length) W h1 h2 (by omega) (by omega)
      have hI2 := fun W B' d' (h1 : RdB W A header) (h2 : RdB W B' (ob.take plain.length)) => ref6_Input 7#64 A B' c d' header (ob.take plain.length) W h1 h2 (by omega) (by omega)
      simp only [hlt1] at hI1
      simp only [hlt2] at hI2
      have hil1 : (tagInput 7#64 header (sb.take plain.length)).length ≤ 1048576 := by rw [tagInput_length]; omega
      have hil2 : (tagInput 7#64 header (ob.take plain.length)).length ≤ 1048576 := by rw [tagInput_length]; omega
      generalize tagInput 7#64 header (sb.take plain.length) = L1 at *
      generalize tagInput 7#64 header (ob.take plain.length) = L2 at *
      have hT1 := fun W A' c' (h1 : RdB W A' L1) (h2 : L1.length ≤ c') => mac_Tag k A' c' L1 W h1 hil1 h2
      have hT2 := fun W A' c' (h1 : RdB W A' L2) (h2 : L2.length ≤ c') => mac_Tag k A' c' L2 W h1 hil2 h2
      generalize tag k L1 = t1 at *
      generalize tag k L2 = t2 at *
      have HS := Lib.hid hS
      have HO := Lib.hid hO
      have HI1 := Lib.hid hI1
      have HI2 := Lib.hid hI2
      have HT1 := Lib.hid hT1
      have HT2 := Lib.hid hT2
      have HL := Lib.hid hl
      have HF := Lib.hid hfl
      have HY := Lib.hid hy
      clear hy
      clear hS hO hI1 hI2 hT1 hT2 hlt1 hlt2 hol
      obtain ⟨r, hr⟩ : ∃ r, openB k 7#64 header ob = r := ⟨_, rfl⟩
      rw [hr] at hch HO
      clear hr
      rcases hch with rfl | ⟨bs, rfl, hbl, hap, hmod⟩
      all_goals
        go_enter Try.func7, Try.ntmps7
        clear hl hfl
        go_wp2_with fail
        refine (HS.out _ hra hrb).mono ?_; rintro e w1 hp1
        obtain ⟨A1, c1, rfl, ho1, hb1⟩ := hp1.at_ HL.out
        have hcp1 := (own_cap ho1).1
        have hown0 := World.ownsRow_lit w1 #[] 0 (e := 5) (size := 1) (Nat.le_refl _) (by simp only [maxLen]; omega) rfl
        have hb10 : Below w1.heap.size w1 (w1.alloc (.cells #[] 5)) := (Below.refl _ _).alloc (Nat.le_refl _) _
        have hr1 : RdB w1 A1 sb := Rd.of_own ho1
        have hsl := HL.out
        have hbl1 : (bcells sb).length = (plain.length + 4) * 1 := by rw [bcells_length]; omega
        clear hsl
        go_wp2_with (at_builtin; refine wpList_append_rd _ rfl _ _ 24 rfl w1.heap.size 5 i0 _ 1 1 Try.underlying24 hi0 hz0 hz1 hz2 rfl (by omega) _ _ _ rfl hown0 A1 (plain.length + 4) c1 (bcells sb) rfl (Rd.to hr1 hb10) hbl1 (bcells_one _) (by simp only [maxLen]; omega) (by omega) hb10.size ?_; intro A2 c2 w2 hown2 hb2 _; obtain ⟨g, rfl, hoc⟩ := own_c (xs := sb) (n := plain.length + 4) (by simpa only [Nat.zero_add, List.nil_append] using hown2) (by omega); have hcl := hoc.at_ a y HY.out; have hfr := hoc.free a (by have := hoc.room; omega))
        have hset := hoc.set_ a hal (y ^^^ x)
        rw [← HF.out] at hset
        have hb12 : Below w1.heap.size w1 w2 := hb10.trans hb2
        have hb13 : Below w1.heap.size w1 (w2.setCell ⟨g, a, none⟩ (.int .u8 (W8 (y ^^^ x)))) := hb12.setCell (p := ⟨g, a, none⟩) hoc.ge _
        clear hcl hfr hoc hown2 hown0
        obtain ⟨w3, hw3⟩ : ∃ w3, w2.setCell ⟨g, a, none⟩ (.int .u8 (W8 (y ^^^ x))) = w3 := ⟨_, rfl⟩
        rw [hw3] at hset hb13 ⊢
        clear hw3
        have hb03 := hb1.trans (hb13.mono hb1.size)
        have hn1 : plain.length ≤ c1 := by omega
        have hn2 : plain.length ≤ c2 := by have := hset.room; omega
        refine (HO.out _ _ _ (hra.to hb03) hset.rd hset.room).mono ?_
        rintro e w4 hp4
      · obtain ⟨A4, c4, rfl, hr4, hc4, hb4⟩ := hp4.at_ (n := 0) rfl rfl
        have hb04 := hb03.trans (hb4.mono hb03.size)
        go_wp2_with fail
        refine (lives6 _).mono ?_; rintro e w5 ⟨rfl, hb5⟩
        go_wp2
        go_ret
        exact ⟨rfl, hb04.trans (hb5.mono hb04.size)⟩
      · obtain ⟨A4, c4, rfl, hr4, hc4, hb4⟩ := hp4.at_ rfl hbl
        have hb04 := hb03.trans (hb4.mono hb03.size)
        have hb14 : Below w1.heap.size w1 w4 := hb13.trans (hb4.mono hb13.size)
        go_wp2_with fail
        refine (HI1.out _ _ _ (hra.to hb04) (RdB.take (Rd.to hr1 hb14) _)).mono ?_; rintro e w5 ⟨A5, c5, rfl, ho5, hb5⟩
        have hb05 := hb04.trans (hb5.mono hb04.size)
        go_wp2_with fail
        refine (HT1.out _ _ _ (Rd.of_own ho5) (own_cap ho5).1).mono ?_; rintro e w6 ⟨rfl, hb6⟩
        have hb06 := hb05.trans (hb6.mono hb05.size)
        have hset6 := ((hset.to hb4).to hb5).to hb6
        go_wp2_with fail
        refine (HI2.out _ _ _ (hra.to hb06) (RdB.take hset6.rd _)).mono ?_; rintro e w7 ⟨A7, c7, rfl, ho7, hb7⟩
        have hb07 := hb06.trans (hb7.mono hb06.size)
        go_wp2_with fail
        refine (HT2.out _ _ _ (Rd.of_own ho7) (own_cap ho7).1).mono ?_; rintro e w8 ⟨rfl, hb8⟩
        have hb08 := hb07.trans (hb8.mono hb07.size)
        go_wp2_with fail
        refine (lives6 _).mono ?_; rintro e w9 ⟨rfl, hb9⟩
        go_wp2
        go_ret
        exact ⟨rfl, hb08.trans (hb9.mono hb08.size)⟩
end Go.Proofs.Ytebcngpdniamdaa
