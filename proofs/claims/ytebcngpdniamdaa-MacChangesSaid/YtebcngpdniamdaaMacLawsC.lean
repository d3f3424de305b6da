/- The walk of the law MacOneGroup. -/
import Derived.Test.YtebcngpdniamdaaMacLawsA
import Derived.Test.YtebcngpdniamdaaMacOneFn
namespace Go.Proofs.Ytebcngpdniamdaa
open Go.ChangeShapes Go.WideShapes Go.ChangeAt Go.RowKit
set_option linter.unusedVariables false

theorem own_c {w : World} {base n c : Nat} {A : Option Addr} {xs : List (BitVec 8)} (h : w.ownsRow base 5 1 (.slice A n c) n (bcells xs)) (hn : 0 < n) : ∃ g, A = some ⟨g, 0, none⟩ ∧ OwnC w base g n c xs := by
  have hl := h.1
  rw [bcells_length, Nat.mul_one] at hl
  rcases h.2 with ⟨_, h0⟩ | ⟨g, cap, cur, hv, hb, hg, hnc, hcm, hcs, ht⟩
  · omega
  · injection hv with h1 h2 h3
    subst h1 h3
    have hcell := fun j => cell_of_row w g j cur 5 (0, 0) hg
    refine ⟨g, rfl, hb, (Array.getElem?_eq_some_iff.1 hg).1, hl, hnc, hcm, fun j hj => ?_, fun j hj => ?_, fun j hj => ?_⟩
    · rw [hcell j]
      have := bcells_at xs j hj
      rw [← ht, List.getElem?_take, if_pos (by omega), Array.getElem?_toList] at this
      exact this
    · rw [hcell j, Array.getElem?_eq_getElem (by omega)]
      rfl
    · exact Blk.free (g := g) hg j
theorem OwnC.set_ {w : World} {base g n c : Nat} {xs : List (BitVec 8)} (h : OwnC w base g n c xs) (j : Nat) (hj : j < n) (x : BitVec 8) : OwnC (w.setCell ⟨g, j, none⟩ (.int .u8 (W8 x))) base g n c (xs.set j x) := by
  have hlen := h.len
  have hroom := h.room
  refine ⟨h.ge, by simpa using h.lt, by rw [List.length_set]; exact h.len, h.room, h.max, fun i hi => ?_, fun i hi => ?_, fun i hi => by rw [World.frozen?_setCell]; exact h.free i hi⟩
  · rw [List.length_set] at hi
    by_cases he : i = j
    · subst he
      rw [List.getElem_set_self]
      exact World.cell?_setCell_same' _ _ _ (h.some_ i (by omega))
    · rw [List.getElem_set_ne (by omega)]
      exact (World.cell?_setCell_other _ _ _ _ (by intro e; injection e; omega)).trans (h.cells i hi)
  · by_cases he : i = j
    · subst he
      rw [World.cell?_setCell_same' _ _ _ (h.some_ i hi)]
      rfl
    · rw [World.cell?_setCell_other _ _ _ _ (by intro e; injection e; omega)]
      exact h.some_ i hi
theorem tag_n (k : BitVec 64) (A : Option Addr) (c n : Nat) (bs : List (BitVec 8)) (w : World) (hn : bs.length = n) (hr : RdB w A bs) (hlen : n ≤ 1048576) (hcap : n ≤ c) :
    Calls Try.prog 13 #[.int .u64 (W64 k), .slice A n c] w fun e w' => e = .returned (.int .u64 (W64 (tag k bs))) ∧ Below w.heap.size w w' := by
  subst hn
  exact mac_Tag k A c bs w hr hlen hcap
theorem W64_inj' {a b : BitVec 64} (h : W64 a = W64 b) : a = b := by
  unfold W64 at h
  exact BitVec.eq_of_toNat_eq (by omega)
theorem law_MacOneGroup (k : BitVec 64) (A : Option Addr) (c : Nat) (bs : List (BitVec 8)) (at_ : Int) (wat : (Lit.int .i64 at_).wf = true) (x : BitVec 64) (w : World) (hr : RdB w A bs) (hc : bs.length ≤ c) :
    Calls Try.prog 6 #[.int .u64 (W64 k), .slice A bs.length c, .int .i64 at_, .int .u64 (W64 x)] w fun e w' => e = .returned (.bool true) ∧ Below w.heap.size w w' := by
  have hcases : (bs.length = 0 ∨ ¬ bs.length = 0 ∧ 300 < bs.length ∨ ¬ bs.length = 0 ∧ ¬ 300 < bs.length ∧ at_ < 0 ∨ ¬ bs.length = 0 ∧ ¬ 300 < bs.length ∧ ¬ at_ < 0 ∧ (bs.length : Int) ≤ at_) ∨ (¬ bs.length = 0 ∧ ¬ 300 < bs.length ∧ ¬ at_ < 0 ∧ ¬ (bs.length : Int) ≤ at_) := by omega
  rcases hcases with hcs | ⟨h1, h2, h3, h4⟩
  · rcases hcs with h | ⟨h1, h2⟩ | ⟨h1, h2, h3⟩ | ⟨h1, h2, h3, h4⟩
    all_goals
      go_enter Try.func6, Try.ntmps6
      go_wp2_with fail
      refine (lives6 _).mono ?_; rintro e w1 ⟨rfl, hb1⟩
      go_wp2
      go_ret
      exact ⟨rfl, hb1⟩
  · obtain ⟨a, rfl⟩ := Int.eq_ofNat_of_zero_le (show 0 ≤ at_ by omega)
    obtain ⟨i0, hi0, hz0, hz1, hz2⟩ := info_parts info_u8
    obtain ⟨g0, hg0, hg1⟩ : ∃ g0 : Nat, g0 = a / 8 ∧ 8 * g0 < bs.length := ⟨a / 8, rfl, by omega⟩
    have hdv : (a : Int) / 8 = (g0 : Int) := by omega
    have hag : 8 * g0 ≤ a := by omega
    have he0 : ((bs.length : Int) == 0) = false := by rw [beq_eq_false_iff_ne]; omega
    have he1 : decide ((300 : Int) < (bs.length : Int)) = false := by rw [decide_eq_false_iff_not]; omega
    clear hg0
    have hown0 := World.ownsRow_lit w #[] 0 (e := 5) (size := 1) (Nat.le_refl _) (by simp only [maxLen]; omega) rfl
    have hb0 : Below w.heap.size w (w.alloc (.cells #[] 5)) := (Below.refl _ _).alloc (Nat.le_refl _) _
    go_enter Try.func6, Try.ntmps6
    go_wp2_with (at_builtin; refine wpList_append_rd _ rfl _ _ 24 rfl w.heap.size 5 i0 _ 1 1 Try.underlying24 hi0 hz0 hz1 hz2 rfl (by omega) _ _ _ rfl hown0 A bs.length c (bcells bs) rfl (hr.to hb0) (by rw [bcells_length]; omega) (bcells_one _) (by simp only [maxLen]; omega) (by omega) hb0.size ?_; intro A1 c1 w1 hown1 hb1 _)
    obtain ⟨g, rfl, hc1⟩ := own_c (xs := bs) (by simpa only [Nat.zero_add, List.nil_append] using hown1) (by omega)
    have hb01 := hb0.trans hb1
    clear hown1 hown0
    go_loopw [3, 10] (fun y v wr => ∃ i : Nat, i ≤ 8 ∧ 8 * g0 + i ≤ bs.length ∧ v = .int .i64 ((g0 : Int) * 8 + i) ∧ y = .int .u64 (W64 (x >>> (8 * i))) ∧ OwnC wr w.heap.size g bs.length c1 (patch bs (8 * g0) x i) ∧ Below w.heap.size w wr)
      (fun _ v _ => (8 * g0 + 8 - (intOf v).toNat))
    case atStart => exact ⟨0, by omega, by omega, by simp, by simp, hc1, hb01⟩
    case round =>
      obtain ⟨i, hi8, hil, rfl, rfl, hoc, hb⟩ := hrel
      by_cases hlt : i < 8 ∧ 8 * g0 + i < bs.length
      · obtain ⟨hl1, hl2⟩ := hlt
        have hpl := patch_length bs (8 * g0) x i
        have hpg := patch_get bs (8 * g0) x i (8 * g0 + i) (by omega)
        have hcl := hoc.cells (8 * g0 + i) (by omega)
        have hpe : (patch bs (8 * g0) x i)[8 * g0 + i]'(by omega) = bs[8 * g0 + i] := by
          rw [List.getElem?_eq_getElem (by omega), List.getElem?_eq_getElem hl2] at hpg
          injection hpg
        rw [hpe] at hcl
        have hfr := hoc.free (8 * g0 + i) (by have := hoc.room; omega)
        have HS := Lib.hid (patch_succ bs (8 * g0) x i hl2)
        have hset := hoc.set_ (8 * g0 + i) hl2 (bs[8 * g0 + i] ^^^ (x >>> (8 * i)).setWidth 8)
        rw [← HS.out] at hset
        have hbm := byte_mod (x >>> (8 * i))
        have hsd := shr_div x i
        have hge := hoc.ge
        generalize bs[8 * g0 + i] = y at *
        obtain ⟨p, hp⟩ : ∃ p : Nat, p = 8 * g0 + i := ⟨_, rfl⟩
        have hpi : (g0 : Int) * 8 + i = (p : Int) := by omega
        have hlt1 : (p : Int) < (bs.length : Int) := by omega
        have hlt2 : (p : Int) < (g0 : Int) * 8 + 8 := by omega
        have hpb : p < bs.length := by omega
        have hpc : p < c1 := by have := hc1.room; omega
        rw [← hp] at hcl hfr hset
        have HB := Lib.hid hb
        clear hpg hpe hoc hp hb
        go_wp2
        go_roundw
        case rel => exact ⟨i + 1, by omega, by omega, congrArg (Value.int .i64) (by omega), by first | rfl | rw [hsd], hset, HB.out.setCell (p := ⟨g, p, none⟩) hge _⟩
        case measure => simp [intOf]; omega
      · have hend : (bs.length : Int) ≤ (g0 : Int) * 8 + i ∨ (g0 : Int) * 8 + i < (bs.length : Int) ∧ (g0 : Int) * 8 + 8 ≤ (g0 : Int) * 8 + i := by omega
        have hpl := patch_length bs (8 * g0) x i
        have htg := patch_tag k bs g0 x i hi8 hg1
        have hrm := hoc.room
        have HO := Lib.hid hoc
        have HB := Lib.hid hb
        clear hoc hb
        generalize patch bs (8 * g0) x i = cs at *
        obtain ⟨q, hq⟩ : ∃ q : Bool, decide (bs = cs) = q := ⟨_, rfl⟩
        have hsm := fun B d W (h1 : RdB W A bs) (h2 : RdB W B cs) => same_n A B c d bs.length bs.length bs cs W h1 h2 rfl hpl
        rw [hq] at hsm
        have ht1 := fun W (h : RdB W A bs) => tag_n k A c bs.length bs W rfl h (by omega) hc
        have ht2 := fun B d W (h : RdB W B cs) (hd : bs.length ≤ d) => tag_n k B d bs.length cs W hpl h (by omega) hd
        generalize tag k bs = t1 at *
        generalize tag k cs = t2 at *
        have hne : q = true ∨ q = false ∧ (W64 t1 != W64 t2) = true := by
          cases q
          · right
            refine ⟨rfl, ?_⟩
            rw [bne_iff_ne]
            intro he
            have := htg (W64_inj' he)
            rw [decide_eq_false_iff_not] at hq
            exact hq this
          · exact .inl rfl
        have HSm := Lib.hid hsm
        have HT1 := Lib.hid ht1
        have HT2 := Lib.hid ht2
        clear hsm ht1 ht2 htg hpl hq
        rcases hend with he | ⟨he, he'⟩ <;> rcases hne with rfl | ⟨rfl, hne⟩
        all_goals
          go_wp2_with fail
          refine (lives6 _).mono ?_; rintro e w2 ⟨rfl, hb2⟩
          have hb02 := HB.out.trans (hb2.mono HB.out.size)
          have hrc : RdB w2 (some ⟨g, 0, none⟩) cs := Rd.to HO.out.rd hb2
          go_wp2_with fail
          refine (HSm.out _ _ _ (hr.to hb02) hrc).mono ?_; rintro e w3 ⟨rfl, rfl⟩
          go_wp2_with fail
          try
            refine (HT1.out _ (hr.to hb02)).mono ?_; rintro e w4 ⟨rfl, hb4⟩
            have hb04 := hb02.trans (hb4.mono hb02.size)
            go_wp2_with fail
            refine (HT2.out _ _ _ (Rd.to hrc hb4) hrm).mono ?_; rintro e w5 ⟨rfl, hb5⟩
            have hb02 := hb04.trans (hb5.mono hb04.size)
          go_wp2
          go_ret
          exact ⟨rfl, by assumption⟩
end Go.Proofs.Ytebcngpdniamdaa
