/- Contracts of the functions of the reference of layer 2. -/
import Derived.Test.YtbkaeoaepmeceaaOct
import Derived.Laws.IdiomStrings
import Derived.StillTailTactics
import Derived.Deep.RegionLaw
import Derived.BigRegion
namespace Go.Proofs.Ytbkaeoaepmeceaa
set_option maxRecDepth 100000
open Go.ChangeShapes Go.WideShapes Go.ChangeAt Go.RowKit
set_option linter.unusedVariables false

theorem ref2_Num (n : Int) (x : BitVec 64) (w : World) (h0 : 0 ≤ n) (h1 : n ≤ 64) :
    Calls Try.prog 48 #[.int .i64 n, .int .u64 (W64 x)] w (RetB w (numB n.toNat x)) := by
  obtain ⟨sz, rfl⟩ := Int.eq_ofNat_of_zero_le h0
  rw [Int.toNat_natCast]
  obtain ⟨i0, hi0, hz0, hz1, hz2⟩ := info_parts info_u8
  go_enter Try.func48, Try.ntmps48
  go_wp2
  go_loopw [1, 5, 6] (fun y v i wr => ∃ (j : Nat) (A : Option Addr) (c : Nat), j ≤ sz ∧ i = .int .i64 j ∧ y = .int .u64 (W64 (x >>> (8 * j))) ∧ v = .slice A j c ∧ wr.ownsRow w.heap.size 5 1 (.slice A j c) j (bcells (numB j x)) ∧ Below w.heap.size w wr)
    (fun _ _ i _ => sz - (intOf i).toNat)
  case atStart => exact ⟨0, _, _, by omega, rfl, by simp, rfl, World.ownsRow_lit w #[] 0 (Nat.le_refl _) (by simp only [maxLen]; omega) rfl, (Below.refl _ _).alloc (Nat.le_refl _) _⟩
  case round =>
    obtain ⟨j, A, c, hj, rfl, rfl, rfl, hown, hb⟩ := hrel
    have hns := Lib.hid (numB_succ j x)
    have hsd := shr_div x j
    have hbm := byte_mod (x >>> (8 * j))
    by_cases hlt : j < sz
    · go_wp2_with (at_builtin; refine wpList_append_rd _ rfl _ _ 36 rfl w.heap.size 5 i0 _ 1 1 Try.underlying36 hi0 hz0 hz1 hz2 rfl (by omega) _ _ _ rfl (hown.alloc _) (some ⟨wr.heap.size, 0, none⟩) 1 1 [.int .u8 (W8 ((x >>> (8 * j)).setWidth 8))] rfl (Rd.new _ _ _) rfl (bcells_one [(x >>> (8 * j)).setWidth 8]) (by simp only [maxLen]; omega) (by omega) (by have := hb.size; simp; omega) ?_; intro A3 c3 w3 hown3 hb3 hg3)
      go_roundw
      case rel => exact ⟨j + 1, A3, c3, by omega, by go_num, rfl, rfl, by rw [hns.out, bcells_append]; exact hown3, (hb.alloc hb.size _).trans hb3⟩
      case measure => simp [intOf]; omega
    · obtain rfl : j = sz := by omega
      go_wp2
      go_ret
      have hl := numB_length j x
      unfold RetB
      rw [hl]
      exact ⟨A, c, rfl, hown, hb⟩
theorem ref2_Value (A : Option Addr) (c : Nat) (bs : List (BitVec 8)) (w : World) (hr : RdB w A bs) (hl : bs.length ≤ 1048576) :
    Calls Try.prog 57 #[.slice A bs.length c] w fun e w' => e = .returned (.int .u64 (W64 (leVal bs))) ∧ w = w' := by
  go_enter Try.func57, Try.ntmps57
  go_wp2
  go_loop [3, 4] (fun x i => ∃ j : Nat, j ≤ bs.length ∧ i = .int .i64 ((j : Int) - 1) ∧ x = .int .u64 (W64 (valFrom bs j))) (fun _ i => (intOf i + 1).toNat)
  case atStart => exact ⟨bs.length, Nat.le_refl _, rfl, congrArg (Value.int .u64) (congrArg W64 (valFrom_all bs)).symm⟩
  case round =>
    obtain ⟨j, hj, rfl, rfl⟩ := hrel
    rcases j with _ | j
    · go_wp2
      go_ret
      exact ⟨rfl, rfl⟩
    · obtain ⟨b, off, rfl, hlt, hc⟩ := hr.open_ (by rw [bcells_length]; omega)
      have hjl : j < bs.length := by omega
      have hcj := hc j (.int .u8 (W8 bs[j])) (by simp [bcells, hjl])
      have hv := Lib.hid (valFrom_step bs j hjl)
      have e1 : ((j + 1 : Nat) : Int) - 1 = (j : Int) := by omega
      rw [e1]
      clear e1 hc
      generalize bs[j] = y at *
      go_wp2
      go_round
      case rel => exact ⟨j, by omega, rfl, by rw [hv.out]⟩
      case measure => simp [intOf]
/-- The string of bytes. -/
def bstr (bs : List (BitVec 8)) : ByteArray := ⟨(bs.map fun b => UInt8.ofBitVec b).toArray⟩
theorem bstr_inj {a b : List (BitVec 8)} (h : bstr a = bstr b) : a = b := by
  have h1 := congrArg (fun s => s.data.toList) h
  simp only [bstr] at h1
  have h2 := congrArg (fun l => l.map UInt8.toBitVec) h1
  simp only [List.map_map] at h2
  have e : (UInt8.toBitVec ∘ fun b => UInt8.ofBitVec b) = id := rfl
  simpa only [e, List.map_id] using h2
theorem bstr_toList (bs : List (BitVec 8)) : (bstr bs).toList = bs.map fun b => UInt8.ofBitVec b := by
  rw [ByteArray.toList_eq]
  rfl
theorem bstr_beq (a b : List (BitVec 8)) : ((bstr a).toList == (bstr b).toList) = decide (a = b) := by
  rw [Bool.eq_iff_iff, beq_iff_eq, decide_eq_true_eq, bstr_toList, bstr_toList]
  exact ⟨fun h => bstr_inj (by unfold bstr; rw [h]), fun h => by rw [h]⟩
theorem run_string_of {w : World} {A : Option Addr} {bs : List (BitVec 8)} (h : RdB w A bs) (c : Nat) : (convert 36 9 (.slice A bs.length c)).run Try.prog w = .ok (.string (bstr bs)) w := by
  rcases A with _ | ad
  · have hz : bs = [] := by
      rcases bs with _ | ⟨x, l⟩
      · rfl
      · obtain ⟨_, h, _⟩ := h 0 _ rfl
        cases h
    subst hz
    exact run_convert_bytes_nil w _ _ Try.underlying36 Try.underlying5 _ _ _ Try.underlying9
  · have hl : (bs.map fun b => UInt8.ofBitVec b).length = bs.length := List.length_map _
    have := run_convert_bytes_back (P := Try.prog) w _ _ _ ad c (bs.map fun b => UInt8.ofBitVec b) Try.underlying36 Try.underlying5 Try.underlying9 (fun j hj => by
      have hj' : j < bs.length := by rw [← hl]; exact hj
      obtain ⟨ad', he, _, hc⟩ := RdB.at_ h j hj'
      injection he with he
      subst he
      rw [hc]
      simp [W8])
    rw [hl] at this
    exact this
theorem ref2_Same (A B : Option Addr) (c d : Nat) (a b : List (BitVec 8)) (w : World) (hra : RdB w A a) (hrb : RdB w B b) :
    Calls Try.prog 20 #[.slice A a.length c, .slice B b.length d] w fun e w' => e = .returned (.bool (decide (a = b))) ∧ w = w' := by
  have h1 := run_string_of hra c
  have h2 := run_string_of hrb d
  go_enter Try.func20, Try.ntmps20
  go_wp2
  go_ret
  exact ⟨ret_bool (bstr_beq a b), rfl⟩
theorem xorB_take_succ (a b : List (BitVec 8)) (k : Nat) (ha : k < a.length) (hb : k < b.length) : (xorB a b).take (k + 1) = (xorB a b).take k ++ [a[k] ^^^ b[k]] := by
  have h : k < (xorB a b).length := by rw [xorB_length]; omega
  rw [List.take_succ_eq_append_getElem h]
  simp [xorB]
theorem ref2_Xor (A B : Option Addr) (c d : Nat) (a b : List (BitVec 8)) (w : World) (hra : RdB w A a) (hrb : RdB w B b) (hl : a.length ≤ 1048576) (hlb : b.length ≤ 1048576) :
    Calls Try.prog 65 #[.slice A a.length c, .slice B b.length d] w (RetB w (xorB a b)) := by
  obtain ⟨i0, hi0, hz0, hz1, hz2⟩ := info_parts info_u8
  have hxl := xorB_length a b
  go_enter Try.func65, Try.ntmps65
  go_wp2
  go_loopw [5, 6] (fun v i wr => ∃ (k : Nat) (A' : Option Addr) (c' : Nat), k ≤ (xorB a b).length ∧ i = .int .i64 k ∧ v = .slice A' k c' ∧ wr.ownsRow w.heap.size 5 1 (.slice A' k c') k (bcells ((xorB a b).take k)) ∧ Below w.heap.size w wr)
    (fun _ i _ => a.length - (intOf i).toNat)
  case atStart => exact ⟨0, _, _, by omega, rfl, rfl, World.ownsRow_lit w #[] 0 (Nat.le_refl _) (by simp only [maxLen]; omega) rfl, (Below.refl _ _).alloc (Nat.le_refl _) _⟩
  case round =>
    obtain ⟨k, A', c', hk, rfl, rfl, hown, hb⟩ := hrel
    by_cases hlt : k < (xorB a b).length
    · have ha1 : k < a.length := by omega
      have ha2 : k < b.length := by omega
      obtain ⟨b1, o1, rfl, hb1, hc1⟩ := (hra.to hb).open_ (by rw [bcells_length]; omega)
      obtain ⟨b2, o2, rfl, hb2, hc2⟩ := (hrb.to hb).open_ (by rw [bcells_length]; omega)
      have hd1 := hc1 k (.int .u8 (W8 a[k])) (by simp [bcells, ha1])
      have hd2 := hc2 k (.int .u8 (W8 b[k])) (by simp [bcells, ha2])
      have hs := Lib.hid (xorB_take_succ a b k ha1 ha2)
      clear hc1 hc2
      have HX := Lib.hid hxl
      clear hxl
      generalize a[k] = x at *
      generalize b[k] = y at *
      go_wp2
      go_region_law (first | (refine step_append_rd _ rfl (.tmp 20) (.tmp 30) 36 rfl w.heap.size 5 i0 _ 1 1 Try.underlying36 hi0 hz0 hz1 hz2 rfl (by omega) (.slice A' k c') k (bcells ((xorB a b).take k)) rfl (hown.alloc _) (some ⟨wr.heap.size, 0, none⟩) 1 1 [.int .u8 (W8 (x ^^^ y))] rfl (Rd.new _ _ _) rfl (bcells_one [x ^^^ y]) (by simp only [maxLen]; omega) (by omega) (by have := hb.size; simp; omega) ?_; intro A3 c3 w3 hown3 hb3 hg3))
      all_goals
        go_wp2
        go_roundw
        case rel => exact ⟨k + 1, A3, c3, by omega, by go_num, rfl, by rw [hs.out, bcells_append]; exact hown3, ((hb.alloc hb.size _).drew).trans hb3⟩
        case measure => simp [intOf]; omega
    · obtain rfl : k = (xorB a b).length := by omega
      rw [List.take_length] at hown
      have hge : a.length ≤ (xorB a b).length ∨ ((xorB a b).length < a.length ∧ b.length ≤ (xorB a b).length) := by omega
      have HR := Lib.hid (show RetB w (xorB a b) (.returned (.slice A' (xorB a b).length c')) wr from ⟨A', c', rfl, hown, hb⟩)
      clear hxl
      rcases hge with h | ⟨h, h'⟩
      all_goals
        go_wp2
        go_ret
        exact HR.out
end Go.Proofs.Ytbkaeoaepmeceaa
