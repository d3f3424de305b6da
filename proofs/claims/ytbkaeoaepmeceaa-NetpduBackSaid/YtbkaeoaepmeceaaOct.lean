/- Contracts of the functions of layer 2 (octets) that the others call. -/
import Derived.Test.YtbkaeoaepmeceaaRows
import Derived.Test.YtbkaeoaepmeceaaBlk
import Derived.Test.YtbkaeoaepmeceaaMem
import Derived.Test.YtbkaeoaepmeceaaMacFn
import Derived.StillTailTactics
namespace Go.Proofs.Ytbkaeoaepmeceaa
set_option maxRecDepth 100000
open Go.ChangeShapes Go.WideShapes Go.ChangeAt Go.RowKit
set_option linter.unusedVariables false

theorem info_u8 : (Try.prog.info? 5).map (fun i => (i.zero, i.size, i.bytes)) = some (some (.int .u8 0), 1, 1) := by kernel_rfl
/-- A part: its address, its capacity, its bytes. -/
abbrev Part := Option Addr × Nat × List (BitVec 8)
def pcells (ps : List Part) : List Value := ps.map fun p => .slice p.1 p.2.2.length p.2.1
def joinTo (ps : List Part) (k : Nat) : List (BitVec 8) := (ps.take k).flatMap (·.2.2)
theorem joinTo_succ (ps : List Part) (k : Nat) (h : k < ps.length) : joinTo ps (k + 1) = joinTo ps k ++ ps[k].2.2 := by
  unfold joinTo
  rw [List.take_succ_eq_append_getElem h, List.flatMap_append]
  simp
theorem joinTo_all (ps : List Part) : joinTo ps ps.length = ps.flatMap (·.2.2) := by unfold joinTo; rw [List.take_length]
theorem joinTo_le (ps : List Part) (k : Nat) : (joinTo ps k).length ≤ (ps.flatMap (·.2.2)).length := by
  have h := List.take_append_drop k ps
  have : (ps.flatMap (·.2.2)).length = (joinTo ps k).length + ((ps.drop k).flatMap (·.2.2)).length := by
    conv => lhs; rw [← h, List.flatMap_append, List.length_append]
    rfl
  omega
/-- What a call returns that makes bytes: a slice of its own. -/
def RetB (w : World) (bs : List (BitVec 8)) (e : Ending) (w' : World) : Prop :=
  ∃ (A : Option Addr) (c : Nat), e = .returned (.slice A bs.length c) ∧ w'.ownsRow w.heap.size 5 1 (.slice A bs.length c) bs.length (bcells bs) ∧ Below w.heap.size w w'
theorem octets_Join (A : Option Addr) (c : Nat) (ps : List Part) (w : World) (hr : Rd w A (pcells ps)) (hp : ∀ p ∈ ps, RdB w p.1 p.2.2) (hn : (ps.flatMap (·.2.2)).length ≤ 1048576) (hl : ps.length ≤ 1048576) :
    Calls Try.prog 42 #[.slice A ps.length c] w (RetB w (ps.flatMap (·.2.2))) := by
  obtain ⟨i0, hi0, hz0, hz1, hz2⟩ := info_parts info_u8
  go_enter Try.func42, Try.ntmps42
  go_wp2
  go_loopw [3, 8] (fun v i wr => ∃ (k : Nat) (A' : Option Addr) (c' : Nat), k ≤ ps.length ∧ i = .int .i64 k ∧ v = .slice A' (joinTo ps k).length c' ∧ wr.ownsRow w.heap.size 5 1 (.slice A' (joinTo ps k).length c') (joinTo ps k).length (bcells (joinTo ps k)) ∧ Below w.heap.size w wr)
    (fun _ i _ => ps.length - (intOf i).toNat)
  case atStart => exact ⟨0, none, 0, by omega, rfl, rfl, ⟨by simp [bcells, joinTo], .inl ⟨by simp [joinTo], by simp [joinTo]⟩⟩, Below.refl _ _⟩
  case round =>
    obtain ⟨k, A', c', hk, rfl, rfl, hown, hb⟩ := hrel
    by_cases hlt : k < ps.length
    · have hle := joinTo_le ps (k + 1)
      have hsu := joinTo_succ ps k hlt
      rw [hsu, List.length_append] at hle
      obtain ⟨ad, rfl, hlt2, hcell⟩ := (hr.to hb) k (.slice ps[k].1 ps[k].2.2.length ps[k].2.1) (by simp [pcells, hlt])
      have hpk := (hp ps[k] (List.getElem_mem hlt)).to hb
      have HS := Lib.hid hsu
      clear hsu
      generalize ps[k] = q at *
      obtain ⟨qa, qc, qb⟩ := q
      dsimp only at *
      go_wp2_with (at_builtin; refine wpList_append_rd _ rfl _ _ 36 rfl w.heap.size 5 i0 _ 1 1 Try.underlying36 hi0 hz0 hz1 hz2 rfl (by omega) _ _ _ rfl hown qa qb.length qc (bcells qb) rfl hpk (by rw [bcells_length]; omega) (bcells_one _) (by simp only [maxLen]; omega) (by omega) hb.size ?_; intro A2 c2 w2 hown2 hb2 _)
      go_roundw
      case rel => 
        refine ⟨k + 1, A2, c2, by omega, by go_num, ?_, ?_, hb.trans hb2⟩
        · rw [HS.out, List.length_append]
        · rw [HS.out, List.length_append, bcells_append]; exact hown2
      case measure => simp [intOf]; omega
    · obtain rfl : k = ps.length := by omega
      go_wp2
      go_ret
      rw [joinTo_all] at *
      exact ⟨A', c', rfl, hown, hb⟩
/-- A field: its size, its number. -/
abbrev Fld := Nat × BitVec 64
def fcells (fs : List Fld) : List Value := fs.flatMap fun f => [.int .i64 (f.1 : Int), .int .u64 (W64 f.2)]
theorem fcells_length (fs : List Fld) : (fcells fs).length = fs.length * 2 := by
  induction fs with
  | nil => rfl
  | cons f fs ih => simp only [fcells, List.flatMap_cons, List.length_append, List.length_cons, List.length_nil] at *; omega
theorem fcells_snoc (fs : List Fld) (f : Fld) : fcells (fs ++ [f]) = fcells fs ++ [.int .i64 (f.1 : Int), .int .u64 (W64 f.2)] := by simp [fcells]
theorem fcells_one (fs : List Fld) : ∀ u ∈ fcells fs, u.oneCell' = true := fun u hu => by
  obtain ⟨f, _, h⟩ := List.mem_flatMap.1 hu
  simp at h
  rcases h with rfl | rfl <;> rfl
theorem fcells_at (fs : List Fld) (k : Nat) (h : k < fs.length) : (fcells fs)[k * 2]? = some (.int .i64 (fs[k].1 : Int)) ∧ (fcells fs)[k * 2 + 1]? = some (.int .u64 (W64 fs[k].2)) := by
  induction fs generalizing k with
  | nil => simp at h
  | cons f fs ih =>
    rcases k with _ | k
    · exact ⟨rfl, rfl⟩
    · have := ih k (by simpa using h)
      rw [show (k + 1) * 2 = k * 2 + 1 + 1 by omega]
      exact this
/-- A field that has its size. -/
def fits (f : Fld) : Prop := 1 ≤ f.1 ∧ f.1 ≤ 8 ∧ (f.1 < 8 → f.2 >>> (8 * f.1) = 0#64)
def putTo (fs : List Fld) (k : Nat) : List (BitVec 8) := (fs.take k).flatMap fun f => numB f.1 f.2
def putB (fs : List Fld) : List (BitVec 8) := fs.flatMap fun f => numB f.1 f.2
theorem putTo_succ (fs : List Fld) (k : Nat) (h : k < fs.length) : putTo fs (k + 1) = putTo fs k ++ numB fs[k].1 fs[k].2 := by
  unfold putTo
  rw [List.take_succ_eq_append_getElem h, List.flatMap_append]
  simp
theorem putTo_all (fs : List Fld) : putTo fs fs.length = putB fs := by unfold putTo putB; rw [List.take_length]
theorem putTo_le (fs : List Fld) (hf : ∀ f ∈ fs, fits f) (k : Nat) : (putTo fs k).length ≤ k * 8 := by
  induction k with
  | zero => simp [putTo]
  | succ k ih =>
    by_cases h : k < fs.length
    · rw [putTo_succ fs k h, List.length_append, numB_length]
      have := (hf fs[k] (List.getElem_mem h)).2.1
      omega
    · have : putTo fs (k + 1) = putTo fs k := by unfold putTo; rw [List.take_of_length_le (by omega), List.take_of_length_le (by omega)]
      rw [this]; omega
/-- What is put when the first k fields and j bytes of the next number x are there. -/
def putIn (fs : List Fld) (k j : Nat) (x : BitVec 64) : List (BitVec 8) := putTo fs k ++ numB j x
theorem putIn_zero (fs : List Fld) (k : Nat) (x : BitVec 64) : putIn fs k 0 x = putTo fs k := by simp [putIn, numB]
theorem putIn_succ (fs : List Fld) (k j : Nat) (x : BitVec 64) : putIn fs k (j + 1) x = putIn fs k j x ++ [(x >>> (8 * j)).setWidth 8] := by unfold putIn; rw [numB_succ, List.append_assoc]
theorem putIn_len (fs : List Fld) (k j : Nat) (x : BitVec 64) : (putIn fs k j x).length = (putTo fs k).length + j := by unfold putIn; rw [List.length_append, numB_length]
theorem octets_sized (n : Int) (w : World) (h : 1 ≤ n ∧ n ≤ 8) :
    Calls Try.prog 74 #[.int .i64 n] w fun e w' => e = .returned (.bool true) ∧ w = w' := by
  have h1 : 1 ≤ n := h.1
  have h2 : n ≤ 8 := h.2
  have e1 : decide (1 ≤ n) = true := by simpa using h1
  have e2 : decide (n ≤ 8) = true := by simpa using h2
  go_enter Try.func74, Try.ntmps74
  go_wp2
  go_ret
  exact ⟨rfl, rfl⟩
/-- What Put returns where every field has its size. -/
def RetPut (w : World) (bs : List (BitVec 8)) (e : Ending) (w' : World) : Prop :=
  ∃ (A : Option Addr) (c : Nat), e = .returned (.tuple #[.slice A bs.length c, .int .i64 0]) ∧ w'.ownsRow w.heap.size 5 1 (.slice A bs.length c) bs.length (bcells bs) ∧ Below w.heap.size w w'
theorem octets_Put (A : Option Addr) (c : Nat) (fs : List Fld) (w : World) (hr : Rd w A (fcells fs)) (hf : ∀ f ∈ fs, fits f) (hl : fs.length ≤ 65536) :
    Calls Try.prog 61 #[.slice A fs.length c] w (RetPut w (putB fs)) := by
  obtain ⟨i0, hi0, hz0, hz1, hz2⟩ := info_parts info_u8
  go_enter Try.func61, Try.ntmps61
  go_wp2
  go_loopw [4, 10] (fun v i wr => ∃ (k : Nat) (A' : Option Addr) (c' : Nat), k ≤ fs.length ∧ i = .int .i64 k ∧ v = .slice A' (putTo fs k).length c' ∧ wr.ownsRow w.heap.size 5 1 (.slice A' (putTo fs k).length c') (putTo fs k).length (bcells (putTo fs k)) ∧ Below w.heap.size w wr)
    (fun _ i _ => fs.length - (intOf i).toNat)
  case atStart => exact ⟨0, none, 0, by omega, rfl, rfl, ⟨by simp [bcells, putTo], .inl ⟨by simp [putTo], by simp [putTo]⟩⟩, Below.refl _ _⟩
  case round =>
    obtain ⟨k, A', c', hk, rfl, rfl, hown, hb⟩ := hrel
    by_cases hlt : k < fs.length
    · obtain ⟨bk, off, rfl, hblt, hcell⟩ := (hr.to hb).open_ (by rw [fcells_length]; omega)
      obtain ⟨hc0, hc1⟩ := fcells_at fs k hlt
      have hd0 := hcell _ _ hc0
      have hd1 := hcell _ _ hc1
      rw [← Nat.add_assoc] at hd1
      have hfk := hf _ (List.getElem_mem hlt)
      have hle := putTo_le fs hf k
      have hsu := Lib.hid (putTo_succ fs k hlt)
      clear hc0 hc1 hcell
      generalize fs[k] = q at *
      obtain ⟨sz, x⟩ := q
      obtain ⟨f1, f2, f3⟩ := hfk
      dsimp only at *
      have hz : (decide ((sz : Int) < 8) = true ∧ (W64 (x >>> (8 * sz)) != 0) = false) ∨ decide ((sz : Int) < 8) = false := by
        by_cases h8 : sz < 8
        · exact .inl ⟨by simp; omega, by rw [f3 h8]; rfl⟩
        · exact .inr (by simp; omega)
      clear f3
      obtain ⟨wo, rfl⟩ : ∃ wo : World, wo = wr := ⟨_, rfl⟩
      have hp0 := Lib.hid (putIn_zero fs k x)
      rcases hz with ⟨hq, hq'⟩ | hq
      all_goals
        go_wp2_with (go_at_call 74; refine (octets_sized _ _ (by omega)).mono ?_; rintro e w' ⟨rfl, rfl⟩)
        go_loopw [4, 34] (fun v i wr => ∃ (j : Nat) (A2 : Option Addr) (c2 : Nat), j ≤ sz ∧ i = .int .i64 j ∧ v = .slice A2 (putIn fs k j x).length c2 ∧ wr.ownsRow w.heap.size 5 1 (.slice A2 (putIn fs k j x).length c2) (putIn fs k j x).length (bcells (putIn fs k j x)) ∧ Below w.heap.size w wr ∧ Blk wr wo.heap.size 86 #[.int .i64 (sz : Int), .int .u64 (W64 x)])
          (fun _ i _ => sz - (intOf i).toNat)
        case atStart => exact ⟨0, A', c', by omega, rfl, by rw [hp0.out], by rw [hp0.out]; exact hown.alloc _, hb.alloc hb.size _, Blk.new _ _ _⟩
        case round =>
          obtain ⟨j, A2, c2, hj, rfl, rfl, hown2, hb2, hblk⟩ := hrel
          have hx0 : wr.cell? ⟨wo.heap.size, 0, none⟩ = some (.int .i64 (sz : Int)) := hblk.cell 0
          have hx1 : wr.cell? ⟨wo.heap.size, 1, none⟩ = some (.int .u64 (W64 x)) := hblk.cell 1
          have hns := Lib.hid (putIn_succ fs k j x)
          have hlen := Nat.le_of_eq (putIn_len fs k j x)
          by_cases hjl : j < sz
          · go_wp2_with (at_builtin; refine wpList_append_rd _ rfl _ _ 36 rfl w.heap.size 5 i0 _ 1 1 Try.underlying36 hi0 hz0 hz1 hz2 rfl (by omega) _ _ _ rfl (hown2.alloc _) (some ⟨wr.heap.size, 0, none⟩) 1 1 [.int .u8 (W8 ((x >>> (8 * j)).setWidth 8))] rfl (Rd.new _ _ _) rfl (bcells_one [(x >>> (8 * j)).setWidth 8]) (by simp only [maxLen]; omega) (by omega) (by have := hb2.size; simp; omega) ?_; intro A3 c3 w3 hown3 hb3 hg3)
            go_roundw
            case rel =>
              refine ⟨j + 1, A3, c3, by omega, by go_num, ?_, ?_, (hb2.alloc hb2.size _).trans hb3, (hblk.alloc _).own (hown2.alloc _) (by decide) hg3⟩
              · rw [hns.out, List.length_append]; rfl
              · rw [hns.out, List.length_append, bcells_append]; exact hown3
            case measure => simp [intOf]; omega
          · obtain rfl : j = sz := by omega
            go_wp2
            go_roundw
            case rel => exact ⟨k + 1, A2, c2, by omega, by go_num, by rw [hsu.out]; rfl, by rw [hsu.out]; exact hown2, hb2⟩
            case measure => simp [intOf]; omega
    · obtain rfl : k = fs.length := by omega
      go_wp2
      go_ret2
      rw [putTo_all] at *
      exact ⟨A', c', rfl, hown, hb⟩
theorem bcells_set (l : List (BitVec 8)) (k : Nat) (x : BitVec 8) : (bcells l).toArray.setIfInBounds k (.int .u8 (W8 x)) = (bcells (l.set k x)).toArray := by
  apply Array.ext'
  simp [bcells, List.map_set]
theorem made_zero (m : Nat) : madeCells #[Value.int .u8 0] m = (bcells (List.replicate m 0#8)).toArray := by
  apply Array.ext'
  simp only [madeCells, bcells, List.map_replicate]
  apply List.ext_getElem
  · simp
  · intro i h1 h2
    have e : W8 0#8 = 0 := rfl
    simp [e, Nat.mod_one]
theorem own_of_blk {w : World} {g base : Nat} {l : List (BitVec 8)} (h : Blk w g 5 (bcells l).toArray) (hb : base ≤ g) (hm : l.length ≤ maxLen) :
    w.ownsRow base 5 1 (.slice (some ⟨g, 0, none⟩) l.length l.length) l.length (bcells l) :=
  ⟨by rw [bcells_length]; omega, .inr ⟨g, l.length, _, rfl, hb, h, Nat.le_refl _, hm, by simp [bcells], by rw [List.take_of_length_le (by simp [bcells])]⟩⟩
theorem octets_Xor (A B : Option Addr) (c d : Nat) (a b : List (BitVec 8)) (w : World) (hra : RdB w A a) (hrb : RdB w B b) (hl : a.length ≤ 1048576) :
    Calls Try.prog 62 #[.slice A a.length c, .slice B b.length d] w (RetB w (xorB a b)) := by
  obtain ⟨i0, hi0, hz0, hz1, hz2⟩ := info_parts info_u8
  obtain ⟨m, hm, hm'⟩ : ∃ m : Nat, min (a.length : Int) (b.length : Int) = (m : Int) ∧ (xorB a b).length = m := ⟨(xorB a b).length, by rw [xorB_length]; omega, rfl⟩
  have hma : m ≤ a.length := by omega
  have hmb : m ≤ b.length := by omega
  have hmk : ∀ W : World, (Instr.makeSlice 36 (.int .i64 (m : Int)) (.int .i64 (m : Int))).run Try.prog W = .ok (.slice (some ⟨W.heap.size, 0, none⟩) m m) (W.alloc (.cells (bcells (xorRow a b 0)).toArray 5)) := fun W => by
    have h := run_make (P := Try.prog) W 36 5 i0 _ Try.underlying36 hi0 hz0 .i64 .i64 (m : Int) (m : Int) (by omega) (by omega) (by rw [hz2]; omega) (by omega)
    rw [h, hz1, Int.toNat_natCast, Nat.mul_one]
    have e : xorRow a b 0 = List.replicate m 0#8 := by unfold xorRow; rw [hm']; simp
    rw [e, ← made_zero]
    rfl
  have HM := Lib.hid hm'
  clear hm'
  go_enter Try.func62, Try.ntmps62
  go_wp2
  clear hm hmk
  go_loopw [15] (fun i wr => ∃ k : Nat, k ≤ m ∧ i = .int .i64 k ∧ Below w.heap.size w wr ∧ Blk wr w.heap.size 5 (bcells (xorRow a b k)).toArray) (fun i _ => m - (intOf i).toNat)
  case atStart => exact ⟨0, by omega, rfl, (Below.refl _ _).alloc (Nat.le_refl _) _, Blk.new _ _ _⟩
  case round =>
    obtain ⟨k, hk, rfl, hb, hblk⟩ := hrel
    by_cases hlt : k < m
    · obtain ⟨b1, o1, rfl, hb1, hc1⟩ := (hra.to hb).open_ (by rw [bcells_length]; omega)
      obtain ⟨b2, o2, rfl, hb2, hc2⟩ := (hrb.to hb).open_ (by rw [bcells_length]; omega)
      have ha1 : k < a.length := by omega
      have ha2 : k < b.length := by omega
      have hd1 := hc1 k (.int .u8 (W8 a[k])) (by simp [bcells, ha1])
      have hd2 := hc2 k (.int .u8 (W8 b[k])) (by simp [bcells, ha2])
      have hf := hblk.free k
      have hlen : k < (xorRow a b k).length := by rw [xorRow_length, HM.out]; exact hlt
      have hd3 : wr.cell? ⟨w.heap.size, k, none⟩ = some (.int .u8 (W8 (xorRow a b k)[k])) := by rw [hblk.cell k]; simp [bcells, hlen]
      have hs := Lib.hid (xorRow_succ a b k (by rw [HM.out]; exact hlt) ha1 ha2)
      clear hc1 hc2
      generalize a[k] = x at *
      generalize b[k] = y at *
      go_wp2
      refine wp_region_still_tail 12 (by kernel_rfl) (by kernel_rfl) ?_
      simp only [List.take_succ_cons, List.take_zero, List.drop_succ_cons, List.drop_zero]
      repeat still_step
      refine wpStill_nil ?_
      go_wp2
      go_roundw
      case rel =>
        refine ⟨k + 1, by omega, by go_num, (hb.drew.setCell (Nat.le_refl _) _), ?_⟩
        rw [hs.out, ← bcells_set]
        exact (hblk.drewN 1).set_ k _
      case measure => simp [intOf]; omega
    · obtain rfl : k = m := by omega
      go_wp2
      go_ret
      have e := xorRow_all a b
      rw [HM.out] at e
      rw [e] at hblk
      have ho := own_of_blk hblk (Nat.le_refl _) (by rw [HM.out]; simp only [maxLen]; omega)
      rw [HM.out] at ho
      unfold RetB
      rw [HM.out]
      exact ⟨_, _, rfl, ho, hb⟩
end Go.Proofs.Ytbkaeoaepmeceaa
