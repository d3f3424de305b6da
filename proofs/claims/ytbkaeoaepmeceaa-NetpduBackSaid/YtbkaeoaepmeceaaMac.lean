/- Contracts of the functions of layer 6 (mac): numbers in bytes, groups, tags. -/
import Derived.Test.YtbkaeoaepmeceaaOct
import Derived.RangeFuncNested
import Derived.RangeFuncBound
import Derived.RangeFuncCalls
import Derived.RangeFuncLeaves
import Derived.RangeFuncFrom
import Derived.Shelf.Abstract
import Derived.Shelf.RegionOpen
import Derived.OwnWalkIn
import Derived.TacticsInMore
import Derived.LoopNIn
import Derived.LoopIn
namespace Go.Proofs.Ytbkaeoaepmeceaa
open Go.ChangeShapes Go.WideShapes Go.ChangeAt Go.RowKit Go.Shelf
set_option linter.unusedVariables false
attribute [local go_sem] Oper.semAt_some

theorem info_field : (Try.prog.info? 86).map (fun i => (i.zero, i.size, i.bytes)) = some (some (.agg #[.int .i64 0, .int .u64 0]), 2, 16) := by kernel_rfl
def flds8 (xs : List (BitVec 64)) : List Fld := xs.map fun x => (8, x)
theorem putB_flds8 (xs : List (BitVec 64)) : putB (flds8 xs) = nums8 xs := by unfold putB flds8 nums8; rw [List.flatMap_map]
theorem flds8_take (xs : List (BitVec 64)) (k : Nat) (h : k < xs.length) : flds8 (xs.take (k + 1)) = flds8 (xs.take k) ++ [(8, xs[k])] := by
  rw [List.take_succ_eq_append_getElem h]; unfold flds8; rw [List.map_append]; rfl
theorem mac_bytes (A : Option Addr) (c : Nat) (xs : List (BitVec 64)) (w : World) (hr : RdU w A xs) (hl : xs.length ≤ 65536) :
    Calls Try.prog 43 #[.slice A xs.length c] w (RetB w (nums8 xs)) := by
  obtain ⟨i0, hi0, hz0, hz1, hz2⟩ := info_parts info_field
  go_enter Try.func43, Try.ntmps43
  go_wp2
  go_loopw [3, 10] (fun v i wr => ∃ (k : Nat) (A' : Option Addr) (c' : Nat), k ≤ xs.length ∧ i = .int .i64 k ∧ v = .slice A' k c' ∧ wr.ownsRow w.heap.size 86 2 (.slice A' k c') k (fcells (flds8 (xs.take k))) ∧ Below w.heap.size w wr)
    (fun _ i _ => xs.length - (intOf i).toNat)
  case atStart => exact ⟨0, none, 0, by omega, rfl, rfl, ⟨by simp [fcells, flds8], .inl ⟨rfl, rfl⟩⟩, Below.refl _ _⟩
  case round =>
    obtain ⟨k, A', c', hk, rfl, rfl, hown, hb⟩ := hrel
    by_cases hlt : k < xs.length
    · obtain ⟨ad, rfl, hlt2, hcell⟩ := RdU.at_ (hr.to hb) k hlt
      have hns := Lib.hid (flds8_take xs k hlt)
      generalize xs[k] = x at *
      go_wp2_with (at_builtin; refine wpList_append_rd _ rfl _ _ 84 rfl w.heap.size 86 i0 _ 2 16 Try.underlying84 hi0 hz0 hz1 hz2 rfl (by omega) _ _ _ rfl (hown.alloc _) (some ⟨wr.heap.size, 0, none⟩) 1 1 [.int .i64 8, .int .u64 (W64 x)] rfl (Rd.new _ _ _) rfl (fcells_one [(8, x)]) (by simp only [maxLen]; omega) (by omega) (by have := hb.size; simp; omega) ?_; intro A3 c3 w3 hown3 hb3 hg3)
      go_roundw
      case rel => exact ⟨k + 1, A3, c3, by omega, by go_num, rfl, by rw [hns.out, fcells_snoc]; exact hown3, (hb.alloc hb.size _).trans hb3⟩
      case measure => simp [intOf]; omega
    · obtain rfl : k = xs.length := by omega
      rw [List.take_length] at hown
      have hlf : (flds8 xs).length = xs.length := by simp [flds8]
      have hc := octets_Put A' c' (flds8 xs) wr (Rd.of_own hown) (fun f hf => by
        obtain ⟨x, _, rfl⟩ := List.mem_map.1 hf
        exact ⟨by show 1 ≤ 8; omega, Nat.le_refl _, fun h => absurd h (by show ¬ 8 < 8; omega)⟩) (by omega)
      rw [hlf] at hc
      have HC := Lib.hid hc
      clear hc hlf
      go_wp2_with fail
      refine HC.out.mono ?_
      rw [putB_flds8]
      rintro e w2 ⟨A2, c2, rfl, hown2, hb2⟩
      go_wp2
      go_ret
      exact ⟨A2, c2, rfl, own_mono hown2 hb.size, hb.trans (hb2.mono hb.size)⟩
theorem cell_new_l (w : World) (v : Value) (t : TypeId) : (w.alloc (.cells #[v] t)).cell? ⟨w.heap.size, 0, none⟩ = some v ∧ (w.alloc (.cells #[v] t)).frozen? ⟨w.heap.size, 0, none⟩ = false :=
  ⟨(Blk.new w t #[v]).cell 0, (Blk.new w t #[v]).free 0⟩
theorem cell_alloc_l {w : World} {a : Addr} {v : Value} (o : Obj) (h : w.cell? a = some v) : (w.alloc o).cell? a = some v :=
  (World.cell?_of_block (Below.heap_alloc w o a.block (World.block_lt_of_cell? w a h))).trans h
theorem frozen_alloc_l {w : World} {a : Addr} {v : Value} (o : Obj) (h : w.cell? a = some v) (hf : w.frozen? a = false) : (w.alloc o).frozen? a = false :=
  (World.frozen?_of_block (Below.heap_alloc w o a.block (World.block_lt_of_cell? w a h))).trans hf
/-- What a round keeps that the groups read: the cells below n, and block B. -/
def KeepG (n B : Nat) (W W' : World) : Prop := ∀ p : Addr, p.block < n ∨ p.block = B → W'.cell? p = W.cell? p
theorem KeepG.refl (n B : Nat) (W : World) : KeepG n B W W := fun _ _ => rfl
theorem KeepG.trans {n B : Nat} {a b c : World} (h : KeepG n B a b) (k : KeepG n B b c) : KeepG n B a c := fun p hp => (k p hp).trans (h p hp)
theorem mac_groups (A : Option Addr) (len c : Nat) (w : World) :
    Calls Try.prog 60 #[.slice A len c] w fun e w' => e = .returned (.func (.func 73) #[] #[.pointer (some ⟨w.heap.size, 0, none⟩)]) ∧ w' = w.alloc (.cells #[.slice A len c] 36) := by
  go_enter Try.func60, Try.ntmps60
  go_wp2
  go_ret
  exact ⟨rfl, rfl⟩
set_option maxRecDepth 100000 in
set_option maxHeartbeats 2000000 in
theorem groups1_in (n : Nat) (hn : 1 ≤ n) (l Bs n0 : Nat) (A : Option Addr) (c : Nat) (bs : List (BitVec 8)) (hlen : bs.length ≤ 1048576) (hcap : bs.length ≤ c) (J Jx : List (BitVec 64) → World → Prop)
    (hY : ∀ pre x W, J pre W → pre.length < nGroups bs.length → YieldAt Fence.wide (n - 1) Try.prog l #[.int .u64 (W64 x)] W fun e W' =>
      (e = .returned (.bool true) ∧ J (pre ++ [x]) W' ∧ KeepG n0 Bs W W') ∨ (e = .returned (.bool false) ∧ Jx (pre ++ [x]) W'))
    (W : World) (hBs : W.cell? ⟨Bs, 0, none⟩ = some (.slice A bs.length c)) (hr : ∀ (j : Nat) (u : Value), (bcells bs)[j]? = some u → ∃ ad, A = some ad ∧ ad.block < n0 ∧ ad.spot = none ∧ W.cell? ⟨ad.block, ad.off + j, none⟩ = some u) (h0 : J [] W) :
    CallsIn Fence.wide n Try.prog 73 #[.func (.yield l) #[] #[], .pointer (some ⟨Bs, 0, none⟩)] W fun e W' => (∃ v, e = .returned v) ∧
      ((∃ ys, ys = groupsTo bs (nGroups bs.length) ∧ J ys W') ∨ (∃ pre, (∃ k, k ≤ nGroups bs.length ∧ pre = groupsTo bs k) ∧ Jx pre W')) := by
  refine callsIn_of_wp Try.func73 rfl trivial ?_ rfl
  simp only [Try.ntmps73, List.size_toArray, List.length_cons, List.length_nil, Nat.reduceAdd, Nat.reduceSub, Array.replicate_succ, Array.replicate_zero, List.push_toArray, List.append_toArray, List.nil_append, List.cons_append]
  gi_wp2
  gi_loopw [3] (fun i wr => ∃ k : Nat, k ≤ nGroups bs.length ∧ i = .int .i64 (8 * k) ∧ J (groupsTo bs k) wr ∧ KeepG n0 Bs W wr)
    (fun i _ => bs.length + 8 - (intOf i).toNat)
  case atStart => exact ⟨0, Nat.zero_le _, rfl, h0, KeepG.refl _ _ _⟩
  case round =>
    obtain ⟨k, hk, rfl, hJs, hkp⟩ := hrel
    have hbx : wr.cell? ⟨Bs, 0, none⟩ = some (.slice A bs.length c) := (hkp ⟨Bs, 0, none⟩ (.inr rfl)).trans hBs
    by_cases hlt : 8 * k < bs.length
    · have hkn : k < nGroups bs.length := by unfold nGroups; omega
      have hq : (chunk bs k).length ≤ bs.length - 8 * k ∧ (chunk bs k).length ≤ 8 ∧ ((chunk bs k).length = 8 ∨ (chunk bs k).length = bs.length - 8 * k) := by rw [chunk_length]; omega
      obtain ⟨hq1, hq2, hq3⟩ := hq
      obtain ⟨m, hm, hm2⟩ : ∃ m : Nat, min (8 * (k : Int) + 8) (bs.length : Int) = (m : Int) ∧ m = 8 * k + (chunk bs k).length := ⟨8 * k + (chunk bs k).length, by rcases hq3 with h | h <;> omega, rfl⟩
      have hm3 : 8 * k ≤ m := by omega
      have hm4 : m ≤ bs.length := by omega
      clear hq3
      have h00 : 0 < bs.length := by omega
      obtain ⟨⟨b, off, sp⟩, rfl, hbn, hsp, _⟩ := hr 0 (.int .u8 (W8 bs[0])) (by simp [bcells, h00])
      dsimp only at hsp hbn
      subst hsp
      have hcc : ∀ j, (h : 8 * k + j < bs.length) → wr.cell? ⟨b, off + (8 * k + j), none⟩ = some (.int .u8 (W8 bs[8 * k + j])) := fun j h => by
        obtain ⟨ad, he, _, _, hc⟩ := hr (8 * k + j) (.int .u8 (W8 bs[8 * k + j])) (by simp [bcells, h])
        injection he with he
        subst he
        exact (hkp ⟨b, off + (8 * k + j), none⟩ (.inl hbn)).trans hc
      have HC := Lib.hid hcc
      have HM := Lib.hid hm2
      clear hcc hm2
      obtain ⟨wo, rfl⟩ : ∃ wo : World, wo = wr := ⟨_, rfl⟩
      obtain ⟨fn, tmps, assign, body, hy, hR⟩ := hY _ (groupAt bs k) wo hJs (by rw [groupsTo_length]; exact hkn)
      have HY := Lib.hid hy
      clear hy
      gi_wp2
      clear hm
      gi_loop [4, 22] (fun x i => ∃ j : Nat, j ≤ m - 8 * k ∧ i = .int .i64 j ∧ x = .int .u64 (W64 (partVal bs k j))) (fun _ i => m - 8 * k - (intOf i).toNat)
      case atStart => exact ⟨0, by omega, rfl, by rw [partVal_zero]; rfl⟩
      case round =>
        obtain ⟨j, hj, rfl, rfl⟩ := hrel
        by_cases hjl : j < m - 8 * k
        · have hj2 : 8 * k + j < bs.length := by omega
          have hcj := HC.out j hj2
          have hsj := Lib.hid (partVal_succ bs k j (by have := HM.out; omega) hj2)
          rw [← Nat.add_assoc] at hcj
          generalize bs[8 * k + j] = y at *
          have hj8 : j ≤ 8 := by have := HM.out; omega
          gi_wp2
          go_round
          case rel => exact ⟨j + 1, by omega, by go_num, by rw [hsj.out]⟩
          case measure => simp [intOf]; omega
        · obtain rfl : j = m - 8 * k := by omega
          have hpa := partVal_all bs k (m - 8 * k) (by have := HM.out; omega)
          rw [hpa]
          have hy := HY.out
          gi_wp2
          refine hR.mono ?_
          rintro e W3 (⟨rfl, hJ3, hk3⟩ | ⟨rfl, hJx3⟩)
          · gi_wp2
            go_roundw
            case rel => exact ⟨k + 1, by omega, by go_num, by rw [groupsTo_succ]; exact hJ3, hkp.trans hk3⟩
            case measure => simp [intOf]; omega
          · gi_wp2
            refine bodyPost_ret (results_none rfl _ _ _) rfl ?_
            exact ⟨⟨_, rfl⟩, .inr ⟨_, ⟨k + 1, by omega, (groupsTo_succ _ _).symm⟩, hJx3⟩⟩
    · have hkn : k = nGroups bs.length := by unfold nGroups at hk ⊢; omega
      subst hkn
      gi_wp2
      go_end0
      exact ⟨⟨_, rfl⟩, .inl ⟨_, rfl, hJs⟩⟩
theorem groups_stops (n : Nat) (hn : 1 ≤ n) (Bs n0 : Nat) (A : Option Addr) (c : Nat) (bs : List (BitVec 8)) (hlen : bs.length ≤ 1048576) (hcap : bs.length ≤ c) (w0 : World) (hBs : Bs < w0.heap.size) (hn0 : n0 ≤ w0.heap.size)
    (hc : w0.cell? ⟨Bs, 0, none⟩ = some (.slice A bs.length c)) (hr : ∀ (j : Nat) (u : Value), (bcells bs)[j]? = some u → ∃ ad, A = some ad ∧ ad.block < n0 ∧ ad.spot = none ∧ w0.cell? ⟨ad.block, ad.off + j, none⟩ = some u) :
    SeqStopsK Fence.wide n Try.prog 73 #[.pointer (some ⟨Bs, 0, none⟩)] (fun x : BitVec 64 => #[Value.int .u64 (W64 x)]) (KeepG n0 Bs) (fun ys => ys = groupsTo bs (nGroups bs.length)) (fun _ => True) (nGroups bs.length) w0 := fun l J Jx W hW _ _ hY h0 => by
  refine (groups1_in n hn l Bs n0 A c bs hlen hcap J Jx hY W ((hW.cell (p := ⟨Bs, 0, none⟩) hBs).trans hc) (fun j u hu => ?_) h0).mono ?_
  · obtain ⟨ad, he, hlt, hs, hcell⟩ := hr j u hu
    exact ⟨ad, he, hlt, hs, (hW.cell (p := ⟨ad.block, ad.off + j, none⟩) (Nat.lt_of_lt_of_le hlt hn0)).trans hcell⟩
  · rintro e W' ⟨he, ⟨ys, rfl, hj⟩ | ⟨pre, _, hj⟩⟩
    · exact ⟨he, .inl ⟨_, rfl, hj⟩⟩
    · exact ⟨he, .inr ⟨_, trivial, hj⟩⟩
theorem Rd.plain {w : World} {A : Option Addr} {xs : List Value} (h : Rd w A xs) : ∀ (j : Nat) (u : Value), xs[j]? = some u → ∃ ad, A = some ad ∧ ad.block < w.heap.size ∧ ad.spot = none ∧ w.cell? ⟨ad.block, ad.off + j, none⟩ = some u := fun j u hu => by
  obtain ⟨b, off, rfl, hlt, hc⟩ := h.open_ (by cases xs with | nil => simp at hu | cons x xs => simp)
  exact ⟨_, rfl, hlt, rfl, hc j u hu⟩
theorem keeps_below {W W' : World} (h : Below W.heap.size W W') : KeepsOthers W W' := by
  exact ⟨h.size, fun i o ho _ => (h.block i (Array.getElem?_eq_some_iff.1 ho).1).trans ho⟩
set_option maxRecDepth 100000 in
set_option maxHeartbeats 2000000 in
theorem mac_Tag (k : BitVec 64) (A : Option Addr) (c : Nat) (bs : List (BitVec 8)) (w : World) (hr : RdB w A bs) (hlen : bs.length ≤ 1048576) (hcap : bs.length ≤ c) :
    Calls Try.prog 41 #[.int .u64 (W64 k), .slice A bs.length c] w fun e w' => e = .returned (.int .u64 (W64 (tag k bs))) ∧ Below w.heap.size w w' := by
  refine (callsIn_wide (n := 3)).1 ?_
  refine callsIn_of_wp_marks Try.func41 rfl trivial ?_ rfl
  simp only [Try.ntmps41, List.size_toArray, List.length_cons, List.length_nil, Nat.reduceAdd, Nat.reduceSub, Array.replicate_succ, Array.replicate_zero, List.push_toArray, List.append_toArray, List.nil_append, List.cons_append]
  gi_wp2_with fail
  refine ⟨trivial, (callsIn_wide.2 (block_Mix _ _ _)).mono ?_⟩
  rintro e w1 ⟨rfl, hb1⟩
  gi_wp2_with fail
  refine ⟨trivial, (callsIn_wide.2 (mac_groups _ _ _ _)).mono ?_⟩
  rintro e w2 ⟨rfl, rfl⟩
  gi_wp2
  have hsz : w.heap.size + 1 ≤ w1.heap.size := by have := hb1.size; simp at this; omega
  have hw1 : Below w.heap.size w w1 := ((Below.refl _ w).alloc (Nat.le_refl _) _).trans (hb1.mono (by simp))
  have hk1 : w1.cell? ⟨w.heap.size, 0, none⟩ = some (.int .u64 (W64 k)) := (hb1.cell (p := ⟨w.heap.size, 0, none⟩) (by simp)).trans (cell_new_l w _ _).1
  obtain ⟨W1, hW1⟩ : ∃ W1, w1.alloc (Obj.cells #[Value.int IntKind.u64 (W64 (mix k (BitVec.ofNat 64 bs.length)))] 22) = W1 := ⟨_, rfl⟩
  have hx1 : W1.cell? ⟨w1.heap.size, 0, none⟩ = some (.int .u64 (W64 (mix k (BitVec.ofNat 64 bs.length)))) := by rw [← hW1]; exact (cell_new_l w1 _ _).1
  have hf1 : W1.frozen? ⟨w1.heap.size, 0, none⟩ = false := by rw [← hW1]; exact (cell_new_l w1 _ _).2
  have hs1 : W1.heap.size = w1.heap.size + 1 := by rw [← hW1]; simp
  have hk2 : W1.cell? ⟨w.heap.size, 0, none⟩ = some (.int .u64 (W64 k)) := by rw [← hW1]; exact cell_alloc_l _ hk1
  have hB1 : Below w.heap.size w W1 := by rw [← hW1]; exact hw1.alloc (by omega) _
  rw [hW1]
  have hb := cell_new_l W1 (.slice A bs.length c) 36
  rw [hs1] at hb
  have hB0 : Below w.heap.size w (W1.alloc (.cells #[.slice A bs.length c] 36)) := hB1.alloc (by omega) _
  refine wpIn_rangeFunc_ownF rfl (by omega) (gf := 73) (lb := #[.pointer (some ⟨w1.heap.size + 1, 0, none⟩)]) rfl trivial (enters_of Try.func73 (by kernel_rfl) rfl)
    (groups_stops 2 (by omega) (w1.heap.size + 1) w.heap.size A c bs hlen hcap _ (by simp; omega) (by simp; omega) hb.1 (fun j u hu => by
      obtain ⟨ad, he, hlt, hs, hc⟩ := hr.plain j u hu
      exact ⟨ad, he, hlt, hs, (hB0.cell (p := ⟨ad.block, ad.off + j, none⟩) hlt).trans hc⟩))
    (fun h1 h2 => h1.trans h2) (fun W l o o' hl ho hc _ p hp => World.cell?_of_block ((grownBy_putObj' W l o').block p.block (by
        have := (Array.getElem?_eq_some_iff.1 ho).1
        simp at hl
        rcases hp with hp | hp <;> omega) (by
        simp at hl
        intro e
        injection e with e
        rcases hp with hp | hp <;> omega))) (Below.refl _ _) (fun _ => rfl)
    (fun pre W => (W.cell? ⟨w.heap.size, 0, none⟩ = some (.int .u64 (W64 k)) ∧ W.cell? ⟨w1.heap.size, 0, none⟩ = some (.int .u64 (W64 (tagFold k (tagStart k bs.length) pre))) ∧ W.frozen? ⟨w1.heap.size, 0, none⟩ = false ∧ w1.heap.size + 2 ≤ W.heap.size) ∧ Below w.heap.size w W)
    (fun _ _ _ => False)
    (OwnFrom.and (Own.from (fun s A B row hs hg hr => ⟨cell_kept hs.1 hg hr, cell_kept hs.2.1 hg hr, (frozen_kept hs.2.1 hg hr).trans hs.2.2.1, Nat.le_trans hs.2.2.2 hg.size⟩) _) (ownFrom_below (Nat.le_refl _) (by simp; omega)))
    (fun _ _ _ _ _ hs _ _ => hs)
    ⟨⟨cell_alloc_l _ hk2, cell_alloc_l _ hx1, frozen_alloc_l _ hx1 hf1, by simp; omega⟩, hB0⟩
    (fun x => { tmps := #[.int .u64 (W64 k), .slice A bs.length c, .pointer (some ⟨w.heap.size, 0, none⟩), undef, .int .u64 0, .pointer (some ⟨w1.heap.size, 0, none⟩), .int .u64 (W64 x), .int .u64 (W64 k), .slice A bs.length c, .int .i64 bs.length, .int .u64 (W64 (BitVec.ofNat 64 bs.length)), .int .u64 (W64 (mix k (BitVec.ofNat 64 bs.length))), .slice A bs.length c, .func (.func 73) #[] #[.pointer (some ⟨w1.heap.size + 1, 0, none⟩)], .int .u64 (W64 x), undef, undef, undef, undef, undef, undef], defers := [] }) ?assign ?body ?done ?stop
  case assign =>
    intro l x W K hK
    gi_wp2
    exact hK
  case body =>
    rintro l pre x W ⟨⟨hc1, hc2, hc3, hc4⟩, hB⟩ _
    gi_wp2
    refine ⟨trivial, (CallsIn.inRound l (callsIn_wide.2 (block_Mix _ _ _))).mono ?_⟩
    rintro e w3 ⟨rfl, hb3⟩
    have hd1 := (hb3.cell (p := ⟨w.heap.size, 0, none⟩) (by show w.heap.size < _; omega)).trans hc1
    have hd2 := (hb3.cell (p := ⟨w1.heap.size, 0, none⟩) (by show w1.heap.size < _; omega)).trans hc2
    have hd3 := (hb3.frozen (p := ⟨w1.heap.size, 0, none⟩) (by show w1.heap.size < _; omega)).trans hc3
    have hT := Lib.hid (tagFold_snoc k (tagStart k bs.length) pre x)
    gi_wp2
    have hne : (⟨w1.heap.size, 0, none⟩ : Addr) ≠ ⟨w.heap.size, 0, none⟩ := by intro e; injection e; omega
    refine ⟨(keeps_below hb3).trans (KeepsOthers.setCell _ _ _), ?_, ⟨(World.cell?_setCell_other _ _ _ _ hne).trans hd1, ?_, ?_, ?_⟩, (hB.trans (hb3.mono hB.size)).setCell (p := ⟨w1.heap.size, 0, none⟩) (by show w.heap.size ≤ w1.heap.size; omega) _⟩
    · intro p hp
      have hpl : p.block < W.heap.size := by rcases hp with hp | hp <;> omega
      refine (World.cell?_setCell_other _ _ _ _ ?_).trans (hb3.cell hpl)
      rintro rfl
      dsimp only at hp
      omega
    · rw [hT.out]; exact World.cell?_setCell_same' _ _ _ (by rw [hd2]; rfl)
    · rw [World.frozen?_setCell]; exact hd3
    · have := hb3.size; simp; omega
  case done =>
    rintro D ys W hD rfl ⟨⟨hc1, hc2, hc3, hc4⟩, hB⟩ hK
    gi_wp2
    refine ⟨by simp, .inl ⟨_, _, rfl, run_takeDeferred hK, ?_⟩⟩
    exact ⟨_, results_tmp rfl _ _ _, rfl, hB.trans (belowK_b (w := w) (Nat.le_refl _) W D _ _ (by simp at hD; omega) hK rfl rfl)⟩
  case stop =>
    rintro D c pre W _ _ h _
    exact h.elim
end Go.Proofs.Ytbkaeoaepmeceaa
