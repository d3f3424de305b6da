import Derived.Test.YtbkaeoaepmeceaaTake
import Derived.Test.YtbkaeoaepmeceaaMac2
namespace Go.Proofs.Ytbkaeoaepmeceaa
set_option maxRecDepth 100000
open Go.ChangeShapes Go.WideShapes Go.ChangeAt Go.RowKit
set_option linter.unusedVariables false
def RetTake (w : World) (xs : List (BitVec 64)) (rest : List (BitVec 8)) (e : Ending) (w' : World) : Prop :=
  ∃ (A1 : Option Addr) (c1 : Nat) (A2 : Option Addr) (c2 : Nat), e = .returned (.tuple #[.slice A1 xs.length c1, .slice A2 rest.length c2, .int .i64 0]) ∧ Rd w' A1 (ucells xs) ∧ RdB w' A2 rest ∧ Below w.heap.size w w'
theorem octets_Take (A : Option Addr) (c : Nat) (bs : List (BitVec 8)) (B : Option Addr) (d : Nat) (ns : List Nat) (w : World) (hr : RdB w A bs) (hc : bs.length ≤ c) (hs : Rd w B (ncells ns)) (hn : ∀ n ∈ ns, 1 ≤ n ∧ n ≤ 8) (hsum : ns.sum ≤ bs.length) (hl : bs.length ≤ 1048576) (hnl : ns.length ≤ 65536) :
    Calls Try.prog 68 #[.slice A bs.length c, .slice B ns.length d] w (RetTake w (valsTo ns bs ns.length) (bs.drop ns.sum)) := by
  obtain ⟨i0, hi0, hz0, hz1, hz2⟩ := info_parts info_u64
  go_enter Try.func68, Try.ntmps68
  go_wp2
  go_loopw [7, 17] (fun v i wr => ∃ (k : Nat), k ≤ ns.length ∧ i = .int .i64 k ∧ v = .int .i64 (sumTo ns k : Nat) ∧ w = wr)
    (fun _ i _ => ns.length - (intOf i).toNat)
  case atStart => exact ⟨0, by omega, rfl, rfl, rfl⟩
  case round =>
    obtain ⟨k, hk, rfl, rfl, rfl⟩ := hrel
    by_cases hlt : k < ns.length
    · have hsk := sumTo_succ ns k hlt
      have hsl := sumTo_le ns (k + 1)
      obtain ⟨ad, rfl, hlt2, hcell⟩ := hs k (.int .i64 (ns[k] : Nat)) (by simp [ncells, hlt])
      have hnk := hn ns[k] (List.getElem_mem hlt)
      have hq2 : sumTo ns k + ns[k] ≤ 1048576 := by omega
      have HSK := Lib.hid hsk
      generalize ns[k] = q at *
      clear hsk
      go_wp2_with (go_at_call 74; refine (octets_sized _ _ (by omega)).mono ?_; rintro e w' ⟨rfl, rfl⟩)
      go_roundw
      case rel => exact ⟨k + 1, by omega, by go_num, by rw [HSK.out]; go_num, trivial⟩
      case measure => simp [intOf]; omega
    · obtain rfl : k = ns.length := by omega
      have hfin : decide ((bs.length : Int) < (sumTo ns ns.length : Nat)) = false := by
        have := sumTo_le ns ns.length
        exact decide_eq_false (by omega)
      have hfin2 : decide (bs.length < sumTo ns ns.length) = false := by
        have := sumTo_le ns ns.length
        exact decide_eq_false (by omega)
      go_wp2
      go_loopw [0, 10, 34] (fun x v i wr => ∃ (k : Nat) (A' : Option Addr) (c' : Nat) (A1 : Option Addr) (c1 : Nat), k ≤ ns.length ∧ i = .int .i64 k ∧ x = .slice A' (bs.drop (sumTo ns k)).length c' ∧ (bs.drop (sumTo ns k)).length ≤ c' ∧ RdB w A' (bs.drop (sumTo ns k)) ∧ v = .slice A1 (valsTo ns bs k).length c1 ∧ wr.ownsRow w.heap.size 22 1 (.slice A1 (valsTo ns bs k).length c1) (valsTo ns bs k).length (ucells (valsTo ns bs k)) ∧ Below w.heap.size w wr)
        (fun _ _ i _ => ns.length - (intOf i).toNat)
      case atStart => exact ⟨0, A, c, none, 0, by omega, rfl, by simp [sumTo], by simp [sumTo]; exact hc, by simpa [sumTo] using hr, rfl, ⟨by simp [ucells, valsTo], .inl ⟨by simp [valsTo], by simp [valsTo]⟩⟩, Below.refl _ _⟩
      case round =>
        obtain ⟨k, A', c', A1, c1, hk, rfl, rfl, hcc, hrb0, rfl, hown, hb⟩ := hrel
        have hrb := hrb0.to hb
        by_cases hlt : k < ns.length
        · have hsk := sumTo_succ ns k hlt
          have hsl := sumTo_le ns (k + 1)
          have hvk := Lib.hid (valsTo_succ ns bs k hlt)
          have hvl := valsTo_len ns bs k
          have hdl : (bs.drop (sumTo ns k)).length = bs.length - sumTo ns k := List.length_drop
          obtain ⟨ad, rfl, hlt2, hcell⟩ := (hs.to hb) k (.int .i64 (ns[k] : Nat)) (by simp [ncells, hlt])
          have hnk := hn ns[k] (List.getElem_mem hlt)
          have hq2 : sumTo ns k + ns[k] ≤ bs.length := by omega
          have HSK := Lib.hid hsk
          generalize ns[k] = q at *
          clear hsk
          go_wp2
          go_loop [13, 39] (fun x i => ∃ j : Nat, j ≤ q ∧ i = .int .i64 j ∧ x = .int .u64 (W64 (leVal ((bs.drop (sumTo ns k)).take j)))) (fun _ i => q - (intOf i).toNat)
          case atStart => exact ⟨0, by omega, rfl, rfl⟩
          case round =>
            obtain ⟨j, hj, rfl, rfl⟩ := hrel
            by_cases hjl : j < q
            · have hst := Lib.hid (leVal_step bs (sumTo ns k) j (by omega))
              obtain ⟨b, off, rfl, hblt, hcb⟩ := hrb.open_ (by rw [bcells_length]; omega)
              have hcj := hcb j (.int .u8 (W8 bs[sumTo ns k + j])) (by simp [bcells, List.getElem?_drop, List.getElem?_eq_getElem (show sumTo ns k + j < bs.length by omega)])
              clear hcb
              generalize bs[sumTo ns k + j] = y at *
              go_wp2
              go_round
              case rel => exact ⟨j + 1, by omega, by go_num, by rw [hst.out]⟩
              case measure => simp [intOf]; omega
            · obtain rfl : j = q := by omega
              have hq1 := Lib.hid (valsTo_len ns bs k)
              generalize leVal ((bs.drop (sumTo ns k)).take j) = y at *
              have hcut := Lib.hid (hrb0.cut j c' hcc)
              clear hrb hrb0
              rw [List.drop_drop] at *
              go_wp2_with (at_builtin; refine wpList_append_rd _ rfl _ _ 60 rfl w.heap.size 22 i0 _ 1 8 Try.underlying60 hi0 hz0 hz1 hz2 rfl (by omega) _ _ _ rfl (hown.alloc _) (some ⟨wr.heap.size, 0, none⟩) 1 1 [.int .u64 (W64 y)] rfl (Rd.new _ _ _) rfl (ucells_one [y]) (by simp only [maxLen]; omega) (by omega) (by have := hb.size; simp; omega) ?_; intro A3 c3 w3 hown3 hb3 hg3)
              go_roundw
              case rel =>
                refine ⟨k + 1, cutA A' j c', c' - j, A3, c3, by omega, by go_num, ?_, ?_, ?_, ?_, ?_, (hb.alloc hb.size _).trans hb3⟩
                · rw [HSK.out, List.length_drop, Nat.sub_add_eq]; rfl
                · rw [HSK.out, List.length_drop]; omega
                · rw [HSK.out]; exact hcut.out
                · rw [hvk.out, List.length_append, hvl]; rfl
                · rw [hvk.out, List.length_append, ucells_append]; exact hown3
              case measure => simp [intOf]; omega
        · obtain rfl : k = ns.length := by omega
          rw [sumTo_all] at hrb
          have hdl : (bs.drop ns.sum).length = bs.length - ns.sum := List.length_drop
          have HJ := Lib.hid (fun t => join_row wr #[.slice A' (bs.length - ns.sum) c'] t [(A', c', bs.drop ns.sum)] 1 (bs.drop ns.sum) (by simp [pcells]) rfl (by simp) (fun q hq => by obtain rfl : q = _ := List.mem_singleton.1 hq; exact hrb) (by omega) (by decide))
          have HD := Lib.hid hdl
          have HU := Lib.hid (show sumTo ns ns.length = ns.sum from sumTo_all ns)
          have HL := Lib.hid (valsTo_len ns bs ns.length)
          clear hdl
          rw [HU.out]
          go_wp2_with fail
          refine (HJ.out _).mono ?_; rintro e w2 ⟨A2, c2, rfl, ho2, hb2⟩
          go_wp2
          go_returns
          exact ⟨A1, c1, A2, c2, by rw [HD.out]; rfl, Rd.of_own (own_to hown hb2), Rd.of_own ho2, hb.trans (hb2.mono hb.size)⟩
end Go.Proofs.Ytbkaeoaepmeceaa
