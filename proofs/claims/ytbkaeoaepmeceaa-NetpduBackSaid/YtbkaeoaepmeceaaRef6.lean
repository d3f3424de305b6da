/- Contracts of the functions of the reference of layer 6. -/
import Derived.Test.YtbkaeoaepmeceaaRef2
import Derived.Test.YtbkaeoaepmeceaaRet
namespace Go.Proofs.Ytbkaeoaepmeceaa
set_option maxRecDepth 100000
open Go.ChangeShapes Go.WideShapes Go.ChangeAt Go.RowKit
set_option linter.unusedVariables false

theorem ref6_Tag (k : BitVec 64) (A : Option Addr) (c : Nat) (bs : List (BitVec 8)) (w : World) (hr : RdB w A bs) (hlen : bs.length ≤ 1048576) (hcap : bs.length ≤ c) :
    Calls Try.prog 58 #[.int .u64 (W64 k), .slice A bs.length c] w fun e w' => e = .returned (.int .u64 (W64 (tag k bs))) ∧ Below w.heap.size w w' := by
  go_enter Try.func58, Try.ntmps58
  go_wp2_with fail
  refine (ref5_Mix _ _ _).mono ?_; rintro e w1 ⟨rfl, hb1⟩
  go_wp2
  go_loopw [5, 6] (fun x i wr => ∃ j : Nat, j ≤ nGroups bs.length ∧ i = .int .i64 (8 * j : Nat) ∧ x = .int .u64 (W64 (tagFold k (tagStart k bs.length) (groupsTo bs j))) ∧ Below w.heap.size w wr) (fun _ i _ => bs.length + 8 - (intOf i).toNat)
  case atStart => exact ⟨0, by omega, rfl, rfl, hb1⟩
  case round =>
    obtain ⟨j, hj, rfl, rfl, hb⟩ := hrel
    by_cases hlt : 8 * j < bs.length
    · have hjn : j < nGroups bs.length := by unfold nGroups; omega
      have hq : (chunk bs j).length ≤ bs.length - 8 * j ∧ (chunk bs j).length ≤ 8 ∧ ((chunk bs j).length = 8 ∨ (chunk bs j).length = bs.length - 8 * j) := by rw [chunk_length]; omega
      obtain ⟨hq1, hq2, hq3⟩ := hq
      obtain ⟨m, hm, hm2⟩ : ∃ m : Nat, min (8 * (j : Int) + 8) (bs.length : Int) = (m : Int) ∧ m = 8 * j + (chunk bs j).length := ⟨8 * j + (chunk bs j).length, by rcases hq3 with h | h <;> omega, rfl⟩
      obtain ⟨b, off, rfl, hbn, _⟩ := hr.open_ (by rw [bcells_length]; omega)
      have hrc : RdB w (some ⟨b, off + 8 * j, none⟩) (chunk bs j) := RdB.take (rd_cut hr hbn (8 * j)) 8
      have hv := fun cc => ref2_Value (some ⟨b, off + 8 * j, none⟩) cc (chunk bs j) wr (hrc.to hb) (by omega)
      have hm3 : 8 * j ≤ m := by omega
      have hm4 : m ≤ bs.length := by omega
      rw [show (chunk bs j).length = m - 8 * j by omega] at hv
      have HV := Lib.hid hv
      have HM := Lib.hid hm2
      have HT := Lib.hid (tagFold_snoc k (tagStart k bs.length) (groupsTo bs j) (groupAt bs j))
      clear hv hm2 hq3 hq1 hq2
      go_wp2_with fail
      refine (HV.out _).mono ?_; rintro e w2 ⟨rfl, rfl⟩
      go_wp2_with fail
      refine (ref5_Mix _ _ _).mono ?_; rintro e w3 ⟨rfl, hb3⟩
      rw [show leVal (chunk bs j) = groupAt bs j from rfl, ← HT.out, ← groupsTo_succ]
      go_wp2
      go_roundw
      case rel => exact ⟨j + 1, by omega, by go_num, rfl, hb.trans (hb3.mono hb.size)⟩
      case measure => simp [intOf]; omega
    · have hjn : j = nGroups bs.length := by unfold nGroups at hj ⊢; omega
      subst hjn
      go_wp2
      go_ret
      exact ⟨rfl, hb⟩
theorem ref6_stream (k nonce : BitVec 64) (n : Nat) (w : World) (hn : n ≤ 1048576) :
    Calls Try.prog 66 #[.int .u64 (W64 k), .int .u64 (W64 nonce), .int .i64 n] w (RetR w (stream k nonce n)) := by
  obtain ⟨i0, hi0, hz0, hz1, hz2⟩ := info_parts info_u8
  go_enter Try.func66, Try.ntmps66
  go_wp2_with fail
  refine (ref5_Mix _ _ _).mono ?_; rintro e w1 ⟨rfl, hb1⟩
  have hb1' : Below w.heap.size w w1 := ((Below.refl _ w).alloc (Nat.le_refl _) _).trans (hb1.mono (by simp))
  have hown0 := own_to (World.ownsRow_lit w #[] 0 (e := 5) (size := 1) (Nat.le_refl _) (by simp only [maxLen]; omega) rfl) hb1
  go_wp2
  go_loopw [7, 9] (fun v i wr => ∃ (j : Nat) (A' : Option Addr) (c' : Nat), j ≤ nGroups n ∧ i = .int .i64 j ∧ v = .slice A' (j * 8) c' ∧ wr.ownsRow w.heap.size 5 1 (.slice A' (j * 8) c') (j * 8) (bcells (nums8 (streamNums k nonce j))) ∧ Below w.heap.size w wr)
    (fun _ i _ => nGroups n - (intOf i).toNat)
  case atStart => exact ⟨0, _, _, by omega, rfl, rfl, hown0, hb1'⟩
  case round =>
    obtain ⟨j, A', c', hj, rfl, rfl, hown, hb⟩ := hrel
    by_cases hlt : j * 8 < n
    · have hjn : j < nGroups n := by unfold nGroups; omega
      have HS := Lib.hid (streamNums_succ k nonce j)
      have hj9 : j ≤ 131072 := by unfold nGroups at hj; omega
      go_wp2_with fail
      refine (ref5_Mix _ _ _).mono ?_; rintro e w3 ⟨rfl, hb3⟩
      go_wp2_with fail
      refine (ref2_Num 8 _ _ (by omega) (by omega)).mono ?_; rintro e w4 ⟨A4, c4, rfl, ho4, hb4⟩
      have hown4 := own_to (own_to hown hb3) hb4
      have hb14 := (hb.trans (hb3.mono hb.size)).trans (hb4.mono (Nat.le_trans hb.size hb3.size))
      have hr4 : RdB w4 A4 _ := Rd.of_own ho4
      go_wp2_with (at_builtin; refine wpList_append_rd _ rfl _ _ 36 rfl w.heap.size 5 i0 _ 1 1 Try.underlying36 hi0 hz0 hz1 hz2 rfl (by omega) _ _ _ rfl hown4 A4 8 c4 _ rfl hr4 (by rw [bcells_length, numB_length]; rfl) (bcells_one _) (by simp only [maxLen]; omega) (by omega) hb14.size ?_; intro A5 c5 w5 hown5 hb5 _)
      go_roundw
      case rel => exact ⟨j + 1, A5, c5, by omega, by go_num, by congr 1; omega, by rw [HS.out, nums8_snoc, bcells_append, show (j + 1) * 8 = j * 8 + 8 by omega]; exact hown5, hb14.trans hb5⟩
      case measure => simp [intOf]; omega
    · have hjn : j = nGroups n := by unfold nGroups at hj ⊢; omega
      have hcn := (own_cap hown).1
      have hnc : n ≤ c' := by omega
      have HJ := Lib.hid hjn
      clear hjn
      go_wp2
      go_ret
      refine ⟨A', c', by rw [stream_length]; rfl, ?_, by rw [stream_length]; exact hnc, hb⟩
      unfold stream
      rw [← HJ.out]
      exact RdB.take (Rd.of_own hown) n
theorem ref6_Input (nonce : BitVec 64) (A B : Option Addr) (c d : Nat) (header cs : List (BitVec 8)) (w : World) (hra : RdB w A header) (hrb : RdB w B cs) (hla : header.length ≤ 65536) (hlb : cs.length ≤ 65536) :
    Calls Try.prog 75 #[.int .u64 (W64 nonce), .slice A header.length c, .slice B cs.length d] w (RetB w (tagInput nonce header cs)) := by
  obtain ⟨i0, hi0, hz0, hz1, hz2⟩ := info_parts info_u8
  have HN := Lib.hid (num32 header.length (by omega))
  go_enter Try.func75, Try.ntmps75
  go_wp2_with fail
  refine (ref2_Num 8 _ _ (by omega) (by omega)).mono ?_; rintro e w1 hp
  obtain ⟨A1, c1, rfl, ho1, hb1⟩ := hp.at_ (n := 8) rfl
  go_wp2_with fail
  refine (ref2_Num 4 _ _ (by omega) (by omega)).mono ?_; rintro e w2 hp
  obtain ⟨A2, c2, rfl, ho2, hb2⟩ := hp.at_ (n := 4) rfl
  have hr2 : RdB w2 A2 _ := Rd.of_own ho2
  have ho1' := own_to ho1 hb2
  have hb12 := hb1.trans (hb2.mono hb1.size)
  go_wp2_with (at_builtin; first
    | (refine wpList_append_rd _ rfl _ _ 36 rfl w.heap.size 5 i0 _ 1 1 Try.underlying36 hi0 hz0 hz1 hz2 rfl (by omega) _ _ _ rfl ho1' A2 4 c2 _ rfl hr2 (by rw [bcells_length, numB_length]; rfl) (bcells_one _) (by simp only [maxLen]; omega) (by omega) hb12.size ?_; intro A3 c3 w3 ho3 hb3 _)
    | (refine wpList_append_rd _ rfl _ _ 36 rfl w.heap.size 5 i0 _ 1 1 Try.underlying36 hi0 hz0 hz1 hz2 rfl (by omega) _ _ _ rfl ho3 A header.length c _ rfl (hra.to (hb12.trans hb3)) (by rw [bcells_length]; omega) (bcells_one _) (by simp only [maxLen]; omega) (by omega) (hb12.trans hb3).size ?_; intro A4 c4 w4 ho4 hb4 _)
    | (refine wpList_append_rd _ rfl _ _ 36 rfl w.heap.size 5 i0 _ 1 1 Try.underlying36 hi0 hz0 hz1 hz2 rfl (by omega) _ _ _ rfl ho4 B cs.length d _ rfl (hrb.to ((hb12.trans hb3).trans hb4)) (by rw [bcells_length]; omega) (bcells_one _) (by simp only [maxLen]; omega) (by omega) ((hb12.trans hb3).trans hb4).size ?_; intro A5 c5 w5 ho5 hb5 _))
  go_ret
  refine ⟨A5, c5, ?_, ?_, ((hb12.trans hb3).trans hb4).trans hb5⟩
  · rw [tagInput_length]; rfl
  · rw [tagInput_length]
    unfold tagInput
    rw [HN.out, bcells_append, bcells_append, bcells_append]
    exact ho5
theorem ref6_end (k nonce : BitVec 64) (A B : Option Addr) (c d : Nat) (header cs : List (BitVec 8)) (w : World) (hra : RdB w A header) (hrb : RdB w B cs) (hla : header.length ≤ 65536) (hlb : cs.length ≤ 65536) :
    Calls Try.prog 67 #[.int .u64 (W64 k), .int .u64 (W64 nonce), .slice A header.length c, .slice B cs.length d] w (RetB w (tailB k nonce header cs)) := by
  have hl : (tagInput nonce header cs).length ≤ 1048576 := by rw [tagInput_length]; omega
  have HT := Lib.hid (show numB (Int.toNat 4) (tag k (tagInput nonce header cs)) = tailB k nonce header cs from rfl)
  go_enter Try.func67, Try.ntmps67
  go_wp2_with fail
  refine (ref6_Input _ _ _ _ _ _ _ _ hra hrb hla hlb).mono ?_; rintro e w1 ⟨A1, c1, rfl, ho1, hb1⟩
  go_wp2_with fail
  refine (ref6_Tag k A1 c1 (tagInput nonce header cs) w1 (Rd.of_own ho1) hl (own_cap ho1).1).mono ?_; rintro e w2 ⟨rfl, hb2⟩
  generalize tagInput nonce header cs = ti at *
  generalize tag k ti = tg at *
  go_wp2_with fail
  refine (ref2_Num 4 _ _ (by omega) (by omega)).mono ?_
  rw [HT.out]
  rintro e w3 hp
  obtain ⟨A3, c3, rfl, ho3, hb3⟩ := RetB.at_ (n := 4) hp (tailB_length _ _ _ _)
  go_wp2
  go_ret
  have h12 := hb1.trans (hb2.mono hb1.size)
  unfold RetB
  rw [tailB_length]
  exact ⟨A3, c3, rfl, own_mono ho3 h12.size, h12.trans (hb3.mono h12.size)⟩
theorem ref6_Seal (k nonce : BitVec 64) (A B : Option Addr) (c d : Nat) (header plain : List (BitVec 8)) (w : World) (hra : RdB w A header) (hrb : RdB w B plain) (hla : header.length ≤ 65536) (hlb : plain.length ≤ 65536) :
    Calls Try.prog 46 #[.int .u64 (W64 k), .int .u64 (W64 nonce), .slice A header.length c, .slice B plain.length d] w (RetB w (sealB k nonce header plain)) := by
  obtain ⟨i0, hi0, hz0, hz1, hz2⟩ := info_parts info_u8
  have hcl := crypt_length k nonce plain
  go_enter Try.func46, Try.ntmps46
  go_wp2_with fail
  refine (ref6_stream _ _ _ _ (by omega)).mono ?_; rintro e w1 ⟨A1, c1, rfl, hr1, hc1, hb1⟩
  go_wp2_with fail
  refine (ref2_Xor _ _ _ _ _ _ _ (hrb.to hb1) hr1 (by omega) (by rw [stream_length]; omega)).mono ?_; rintro e w2 hp
  obtain ⟨A2, c2, rfl, ho2, hb2⟩ := RetB.at_ (bs := crypt k nonce plain) hp hcl
  have h12 := hb1.trans (hb2.mono hb1.size)
  have hx : RdB w2 A2 (crypt k nonce plain) := Rd.of_own ho2
  have hend := ref6_end k nonce A A2 c c2 header _ w2 (hra.to h12) hx hla (by omega)
  rw [hcl] at hend
  have HE := Lib.hid hend
  clear hend hcl
  go_wp2_with fail
  refine HE.out.mono ?_; rintro e w3 hp
  obtain ⟨A3, c3, rfl, ho3, hb3⟩ := hp.at_ (n := 4) (tailB_length _ _ _ _)
  have h13 := h12.trans (hb3.mono h12.size)
  have ho23 := own_mono (own_to ho2 hb3) hb1.size
  have hr3 : RdB w3 A3 _ := Rd.of_own ho3
  go_wp2_with (at_builtin; refine wpList_append_rd _ rfl _ _ 36 rfl w.heap.size 5 i0 _ 1 1 Try.underlying36 hi0 hz0 hz1 hz2 rfl (by omega) _ _ _ rfl ho23 A3 4 c3 _ rfl hr3 (by rw [bcells_length, tailB_length]) (bcells_one _) (by simp only [maxLen]; omega) (by omega) h13.size ?_; intro A4 c4 w4 ho4 hb4 _)
  go_wp2
  go_ret
  refine ⟨A4, c4, ?_, ?_, h13.trans hb4⟩
  · rw [sealB_length]; rfl
  · rw [sealB_length]
    unfold sealB
    rw [bcells_append]
    exact ho4
set_option maxHeartbeats 1000000 in
theorem ref6_Open (k nonce : BitVec 64) (A B : Option Addr) (c d : Nat) (header sealed : List (BitVec 8)) (w : World) (hra : RdB w A header) (hrb : RdB w B sealed) (hla : header.length ≤ 65536) (hlb : sealed.length ≤ 65536) (hd : sealed.length ≤ d) :
    Calls Try.prog 50 #[.int .u64 (W64 k), .int .u64 (W64 nonce), .slice A header.length c, .slice B sealed.length d] w (RetO w (openB k nonce header sealed)) := by
  by_cases h4 : sealed.length < 4
  · have ho : openB k nonce header sealed = ([], 3) := by unfold openB; rw [if_pos h4]
    rw [ho]
    go_enter Try.func50, Try.ntmps50
    go_wp2
    go_ret2
    exact ⟨none, 0, rfl, Rd.nil _ _, Nat.zero_le _, Below.refl _ _⟩
  · obtain ⟨m, hm⟩ : ∃ m, sealed.length = m + 4 := ⟨sealed.length - 4, by omega⟩
    obtain ⟨b, off, rfl, hbn, _⟩ := hrb.open_ (by rw [bcells_length]; omega)
    have hrc : RdB w (some ⟨b, off + m, none⟩) (sealed.drop m) := rd_cut hrb hbn m
    have hrp : RdB w (some ⟨b, off, none⟩) (sealed.take m) := RdB.take hrb m
    have hlt : (sealed.take m).length = m := by rw [List.length_take]; omega
    have hld : (sealed.drop m).length = 4 := by rw [List.length_drop]; omega
    have ho : openB k nonce header sealed = if tailB k nonce header (sealed.take m) = sealed.drop m then (crypt k nonce (sealed.take m), 0) else ([], 15) := by
      unfold openB; rw [if_neg h4, hm, Nat.add_sub_cancel]
    have hend : ∀ W, Below w.heap.size w W → Calls Try.prog 67 #[.int .u64 (W64 k), .int .u64 (W64 nonce), .slice A header.length c, .slice (some ⟨b, off, none⟩) m d] W (RetB W (tailB k nonce header (sealed.take m))) := fun W hW => by
      have := ref6_end k nonce A (some ⟨b, off, none⟩) c d header (sealed.take m) W (hra.to hW) (hrp.to hW) hla (by omega)
      rwa [hlt] at this
    have hsame : ∀ W, Below w.heap.size w W → ∀ A1 c1 cc, RdB W A1 (tailB k nonce header (sealed.take m)) → Calls Try.prog 20 #[.slice A1 4 c1, .slice (some ⟨b, off + m, none⟩) 4 cc] W fun e w' => e = .returned (.bool (decide (tailB k nonce header (sealed.take m) = sealed.drop m))) ∧ W = w' := fun W hW A1 c1 cc h1 => by
      have := ref2_Same A1 (some ⟨b, off + m, none⟩) c1 cc _ _ W h1 (hrc.to hW)
      rwa [hld, tailB_length] at this
    have hstr := ref6_stream k nonce m
    have hcl := crypt_length k nonce (sealed.take m)
    have hxor : ∀ W, Below w.heap.size w W → ∀ A1 c1, RdB W A1 (stream k nonce m) → Calls Try.prog 65 #[.slice (some ⟨b, off, none⟩) m d, .slice A1 m c1] W (RetB W (crypt k nonce (sealed.take m))) := fun W hW A1 c1 h1 => by
      have := ref2_Xor (some ⟨b, off, none⟩) A1 d c1 (sealed.take m) (stream k nonce m) W (hrp.to hW) h1 (by omega) (by rw [stream_length]; omega)
      rw [hlt, stream_length] at this
      unfold crypt
      rwa [hlt]
    rw [hlt] at hcl
    obtain ⟨q, hq⟩ : ∃ q : Bool, decide (tailB k nonce header (sealed.take m) = sealed.drop m) = q := ⟨_, rfl⟩
    have HO := Lib.hid (show openB k nonce header sealed = if q = true then (crypt k nonce (sealed.take m), 0) else ([], 15) by rw [ho, ← hq]; simp only [decide_eq_true_eq])
    simp only [hq] at hsame
    rw [hm]
    have HE := Lib.hid hend
    have HSm := Lib.hid hsame
    have HX := Lib.hid hxor
    have hmd : m + 4 ≤ d := by omega
    have hm6 : m ≤ 65536 := by omega
    have HT := Lib.hid (tailB_length k nonce header (sealed.take m))
    have HCL := Lib.hid hcl
    clear hend hsame hxor ho hm hlt hld h4 hd hrc hrp hq hcl
    generalize openB k nonce header sealed = R at *
    generalize crypt k nonce (sealed.take m) = cr at *
    generalize tailB k nonce header (sealed.take m) = tl at *
    cases q
    · have hO := HO.out
      rw [if_neg (by decide)] at hO
      subst hO
      clear HO HX HCL
      go_enter Try.func50, Try.ntmps50
      go_wp2
      go_region_with (first
        | (go_at_call 67; refine (HE.out _ (by first | exact Below.refl _ _ | exact below_drewN (Below.refl _ _) _ | exact (Below.refl _ _).drew)).mono ?_; rintro e w1 hp; obtain ⟨A1, c1, rfl, ho1, hb1⟩ := hp.at_ (n := 4) HT.out; have hr1 : RdB w1 A1 tl := Rd.of_own ho1)
        | (go_at_call 20; refine (HSm.out _ ((Below.refl _ _).drew.trans hb1) _ _ _ hr1).mono ?_; rintro e w2 ⟨rfl, rfl⟩))
      all_goals
        go_wp2
        go_ret2
        exact ⟨none, 0, rfl, Rd.nil _ _, Nat.zero_le _, ((Below.refl w.heap.size w).drew).trans hb1⟩
    · have hO := HO.out
      rw [if_pos rfl] at hO
      subst hO
      have HSL := Lib.hid (stream_length k nonce m)
      clear HO
      go_enter Try.func50, Try.ntmps50
      go_wp2
      go_region_with (first
        | (go_at_call 67; refine (HE.out _ (by first | exact Below.refl _ _ | exact below_drewN (Below.refl _ _) _ | exact (Below.refl _ _).drew)).mono ?_; rintro e w1 hp; obtain ⟨A1, c1, rfl, ho1, hb1⟩ := hp.at_ (n := 4) HT.out; have hr1 : RdB w1 A1 tl := Rd.of_own ho1)
        | (go_at_call 20; refine (HSm.out _ ((Below.refl _ _).drew.trans hb1) _ _ _ hr1).mono ?_; rintro e w2 ⟨rfl, rfl⟩))
      all_goals
        have hb01 := ((Below.refl w.heap.size w).drew).trans hb1
        go_wp2_with fail
        refine (hstr _ (by omega)).mono ?_
        rintro e w3 hp3
        obtain ⟨A3, c3, rfl, hr3, hc3, hb3⟩ := hp3.at_ HSL.out
        have hb03 := hb01.trans (hb3.mono hb01.size)
        go_wp2_with fail
        refine (HX.out _ hb03 _ _ hr3).mono ?_
        rintro e w4 hp4
        obtain ⟨A4, c4, rfl, ho4, hb4⟩ := hp4.at_ HCL.out
        go_wp2
        go_ret2
        unfold RetO
        dsimp only
        rw [HCL.out]
        exact ⟨A4, c4, rfl, Rd.of_own ho4, (own_cap ho4).1, hb03.trans (hb4.mono hb03.size)⟩
end Go.Proofs.Ytbkaeoaepmeceaa
