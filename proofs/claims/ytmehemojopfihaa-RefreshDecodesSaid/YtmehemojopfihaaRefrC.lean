/- More contracts of layer 52 (refresh): the key for sending, lists of keys, the bytes of a beacon. -/
import Derived.Test.YtmehemojopfihaaRefrA
import Derived.Test.YtmehemojopfihaaRet
namespace Go.Proofs.Ytmehemojopfihaa
set_option maxRecDepth 100000
open Go.ChangeShapes Go.WideShapes Go.ChangeAt Go.RowKit
set_option linter.unusedVariables false
set_option linter.unusedSimpArgs false

theorem rf_Sending (k : KS) (w : World) :
    Calls Try.prog 20 #[.agg (ksA k)] w fun e w' => e = .returned (.agg (nkA (sendK k))) ∧ Below w.heap.size w w' := by
  have hR := fun W => rf_Receiving k W
  obtain ⟨ph, ⟨a1, a2, a3, a4, a5⟩, ⟨b1, b2, b3, b4, b5⟩⟩ := k
  unfold ksA at hR ⊢
  dsimp only at hR ⊢
  by_cases h1 : ph = 1
  · subst h1
    have H := Lib.hid (show ∀ W, Calls Try.prog 23 #[.agg #[.int .i64 1, .int .u64 (W64 a1), .int .i64 a2, .int .u64 (W64 a3), .int .u64 (W64 a4), .int .u64 (W64 a5), .int .u64 (W64 b1), .int .i64 b2, .int .u64 (W64 b3), .int .u64 (W64 b4), .int .u64 (W64 b5)]] W fun e w' => e = .returned (.slice (some ⟨W.heap.size + 1, 0, none⟩) 2 2) ∧ w' = (W.alloc (.cells #[.int .i64 1, .int .u64 (W64 a1), .int .i64 a2, .int .u64 (W64 a3), .int .u64 (W64 a4), .int .u64 (W64 a5), .int .u64 (W64 b1), .int .i64 b2, .int .u64 (W64 b3), .int .u64 (W64 b4), .int .u64 (W64 b5)] 27)).alloc (.cells #[.int .u64 (W64 a1), .int .i64 a2, .int .u64 (W64 a3), .int .u64 (W64 a4), .int .u64 (W64 a5), .int .u64 (W64 b1), .int .i64 b2, .int .u64 (W64 b3), .int .u64 (W64 b4), .int .u64 (W64 b5)] 25) from hR)
    clear hR
    go_enter Try.func20, Try.ntmps20
    go_wp2_with (go_at_call 23; refine (H.out _).mono ?_; rintro e w1 ⟨rfl, rfl⟩)
    go_returns
    exact ⟨rfl, by go_grown⟩
  · by_cases h2 : ph = 2
    · subst h2
      have H := Lib.hid (show ∀ W, Calls Try.prog 23 #[.agg #[.int .i64 2, .int .u64 (W64 a1), .int .i64 a2, .int .u64 (W64 a3), .int .u64 (W64 a4), .int .u64 (W64 a5), .int .u64 (W64 b1), .int .i64 b2, .int .u64 (W64 b3), .int .u64 (W64 b4), .int .u64 (W64 b5)]] W fun e w' => e = .returned (.slice (some ⟨W.heap.size + 1, 0, none⟩) 2 2) ∧ w' = (W.alloc (.cells #[.int .i64 2, .int .u64 (W64 a1), .int .i64 a2, .int .u64 (W64 a3), .int .u64 (W64 a4), .int .u64 (W64 a5), .int .u64 (W64 b1), .int .i64 b2, .int .u64 (W64 b3), .int .u64 (W64 b4), .int .u64 (W64 b5)] 27)).alloc (.cells #[.int .u64 (W64 b1), .int .i64 b2, .int .u64 (W64 b3), .int .u64 (W64 b4), .int .u64 (W64 b5), .int .u64 (W64 a1), .int .i64 a2, .int .u64 (W64 a3), .int .u64 (W64 a4), .int .u64 (W64 a5)] 25) from hR)
      clear hR h1
      go_enter Try.func20, Try.ntmps20
      go_wp2_with (go_at_call 23; refine (H.out _).mono ?_; rintro e w1 ⟨rfl, rfl⟩)
      go_returns
      exact ⟨rfl, by go_grown⟩
    · have e1 : recvK ⟨ph, ⟨a1, a2, a3, a4, a5⟩, ⟨b1, b2, b3, b4, b5⟩⟩ = [⟨a1, a2, a3, a4, a5⟩] := by unfold recvK; rw [if_neg h1, if_neg h2]
      have e2 : sendK ⟨ph, ⟨a1, a2, a3, a4, a5⟩, ⟨b1, b2, b3, b4, b5⟩⟩ = ⟨a1, a2, a3, a4, a5⟩ := by unfold sendK; rw [if_neg h2]
      rw [e2]
      simp only [e1] at hR
      have H := Lib.hid (show ∀ W, Calls Try.prog 23 #[.agg #[.int .i64 ph, .int .u64 (W64 a1), .int .i64 a2, .int .u64 (W64 a3), .int .u64 (W64 a4), .int .u64 (W64 a5), .int .u64 (W64 b1), .int .i64 b2, .int .u64 (W64 b3), .int .u64 (W64 b4), .int .u64 (W64 b5)]] W fun e w' => e = .returned (.slice (some ⟨W.heap.size + 1, 0, none⟩) 1 1) ∧ w' = (W.alloc (.cells #[.int .i64 ph, .int .u64 (W64 a1), .int .i64 a2, .int .u64 (W64 a3), .int .u64 (W64 a4), .int .u64 (W64 a5), .int .u64 (W64 b1), .int .i64 b2, .int .u64 (W64 b3), .int .u64 (W64 b4), .int .u64 (W64 b5)] 27)).alloc (.cells #[.int .u64 (W64 a1), .int .i64 a2, .int .u64 (W64 a3), .int .u64 (W64 a4), .int .u64 (W64 a5)] 25) from hR)
      clear hR e1 e2 h1 h2
      go_enter Try.func20, Try.ntmps20
      go_wp2_with (go_at_call 23; refine (H.out _).mono ?_; rintro e w1 ⟨rfl, rfl⟩)
      go_returns
      exact ⟨rfl, by go_grown⟩
theorem r52_Sending (k : KS) (w : World) :
    Calls Try.prog 21 #[.agg (ksA k)] w fun e w' => e = .returned (.agg (nkA (sendK k))) ∧ Below w.heap.size w w' := by
  obtain ⟨ph, ⟨a1, a2, a3, a4, a5⟩, ⟨b1, b2, b3, b4, b5⟩⟩ := k
  obtain ⟨r, hr⟩ : ∃ r, sendK ⟨ph, ⟨a1, a2, a3, a4, a5⟩, ⟨b1, b2, b3, b4, b5⟩⟩ = r := ⟨_, rfl⟩
  rw [hr]
  have HR := Lib.hid hr
  clear hr
  unfold ksA
  dsimp only
  go_enter Try.func21, Try.ntmps21
  go_wp2
  all_goals
    go_returns
    refine ⟨?_, by go_grown⟩
    rw [← HR.out]
    simp_all [sendK, nkA]
    done
/-- The bytes of a beacon: what is signed, and the tag. -/
def beaHead (b : Bea) : List (BitVec 8) := numB 1 (BitVec.ofNat 64 ((if b.ref then 1 else 0) + (if b.upd then 2 else 0))) ++ numB 4 (b.index.setWidth 64)
def beaB (k : NK) (b : Bea) : List (BitVec 8) := beaHead b ++ numB 8 (tag k.bea (beaHead b))
theorem beaHead_length (b : Bea) : (beaHead b).length = 5 := by simp [beaHead, numB_length]
theorem beaB_length (k : NK) (b : Bea) : (beaB k b).length = 13 := by simp [beaB, beaHead_length, numB_length]
theorem fits1 (n : Nat) (h : n < 256) : fits (1, BitVec.ofNat 64 n) := by
  refine ⟨by show 1 ≤ 1; omega, by show 1 ≤ 8; omega, fun _ => ?_⟩
  apply BitVec.eq_of_toNat_eq
  simp only [BitVec.toNat_ushiftRight, BitVec.toNat_ofNat, Nat.shiftRight_eq_div_pow]
  omega
theorem fits4w (x : BitVec 32) : fits (4, x.setWidth 64) := by
  have := fits4 x.toNat
  rwa [BitVec.ofNat_toNat, BitVec.setWidth_eq] at this
theorem fits8 (x : BitVec 64) : fits (8, x) := ⟨by show 1 ≤ 8; omega, by show 8 ≤ 8; omega, fun h => absurd h (by show ¬ 8 < 8; omega)⟩
theorem put_two (b n : Nat) (x : BitVec 64) (i : BitVec 32) (hn : x = BitVec.ofNat 64 n) (h : n < 256) (w : World) (hr : Rd w (some ⟨b, 0, none⟩) [.int .i64 1, .int .u64 (W64 x), .int .i64 4, .int .u64 (W64 (i.setWidth 64))]) :
    Calls Try.prog 81 #[.slice (some ⟨b, 0, none⟩) 2 2] w (RetPut w (numB 1 x ++ numB 4 (i.setWidth 64))) := by
  subst hn
  have := octets_Put (some ⟨b, 0, none⟩) 2 [(1, BitVec.ofNat 64 n), (4, i.setWidth 64)] w hr (fun f hf => by
    simp only [List.mem_cons, List.not_mem_nil, or_false] at hf
    rcases hf with rfl | rfl
    · exact fits1 n h
    · exact fits4w i) (by simp)
  have e : putB [(1, BitVec.ofNat 64 n), (4, i.setWidth 64)] = numB 1 (BitVec.ofNat 64 n) ++ numB 4 (i.setWidth 64) := by simp [putB]
  rwa [e] at this
theorem rd_alloc3 (w : World) (o o2 : Obj) (cs : Array Value) (t : TypeId) : Rd (((w.alloc o).alloc o2).alloc (.cells cs t)) (some ⟨w.heap.size + 1 + 1, 0, none⟩) cs.toList := by
  have h := Rd.new ((w.alloc o).alloc o2) cs t
  have e : ((w.alloc o).alloc o2).heap.size = w.heap.size + 1 + 1 := by simp
  rwa [e] at h
set_option maxHeartbeats 1000000 in
theorem rf_Encode (k : NK) (b : Bea) (w : World) :
    Calls Try.prog 53 #[.agg (nkA k), .agg (beA b)] w (RetB w (beaB k b)) := by
  obtain ⟨a1, a2, a3, a4, a5⟩ := k
  obtain ⟨rf, up, ix⟩ := b
  have hl := beaHead_length ⟨rf, up, ix⟩
  obtain ⟨hd, hhd⟩ : ∃ hd, beaHead ⟨rf, up, ix⟩ = hd := ⟨_, rfl⟩
  have hb : beaB ⟨a1, a2, a3, a4, a5⟩ ⟨rf, up, ix⟩ = hd ++ numB 8 (tag a5 hd) := by unfold beaB; rw [hhd]
  rw [hb]
  rw [hhd] at hl
  obtain ⟨n, hn, hn2⟩ : ∃ n, n = (if rf then 1 else 0) + (if up then 2 else 0) ∧ n < 256 := ⟨_, rfl, by cases rf <;> cases up <;> decide⟩
  have hh2 : numB 1 (BitVec.ofNat 64 n) ++ numB 4 (ix.setWidth 64) = hd := by rw [← hhd, hn]; rfl
  have HP := Lib.hid (fun W b (h : Rd W (some ⟨b, 0, none⟩) [.int .i64 1, .int .u64 (W64 (BitVec.ofNat 64 n)), .int .i64 4, .int .u64 (W64 (ix.setWidth 64))]) => put_two b n _ ix rfl hn2 W h)
  rw [hh2] at HP
  obtain ⟨tg, htg⟩ : ∃ tg, tag a5 hd = tg := ⟨_, rfl⟩
  rw [htg]
  have HT := Lib.hid (fun W A c (h : RdB W A hd) (hc : 5 ≤ c) => by
    have := mac_Tag a5 A c hd W h (by rw [hl]; decide) (by rw [hl]; exact hc)
    rw [hl, htg] at this
    exact this)
  have HP8 := Lib.hid (fun W b (h : Rd W (some ⟨b, 0, none⟩) [.int .i64 8, .int .u64 (W64 tg)]) => put_one b 8 tg W h (fits8 tg))
  obtain ⟨L, hL⟩ : ∃ L, hd ++ numB 8 tg = L := ⟨_, rfl⟩
  rw [hL]
  have hLl : L.length ≤ 1048576 := by rw [← hL, List.length_append, hl, numB_length]; decide
  have HLL := Lib.hid hL
  clear hL
  have HL := Lib.hid hl
  have H8 := Lib.hid (show (numB 8 tg).length = 8 from numB_length _ _)
  clear hhd hb hh2 htg hl hn2
  unfold nkA beA
  dsimp only
  have hX := box2 w 25 #[.int .u64 (W64 a1), .int .i64 a2, .int .u64 (W64 a3), .int .u64 (W64 a4), .int .u64 (W64 a5)] 71 #[.bool rf, .bool up, .int .u32 (W32 ix)]
  cases rf <;> cases up
  all_goals
    simp only [if_true, if_false, Bool.false_eq_true, Nat.add_zero, Nat.zero_add, Nat.reduceAdd] at hn
    subst hn
    go_enter Try.func53, Try.ntmps53
    go_wp2_with fail
    refine (HP.out _ _ (rd_alloc3 _ _ _ _ _)).mono ?_; rintro e w1 hp1
    obtain ⟨A1, c1, rfl, ho1, hb1⟩ := hp1.at_ HL.out
    have hb1' := hb1
    have hg1 := (hX.2.1.alloc _).to hb1 (by have := hX.2.1.lt; simp at this ⊢; omega)
    have hb01 := (hX.1.alloc hX.1.size _).trans (hb1.mono (by have := hX.1.size; simp at this ⊢; omega))
    have hc := hg1.cell
    go_wp2_with fail
    refine (HT.out _ _ _ (Rd.of_own ho1) (own_cap ho1).1).mono ?_; rintro e w2 ⟨rfl, hb2⟩
    have hb02 := hb01.trans (hb2.mono hb01.size)
    clear hc
    go_wp2_with fail
    refine (HP8.out _ _ (Rd.new _ _ _)).mono ?_; rintro e w3 hp3
    obtain ⟨A3, c3, rfl, ho3, hb3⟩ := hp3.at_ H8.out
    have hb23 : Below w2.heap.size w2 w3 := ((Below.refl _ _).alloc (Nat.le_refl _) _).trans (hb3.mono (by simp))
    have hb03 := hb02.trans (hb23.mono hb02.size)
    have HJ := Lib.hid (fun t => join_row w3 #[.slice A1 5 c1, .slice A3 8 c3] t [(A1, c1, hd), (A3, c3, numB 8 tg)] 2 L (by simp [pcells, HL.out, H8.out]) rfl (by rw [← HLL.out]; simp) (fun q hq => by
      simp only [List.mem_cons, List.not_mem_nil, or_false] at hq
      rcases hq with rfl | rfl
      · exact (show RdB w1 A1 hd from Rd.of_own ho1).to (hb2.trans (hb23.mono hb2.size))
      · exact Rd.of_own ho3) hLl (by decide))
    go_wp2_with fail
    refine (HJ.out _).mono ?_; rintro e w4 ⟨A4, c4, rfl, ho4, hb4⟩
    go_wp2
    go_ret
    exact ⟨A4, c4, rfl, own_mono ho4 hb03.size, hb03.trans (hb4.mono hb03.size)⟩
end Go.Proofs.Ytmehemojopfihaa
