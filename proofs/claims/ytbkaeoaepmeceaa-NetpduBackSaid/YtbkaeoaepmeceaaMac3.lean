/- Contract of Open of layer 6 (mac). -/
import Derived.Test.YtbkaeoaepmeceaaMac2
namespace Go.Proofs.Ytbkaeoaepmeceaa
set_option maxRecDepth 100000
open Go.ChangeShapes Go.WideShapes Go.ChangeAt Go.RowKit
set_option linter.unusedVariables false

set_option maxHeartbeats 1000000 in
theorem mac_Open (k nonce : BitVec 64) (A B : Option Addr) (c d : Nat) (header sealed : List (BitVec 8)) (w : World) (hra : RdB w A header) (hrb : RdB w B sealed) (hla : header.length ≤ 65536) (hlb : sealed.length ≤ 65536) (hd : sealed.length ≤ d) :
    Calls Try.prog 49 #[.int .u64 (W64 k), .int .u64 (W64 nonce), .slice A header.length c, .slice B sealed.length d] w (RetO w (openB k nonce header sealed)) := by
  by_cases h4 : sealed.length < 4
  · have ho : openB k nonce header sealed = ([], 3) := by unfold openB; rw [if_pos h4]
    rw [ho]
    go_enter Try.func49, Try.ntmps49
    go_wp2
    go_ret2
    exact ⟨none, 0, rfl, Rd.nil _ _, Nat.zero_le _, Below.refl _ _⟩
  · obtain ⟨m, hm⟩ : ∃ m, sealed.length = m + 4 := ⟨sealed.length - 4, by omega⟩
    obtain ⟨b, off, rfl, hbn, _⟩ := hrb.open_ (by rw [bcells_length]; omega)
    have hrc : RdB w (some ⟨b, off + m, none⟩) (sealed.drop m) := rd_cut hrb hbn m
    have hrp : RdB w (some ⟨b, off, none⟩) (sealed.take m) := RdB.take hrb m
    have hlt : (sealed.take m).length = m := by rw [List.length_take]; omega
    have hld : (sealed.drop m).length = 4 := by rw [List.length_drop]; omega
    have ho : openB k nonce header sealed = if tailB k nonce header (sealed.take m) = sealed.drop m then (crypt k nonce (sealed.take m), 0) else ([], 15) := by
      unfold openB; rw [if_neg h4, hm, Nat.add_sub_cancel]
    have hend : ∀ W, Below w.heap.size w W → Calls Try.prog 64 #[.int .u64 (W64 k), .int .u64 (W64 nonce), .slice A header.length c, .slice (some ⟨b, off, none⟩) m d] W (RetR W (tailB k nonce header (sealed.take m))) := fun W hW => by
      have := mac_tail k nonce A (some ⟨b, off, none⟩) c d header (sealed.take m) W (hra.to hW) (hrp.to hW) hla (by omega)
      rwa [hlt] at this
    have hs1 : ∀ W A1 c1, RdB W A1 (tailB k nonce header (sealed.take m)) → (convert 36 9 (.slice A1 4 c1)).run Try.prog W = .ok (.string (bstr (tailB k nonce header (sealed.take m)))) W := fun W A1 c1 h => by
      have := run_string_of h c1
      rwa [tailB_length] at this
    have hs2 : ∀ W, Below w.heap.size w W → ∀ cc, (convert 36 9 (.slice (some ⟨b, off + m, none⟩) 4 cc)).run Try.prog W = .ok (.string (bstr (sealed.drop m))) W := fun W hW cc => by
      have := run_string_of (hrc.to hW) cc
      rwa [hld] at this
    have hstr := mac_stream k nonce m
    have hcl := crypt_length k nonce (sealed.take m)
    have hxor : ∀ W, Below w.heap.size w W → ∀ A1 c1, RdB W A1 (stream k nonce m) → Calls Try.prog 62 #[.slice (some ⟨b, off, none⟩) m d, .slice A1 m c1] W (RetB W (crypt k nonce (sealed.take m))) := fun W hW A1 c1 h1 => by
      have := octets_Xor (some ⟨b, off, none⟩) A1 d c1 (sealed.take m) (stream k nonce m) W (hrp.to hW) h1 (by omega)
      rw [hlt, stream_length] at this
      unfold crypt
      rwa [hlt]
    rw [hlt] at hcl
    have hbe := bstr_beq (tailB k nonce header (sealed.take m)) (sealed.drop m)
    obtain ⟨q, hq⟩ : ∃ q : Bool, decide (tailB k nonce header (sealed.take m) = sealed.drop m) = q := ⟨_, rfl⟩
    have HO := Lib.hid (show openB k nonce header sealed = if q = true then (crypt k nonce (sealed.take m), 0) else ([], 15) by rw [ho, ← hq]; simp only [decide_eq_true_eq])
    rw [hq] at hbe
    have hbn2 : ((bstr (tailB k nonce header (sealed.take m))).toList != (bstr (sealed.drop m)).toList) = !q := by unfold bne; rw [hbe]
    rw [hm]
    have HE := Lib.hid hend
    have HS1 := Lib.hid hs1
    have hs20 := hs2 w.drew ((Below.refl _ _).drew) (d - m)
    have HS2 := Lib.hid hs2
    have HX := Lib.hid hxor
    have hmd : m + 4 ≤ d := by omega
    have hm6 : m ≤ 65536 := by omega
    have HT := Lib.hid (tailB_length k nonce header (sealed.take m))
    have HCL := Lib.hid hcl
    clear hend hs1 hs2 hxor ho hm hlt hld h4 hd hrc hrp hq hcl
    generalize openB k nonce header sealed = R at *
    generalize crypt k nonce (sealed.take m) = cr at *
    generalize tailB k nonce header (sealed.take m) = tl at *
    generalize sealed.drop m = sd at *
    cases q
    · have hO := HO.out
      rw [if_neg (by decide)] at hO
      subst hO
      clear HO HX HCL
      go_enter Try.func49, Try.ntmps49
      go_wp2
      go_region_with (go_at_call 64; refine (HE.out _ (by first | exact Below.refl _ _ | exact below_drewN (Below.refl _ _) _ | exact (Below.refl _ _).drew)).mono ?_; rintro e w1 hp; obtain ⟨A1, c1, rfl, hr1, hc1, hb1⟩ := hp.at_ (n := 4) HT.out; have hs11 := HS1.out w1 A1 c1 hr1; have hs21 := HS2.out w1 ((Below.refl w.heap.size w).drew.trans hb1) (d - m))
      all_goals
        go_wp2
        go_ret2
        exact ⟨none, 0, rfl, Rd.nil _ _, Nat.zero_le _, ((Below.refl w.heap.size w).drew).trans hb1⟩
    · have hO := HO.out
      rw [if_pos rfl] at hO
      subst hO
      have HSL := Lib.hid (stream_length k nonce m)
      clear HO
      go_enter Try.func49, Try.ntmps49
      go_wp2
      go_region_with (go_at_call 64; refine (HE.out _ (by first | exact Below.refl _ _ | exact below_drewN (Below.refl _ _) _ | exact (Below.refl _ _).drew)).mono ?_; rintro e w1 hp; obtain ⟨A1, c1, rfl, hr1, hc1, hb1⟩ := hp.at_ (n := 4) HT.out; have hs11 := HS1.out w1 A1 c1 hr1; have hs21 := HS2.out w1 ((Below.refl w.heap.size w).drew.trans hb1) (d - m))
      all_goals
        have hb01 := ((Below.refl w.heap.size w).drew).trans hb1
        clear hs11 hs21 hs20
        go_wp2_with fail
        refine (hstr _ (by omega)).mono ?_
        rintro e w3 hp3
        obtain ⟨A3, c3, rfl, hr3, hc3, hb3⟩ := hp3.at_ HSL.out
        have hb03 := hb01.trans (hb3.mono hb01.size)
        go_wp2_with fail
        refine (HX.out _ hb03 _ _ hr3).mono ?_
        rintro e w4 hp4
        obtain ⟨A4, c4, rfl, ho4, hb4⟩ := hp4.at_ HCL.out
        go_wp2
        go_ret2
        unfold RetO
        dsimp only
        rw [HCL.out]
        exact ⟨A4, c4, rfl, Rd.of_own ho4, (own_cap ho4).1, hb03.trans (hb4.mono hb03.size)⟩
end Go.Proofs.Ytbkaeoaepmeceaa
