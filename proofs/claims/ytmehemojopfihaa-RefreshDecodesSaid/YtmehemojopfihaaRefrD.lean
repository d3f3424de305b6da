/- The walks of the laws of layer 52 (refresh): the examples, keys, indexes. -/
import Derived.Test.YtmehemojopfihaaRefrB
import Derived.Test.YtmehemojopfihaaRefrC
import Derived.Test.YtmehemojopfihaaMacLawsA
import Derived.Test.YtmehemojopfihaaDer2
namespace Go.Proofs.Ytmehemojopfihaa
set_option maxRecDepth 100000
open Go.ChangeShapes Go.WideShapes Go.ChangeAt Go.RowKit
set_option linter.unusedVariables false
set_option linter.unusedSimpArgs false

theorem nk_cells {W : World} {b : Nat} {l : List NK} (h : Rd W (some ⟨b, 0, none⟩) (nksL l)) (k : Nat) (hk : k < l.length) :
    W.cell? ⟨b, k * 5, none⟩ = some (.int .u64 (W64 l[k].key)) ∧ W.cell? ⟨b, k * 5 + 1, none⟩ = some (.int .i64 l[k].nid) ∧ W.cell? ⟨b, k * 5 + 2, none⟩ = some (.int .u64 (W64 l[k].enc)) ∧
    W.cell? ⟨b, k * 5 + 3, none⟩ = some (.int .u64 (W64 l[k].hide)) ∧ W.cell? ⟨b, k * 5 + 4, none⟩ = some (.int .u64 (W64 l[k].bea)) := by
  have key : ∀ (l : List NK) (k j : Nat), (hk : k < l.length) → j < 5 → (nksL l)[k * 5 + j]? = (nkA l[k]).toList[j]? := by
    intro l
    induction l with
    | nil => intro k j hk; simp at hk
    | cons x xs ih =>
      intro k j hk hj
      have e : nksL (x :: xs) = (nkA x).toList ++ nksL xs := by simp [nksL]
      have hl : (nkA x).toList.length = 5 := rfl
      rw [e]
      match k with
      | 0 => rw [Nat.zero_mul, Nat.zero_add, List.getElem?_append_left (by omega)]; rfl
      | k + 1 =>
        rw [List.getElem?_append_right (by omega), hl, show (k + 1) * 5 + j - 5 = k * 5 + j by omega]
        exact ih k j (by simpa using hk) hj
  have cell : ∀ j u, j < 5 → (nkA l[k]).toList[j]? = some u → W.cell? ⟨b, k * 5 + j, none⟩ = some u := fun j u hj hu => by
    obtain ⟨ad, he, _, hc⟩ := h (k * 5 + j) u (by rw [key l k j hk hj]; exact hu)
    injection he with he
    subst he
    rwa [add_zero_'] at hc
  exact ⟨cell 0 _ (by decide) rfl, cell 1 _ (by decide) rfl, cell 2 _ (by decide) rfl, cell 3 _ (by decide) rfl, cell 4 _ (by decide) rfl⟩
theorem sameKeys_eq (l : List NK) (b1 b2 c1 c2 n : Nat) (w : World) (hn : l.length = n) (hn2 : n ≤ 1000) (h1 : Rd w (some ⟨b1, 0, none⟩) (nksL l)) (h2 : Rd w (some ⟨b2, 0, none⟩) (nksL l)) :
    Calls Try.prog 22 #[.slice (some ⟨b1, 0, none⟩) n c1, .slice (some ⟨b2, 0, none⟩) n c2] w fun e w' => e = .returned (.bool true) ∧ Below w.heap.size w w' := by
  subst hn
  go_enter Try.func22, Try.ntmps22
  go_wp2
  go_loopw [5] (fun i wr => ∃ k : Nat, k ≤ l.length ∧ i = .int .i64 k ∧ Below w.heap.size w wr) (fun i _ => l.length - (intOf i).toNat)
  case atStart => exact ⟨0, Nat.zero_le _, rfl, Below.refl _ _⟩
  case round =>
    obtain ⟨k, hk, rfl, hb⟩ := hrel
    by_cases hlt : k < l.length
    · have e1 : decide ((k : Int) < (l.length : Int)) = true := by simp; exact hlt
      have NC := fun W b (h : Rd W (some ⟨b, 0, none⟩) (nksL l)) => nk_cells h k hlt
      generalize l[k] = x at NC
      have HN := Lib.hid NC
      clear NC
      go_wp2
      have hst := stable_and (stable_below w.heap.size w (Nat.le_refl _)) (stable_and (stable_rd (some ⟨b1, 0, none⟩) (nksL l)) (stable_rd (some ⟨b2, 0, none⟩) (nksL l)))
      refine wp_region_v _ 9 hst ⟨hb.drew, Rd.to h1 hb.drew, Rd.to h2 hb.drew⟩ ?_
      refine wpU_take (v := ?_) 0 hst (fun _ h => h) rfl ?_ ?_; rotate_left; (intro W hS K hK; have q1 := HN.out _ _ hS.2.1; have q2 := HN.out _ _ hS.2.2; obtain ⟨p1, p2, p3, p4, p5⟩ := q1; obtain ⟨r1, r2, r3, r4, r5⟩ := q2; clear hS; go_simp; exact hK.out _ (Below.refl _ _)); simp only [Act.put, List.setIfInBounds_toArray, List.set_cons_zero, List.set_cons_succ]
      refine wpU_take (v := ?_) 1 hst (fun _ h => h) rfl ?_ ?_; rotate_left; (intro W hS K hK; have q1 := HN.out _ _ hS.2.1; have q2 := HN.out _ _ hS.2.2; obtain ⟨p1, p2, p3, p4, p5⟩ := q1; obtain ⟨r1, r2, r3, r4, r5⟩ := q2; clear hS; go_simp; exact hK.out _ (Below.refl _ _)); simp only [Act.put, List.setIfInBounds_toArray, List.set_cons_zero, List.set_cons_succ]
      refine wpU_take (v := ?_) 2 hst (fun _ h => h) rfl ?_ ?_; rotate_left; (intro W hS K hK; have q1 := HN.out _ _ hS.2.1; have q2 := HN.out _ _ hS.2.2; obtain ⟨p1, p2, p3, p4, p5⟩ := q1; obtain ⟨r1, r2, r3, r4, r5⟩ := q2; clear hS; go_simp; exact hK.out _ (Below.refl _ _)); simp only [Act.put, List.setIfInBounds_toArray, List.set_cons_zero, List.set_cons_succ]
      refine wpU_take (v := ?_) 3 hst (fun _ h => h) rfl ?_ ?_; rotate_left; (intro W hS K hK; have q1 := HN.out _ _ hS.2.1; have q2 := HN.out _ _ hS.2.2; obtain ⟨p1, p2, p3, p4, p5⟩ := q1; obtain ⟨r1, r2, r3, r4, r5⟩ := q2; clear hS; go_simp; exact hK.out _ (Below.refl _ _)); simp only [Act.put, List.setIfInBounds_toArray, List.set_cons_zero, List.set_cons_succ]
      refine wpU_take (v := ?_) 4 hst (fun _ h => h) rfl ?_ ?_; rotate_left; (intro W hS K hK; have q1 := HN.out _ _ hS.2.1; have q2 := HN.out _ _ hS.2.2; obtain ⟨p1, p2, p3, p4, p5⟩ := q1; obtain ⟨r1, r2, r3, r4, r5⟩ := q2; clear hS; go_simp; exact hK.out _ (Below.refl _ _)); simp only [Act.put, List.setIfInBounds_toArray, List.set_cons_zero, List.set_cons_succ]
      refine wpU_take (v := ?_) 5 hst (fun _ h => h) rfl ?_ ?_; rotate_left; (intro W hS K hK; have q1 := HN.out _ _ hS.2.1; have q2 := HN.out _ _ hS.2.2; obtain ⟨p1, p2, p3, p4, p5⟩ := q1; obtain ⟨r1, r2, r3, r4, r5⟩ := q2; clear hS; go_simp; exact hK.out _ (Below.refl _ _)); simp only [Act.put, List.setIfInBounds_toArray, List.set_cons_zero, List.set_cons_succ]
      refine wpU_take (v := ?_) 6 hst (fun _ h => h) rfl ?_ ?_; rotate_left; (intro W hS K hK; have q1 := HN.out _ _ hS.2.1; have q2 := HN.out _ _ hS.2.2; obtain ⟨p1, p2, p3, p4, p5⟩ := q1; obtain ⟨r1, r2, r3, r4, r5⟩ := q2; clear hS; go_simp; exact hK.out _ (Below.refl _ _)); simp only [Act.put, List.setIfInBounds_toArray, List.set_cons_zero, List.set_cons_succ]
      refine wpU_take (v := ?_) 7 hst (fun _ h => h) rfl ?_ ?_; rotate_left; (intro W hS K hK; have q1 := HN.out _ _ hS.2.1; have q2 := HN.out _ _ hS.2.2; obtain ⟨p1, p2, p3, p4, p5⟩ := q1; obtain ⟨r1, r2, r3, r4, r5⟩ := q2; clear hS; go_simp; exact hK.out _ (Below.refl _ _)); simp only [Act.put, List.setIfInBounds_toArray, List.set_cons_zero, List.set_cons_succ]
      refine wpU_take (v := ?_) 8 hst (fun _ h => h) rfl ?_ ?_; rotate_left; (intro W hS K hK; have q1 := HN.out _ _ hS.2.1; have q2 := HN.out _ _ hS.2.2; obtain ⟨p1, p2, p3, p4, p5⟩ := q1; obtain ⟨r1, r2, r3, r4, r5⟩ := q2; clear hS; go_simp; exact hK.out _ (Below.refl _ _)); simp only [Act.put, List.setIfInBounds_toArray, List.set_cons_zero, List.set_cons_succ]
      refine wpU_done (fun W hS => ?_)
      go_wp2
      go_roundw
      case rel => exact ⟨k + 1, by omega, by go_num, hS.1⟩
      case measure => simp [intOf]; omega
    · obtain rfl : k = l.length := by omega
      go_wp2
      go_ret
      exact ⟨rfl, hb⟩

theorem beaHead_258 : beaHead ⟨false, true, 258#32⟩ = [2#8, 2#8, 1#8, 0#8, 0#8] := by decide +kernel
theorem lives52 (w : World) : Calls Try.prog 19 #[] w fun e w' => e = .returned (.bool true) ∧ Below w.heap.size w w' := by
  have C1 := fun W => rf_NewKey ⟨0, nk0, nk0⟩ 6#64 W
  have e1 : newKeyK ⟨0, nk0, nk0⟩ 6#64 = (⟨1, nk0, nkD 6#64⟩, 0) := by simp [newKeyK, nk0]
  rw [e1] at C1
  have C2 := fun W => rf_Phase ⟨1, nk0, nkD 6#64⟩ 2 W
  have e2 : phaseK ⟨1, nk0, nkD 6#64⟩ 2 = (⟨2, nk0, nkD 6#64⟩, true) := by simp [phaseK]
  rw [e2] at C2
  have C3 := Lib.hid (show ∀ W, Calls Try.prog 38 #[.agg #[.int .u32 5, .bool false, .int .i64 0], .int .i64 1000] W fun e w' => e = .returned (.tuple #[.agg #[.int .u32 6, .bool true, .int .i64 1000], .int .i64 0]) ∧ Below W.heap.size W w' from fun W => rf_Begin ⟨5#32, false, 0⟩ 1000 W (by decide) (by decide))
  have C4 := Lib.hid (show ∀ W, Calls Try.prog 38 #[.agg #[.int .u32 5, .bool false, .int .i64 0], .int .i64 999] W fun e w' => e = .returned (.tuple #[.agg #[.int .u32 5, .bool false, .int .i64 0], .int .i64 20]) ∧ Below W.heap.size W w' from fun W => rf_Begin ⟨5#32, false, 0⟩ 999 W (by decide) (by decide))
  have C5 := Lib.hid (show ∀ W, Calls Try.prog 42 #[.agg #[.int .u32 6, .bool true, .int .i64 1000], .int .i64 1] W fun e w' => e = .returned (.tuple #[.int .u32 5, .bool true]) ∧ Below W.heap.size W w' from fun W => rf_Rx ⟨6#32, true, 1000⟩ 1 W)
  have C7 := Lib.hid (show ∀ W, Calls Try.prog 44 #[.agg #[.int .u32 6, .bool true, .int .i64 1000]] W fun e w' => e = .returned (.int .u32 5) ∧ Below W.heap.size W w' from fun W => rf_Tx ⟨6#32, true, 1000⟩ W)
  have C6 := fun W => rf_Encode (nkD 6#64) ⟨false, true, 258#32⟩ W
  have C8 := fun W => rf_Sending ⟨2, nk0, nkD 6#64⟩ W
  have C9 := fun W => rf_Receiving ⟨1, nk0, nkD 6#64⟩ W
  have hl := beaB_length (nkD 6#64) ⟨false, true, 258#32⟩
  have ht : (beaB (nkD 6#64) ⟨false, true, 258#32⟩).take 5 = [2#8, 2#8, 1#8, 0#8, 0#8] := by
    unfold beaB
    rw [List.take_left' (beaHead_length _), beaHead_258]
  generalize beaB (nkD 6#64) ⟨false, true, 258#32⟩ = L at *
  unfold nkD at *
  have hs : sendK ⟨2, nk0, ⟨6#64, W64 (nidK 6#64), encK 6#64, hideK 6#64, beaK 6#64⟩⟩ = ⟨6#64, W64 (nidK 6#64), encK 6#64, hideK 6#64, beaK 6#64⟩ := by unfold sendK; simp
  rw [hs] at C8
  clear hs e1 e2
  generalize W64 (nidK 6#64) = d1 at *
  generalize encK 6#64 = d2 at *
  generalize hideK 6#64 = d3 at *
  generalize beaK 6#64 = d4 at *
  have D1 := Lib.hid (show ∀ W, Calls Try.prog 15 #[.agg #[.int .i64 0, .int .u64 0, .int .i64 0, .int .u64 0, .int .u64 0, .int .u64 0, .int .u64 0, .int .i64 0, .int .u64 0, .int .u64 0, .int .u64 0], .int .u64 6] W fun e w' => e = .returned (.tuple #[.agg #[.int .i64 1, .int .u64 0, .int .i64 0, .int .u64 0, .int .u64 0, .int .u64 0, .int .u64 6, .int .i64 d1, .int .u64 (W64 d2), .int .u64 (W64 d3), .int .u64 (W64 d4)], .int .i64 0]) ∧ Below W.heap.size W w' from C1)
  have D2 := Lib.hid (show ∀ W, Calls Try.prog 17 #[.agg #[.int .i64 1, .int .u64 0, .int .i64 0, .int .u64 0, .int .u64 0, .int .u64 0, .int .u64 6, .int .i64 d1, .int .u64 (W64 d2), .int .u64 (W64 d3), .int .u64 (W64 d4)], .int .i64 2] W fun e w' => e = .returned (.tuple #[.agg #[.int .i64 2, .int .u64 0, .int .i64 0, .int .u64 0, .int .u64 0, .int .u64 0, .int .u64 6, .int .i64 d1, .int .u64 (W64 d2), .int .u64 (W64 d3), .int .u64 (W64 d4)], .bool true]) ∧ Below W.heap.size W w' from C2)
  have D6 := Lib.hid (show ∀ W, Calls Try.prog 53 #[.agg #[.int .u64 6, .int .i64 d1, .int .u64 (W64 d2), .int .u64 (W64 d3), .int .u64 (W64 d4)], .agg #[.bool false, .bool true, .int .u32 258]] W (RetB W L) from C6)
  have D8 := Lib.hid (show ∀ W, Calls Try.prog 20 #[.agg #[.int .i64 2, .int .u64 0, .int .i64 0, .int .u64 0, .int .u64 0, .int .u64 0, .int .u64 6, .int .i64 d1, .int .u64 (W64 d2), .int .u64 (W64 d3), .int .u64 (W64 d4)]] W fun e w' => e = .returned (.agg #[.int .u64 6, .int .i64 d1, .int .u64 (W64 d2), .int .u64 (W64 d3), .int .u64 (W64 d4)]) ∧ Below W.heap.size W w' from C8)
  have D9 := Lib.hid (show ∀ W, Calls Try.prog 23 #[.agg #[.int .i64 1, .int .u64 0, .int .i64 0, .int .u64 0, .int .u64 0, .int .u64 0, .int .u64 6, .int .i64 d1, .int .u64 (W64 d2), .int .u64 (W64 d3), .int .u64 (W64 d4)]] W fun e w' => e = .returned (.slice (some ⟨W.heap.size + 1, 0, none⟩) 2 2) ∧ Below W.heap.size W w' from fun W => (C9 W).mono (by rintro e w' ⟨rfl, rfl⟩; exact ⟨rfl, ((Below.refl _ _).alloc (Nat.le_refl _) _).alloc (by simp) _⟩))
  have hfd : ∀ W, (Instr.field 25 (.agg #[.int .u64 6, .int .i64 d1, .int .u64 (W64 d2), .int .u64 (W64 d3), .int .u64 (W64 d4)]) 0).run Try.prog W = .ok (.int .u64 6) W := fun W => by kernel_rfl
  have HL := Lib.hid hl
  have HT := Lib.hid ht
  clear C1 C2 C6 C8 C9 hl ht
  go_enter Try.func19, Try.ntmps19
  go_wp2_with fail
  refine (D1.out _).mono ?_; rintro e w1 ⟨rfl, hb1⟩
  have K1 := Blk.new w1 27 #[.int .i64 1, .int .u64 0, .int .i64 0, .int .u64 0, .int .u64 0, .int .u64 0, .int .u64 6, .int .i64 d1, .int .u64 (W64 d2), .int .u64 (W64 d3), .int .u64 (W64 d4)]
  have B1 : Below w.heap.size w (w1.alloc (.cells #[.int .i64 1, .int .u64 0, .int .i64 0, .int .u64 0, .int .u64 0, .int .u64 0, .int .u64 6, .int .i64 d1, .int .u64 (W64 d2), .int .u64 (W64 d3), .int .u64 (W64 d4)] 27)) := hb1.alloc hb1.size _
  clear hb1
  go_wp2_with fail
  refine (D2.out _).mono ?_; rintro e w2 ⟨rfl, hb2⟩
  have K2 := (K1.to hb2 K1.lt).alloc (.cells #[.int .i64 2, .int .u64 0, .int .i64 0, .int .u64 0, .int .u64 0, .int .u64 0, .int .u64 6, .int .i64 d1, .int .u64 (W64 d2), .int .u64 (W64 d3), .int .u64 (W64 d4)] 27)
  have L2 := Blk.new w2 27 #[.int .i64 2, .int .u64 0, .int .i64 0, .int .u64 0, .int .u64 0, .int .u64 0, .int .u64 6, .int .i64 d1, .int .u64 (W64 d2), .int .u64 (W64 d3), .int .u64 (W64 d4)]
  have B2 := (B1.trans (hb2.mono B1.size)).alloc (B1.trans (hb2.mono B1.size)).size (.cells #[.int .i64 2, .int .u64 0, .int .i64 0, .int .u64 0, .int .u64 0, .int .u64 0, .int .u64 6, .int .i64 d1, .int .u64 (W64 d2), .int .u64 (W64 d3), .int .u64 (W64 d4)] 27)
  clear K1 B1 hb2
  go_wp2_with fail
  refine (C3.out _).mono ?_; rintro e w3 ⟨rfl, hb3⟩
  have K3 := (K2.to hb3 K2.lt).alloc (.cells #[.int .u32 6, .bool true, .int .i64 1000] 59)
  have L3 := (L2.to hb3 L2.lt).alloc (.cells #[.int .u32 6, .bool true, .int .i64 1000] 59)
  have V3 := Blk.new w3 59 #[.int .u32 6, .bool true, .int .i64 1000]
  have B3 := (B2.trans (hb3.mono B2.size)).alloc (B2.trans (hb3.mono B2.size)).size (.cells #[.int .u32 6, .bool true, .int .i64 1000] 59)
  clear K2 L2 B2 hb3
  go_wp2_with fail
  refine (C4.out _).mono ?_; rintro e w4 ⟨rfl, hb4⟩
  have K4 := (K3.to hb4 K3.lt).alloc (.cells #[.int .u32 5, .bool false, .int .i64 0] 59)
  have L4 := (L3.to hb4 L3.lt).alloc (.cells #[.int .u32 5, .bool false, .int .i64 0] 59)
  have V4 := (V3.to hb4 V3.lt).alloc (.cells #[.int .u32 5, .bool false, .int .i64 0] 59)
  have B4 := (B3.trans (hb4.mono B3.size)).alloc (B3.trans (hb4.mono B3.size)).size (.cells #[.int .u32 5, .bool false, .int .i64 0] 59)
  have V4' := V3.to hb4 V3.lt
  have hv4 := V4'.cell
  have hz4 : w3.heap.size < w4.heap.size := V4'.lt
  clear K3 L3 V3 B3 hb4
  go_wp2_with fail
  refine (C5.out _).mono ?_; rintro e w5 ⟨rfl, hb5⟩
  have K5 := K4.to hb5 K4.lt
  have L5 := L4.to hb5 L4.lt
  have V5 := V4.to hb5 V4.lt
  have B5 := B4.trans (hb5.mono B4.size)
  have hk5 := K5.cell
  clear K4 L4 V4 B4 hb5 hv4 hz4 V4'
  go_wp2_with fail
  refine (D6.out _).mono ?_; rintro e w6 hp6
  obtain ⟨A6, c6, rfl, ho6, hb6⟩ := hp6.at_ HL.out
  have K6 := K5.to hb6 K5.lt
  have L6 := L5.to hb6 L5.lt
  have V6 := V5.to hb6 V5.lt
  have B6 := B5.trans (hb6.mono B5.size)
  have R6 : RdB w6 A6 L := Rd.of_own ho6
  have hc6 := (own_cap ho6).1
  have hv6 := V6.cell
  clear K5 L5 V5 B5 hb6 hk5 ho6
  go_wp2_with fail
  refine (C7.out _).mono ?_; rintro e w7 ⟨rfl, hb7⟩
  have K7 := K6.to hb7 K6.lt
  have L7 := L6.to hb7 L6.lt
  have B7 := B6.trans (hb7.mono B6.size)
  have R7 := Rd.to R6 hb7
  have hl7 := L7.cell
  clear K6 L6 V6 B6 hb7 hv6 R6
  go_wp2_with fail
  refine (D8.out _).mono ?_; rintro e w8 ⟨rfl, hb8⟩
  have K8 := K7.to hb8 K7.lt
  have B8 := B7.trans (hb8.mono B7.size)
  have R8 := Rd.to R7 hb8
  have hk8 := K8.cell
  clear K7 L7 B7 hb8 hl7 R7
  go_wp2_with fail
  refine (D9.out _).mono ?_; rintro e w9 ⟨rfl, hb9⟩
  have B9 := B8.trans (hb9.mono B8.size)
  have R9 : RdB w9 A6 L := Rd.to R8 hb9
  have R9t : RdB (w9.alloc (.cells #[.int .u8 2, .int .u8 2, .int .u8 1, .int .u8 0, .int .u8 0] 5)) A6 [2#8, 2#8, 1#8, 0#8, 0#8] := by
    have := RdB.take R9 5
    rw [HT.out] at this
    exact Rd.to this ((Below.refl _ _).alloc (Nat.le_refl _) _)
  clear K8 B8 hb9 hk8 R8
  go_wp2_with fail
  refine (same_self A6 _ _ _ 5 5 [2#8, 2#8, 1#8, 0#8, 0#8] _ R9t (Rd.new w9 #[.int .u8 2, .int .u8 2, .int .u8 1, .int .u8 0, .int .u8 0] 5) rfl rfl).mono ?_; rintro e w10 ⟨rfl, rfl⟩
  go_wp2
  go_ret
  exact ⟨rfl, B9.alloc B9.size _⟩
end Go.Proofs.Ytmehemojopfihaa
