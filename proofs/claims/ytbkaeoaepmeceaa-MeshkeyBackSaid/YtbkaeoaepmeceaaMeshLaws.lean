/- The walks of the laws of layer 47 (meshkey). -/
import Derived.Test.YtbkaeoaepmeceaaMesh
import Derived.Test.YtbkaeoaepmeceaaMacLawsB
import Derived.Test.YtbkaeoaepmeceaaEqStr
namespace Go.Proofs.Ytbkaeoaepmeceaa
set_option maxRecDepth 100000
open Go.ChangeShapes Go.WideShapes Go.ChangeAt Go.RowKit
set_option linter.unusedVariables false
set_option linter.unusedSimpArgs false

theorem rd_alloc2 (w : World) (o : Obj) (cs : Array Value) (t : TypeId) : Rd ((w.alloc o).alloc (.cells cs t)) (some ⟨w.heap.size + 1, 0, none⟩) cs.toList := by
  have h := Rd.new (w.alloc o) cs t
  have e : (w.alloc o).heap.size = w.heap.size + 1 := by simp
  rwa [e] at h
theorem lives47 (w : World) : Calls Try.prog 15 #[] w fun e w' => e = .returned (.bool true) ∧ Below w.heap.size w w' := by
  obtain ⟨sb, hsb⟩ : ∃ sb, sealB 3#64 (appK true 5#16 2#32 7#32) (hdr 9#16) [1#8, 2#8, 3#8] = sb := ⟨_, rfl⟩
  have hl : sb.length = 7 := by rw [← hsb]; exact sealB_length _ _ _ _
  have hop : openB 3#64 (appK true 5#16 2#32 7#32) (hdr 9#16) sb = ([1#8, 2#8, 3#8], 0) := by rw [← hsb]; exact open_seal _ _ _ _
  have hS := Lib.hid (show ∀ W A c, RdB W A [1#8, 2#8, 3#8] → Calls Try.prog 21 #[.int .u64 3, .bool true, .agg #[.int .u16 5, .int .u32 2, .int .u32 7], .int .u16 9, .slice A 3 c] W (RetB W sb) from
    fun W A c h => by
      have := mesh_SealApp 3#64 true 5#16 2#32 7#32 9#16 A c [1#8, 2#8, 3#8] W h (by decide)
      rw [hsb] at this
      exact this)
  have hO := Lib.hid (show ∀ W A c, RdB W A sb → 7 ≤ c → Calls Try.prog 23 #[.int .u64 3, .bool true, .agg #[.int .u16 5, .int .u32 2, .int .u32 7], .int .u16 9, .slice A 7 c] W (RetO W ([1#8, 2#8, 3#8], 0)) from
    fun W A c h hc => by
      have := mesh_OpenApp 3#64 true 5#16 2#32 7#32 9#16 A c sb W h (by omega) (by omega)
      rw [hop, hl] at this
      exact this)
  have hO2 := Lib.hid (show ∀ W A c, RdB W A [1#8, 2#8, 3#8] → 3 ≤ c → Calls Try.prog 23 #[.int .u64 3, .bool true, .agg #[.int .u16 5, .int .u32 2, .int .u32 7], .int .u16 9, .slice A 3 c] W (RetO W ([], 3)) from
    fun W A c h hc => mesh_OpenApp 3#64 true 5#16 2#32 7#32 9#16 A c [1#8, 2#8, 3#8] W h (by decide) hc)
  have hD := Lib.hid (show ∀ W, Calls Try.prog 14 #[.int .u64 6] W (fun e w' => e = .returned (.agg #[.int .u64 6, .int .i64 (W64 (nidK 6#64)), .int .u64 (W64 (encK 6#64)), .int .u64 (W64 (hideK 6#64)), .int .u64 (W64 (beaK 6#64))]) ∧ Below W.heap.size W w') from fun W => mesh_Derive 6#64 W)
  generalize nidK 6#64 = d1 at *
  generalize encK 6#64 = d2 at *
  generalize hideK 6#64 = d3 at *
  generalize beaK 6#64 = d4 at *
  have hfd : ∀ W, (Instr.field 25 (.agg #[.int .u64 6, .int .i64 (W64 d1), .int .u64 (W64 d2), .int .u64 (W64 d3), .int .u64 (W64 d4)]) 0).run Try.prog W = .ok (.int .u64 6) W := fun W => by kernel_rfl
  have HL := Lib.hid hl
  clear hsb hop hl
  have e3 : ucells [] = [] := rfl
  have hG0 := Blk.new w 35 #[.int .u16 5, .int .u32 2, .int .u32 7]
  have hB0 : Below w.heap.size w ((w.alloc (.cells #[.int .u16 5, .int .u32 2, .int .u32 7] 35)).alloc (.cells #[.int .u8 1, .int .u8 2, .int .u8 3] 5)) := ((Below.refl _ _).alloc (Nat.le_refl _) _).alloc (by simp) _
  have hG1 := hG0.alloc (.cells #[.int .u8 1, .int .u8 2, .int .u8 3] 5)
  clear hG0 e3
  go_enter Try.func15, Try.ntmps15
  go_wp2_with fail
  refine (hS.out _ _ _ (rd_alloc2 _ _ _ _)).mono ?_; rintro e w1 hp1
  obtain ⟨A1, c1, rfl, ho1, hb1⟩ := hp1.at_ HL.out
  have hg1 := hG1.to hb1 hG1.lt
  have hb01 := hB0.trans (hb1.mono hB0.size)
  have hc := hg1.cell
  clear hG1
  go_wp2_with fail
  refine (hO.out _ _ _ (Rd.of_own ho1) (own_cap ho1).1).mono ?_; rintro e w2 hp2
  obtain ⟨A2, c2, rfl, hr2, hc2, hb2⟩ := hp2.at_ (n := 3) rfl rfl
  have hg2 := hg1.to hb2 hg1.lt
  have hb02 := hb01.trans (hb2.mono hb01.size)
  clear hc
  have hc := hg2.cell
  go_wp2_with fail
  refine (hO2.out _ _ _ (Rd.new _ _ _) (by omega)).mono ?_; rintro e w3 hp3
  obtain ⟨A3, c3, rfl, hr3, hc3, hb3⟩ := hp3.at_ (n := 0) rfl rfl
  have hb23 : Below w2.heap.size w2 w3 := ((Below.refl _ _).alloc (Nat.le_refl _) _).trans (hb3.mono (by simp))
  have hb03 := hb02.trans (hb23.mono hb02.size)
  clear hc
  have hr2' : RdB (w3.alloc (.cells #[.int .u8 1, .int .u8 2, .int .u8 3] 5)) A2 [1#8, 2#8, 3#8] := (Rd.to hr2 hb23).to ((Below.refl _ _).alloc (Nat.le_refl _) _)
  go_wp2_with fail
  refine (same_self A2 _ c2 _ 3 3 [1#8, 2#8, 3#8] _ hr2' (Rd.new w3 #[.int .u8 1, .int .u8 2, .int .u8 3] 5) rfl rfl).mono ?_; rintro e w4 ⟨rfl, rfl⟩
  go_wp2_with fail
  refine (hD.out _).mono ?_; rintro e w5 ⟨rfl, hb5⟩
  go_wp2
  go_ret
  exact ⟨rfl, (hb03.alloc hb03.size _).trans (hb5.mono (by have := hb03.size; simp; omega))⟩
theorem law_MeshkeyDerives (k : BitVec 64) (w : World) :
    Calls Try.prog 3 #[.int .u64 (W64 k)] w fun e w' => e = .returned (.bool true) ∧ Below w.heap.size w w' := by
  have hlt := nidK_lt k
  have H1 := Lib.hid (fun W => mesh_Derive k W)
  have H2 := Lib.hid (fun W => ref47_Derive k W)
  have hd : W64 (nidK k) = ((nidK k).toNat : Int) := rfl
  rw [hd] at H1 H2
  clear hd
  generalize (nidK k).toNat = d1 at *
  generalize encK k = d2 at *
  generalize hideK k = d3 at *
  generalize beaK k = d4 at *
  have h1 : (0 : Int) ≤ (d1 : Int) := by omega
  have h2 : (d1 : Int) < 128 := by omega
  have e1 : decide ((d1 : Int) < 128) = true := by simpa using h2
  have e2 : decide (0 ≤ (d1 : Int)) = true := by simp
  go_enter Try.func3, Try.ntmps3
  go_wp2_with fail
  refine (H1.out _).mono ?_; rintro e w1 ⟨rfl, hb1⟩
  go_wp2
  have hG0 := Blk.new w1 25 #[.int .u64 (W64 k), .int .i64 (d1 : Int), .int .u64 (W64 d2), .int .u64 (W64 d3), .int .u64 (W64 d4)]
  have hB0 : Below w.heap.size w (w1.alloc (.cells #[.int .u64 (W64 k), .int .i64 (d1 : Int), .int .u64 (W64 d2), .int .u64 (W64 d3), .int .u64 (W64 d4)] 25)) := hb1.alloc hb1.size _
  have hst := stable_and (stable_below w.heap.size w (Nat.le_refl _)) (stable_blk w1.heap.size 25 #[.int .u64 (W64 k), .int .i64 (d1 : Int), .int .u64 (W64 d2), .int .u64 (W64 d3), .int .u64 (W64 d4)])
  refine wp_region_v _ 18 hst ⟨hB0.drew, hG0⟩ ?_
  refine wpU_take (v := ?_) 0 hst (fun _ h => h) rfl ?_ ?_; rotate_left; (intro W hS K hK; clear hS; go_simp; refine (lives47 _).mono ?_; rintro e w9 ⟨rfl, hb⟩; refine CallPost.mk ?_; exact hK.out _ (hb)); simp only [Act.put, List.setIfInBounds_toArray, List.set_cons_zero, List.set_cons_succ]
  refine wpU_take (v := ?_) 1 hst (fun _ h => h) rfl ?_ ?_; rotate_left; (intro W hS K hK; have hc := hS.2.cell; clear hS; go_simp; exact hK.out _ (Below.refl _ _)); simp only [Act.put, List.setIfInBounds_toArray, List.set_cons_zero, List.set_cons_succ]
  refine wpU_take (v := ?_) 2 hst (fun _ h => h) rfl ?_ ?_; rotate_left; (intro W hS K hK; have hc := hS.2.cell; clear hS; go_simp; exact hK.out _ (Below.refl _ _)); simp only [Act.put, List.setIfInBounds_toArray, List.set_cons_zero, List.set_cons_succ]
  refine wpU_take (v := ?_) 3 hst (fun _ h => h) rfl ?_ ?_; rotate_left; (intro W hS K hK; have hc := hS.2.cell; clear hS; go_simp; exact hK.out _ (Below.refl _ _)); simp only [Act.put, List.setIfInBounds_toArray, List.set_cons_zero, List.set_cons_succ]
  refine wpU_take (v := ?_) 4 hst (fun _ h => h) rfl ?_ ?_; rotate_left; (intro W hS K hK; clear hS; go_simp; refine (H2.out _).mono ?_; rintro e w9 ⟨rfl, hb⟩; refine CallPost.mk ?_; exact hK.out _ (hb)); simp only [Act.put, List.setIfInBounds_toArray, List.set_cons_zero, List.set_cons_succ]
  refine wpU_take (v := ?_) 5 hst (fun _ h => h) rfl ?_ ?_; rotate_left; (intro W hS K hK; have hc := hS.2.cell; clear hS; go_simp; exact hK.out _ (Below.refl _ _)); simp only [Act.put, List.setIfInBounds_toArray, List.set_cons_zero, List.set_cons_succ]
  refine wpU_take (v := ?_) 6 hst (fun _ h => h) rfl ?_ ?_; rotate_left; (intro W hS K hK; have hc := hS.2.cell; clear hS; go_simp; exact hK.out _ (Below.refl _ _)); simp only [Act.put, List.setIfInBounds_toArray, List.set_cons_zero, List.set_cons_succ]
  refine wpU_take (v := ?_) 7 hst (fun _ h => h) rfl ?_ ?_; rotate_left; (intro W hS K hK; have hc := hS.2.cell; clear hS; go_simp; exact hK.out _ (Below.refl _ _)); simp only [Act.put, List.setIfInBounds_toArray, List.set_cons_zero, List.set_cons_succ]
  refine wpU_take (v := ?_) 8 hst (fun _ h => h) rfl ?_ ?_; rotate_left; (intro W hS K hK; have hc := hS.2.cell; clear hS; go_simp; exact hK.out _ (Below.refl _ _)); simp only [Act.put, List.setIfInBounds_toArray, List.set_cons_zero, List.set_cons_succ]
  refine wpU_take (v := ?_) 9 hst (fun _ h => h) rfl ?_ ?_; rotate_left; (intro W hS K hK; have hc := hS.2.cell; clear hS; go_simp; exact hK.out _ (Below.refl _ _)); simp only [Act.put, List.setIfInBounds_toArray, List.set_cons_zero, List.set_cons_succ]
  refine wpU_take (v := ?_) 10 hst (fun _ h => h) rfl ?_ ?_; rotate_left; (intro W hS K hK; have hc := hS.2.cell; clear hS; go_simp; exact hK.out _ (Below.refl _ _)); simp only [Act.put, List.setIfInBounds_toArray, List.set_cons_zero, List.set_cons_succ]
  refine wpU_take (v := ?_) 11 hst (fun _ h => h) rfl ?_ ?_; rotate_left; (intro W hS K hK; have hc := hS.2.cell; clear hS; go_simp; exact hK.out _ (Below.refl _ _)); simp only [Act.put, List.setIfInBounds_toArray, List.set_cons_zero, List.set_cons_succ]
  refine wpU_take (v := ?_) 12 hst (fun _ h => h) rfl ?_ ?_; rotate_left; (intro W hS K hK; have hc := hS.2.cell; clear hS; go_simp; exact hK.out _ (Below.refl _ _)); simp only [Act.put, List.setIfInBounds_toArray, List.set_cons_zero, List.set_cons_succ]
  refine wpU_take (v := ?_) 13 hst (fun _ h => h) rfl ?_ ?_; rotate_left; (intro W hS K hK; have hc := hS.2.cell; clear hS; go_simp; exact hK.out _ (Below.refl _ _)); simp only [Act.put, List.setIfInBounds_toArray, List.set_cons_zero, List.set_cons_succ]
  refine wpU_take (v := ?_) 14 hst (fun _ h => h) rfl ?_ ?_; rotate_left; (intro W hS K hK; have hc := hS.2.cell; clear hS; go_simp; exact hK.out _ (Below.refl _ _)); simp only [Act.put, List.setIfInBounds_toArray, List.set_cons_zero, List.set_cons_succ]
  refine wpU_take (v := ?_) 15 hst (fun _ h => h) rfl ?_ ?_; rotate_left; (intro W hS K hK; have hc := hS.2.cell; clear hS; go_simp; exact hK.out _ (Below.refl _ _)); simp only [Act.put, List.setIfInBounds_toArray, List.set_cons_zero, List.set_cons_succ]
  refine wpU_take (v := ?_) 16 hst (fun _ h => h) rfl ?_ ?_; rotate_left; (intro W hS K hK; have hc := hS.2.cell; clear hS; go_simp; exact hK.out _ (Below.refl _ _)); simp only [Act.put, List.setIfInBounds_toArray, List.set_cons_zero, List.set_cons_succ]
  refine wpU_take (v := ?_) 17 hst (fun _ h => h) rfl ?_ ?_; rotate_left; (intro W hS K hK; have hc := hS.2.cell; clear hS; go_simp; exact hK.out _ (Below.refl _ _)); simp only [Act.put, List.setIfInBounds_toArray, List.set_cons_zero, List.set_cons_succ]
  refine wpU_done (fun W hS => ?_)
  go_wp2
  go_ret
  exact ⟨rfl, hS.1⟩
theorem law_MeshkeyNonces (kind : Int) (wk : (Lit.int .i64 kind).wf = true) (src : BitVec 16) (seq iv : BitVec 32) (w : World) :
    Calls Try.prog 4 #[.int .i64 kind, .int .u16 (W16 src), .int .u32 (W32 seq), .int .u32 (W32 iv)] w fun e w' => e = .returned (.bool true) ∧ Below w.heap.size w w' := by
  have H1 := Lib.hid (fun W => mesh_Nonce kind src seq iv W)
  have H2 := Lib.hid (fun W => ref47_Nonce kind src seq iv W)
  have D := Lib.hid (fun W A c (h : RdU W A [BitVec.ofInt 64 kind, src.setWidth 64, seq.setWidth 64, iv.setWidth 64]) => der_n 0#64 lblNonce A c 4 _ (nonceK kind src seq iv) rfl rfl W h (by decide) (by decide))
  generalize nonceK kind src seq iv = n at *
  go_enter Try.func4, Try.ntmps4
  go_wp2_with fail
  refine (H1.out _).mono ?_; rintro e w1 ⟨rfl, hb1⟩
  go_wp2_with fail
  refine (lives47 _).mono ?_; rintro e w2 ⟨rfl, hb2⟩
  have hb02 := hb1.trans (hb2.mono hb1.size)
  go_wp2_with fail
  refine (H2.out _).mono ?_; rintro e w3 ⟨rfl, hb3⟩
  have hb03 := hb02.trans (hb3.mono hb02.size)
  go_wp2_with fail
  refine (D.out _ _ _ (Rd.new _ _ _)).mono ?_; rintro e w4 ⟨rfl, hb4⟩
  have hb34 : Below w3.heap.size w3 w4 := ((Below.refl _ _).alloc (Nat.le_refl _) _).trans (hb4.mono (by simp))
  go_wp2
  go_ret
  exact ⟨rfl, hb03.trans (hb34.mono hb03.size)⟩
theorem law_MeshkeySeals (k : BitVec 64) (app : Bool) (src : BitVec 16) (iv seq : BitVec 32) (dst : BitVec 16) (A : Option Addr) (c : Nat) (bs : List (BitVec 8)) (w : World) (hr : RdB w A bs) (hc : bs.length ≤ c) :
    Calls Try.prog 5 #[.int .u64 (W64 k), .bool app, .agg #[.int .u16 (W16 src), .int .u32 (W32 iv), .int .u32 (W32 seq)], .int .u16 (W16 dst), .slice A bs.length c] w fun e w' => e = .returned (.bool true) ∧ Below w.heap.size w w' := by
  by_cases h : 400 < bs.length
  · go_enter Try.func5, Try.ntmps5
    go_wp2_with fail
    refine (lives47 _).mono ?_; rintro e w1 ⟨rfl, hb1⟩
    go_wp2
    go_ret
    exact ⟨rfl, ((Below.refl _ _).alloc (Nat.le_refl _) _).trans (hb1.mono (by simp))⟩
  · have H1 := Lib.hid (fun W (hr : RdB W A bs) => mesh_SealApp k app src iv seq dst A c bs W hr (by omega))
    have H2 := Lib.hid (fun W (hr : RdB W A bs) => ref47_SealApp k app src iv seq dst A c bs W hr (by omega))
    generalize sealB k (appK app src iv seq) (hdr dst) bs = sb at *
    have hX := box1 w 35 #[.int .u16 (W16 src), .int .u32 (W32 iv), .int .u32 (W32 seq)]
    have hst := stable_and (st1 w 35 #[.int .u16 (W16 src), .int .u32 (W32 iv), .int .u32 (W32 seq)]) (stable_rdB A bs)
    go_enter Try.func5, Try.ntmps5
    go_wp2
    refine wp_region_v _ 17 hst ⟨⟨hX.1.drew, hX.2⟩, Rd.to hr hX.1.drew⟩ ?_
    refine wpU_take (v := ?_) 0 hst (fun _ h => h) rfl ?_ ?_; rotate_left; (intro W hS K hK; clear hS; go_simp; refine (lives47 _).mono ?_; rintro e w9 ⟨rfl, hb⟩; refine CallPost.mk ?_; exact hK.out _ (hb)); simp only [Act.put, List.setIfInBounds_toArray, List.set_cons_zero, List.set_cons_succ]
    refine wpU_take (v := ?_) 1 hst (fun _ h => h) rfl ?_ ?_; rotate_left; (intro W hS K hK; have hc := hS.1.2.cell; clear hS; go_simp; exact hK.out _ (Below.refl _ _)); simp only [Act.put, List.setIfInBounds_toArray, List.set_cons_zero, List.set_cons_succ]
    refine wpU_take (v := ?_) 2 hst (fun _ h => h) rfl ?_ ?_; rotate_left; (intro W hS K hK; have hc := hS.1.2.cell; clear hS; go_simp; exact hK.out _ (Below.refl _ _)); simp only [Act.put, List.setIfInBounds_toArray, List.set_cons_zero, List.set_cons_succ]
    refine wpU_take (v := ?_) 3 hst (fun _ h => h) rfl ?_ ?_; rotate_left; (intro W hS K hK; have hc := hS.1.2.cell; clear hS; go_simp; exact hK.out _ (Below.refl _ _)); simp only [Act.put, List.setIfInBounds_toArray, List.set_cons_zero, List.set_cons_succ]
    refine wpU_take (v := ?_) 4 hst (fun _ h => h) rfl ?_ ?_; rotate_left; (intro W hS K hK; have hc := hS.1.2.cell; clear hS; go_simp; exact hK.out _ (Below.refl _ _)); simp only [Act.put, List.setIfInBounds_toArray, List.set_cons_zero, List.set_cons_succ]
    refine wpU_take (v := ?_) 5 hst (fun _ h => h) rfl ?_ ?_; rotate_left; (intro W hS K hK; have hc := hS.1.2.cell; clear hS; go_simp; exact hK.out _ (Below.refl _ _)); simp only [Act.put, List.setIfInBounds_toArray, List.set_cons_zero, List.set_cons_succ]
    refine wpU_take (v := ?_) 6 hst (fun _ h => h) rfl ?_ ?_; rotate_left; (intro W hS K hK; have hc := hS.1.2.cell; clear hS; go_simp; exact hK.out _ (Below.refl _ _)); simp only [Act.put, List.setIfInBounds_toArray, List.set_cons_zero, List.set_cons_succ]
    refine wpU_take (v := ?_) 8 hst (fun _ h => h) rfl ?_ ?_; rotate_left; (intro W hS K hK; have hc := hS.1.2.cell; clear hS; go_simp; exact hK.out _ (Below.refl _ _)); simp only [Act.put, List.setIfInBounds_toArray, List.set_cons_zero, List.set_cons_succ]
    refine wpU_take (v := ?_) 9 hst (fun _ h => h) rfl ?_ ?_; rotate_left; (intro W hS K hK; have hc := hS.1.2.cell; clear hS; go_simp; exact hK.out _ (Below.refl _ _)); simp only [Act.put, List.setIfInBounds_toArray, List.set_cons_zero, List.set_cons_succ]
    refine wpU_take (v := ?_) 10 hst (fun _ h => h) rfl ?_ ?_; rotate_left; (intro W hS K hK; have hc := hS.1.2.cell; clear hS; go_simp; exact hK.out _ (Below.refl _ _)); simp only [Act.put, List.setIfInBounds_toArray, List.set_cons_zero, List.set_cons_succ]
    refine wpU_take (v := ?_) 11 hst (fun _ h => h) rfl ?_ ?_; rotate_left; (intro W hS K hK; have hc := hS.1.2.cell; clear hS; go_simp; exact hK.out _ (Below.refl _ _)); simp only [Act.put, List.setIfInBounds_toArray, List.set_cons_zero, List.set_cons_succ]
    refine wpU_take (v := ?_) 12 hst (fun _ h => h) rfl ?_ ?_; rotate_left; (intro W hS K hK; have hc := hS.1.2.cell; clear hS; go_simp; exact hK.out _ (Below.refl _ _)); simp only [Act.put, List.setIfInBounds_toArray, List.set_cons_zero, List.set_cons_succ]
    refine wpV_new 7 hst rfl ?_; intro W hS K hK; have hr := hS.2; go_simp; refine (H1.out _ hr).mono ?_; rintro e w9 ⟨A1, c1, rfl, ho9, hb9⟩; refine hK.out (fun W => RdB W A1 sb) _ _ (stable_rdB _ _) (hb9) (Rd.of_own ho9) (fun hst => ?_); clear hK K hS; try simp only [Act.put, List.setIfInBounds_toArray, List.set_cons_zero, List.set_cons_succ]
    clear ho9 hb9 hr
    refine wpV_new 13 hst rfl ?_; intro W hS K hK; have hr := hS.1.2; go_simp; refine (H2.out _ hr).mono ?_; rintro e w9 ⟨A2, c2, rfl, ho9, hb9⟩; refine hK.out (fun W => RdB W A2 sb) _ _ (stable_rdB _ _) (hb9) (Rd.of_own ho9) (fun hst => ?_); clear hK K hS; try simp only [Act.put, List.setIfInBounds_toArray, List.set_cons_zero, List.set_cons_succ]
    refine wpU_take (v := ?_) 14 hst (fun _ h => h) rfl ?_ ?_; rotate_left; (intro W hS K hK; have h1 := hS.1.2; have h2 := hS.2; clear hS; go_simp; refine (same_self _ _ _ _ _ _ sb _ h1 h2 rfl rfl).mono ?_; rintro e w9 ⟨rfl, hw⟩; refine CallPost.mk ?_; exact hK.out _ (below_eq hw)); simp only [Act.put, List.setIfInBounds_toArray, List.set_cons_zero, List.set_cons_succ]
    refine wpU_take (v := ?_) 15 hst (fun _ h => h) rfl ?_ ?_; rotate_left; (intro W hS K hK; clear hS; go_simp; exact hK.out _ (Below.refl _ _)); simp only [Act.put, List.setIfInBounds_toArray, List.set_cons_zero, List.set_cons_succ]
    refine wpU_take (v := ?_) 16 hst (fun _ h => h) rfl ?_ ?_; rotate_left; (intro W hS K hK; clear hS; go_simp; exact hK.out _ (Below.refl _ _)); simp only [Act.put, List.setIfInBounds_toArray, List.set_cons_zero, List.set_cons_succ]
    refine wpU_done (fun W hS => ?_)
    go_wp2
    go_ret
    exact ⟨rfl, hS.1.1.1.1⟩
theorem law_MeshkeyOpens (k : BitVec 64) (app : Bool) (src : BitVec 16) (iv seq : BitVec 32) (dst : BitVec 16) (A : Option Addr) (c : Nat) (bs : List (BitVec 8)) (w : World) (hr : RdB w A bs) (hc : bs.length ≤ c) :
    Calls Try.prog 6 #[.int .u64 (W64 k), .bool app, .agg #[.int .u16 (W16 src), .int .u32 (W32 iv), .int .u32 (W32 seq)], .int .u16 (W16 dst), .slice A bs.length c] w fun e w' => e = .returned (.bool true) ∧ Below w.heap.size w w' := by
  by_cases h : 400 < bs.length
  · go_enter Try.func6, Try.ntmps6
    go_wp2_with fail
    refine (lives47 _).mono ?_; rintro e w1 ⟨rfl, hb1⟩
    go_wp2
    go_ret
    exact ⟨rfl, ((Below.refl _ _).alloc (Nat.le_refl _) _).trans (hb1.mono (by simp))⟩
  · have hle := openB_le k (appK app src iv seq) (hdr dst) bs
    have hback := seal_open k (appK app src iv seq) (hdr dst) bs
    have h1 := fun W (hr : RdB W A bs) => mesh_OpenApp k app src iv seq dst A c bs W hr (by omega) hc
    have h3 := fun W (hr : RdB W A bs) => ref47_OpenApp k app src iv seq dst A c bs W hr (by omega) hc
    obtain ⟨ps, en, hq⟩ : ∃ ps en, openB k (appK app src iv seq) (hdr dst) bs = (ps, en) := ⟨_, _, rfl⟩
    rw [hq] at hle hback
    simp only [hq] at h1 h3
    dsimp only at hle hback
    have H1 := Lib.hid h1
    have H2 := Lib.hid h3
    clear h1 h3 hq
    have H3 := Lib.hid (fun W B d (h2 : RdB W B ps) => mesh_SealApp k app src iv seq dst B d ps W h2 (by omega))
    have hX := box1 w 35 #[.int .u16 (W16 src), .int .u32 (W32 iv), .int .u32 (W32 seq)]
    have hr0 := hr.to hX.1
    have hself : (en != en) = false := by simp
    by_cases h0 : en = 0
    · have hbk := hback h0
      rw [hbk] at H3
      subst h0
      clear hback hbk hself
      have hcell := hX.2.cell
      go_enter Try.func6, Try.ntmps6
      go_wp2_with fail
      refine (H1.out _ hr0).mono ?_; rintro e w1 ⟨A1, c1, rfl, hr1, hc1, hb1⟩
      dsimp only at *
      have hg1 := hX.2.to hb1 hX.2.lt
      have hb01 := hX.1.trans (hb1.mono hX.1.size)
      clear hcell
      have hcell := hg1.cell
      go_wp2_with fail
      refine (H2.out _ (hr.to hb01)).mono ?_; rintro e w2 ⟨A2, c2, rfl, hr2, hc2, hb2⟩
      dsimp only at *
      have hg2 := hg1.to hb2 hg1.lt
      have hb02 := hb01.trans (hb2.mono hb01.size)
      clear hcell
      go_wp2_with fail
      refine (same_self A1 A2 c1 c2 ps.length ps.length ps w2 (Rd.to hr1 hb2) hr2 rfl rfl).mono ?_; rintro e w3 ⟨rfl, rfl⟩
      go_wp2_with fail
      refine (lives47 _).mono ?_; rintro e w4 ⟨rfl, hb4⟩
      have hg4 := hg2.to hb4 hg2.lt
      have hb04 := hb02.trans (hb4.mono hb02.size)
      have hcell := hg4.cell
      go_wp2_with fail
      refine (H3.out _ _ _ ((Rd.to hr1 hb2).to hb4)).mono ?_; rintro e w5 ⟨A5, c5, rfl, ho5, hb5⟩
      have hb05 := hb04.trans (hb5.mono hb04.size)
      clear hcell
      go_wp2_with fail
      refine (same_self A5 A c5 c bs.length bs.length bs w5 (Rd.of_own ho5) (hr.to hb05) rfl rfl).mono ?_; rintro e w6 ⟨rfl, rfl⟩
      go_wp2
      go_ret
      exact ⟨rfl, hb05⟩
    · have hq : (en != 0) = true := by simpa using h0
      clear hback
      have hcell := hX.2.cell
      go_enter Try.func6, Try.ntmps6
      go_wp2_with fail
      refine (H1.out _ hr0).mono ?_; rintro e w1 ⟨A1, c1, rfl, hr1, hc1, hb1⟩
      dsimp only at *
      have hg1 := hX.2.to hb1 hX.2.lt
      have hb01 := hX.1.trans (hb1.mono hX.1.size)
      clear hcell
      have hcell := hg1.cell
      go_wp2_with fail
      refine (H2.out _ (hr.to hb01)).mono ?_; rintro e w2 ⟨A2, c2, rfl, hr2, hc2, hb2⟩
      dsimp only at *
      have hb02 := hb01.trans (hb2.mono hb01.size)
      clear hcell
      go_wp2_with fail
      refine (same_self A1 A2 c1 c2 ps.length ps.length ps w2 (Rd.to hr1 hb2) hr2 rfl rfl).mono ?_; rintro e w3 ⟨rfl, rfl⟩
      go_wp2_with fail
      refine (lives47 _).mono ?_; rintro e w4 ⟨rfl, hb4⟩
      have hb04 := hb02.trans (hb4.mono hb02.size)
      go_wp2
      go_ret
      exact ⟨rfl, hb04⟩
theorem law_MeshkeyBack (k : BitVec 64) (app : Bool) (src : BitVec 16) (iv seq : BitVec 32) (dst : BitVec 16) (A : Option Addr) (c : Nat) (bs : List (BitVec 8)) (w : World) (hr : RdB w A bs) (hc : bs.length ≤ c) :
    Calls Try.prog 7 #[.int .u64 (W64 k), .bool app, .agg #[.int .u16 (W16 src), .int .u32 (W32 iv), .int .u32 (W32 seq)], .int .u16 (W16 dst), .slice A bs.length c] w fun e w' => e = .returned (.bool true) ∧ Below w.heap.size w w' := by
  by_cases h : 400 < bs.length
  · go_enter Try.func7, Try.ntmps7
    go_wp2_with fail
    refine (lives47 _).mono ?_; rintro e w1 ⟨rfl, hb1⟩
    go_wp2
    go_ret
    exact ⟨rfl, ((Below.refl _ _).alloc (Nat.le_refl _) _).trans (hb1.mono (by simp))⟩
  · have H1 := Lib.hid (fun W (hr : RdB W A bs) => mesh_SealApp k app src iv seq dst A c bs W hr (by omega))
    have hl := sealB_length k (appK app src iv seq) (hdr dst) bs
    have hop := open_seal k (appK app src iv seq) (hdr dst) bs
    generalize sealB k (appK app src iv seq) (hdr dst) bs = sb at *
    have h2 := fun W B d (hr : RdB W B sb) (hd : sb.length ≤ d) => mesh_OpenApp k app src iv seq dst B d sb W hr (by omega) hd
    simp only [hop] at h2
    have H2 := Lib.hid h2
    have hX := box1 w 35 #[.int .u16 (W16 src), .int .u32 (W32 iv), .int .u32 (W32 seq)]
    have hr0 := hr.to hX.1
    have heq : ((sb.length : Int) == (bs.length : Int) + 4) = true := by rw [beq_iff_eq]; omega
    have HL := Lib.hid hl
    clear hop h2 hl
    have hcell := hX.2.cell
    go_enter Try.func7, Try.ntmps7
    go_wp2_with fail
    refine (H1.out _ hr0).mono ?_; rintro e w1 ⟨A1, c1, rfl, ho1, hb1⟩
    have hg1 := hX.2.to hb1 hX.2.lt
    have hb01 := hX.1.trans (hb1.mono hX.1.size)
    clear hcell
    have hcell := hg1.cell
    go_wp2_with fail
    refine (H2.out _ _ _ (Rd.of_own ho1) (own_cap ho1).1).mono ?_; rintro e w2 ⟨A2, c2, rfl, hr2, hc2, hb2⟩
    dsimp only at *
    have hb02 := hb01.trans (hb2.mono hb01.size)
    clear hcell
    go_wp2_with fail
    refine (lives47 _).mono ?_; rintro e w3 ⟨rfl, hb3⟩
    have hb03 := hb02.trans (hb3.mono hb02.size)
    go_wp2_with fail
    refine (same_self A2 A c2 c bs.length bs.length bs w3 (Rd.to hr2 hb3) (hr.to hb03) rfl rfl).mono ?_; rintro e w4 ⟨rfl, rfl⟩
    go_wp2
    go_ret
    exact ⟨rfl, hb03⟩
end Go.Proofs.Ytbkaeoaepmeceaa
