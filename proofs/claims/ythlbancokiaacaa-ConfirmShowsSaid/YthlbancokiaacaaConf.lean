/- Contracts of the functions of layer 10 (confirm) and of its reference. -/
import Derived.Test.YthlbancokiaacaaMac2
import Derived.Test.YthlbancokiaacaaDer
import Derived.Test.YthlbancokiaacaaConfFn
import Derived.Test.YthlbancokiaacaaReg
import Derived.Handy
namespace Go.Proofs.Ythlbancokiaacaa
open Go.ChangeShapes Go.WideShapes Go.ChangeAt Go.RowKit
set_option linter.unusedVariables false
set_option linter.unusedSimpArgs false

theorem bcell {W w1 : World} (hb : Below W.heap.size W w1) : (∀ b o, b < W.heap.size → w1.cell? ⟨b, o, none⟩ = W.cell? ⟨b, o, none⟩) ∧ (∀ b o, b < W.heap.size → w1.frozen? ⟨b, o, none⟩ = W.frozen? ⟨b, o, none⟩) :=
  ⟨fun b o h => hb.cell (p := ⟨b, o, none⟩) h, fun b o h => hb.frozen (p := ⟨b, o, none⟩) h⟩
theorem add_zero_' (g j : Nat) : (⟨g, 0, none⟩ : Addr).add j = ⟨g, j, none⟩ := by unfold Addr.add; split <;> simp_all
theorem conf_pair (u v : BitVec 32) (w : World) :
    Calls Try.prog 27 #[.int .u32 (W32 u), .int .u32 (W32 v)] w fun e w' => e = .returned (.int .u64 (W64 (joinW u v))) ∧ w = w' := by
  go_enter Try.func27, Try.ntmps27
  go_wp2
  go_ret
  exact ⟨ret_int rfl, rfl⟩
theorem ref10_pair (u v : BitVec 32) (w : World) :
    Calls Try.prog 29 #[.int .u32 (W32 u), .int .u32 (W32 v)] w fun e w' => e = .returned (.int .u64 (W64 (joinW u v))) ∧ w = w' := by
  go_enter Try.func29, Try.ntmps29
  go_wp2
  go_ret
  exact ⟨ret_int (congrArg W64 (join_mul _ _)), rfl⟩
theorem conf_number (kind : Int) (bits : BitVec 64) (w : World) :
    Calls Try.prog 36 #[.agg #[.int .i64 kind, .int .u64 (W64 bits)]] w fun e w' => e = .returned (.int .u64 (W64 (numA kind bits))) ∧ Below w.heap.size w w' := by
  go_enter Try.func36, Try.ntmps36
  go_wp2
  go_ret
  exact ⟨ret_int rfl, (Below.refl _ _).alloc (Nat.le_refl _) _⟩
theorem ref10_Number (kind : Int) (bits : BitVec 64) (w : World) :
    Calls Try.prog 37 #[.agg #[.int .i64 kind, .int .u64 (W64 bits)]] w fun e w' => e = .returned (.int .u64 (W64 (numA kind bits))) ∧ Below w.heap.size w w' := by
  go_enter Try.func37, Try.ntmps37
  go_wp2
  go_ret
  exact ⟨ret_int (congrArg W64 (numA_mul _ _)), (Below.refl _ _).alloc (Nat.le_refl _) _⟩
theorem conf_Draw (seed : BitVec 64) (i : Int) (w : World) :
    Calls Try.prog 12 #[.int .u64 (W64 seed), .int .i64 i] w fun e w' => e = .returned (.int .u64 (W64 (mix seed (BitVec.ofInt 64 i)))) ∧ Below w.heap.size w w' := by
  go_enter Try.func12, Try.ntmps12
  go_wp2_with fail
  refine (block_Mix _ _ _).mono ?_; rintro e w1 ⟨rfl, hb1⟩
  go_wp2
  go_ret
  exact ⟨rfl, hb1⟩
theorem ref10_Draw (seed : BitVec 64) (i : Int) (w : World) :
    Calls Try.prog 13 #[.int .u64 (W64 seed), .int .i64 i] w fun e w' => e = .returned (.int .u64 (W64 (mix seed (BitVec.ofInt 64 i)))) ∧ Below w.heap.size w w' := by
  go_enter Try.func13, Try.ntmps13
  go_wp2_with fail
  refine (ref5_Mix _ _ _).mono ?_; rintro e w1 ⟨rfl, hb1⟩
  go_wp2
  go_ret
  exact ⟨rfl, hb1⟩
/-- A derived key: the label, and a row of numbers that was made just before. -/
theorem der_row (k : BitVec 64) (s : ByteArray) (xs : List (BitVec 64)) (n : Nat) (hn : xs.length = n) (hl : xs.length ≤ 1024) (hs : s.size ≤ 65536) (W : World) (t : TypeId) :
    Calls Try.prog 21 #[.int .u64 (W64 k), .string s, .slice (some ⟨W.heap.size, 0, none⟩) n n] (W.alloc (.cells (ucells xs).toArray t)) fun e w' => e = .returned (.int .u64 (W64 (derive k (lbytes s) xs))) ∧ Below W.heap.size W w' := by
  subst hn
  have hr : RdU (W.alloc (.cells (ucells xs).toArray t)) (some ⟨W.heap.size, 0, none⟩) xs := Rd.new W (ucells xs).toArray t
  refine (mac_Derive k s _ xs.length xs _ hr hl hs).mono ?_
  rintro e w' ⟨rfl, hb⟩
  exact ⟨rfl, ((Below.refl _ _).alloc (Nat.le_refl _) _).trans (hb.mono (by simp))⟩
theorem rder_row (k : BitVec 64) (s : ByteArray) (xs : List (BitVec 64)) (n : Nat) (hn : xs.length = n) (hl : xs.length ≤ 1024) (hs : s.size ≤ 65536) (W : World) (t : TypeId) :
    Calls Try.prog 28 #[.int .u64 (W64 k), .string s, .slice (some ⟨W.heap.size, 0, none⟩) n n] (W.alloc (.cells (ucells xs).toArray t)) fun e w' => e = .returned (.int .u64 (W64 (derive k (lbytes s) xs))) ∧ Below W.heap.size W w' := by
  subst hn
  have hr : RdU (W.alloc (.cells (ucells xs).toArray t)) (some ⟨W.heap.size, 0, none⟩) xs := Rd.new W (ucells xs).toArray t
  refine (ref6_Derive k s _ xs.length xs _ hr hl hs).mono ?_
  rintro e w' ⟨rfl, hb⟩
  exact ⟨rfl, ((Below.refl _ _).alloc (Nat.le_refl _) _).trans (hb.mono (by simp))⟩
theorem conf_Commit (u v : BitVec 32) (nonce : BitVec 64) (z : BitVec 8) (w : World) :
    Calls Try.prog 14 #[.int .u32 (W32 u), .int .u32 (W32 v), .int .u64 (W64 nonce), .int .u8 (W8 z)] w fun e w' => e = .returned (.int .u64 (W64 (commitK u v nonce z))) ∧ Below w.heap.size w w' := by
  obtain ⟨r, hr⟩ : ∃ r, derive (joinW u v) (lbytes lblCommit) [z.setWidth 64] = r := ⟨_, rfl⟩
  have hc : commitK u v nonce z = mix r nonce := by unfold commitK; rw [hr]
  rw [hc]
  have HR := Lib.hid (fun W t => der_row (joinW u v) lblCommit [z.setWidth 64] 1 rfl (by simp) (by decide) W t)
  rw [hr] at HR
  clear hr hc
  go_enter Try.func14, Try.ntmps14
  go_wp2_with fail
  refine (conf_pair _ _ _).mono ?_; rintro e w' ⟨rfl, rfl⟩
  go_wp2_with fail
  refine (HR.out _ _).mono ?_; rintro e w1 ⟨rfl, hb1⟩
  go_wp2_with fail
  refine (block_Mix _ _ _).mono ?_; rintro e w2 ⟨rfl, hb2⟩
  go_wp2
  go_ret
  exact ⟨rfl, hb1.trans (hb2.mono hb1.size)⟩
theorem conf_flags (bs : List Bool) (n : Nat) (hn : bs.length = n) (g c : Nat) (w : World) (hr : Rd w (some ⟨g, 0, none⟩) (bs.map Value.bool)) (hl : n ≤ 63) :
    Calls Try.prog 48 #[.slice (some ⟨g, 0, none⟩) n c] w fun e w' => e = .returned (.int .u64 (W64 (flagsTo bs n))) ∧ w = w' := by
  subst hn
  go_enter Try.func48, Try.ntmps48
  go_wp2
  go_loop [3, 8] (fun x i => ∃ k : Nat, k ≤ bs.length ∧ i = .int .i64 k ∧ x = .int .u64 (W64 (flagsTo bs k))) (fun _ i => bs.length - (intOf i).toNat)
  case atStart => exact ⟨0, Nat.zero_le _, rfl, rfl⟩
  case round =>
    obtain ⟨k, hk, rfl, rfl⟩ := hrel
    by_cases hlt : k < bs.length
    · obtain ⟨ad, he, hb, hc⟩ := hr k (.bool bs[k]) (by simp [hlt])
      injection he with he
      subst he
      rw [add_zero_'] at hc
      have hg : bs.getD k false = bs[k] := by rw [List.getD_eq_getElem?_getD, List.getElem?_eq_getElem hlt]; rfl
      have HS := Lib.hid (flagsTo_succ bs k)
      rw [hg] at HS
      clear hg
      generalize bs[k] = b at *
      cases b
      · go_wp2
        go_round
        case rel => exact ⟨k + 1, by omega, by go_num, by rw [HS.out]; rfl⟩
        case measure => simp [intOf]; omega
      · go_wp2
        go_round
        case rel => exact ⟨k + 1, by omega, by go_num, by rw [HS.out]; rfl⟩
        case measure => simp [intOf]; omega
    · obtain rfl : k = bs.length := by omega
      go_wp2
      go_ret
      exact ⟨rfl, rfl⟩
theorem conf_features (io : Int) (b1 b2 b3 b4 b5 : Bool) (w : World) :
    Calls Try.prog 38 #[.agg #[.int .i64 io, .bool b1, .bool b2, .bool b3, .bool b4, .bool b5]] w fun e w' => e = .returned (.int .u64 (W64 (featK io [b1, b2, b3, b4, b5]))) ∧ Below w.heap.size w w' := by
  go_enter Try.func38, Try.ntmps38
  go_wp2
  have hG0 := Blk.new w 43 #[.int .i64 io, .bool b1, .bool b2, .bool b3, .bool b4, .bool b5]
  have hB0 : Below w.heap.size w (w.alloc (.cells #[.int .i64 io, .bool b1, .bool b2, .bool b3, .bool b4, .bool b5] 43)) := (Below.refl _ _).alloc (Nat.le_refl _) _
  refine wp_region_v (fun W => Below w.heap.size w W ∧ Blk W w.heap.size 43 #[.int .i64 io, .bool b1, .bool b2, .bool b3, .bool b4, .bool b5]) 19 (stable_and (stable_below _ _ (Nat.le_refl _)) (stable_blk _ _ _)) ⟨hB0.drew, hG0⟩ ?_
  have hst := stable_and (stable_below w.heap.size w (Nat.le_refl _)) (stable_blk w.heap.size 43 #[.int .i64 io, .bool b1, .bool b2, .bool b3, .bool b4, .bool b5])
  refine wpU_take (v := ?_) 0 hst (fun _ h => h) rfl ?_ ?_; rotate_left; (intro W hS K hK; have hc := hS.2.cell; clear hS; go_simp; exact hK.out _ (Below.refl _ _)); simp only [Act.put, List.setIfInBounds_toArray, List.set_cons_zero, List.set_cons_succ]
  refine wpU_take (v := ?_) 1 hst (fun _ h => h) rfl ?_ ?_; rotate_left; (intro W hS K hK; have hc := hS.2.cell; clear hS; go_simp; exact hK.out _ (Below.refl _ _)); simp only [Act.put, List.setIfInBounds_toArray, List.set_cons_zero, List.set_cons_succ]
  refine wpU_take (v := ?_) 2 hst (fun _ h => h) rfl ?_ ?_; rotate_left; (intro W hS K hK; have hc := hS.2.cell; clear hS; go_simp; exact hK.out _ (Below.refl _ _)); simp only [Act.put, List.setIfInBounds_toArray, List.set_cons_zero, List.set_cons_succ]
  refine wpU_take (v := ?_) 3 hst (fun _ h => h) rfl ?_ ?_; rotate_left; (intro W hS K hK; have hc := hS.2.cell; clear hS; go_simp; exact hK.out _ (Below.refl _ _)); simp only [Act.put, List.setIfInBounds_toArray, List.set_cons_zero, List.set_cons_succ]
  refine wpU_take (v := ?_) 4 hst (fun _ h => h) rfl ?_ ?_; rotate_left; (intro W hS K hK; have hc := hS.2.cell; clear hS; go_simp; exact hK.out _ (Below.refl _ _)); simp only [Act.put, List.setIfInBounds_toArray, List.set_cons_zero, List.set_cons_succ]
  refine wpU_take (v := ?_) 5 hst (fun _ h => h) rfl ?_ ?_; rotate_left; (intro W hS K hK; have hc := hS.2.cell; clear hS; go_simp; exact hK.out _ (Below.refl _ _)); simp only [Act.put, List.setIfInBounds_toArray, List.set_cons_zero, List.set_cons_succ]
  refine wpU_take (v := ?_) 6 hst (fun _ h => h) rfl ?_ ?_; rotate_left; (intro W hS K hK; have hc := hS.2.cell; clear hS; go_simp; exact hK.out _ (Below.refl _ _)); simp only [Act.put, List.setIfInBounds_toArray, List.set_cons_zero, List.set_cons_succ]
  refine wpU_take (v := ?_) 7 hst (fun _ h => h) rfl ?_ ?_; rotate_left; (intro W hS K hK; have hc := hS.2.cell; clear hS; go_simp; exact hK.out _ (Below.refl _ _)); simp only [Act.put, List.setIfInBounds_toArray, List.set_cons_zero, List.set_cons_succ]
  refine wpU_take (v := ?_) 8 hst (fun _ h => h) rfl ?_ ?_; rotate_left; (intro W hS K hK; have hc := hS.2.cell; clear hS; go_simp; exact hK.out _ (Below.refl _ _)); simp only [Act.put, List.setIfInBounds_toArray, List.set_cons_zero, List.set_cons_succ]
  refine wpU_take (v := ?_) 9 hst (fun _ h => h) rfl ?_ ?_; rotate_left; (intro W hS K hK; have hc := hS.2.cell; clear hS; go_simp; exact hK.out _ (Below.refl _ _)); simp only [Act.put, List.setIfInBounds_toArray, List.set_cons_zero, List.set_cons_succ]
  refine wpU_take (v := ?_) 10 hst (fun _ h => h) rfl ?_ ?_; rotate_left; (intro W hS K hK; have hc := hS.2.cell; clear hS; go_simp; exact hK.out _ (Below.refl _ _)); simp only [Act.put, List.setIfInBounds_toArray, List.set_cons_zero, List.set_cons_succ]
  refine wpU_take (v := ?_) 11 hst (fun _ h => h) rfl ?_ ?_; rotate_left; (intro W hS K hK; have hc := hS.2.cell; clear hS; go_simp; exact hK.out _ (Below.refl _ _)); simp only [Act.put, List.setIfInBounds_toArray, List.set_cons_zero, List.set_cons_succ]
  refine wpU_take (v := ?_) 12 hst (fun _ h => h) rfl ?_ ?_; rotate_left; (intro W hS K hK; have hc := hS.2.cell; clear hS; go_simp; exact hK.out _ (Below.refl _ _)); simp only [Act.put, List.setIfInBounds_toArray, List.set_cons_zero, List.set_cons_succ]
  refine wpU_take (v := ?_) 13 hst (fun _ h => h) rfl ?_ ?_; rotate_left; (intro W hS K hK; have hc := hS.2.cell; clear hS; go_simp; exact hK.out _ (Below.refl _ _)); simp only [Act.put, List.setIfInBounds_toArray, List.set_cons_zero, List.set_cons_succ]
  refine wpV_new 14 hst rfl ?_; intro W hS K hK; go_simp
  refine hK.out (fun W' => Rd W' (some ⟨W.heap.size, 0, none⟩) ([b1, b2, b3, b4, b5].map Value.bool)) _ _ (stable_rd _ _) ((Below.refl _ _).alloc (Nat.le_refl _) _) (Rd.new _ _ _) (fun hst => ?_)
  clear hK K hS
  refine wpU_take (v := ?_) 15 hst (fun _ h => h) rfl ?_ ?_; rotate_left; (intro W hS K hK; have hr := hS.2; clear hS; go_simp; refine (conf_flags [b1, b2, b3, b4, b5] 5 rfl _ _ _ hr (by decide)).mono ?_; rintro e w9 ⟨rfl, hw⟩; refine CallPost.mk ?_; exact hK.out _ (below_eq hw)); simp only [Act.put, List.setIfInBounds_toArray, List.set_cons_zero, List.set_cons_succ]
  refine wpU_take (v := ?_) 16 hst (fun _ h => h) rfl ?_ ?_; rotate_left; (intro W hS K hK; go_simp; exact hK.out _ (Below.refl _ _)); simp only [Act.put, List.setIfInBounds_toArray, List.set_cons_zero, List.set_cons_succ]
  refine wpU_take (v := ?_) 17 hst (fun _ h => h) rfl ?_ ?_; rotate_left; (intro W hS K hK; go_simp; exact hK.out _ (Below.refl _ _)); simp only [Act.put, List.setIfInBounds_toArray, List.set_cons_zero, List.set_cons_succ]
  refine wpU_take (v := ?_) 18 hst (fun _ h => h) rfl ?_ ?_; rotate_left; (intro W hS K hK; go_simp; exact hK.out _ (Below.refl _ _)); simp only [Act.put, List.setIfInBounds_toArray, List.set_cons_zero, List.set_cons_succ]
  refine wpU_done (fun W hS => ?_)
  go_wp2
  go_ret
  exact ⟨ret_int rfl, hS.1.1⟩
/-- A derived key of numbers that are read. -/
theorem der_n (k : BitVec 64) (s : ByteArray) (A : Option Addr) (c n : Nat) (xs : List (BitVec 64)) (r : BitVec 64) (hr : derive k (lbytes s) xs = r) (hn : xs.length = n) (w : World) (h : RdU w A xs) (hl : n ≤ 1024) (hs : s.size ≤ 65536) :
    Calls Try.prog 21 #[.int .u64 (W64 k), .string s, .slice A n c] w fun e w' => e = .returned (.int .u64 (W64 r)) ∧ Below w.heap.size w w' := by
  subst hn
  subst hr
  exact mac_Derive k s A c xs w h hl hs
theorem rder_n (k : BitVec 64) (s : ByteArray) (A : Option Addr) (c n : Nat) (xs : List (BitVec 64)) (r : BitVec 64) (hr : derive k (lbytes s) xs = r) (hn : xs.length = n) (w : World) (h : RdU w A xs) (hl : n ≤ 1024) (hs : s.size ≤ 65536) :
    Calls Try.prog 28 #[.int .u64 (W64 k), .string s, .slice A n c] w fun e w' => e = .returned (.int .u64 (W64 r)) ∧ Below w.heap.size w w' := by
  subst hn
  subst hr
  exact ref6_Derive k s A c xs w h hl hs
theorem ref10_bit (b : Bool) (n : BitVec 64) (w : World) :
    Calls Try.prog 49 #[.bool b, .int .u64 (W64 n)] w fun e w' => e = .returned (.int .u64 (W64 (bitB b n))) ∧ w = w' := by
  cases b
  all_goals
    go_enter Try.func49, Try.ntmps49
    go_wp2
    go_ret
    exact ⟨rfl, rfl⟩
theorem ref10_bit_l (b : Bool) (n : Nat) (z : Int) (hz : z = W64 (BitVec.ofNat 64 n)) (w : World) :
    Calls Try.prog 49 #[.bool b, .int .u64 z] w fun e w' => e = .returned (.int .u64 (W64 (bitB b (BitVec.ofNat 64 n)))) ∧ w = w' := by
  rw [hz]
  exact ref10_bit b _ w
theorem ref10_Features (io : Int) (b1 b2 b3 b4 b5 : Bool) (w : World) :
    Calls Try.prog 39 #[.agg #[.int .i64 io, .bool b1, .bool b2, .bool b3, .bool b4, .bool b5]] w fun e w' => e = .returned (.int .u64 (W64 (featK io [b1, b2, b3, b4, b5]))) ∧ Below w.heap.size w w' := by
  have HF := Lib.hid (feat_ref io b1 b2 b3 b4 b5)
  go_enter Try.func39, Try.ntmps39
  go_wp2
  have hG0 := Blk.new w 43 #[.int .i64 io, .bool b1, .bool b2, .bool b3, .bool b4, .bool b5]
  have hB0 : Below w.heap.size w (w.alloc (.cells #[.int .i64 io, .bool b1, .bool b2, .bool b3, .bool b4, .bool b5] 43)) := (Below.refl _ _).alloc (Nat.le_refl _) _
  have hst := stable_and (stable_below w.heap.size w (Nat.le_refl _)) (stable_blk w.heap.size 43 #[.int .i64 io, .bool b1, .bool b2, .bool b3, .bool b4, .bool b5])
  refine wp_region_v _ 20 hst ⟨hB0.drew, hG0⟩ ?_
  refine wpU_take (v := ?_) 0 hst (fun _ h => h) rfl ?_ ?_; rotate_left; (intro W hS K hK; have hc := hS.2.cell; clear hS; go_simp; exact hK.out _ (Below.refl _ _)); simp only [Act.put, List.setIfInBounds_toArray, List.set_cons_zero, List.set_cons_succ]
  refine wpU_take (v := ?_) 1 hst (fun _ h => h) rfl ?_ ?_; rotate_left; (intro W hS K hK; have hc := hS.2.cell; clear hS; go_simp; exact hK.out _ (Below.refl _ _)); simp only [Act.put, List.setIfInBounds_toArray, List.set_cons_zero, List.set_cons_succ]
  refine wpU_take (v := ?_) 2 hst (fun _ h => h) rfl ?_ ?_; rotate_left; (intro W hS K hK; clear hS; go_simp; refine (ref10_bit_l b1 1 _ rfl _).mono ?_; rintro e w9 ⟨rfl, hw⟩; refine CallPost.mk ?_; exact hK.out _ (below_eq hw)); simp only [Act.put, List.setIfInBounds_toArray, List.set_cons_zero, List.set_cons_succ]
  refine wpU_take (v := ?_) 3 hst (fun _ h => h) rfl ?_ ?_; rotate_left; (intro W hS K hK; have hc := hS.2.cell; clear hS; go_simp; exact hK.out _ (Below.refl _ _)); simp only [Act.put, List.setIfInBounds_toArray, List.set_cons_zero, List.set_cons_succ]
  refine wpU_take (v := ?_) 4 hst (fun _ h => h) rfl ?_ ?_; rotate_left; (intro W hS K hK; have hc := hS.2.cell; clear hS; go_simp; exact hK.out _ (Below.refl _ _)); simp only [Act.put, List.setIfInBounds_toArray, List.set_cons_zero, List.set_cons_succ]
  refine wpU_take (v := ?_) 5 hst (fun _ h => h) rfl ?_ ?_; rotate_left; (intro W hS K hK; clear hS; go_simp; refine (ref10_bit_l b2 2 _ rfl _).mono ?_; rintro e w9 ⟨rfl, hw⟩; refine CallPost.mk ?_; exact hK.out _ (below_eq hw)); simp only [Act.put, List.setIfInBounds_toArray, List.set_cons_zero, List.set_cons_succ]
  refine wpU_take (v := ?_) 6 hst (fun _ h => h) rfl ?_ ?_; rotate_left; (intro W hS K hK; have hc := hS.2.cell; clear hS; go_simp; exact hK.out _ (Below.refl _ _)); simp only [Act.put, List.setIfInBounds_toArray, List.set_cons_zero, List.set_cons_succ]
  refine wpU_take (v := ?_) 7 hst (fun _ h => h) rfl ?_ ?_; rotate_left; (intro W hS K hK; have hc := hS.2.cell; clear hS; go_simp; exact hK.out _ (Below.refl _ _)); simp only [Act.put, List.setIfInBounds_toArray, List.set_cons_zero, List.set_cons_succ]
  refine wpU_take (v := ?_) 8 hst (fun _ h => h) rfl ?_ ?_; rotate_left; (intro W hS K hK; have hc := hS.2.cell; clear hS; go_simp; exact hK.out _ (Below.refl _ _)); simp only [Act.put, List.setIfInBounds_toArray, List.set_cons_zero, List.set_cons_succ]
  refine wpU_take (v := ?_) 9 hst (fun _ h => h) rfl ?_ ?_; rotate_left; (intro W hS K hK; clear hS; go_simp; refine (ref10_bit_l b3 4 _ rfl _).mono ?_; rintro e w9 ⟨rfl, hw⟩; refine CallPost.mk ?_; exact hK.out _ (below_eq hw)); simp only [Act.put, List.setIfInBounds_toArray, List.set_cons_zero, List.set_cons_succ]
  refine wpU_take (v := ?_) 10 hst (fun _ h => h) rfl ?_ ?_; rotate_left; (intro W hS K hK; have hc := hS.2.cell; clear hS; go_simp; exact hK.out _ (Below.refl _ _)); simp only [Act.put, List.setIfInBounds_toArray, List.set_cons_zero, List.set_cons_succ]
  refine wpU_take (v := ?_) 11 hst (fun _ h => h) rfl ?_ ?_; rotate_left; (intro W hS K hK; have hc := hS.2.cell; clear hS; go_simp; exact hK.out _ (Below.refl _ _)); simp only [Act.put, List.setIfInBounds_toArray, List.set_cons_zero, List.set_cons_succ]
  refine wpU_take (v := ?_) 12 hst (fun _ h => h) rfl ?_ ?_; rotate_left; (intro W hS K hK; have hc := hS.2.cell; clear hS; go_simp; exact hK.out _ (Below.refl _ _)); simp only [Act.put, List.setIfInBounds_toArray, List.set_cons_zero, List.set_cons_succ]
  refine wpU_take (v := ?_) 13 hst (fun _ h => h) rfl ?_ ?_; rotate_left; (intro W hS K hK; clear hS; go_simp; refine (ref10_bit_l b4 8 _ rfl _).mono ?_; rintro e w9 ⟨rfl, hw⟩; refine CallPost.mk ?_; exact hK.out _ (below_eq hw)); simp only [Act.put, List.setIfInBounds_toArray, List.set_cons_zero, List.set_cons_succ]
  refine wpU_take (v := ?_) 14 hst (fun _ h => h) rfl ?_ ?_; rotate_left; (intro W hS K hK; have hc := hS.2.cell; clear hS; go_simp; exact hK.out _ (Below.refl _ _)); simp only [Act.put, List.setIfInBounds_toArray, List.set_cons_zero, List.set_cons_succ]
  refine wpU_take (v := ?_) 15 hst (fun _ h => h) rfl ?_ ?_; rotate_left; (intro W hS K hK; have hc := hS.2.cell; clear hS; go_simp; exact hK.out _ (Below.refl _ _)); simp only [Act.put, List.setIfInBounds_toArray, List.set_cons_zero, List.set_cons_succ]
  refine wpU_take (v := ?_) 16 hst (fun _ h => h) rfl ?_ ?_; rotate_left; (intro W hS K hK; have hc := hS.2.cell; clear hS; go_simp; exact hK.out _ (Below.refl _ _)); simp only [Act.put, List.setIfInBounds_toArray, List.set_cons_zero, List.set_cons_succ]
  refine wpU_take (v := ?_) 17 hst (fun _ h => h) rfl ?_ ?_; rotate_left; (intro W hS K hK; clear hS; go_simp; refine (ref10_bit_l b5 16 _ rfl _).mono ?_; rintro e w9 ⟨rfl, hw⟩; refine CallPost.mk ?_; exact hK.out _ (below_eq hw)); simp only [Act.put, List.setIfInBounds_toArray, List.set_cons_zero, List.set_cons_succ]
  refine wpU_take (v := ?_) 18 hst (fun _ h => h) rfl ?_ ?_; rotate_left; (intro W hS K hK; go_simp; exact hK.out _ (Below.refl _ _)); simp only [Act.put, List.setIfInBounds_toArray, List.set_cons_zero, List.set_cons_succ]
  refine wpU_take (v := ?_) 19 hst (fun _ h => h) rfl ?_ ?_; rotate_left; (intro W hS K hK; go_simp; exact hK.out _ (Below.refl _ _)); simp only [Act.put, List.setIfInBounds_toArray, List.set_cons_zero, List.set_cons_succ]
  refine wpU_done (fun W hS => ?_)
  have hc := hS.2.cell
  go_wp2
  go_ret
  exact ⟨ret_int (congrArg W64 HF.out), hS.1⟩
theorem ref10_Commit (u v : BitVec 32) (nonce : BitVec 64) (z : BitVec 8) (w : World) :
    Calls Try.prog 15 #[.int .u32 (W32 u), .int .u32 (W32 v), .int .u64 (W64 nonce), .int .u8 (W8 z)] w fun e w' => e = .returned (.int .u64 (W64 (commitK u v nonce z))) ∧ Below w.heap.size w w' := by
  obtain ⟨r, hr⟩ : ∃ r, derive (joinW u v) (lbytes lblCommit) [z.setWidth 64] = r := ⟨_, rfl⟩
  have hc : commitK u v nonce z = mix r nonce := by unfold commitK; rw [hr]
  rw [hc]
  have HR := Lib.hid (fun W t => rder_row (joinW u v) lblCommit [z.setWidth 64] 1 rfl (by simp) (by decide) W t)
  rw [hr] at HR
  clear hr hc
  go_enter Try.func15, Try.ntmps15
  go_wp2_with fail
  refine (ref10_pair _ _ _).mono ?_; rintro e w' ⟨rfl, rfl⟩
  go_wp2_with fail
  refine (HR.out _ _).mono ?_; rintro e w1 ⟨rfl, hb1⟩
  go_wp2_with fail
  refine (ref5_Mix _ _ _).mono ?_; rintro e w2 ⟨rfl, hb2⟩
  go_wp2
  go_ret
  exact ⟨rfl, hb1.trans (hb2.mono hb1.size)⟩
theorem conf_OOB (u : BitVec 32) (x : BitVec 64) (w : World) :
    Calls Try.prog 16 #[.int .u32 (W32 u), .int .u64 (W64 x)] w fun e w' => e = .returned (.agg #[.int .u64 (W64 (commitK u u x 0#8)), .int .u64 (W64 x)]) ∧ Below w.heap.size w w' := by
  have HC := Lib.hid (show ∀ W, Calls Try.prog 14 #[.int .u32 (W32 u), .int .u32 (W32 u), .int .u64 (W64 x), .int .u8 0] W fun e w' => e = .returned (.int .u64 (W64 (commitK u u x 0#8))) ∧ Below W.heap.size W w' from fun W => conf_Commit u u x 0#8 W)
  generalize commitK u u x 0#8 = r at *
  go_enter Try.func16, Try.ntmps16
  go_wp2_with fail
  refine (HC.out _).mono ?_; rintro e w1 ⟨rfl, hb1⟩
  have hG := (Blk.new w 29 #[.int .u64 0, .int .u64 0]).to hb1 (by simp)
  have hc0 : w1.cell? ⟨w.heap.size, 0, none⟩ = some (.int .u64 0) := hG.cell 0
  have hc1 : w1.cell? ⟨w.heap.size, 1, none⟩ = some (.int .u64 0) := hG.cell 1
  have hf0 := hG.free 0
  have hf1 := hG.free 1
  have hG2 := Lib.hid ((hG.set_ 0 (.int .u64 (W64 r))).set_ 1 (.int .u64 (W64 x)))
  go_wp2
  refine bodyPost_ret (results_cell rfl rfl (load_blk hG2.out Try.underlying29 rfl (by kernel_rfl))) rfl ?_
  exact ⟨rfl, (((Below.refl _ _).alloc (Nat.le_refl _) _).trans (hb1.mono (by simp))).setCell (Nat.le_refl _) _ |>.setCell (Nat.le_refl _) _⟩
theorem conf_Digits (u v : BitVec 32) (na nb : BitVec 64) (w : World) :
    Calls Try.prog 18 #[.int .u32 (W32 u), .int .u32 (W32 v), .int .u64 (W64 na), .int .u64 (W64 nb)] w fun e w' => e = .returned (.int .i64 (digitsK u v na nb).toNat) ∧ Below w.heap.size w w' := by
  obtain ⟨r, hr⟩ : ∃ r, derive (joinW u v) (lbytes lblDigits) [na, nb] = r := ⟨_, rfl⟩
  have hc : digitsK u v na nb = r % 1000000#64 := by unfold digitsK; rw [hr]
  have hlt := digitsK_lt u v na nb
  rw [hc] at hlt ⊢
  have HR := Lib.hid (fun W t => der_row (joinW u v) lblDigits [na, nb] 2 rfl (by simp) (by decide) W t)
  rw [hr] at HR
  clear hr hc
  have hw : W64 (r % 1000000#64) = ((r % 1000000#64).toNat : Int) := rfl
  have hi : IntKind.i64.wrap (W64 (r % 1000000#64)) = W64 (r % 1000000#64) := by rw [hw]; exact IntWalk.i64_in _ (by omega)
  have HW := Lib.hid hw
  clear hw
  go_enter Try.func18, Try.ntmps18
  go_wp2_with fail
  refine (conf_pair _ _ _).mono ?_; rintro e w' ⟨rfl, rfl⟩
  go_wp2_with fail
  refine (HR.out _ _).mono ?_; rintro e w1 ⟨rfl, hb1⟩
  go_wp2
  go_ret
  exact ⟨ret_int HW.out, hb1⟩
theorem conf_LongTerm (sh : BitVec 32) (na nb : BitVec 64) (ka : Int) (xa : BitVec 64) (kb : Int) (xb : BitVec 64) (w : World) :
    Calls Try.prog 22 #[.int .u32 (W32 sh), .int .u64 (W64 na), .int .u64 (W64 nb), .agg #[.int .i64 ka, .int .u64 (W64 xa)], .agg #[.int .i64 kb, .int .u64 (W64 xb)]] w fun e w' => e = .returned (.int .u64 (W64 (ltkK sh na nb (numA ka xa) (numA kb xb)))) ∧ Below w.heap.size w w' := by
  obtain ⟨r, hr⟩ : ∃ r, derive (sh.setWidth 64) (lbytes lblLtk) [na, nb, numA ka xa, numA kb xb] = r := ⟨_, rfl⟩
  have hc : ltkK sh na nb (numA ka xa) (numA kb xb) = r := hr
  rw [hc]
  have HR := Lib.hid hr
  clear hr hc
  go_enter Try.func22, Try.ntmps22
  go_wp2
  have hX := box2 w 39 #[.int .i64 ka, .int .u64 (W64 xa)] 39 #[.int .i64 kb, .int .u64 (W64 xb)]
  have hst := st2 w 39 #[.int .i64 ka, .int .u64 (W64 xa)] 39 #[.int .i64 kb, .int .u64 (W64 xb)]
  refine wp_region_v _ 11 hst ⟨hX.1.drew, hX.2⟩ ?_
  refine wpU_take (v := ?_) 0 hst (fun _ h => h) rfl ?_ ?_; rotate_left; (intro W hS K hK; have h1 := hS.2.1.cell; have h2 := hS.2.2.cell; clear hS; go_simp; exact hK.out _ (Below.refl _ _)); simp only [Act.put, List.setIfInBounds_toArray, List.set_cons_zero, List.set_cons_succ]
  refine wpU_take (v := ?_) 1 hst (fun _ h => h) rfl ?_ ?_; rotate_left; (intro W hS K hK; have h1 := hS.2.1.cell; have h2 := hS.2.2.cell; clear hS; go_simp; exact hK.out _ (Below.refl _ _)); simp only [Act.put, List.setIfInBounds_toArray, List.set_cons_zero, List.set_cons_succ]
  refine wpU_take (v := ?_) 2 hst (fun _ h => h) rfl ?_ ?_; rotate_left; (intro W hS K hK; have h1 := hS.2.1.cell; have h2 := hS.2.2.cell; clear hS; go_simp; exact hK.out _ (Below.refl _ _)); simp only [Act.put, List.setIfInBounds_toArray, List.set_cons_zero, List.set_cons_succ]
  refine wpU_take (v := ?_) 3 hst (fun _ h => h) rfl ?_ ?_; rotate_left; (intro W hS K hK; have h1 := hS.2.1.cell; have h2 := hS.2.2.cell; clear hS; go_simp; exact hK.out _ (Below.refl _ _)); simp only [Act.put, List.setIfInBounds_toArray, List.set_cons_zero, List.set_cons_succ]
  refine wpU_take (v := ?_) 4 hst (fun _ h => h) rfl ?_ ?_; rotate_left; (intro W hS K hK; have h1 := hS.2.1.cell; have h2 := hS.2.2.cell; clear hS; go_simp; exact hK.out _ (Below.refl _ _)); simp only [Act.put, List.setIfInBounds_toArray, List.set_cons_zero, List.set_cons_succ]
  refine wpU_take (v := ?_) 5 hst (fun _ h => h) rfl ?_ ?_; rotate_left; (intro W hS K hK; clear hS; go_simp; refine (conf_number ka xa _).mono ?_; rintro e w9 ⟨rfl, hb⟩; refine CallPost.mk ?_; exact hK.out _ (hb)); simp only [Act.put, List.setIfInBounds_toArray, List.set_cons_zero, List.set_cons_succ]
  refine wpU_take (v := ?_) 6 hst (fun _ h => h) rfl ?_ ?_; rotate_left; (intro W hS K hK; have h1 := hS.2.1.cell; have h2 := hS.2.2.cell; clear hS; go_simp; exact hK.out _ (Below.refl _ _)); simp only [Act.put, List.setIfInBounds_toArray, List.set_cons_zero, List.set_cons_succ]
  refine wpU_take (v := ?_) 7 hst (fun _ h => h) rfl ?_ ?_; rotate_left; (intro W hS K hK; clear hS; go_simp; refine (conf_number kb xb _).mono ?_; rintro e w9 ⟨rfl, hb⟩; refine CallPost.mk ?_; exact hK.out _ (hb)); simp only [Act.put, List.setIfInBounds_toArray, List.set_cons_zero, List.set_cons_succ]
  refine wpV_new 8 hst rfl ?_; intro W hS K hK; go_simp
  refine hK.out (fun W' => RdU W' (some ⟨W.heap.size, 0, none⟩) [na, nb, numA ka xa, numA kb xb]) _ _ (stable_rdU _ _) ((Below.refl _ _).alloc (Nat.le_refl _) _) (Rd.new _ _ _) (fun hst => ?_)
  clear hK K hS
  refine wpU_take (v := ?_) 9 hst (fun _ h => h) rfl ?_ ?_; rotate_left; (intro W hS K hK; have hr := hS.2; clear hS; go_simp; refine (der_n (sh.setWidth 64) lblLtk _ _ 4 _ r HR.out rfl _ hr (by decide) (by decide)).mono ?_; rintro e w9 ⟨rfl, hb⟩; refine CallPost.mk ?_; exact hK.out _ (hb)); simp only [Act.put, List.setIfInBounds_toArray, List.set_cons_zero, List.set_cons_succ]
  refine wpU_take (v := ?_) 10 hst (fun _ h => h) rfl ?_ ?_; rotate_left; (intro W hS K hK; go_simp; exact hK.out _ (Below.refl _ _)); simp only [Act.put, List.setIfInBounds_toArray, List.set_cons_zero, List.set_cons_succ]
  refine wpU_done (fun W hS => ?_)
  go_wp2
  go_ret
  exact ⟨rfl, hS.1.1⟩
theorem conf_Check (sh : BitVec 32) (n r : BitVec 64) (io : Int) (b1 b2 b3 b4 b5 : Bool) (ka : Int) (xa : BitVec 64) (kb : Int) (xb : BitVec 64) (w : World) :
    Calls Try.prog 24 #[.int .u32 (W32 sh), .int .u64 (W64 n), .int .u64 (W64 r), .agg #[.int .i64 io, .bool b1, .bool b2, .bool b3, .bool b4, .bool b5], .agg #[.int .i64 ka, .int .u64 (W64 xa)], .agg #[.int .i64 kb, .int .u64 (W64 xb)]] w fun e w' => e = .returned (.int .u64 (W64 (checkK sh n r (featK io [b1, b2, b3, b4, b5]) (numA ka xa) (numA kb xb)))) ∧ Below w.heap.size w w' := by
  obtain ⟨d, hd⟩ : ∃ d, derive 0#64 (lbytes lblCheck) [n, r, featK io [b1, b2, b3, b4, b5], numA ka xa, numA kb xb] = d := ⟨_, rfl⟩
  have hc : checkK sh n r (featK io [b1, b2, b3, b4, b5]) (numA ka xa) (numA kb xb) = mix d (sh.setWidth 64) := by unfold checkK; rw [hd]
  rw [hc]
  have HR := Lib.hid hd
  clear hd hc
  have HF := Lib.hid (fun W => conf_features io b1 b2 b3 b4 b5 W)
  generalize featK io [b1, b2, b3, b4, b5] = ft at *
  go_enter Try.func24, Try.ntmps24
  go_wp2
  have hX := box3 w 43 #[.int .i64 io, .bool b1, .bool b2, .bool b3, .bool b4, .bool b5] 39 #[.int .i64 ka, .int .u64 (W64 xa)] 39 #[.int .i64 kb, .int .u64 (W64 xb)]
  have hst := st3 w 43 #[.int .i64 io, .bool b1, .bool b2, .bool b3, .bool b4, .bool b5] 39 #[.int .i64 ka, .int .u64 (W64 xa)] 39 #[.int .i64 kb, .int .u64 (W64 xb)]
  refine wp_region_v _ 14 hst ⟨hX.1.drew, hX.2⟩ ?_
  refine wpU_take (v := ?_) 0 hst (fun _ h => h) rfl ?_ ?_; rotate_left; (intro W hS K hK; have h1 := hS.2.1.cell; have h2 := hS.2.2.1.cell; have h3 := hS.2.2.2.cell; clear hS; go_simp; exact hK.out _ (Below.refl _ _)); simp only [Act.put, List.setIfInBounds_toArray, List.set_cons_zero, List.set_cons_succ]
  refine wpU_take (v := ?_) 1 hst (fun _ h => h) rfl ?_ ?_; rotate_left; (intro W hS K hK; have h1 := hS.2.1.cell; have h2 := hS.2.2.1.cell; have h3 := hS.2.2.2.cell; clear hS; go_simp; exact hK.out _ (Below.refl _ _)); simp only [Act.put, List.setIfInBounds_toArray, List.set_cons_zero, List.set_cons_succ]
  refine wpU_take (v := ?_) 2 hst (fun _ h => h) rfl ?_ ?_; rotate_left; (intro W hS K hK; have h1 := hS.2.1.cell; have h2 := hS.2.2.1.cell; have h3 := hS.2.2.2.cell; clear hS; go_simp; exact hK.out _ (Below.refl _ _)); simp only [Act.put, List.setIfInBounds_toArray, List.set_cons_zero, List.set_cons_succ]
  refine wpU_take (v := ?_) 3 hst (fun _ h => h) rfl ?_ ?_; rotate_left; (intro W hS K hK; clear hS; go_simp; refine (HF.out _).mono ?_; rintro e w9 ⟨rfl, hb⟩; refine CallPost.mk ?_; exact hK.out _ (hb)); simp only [Act.put, List.setIfInBounds_toArray, List.set_cons_zero, List.set_cons_succ]
  refine wpU_take (v := ?_) 4 hst (fun _ h => h) rfl ?_ ?_; rotate_left; (intro W hS K hK; have h1 := hS.2.1.cell; have h2 := hS.2.2.1.cell; have h3 := hS.2.2.2.cell; clear hS; go_simp; exact hK.out _ (Below.refl _ _)); simp only [Act.put, List.setIfInBounds_toArray, List.set_cons_zero, List.set_cons_succ]
  refine wpU_take (v := ?_) 5 hst (fun _ h => h) rfl ?_ ?_; rotate_left; (intro W hS K hK; clear hS; go_simp; refine (conf_number ka xa _).mono ?_; rintro e w9 ⟨rfl, hb⟩; refine CallPost.mk ?_; exact hK.out _ (hb)); simp only [Act.put, List.setIfInBounds_toArray, List.set_cons_zero, List.set_cons_succ]
  refine wpU_take (v := ?_) 6 hst (fun _ h => h) rfl ?_ ?_; rotate_left; (intro W hS K hK; have h1 := hS.2.1.cell; have h2 := hS.2.2.1.cell; have h3 := hS.2.2.2.cell; clear hS; go_simp; exact hK.out _ (Below.refl _ _)); simp only [Act.put, List.setIfInBounds_toArray, List.set_cons_zero, List.set_cons_succ]
  refine wpU_take (v := ?_) 7 hst (fun _ h => h) rfl ?_ ?_; rotate_left; (intro W hS K hK; clear hS; go_simp; refine (conf_number kb xb _).mono ?_; rintro e w9 ⟨rfl, hb⟩; refine CallPost.mk ?_; exact hK.out _ (hb)); simp only [Act.put, List.setIfInBounds_toArray, List.set_cons_zero, List.set_cons_succ]
  refine wpU_take (v := ?_) 10 hst (fun _ h => h) rfl ?_ ?_; rotate_left; (intro W hS K hK; go_simp; exact hK.out _ (Below.refl _ _)); simp only [Act.put, List.setIfInBounds_toArray, List.set_cons_zero, List.set_cons_succ]
  refine wpU_take (v := ?_) 11 hst (fun _ h => h) rfl ?_ ?_; rotate_left; (intro W hS K hK; go_simp; exact hK.out _ (Below.refl _ _)); simp only [Act.put, List.setIfInBounds_toArray, List.set_cons_zero, List.set_cons_succ]
  refine wpV_new 8 hst rfl ?_; intro W hS K hK; go_simp
  refine hK.out (fun W' => RdU W' (some ⟨W.heap.size, 0, none⟩) [n, r, ft, numA ka xa, numA kb xb]) _ _ (stable_rdU _ _) ((Below.refl _ _).alloc (Nat.le_refl _) _) (Rd.new _ _ _) (fun hst => ?_)
  clear hK K hS
  refine wpU_take (v := ?_) 9 hst (fun _ h => h) rfl ?_ ?_; rotate_left; (intro W hS K hK; have hr := hS.2; clear hS; go_simp; refine (der_n 0#64 lblCheck _ _ 5 _ d HR.out rfl _ hr (by decide) (by decide)).mono ?_; rintro e w9 ⟨rfl, hb⟩; refine CallPost.mk ?_; exact hK.out _ (hb)); simp only [Act.put, List.setIfInBounds_toArray, List.set_cons_zero, List.set_cons_succ]
  refine wpU_take (v := ?_) 12 hst (fun _ h => h) rfl ?_ ?_; rotate_left; (intro W hS K hK; clear hS; go_simp; refine (block_Mix _ _ _).mono ?_; rintro e w9 ⟨rfl, hb⟩; refine CallPost.mk ?_; exact hK.out _ (hb)); simp only [Act.put, List.setIfInBounds_toArray, List.set_cons_zero, List.set_cons_succ]
  refine wpU_take (v := ?_) 13 hst (fun _ h => h) rfl ?_ ?_; rotate_left; (intro W hS K hK; go_simp; exact hK.out _ (Below.refl _ _)); simp only [Act.put, List.setIfInBounds_toArray, List.set_cons_zero, List.set_cons_succ]
  refine wpU_done (fun W hS => ?_)
  go_wp2
  go_ret
  exact ⟨rfl, hS.1.1⟩
theorem ref10_OOB (u : BitVec 32) (x : BitVec 64) (w : World) :
    Calls Try.prog 17 #[.int .u32 (W32 u), .int .u64 (W64 x)] w fun e w' => e = .returned (.agg #[.int .u64 (W64 (commitK u u x 0#8)), .int .u64 (W64 x)]) ∧ Below w.heap.size w w' := by
  have HC := Lib.hid (show ∀ W, Calls Try.prog 15 #[.int .u32 (W32 u), .int .u32 (W32 u), .int .u64 (W64 x), .int .u8 0] W fun e w' => e = .returned (.int .u64 (W64 (commitK u u x 0#8))) ∧ Below W.heap.size W w' from fun W => ref10_Commit u u x 0#8 W)
  generalize commitK u u x 0#8 = r at *
  go_enter Try.func17, Try.ntmps17
  go_wp2_with fail
  refine (HC.out _).mono ?_; rintro e w1 ⟨rfl, hb1⟩
  have hG := (Blk.new w 29 #[.int .u64 0, .int .u64 0]).to hb1 (by simp)
  have hc0 : w1.cell? ⟨w.heap.size, 0, none⟩ = some (.int .u64 0) := hG.cell 0
  have hc1 : w1.cell? ⟨w.heap.size, 1, none⟩ = some (.int .u64 0) := hG.cell 1
  have hf0 := hG.free 0
  have hf1 := hG.free 1
  have hG2 := Lib.hid ((hG.set_ 0 (.int .u64 (W64 r))).set_ 1 (.int .u64 (W64 x)))
  go_wp2
  refine bodyPost_ret (results_cell rfl rfl (load_blk hG2.out Try.underlying29 rfl (by kernel_rfl))) rfl ?_
  exact ⟨rfl, (((Below.refl _ _).alloc (Nat.le_refl _) _).trans (hb1.mono (by simp))).setCell (Nat.le_refl _) _ |>.setCell (Nat.le_refl _) _⟩
theorem ref10_Digits (u v : BitVec 32) (na nb : BitVec 64) (w : World) :
    Calls Try.prog 19 #[.int .u32 (W32 u), .int .u32 (W32 v), .int .u64 (W64 na), .int .u64 (W64 nb)] w fun e w' => e = .returned (.int .i64 (digitsK u v na nb).toNat) ∧ Below w.heap.size w w' := by
  obtain ⟨r, hr⟩ : ∃ r, derive (joinW u v) (lbytes lblDigits) [na, nb] = r := ⟨_, rfl⟩
  have hc : digitsK u v na nb = r % 1000000#64 := by unfold digitsK; rw [hr]
  have hlt := digitsK_lt u v na nb
  rw [hc] at hlt ⊢
  have HR := Lib.hid (fun W t => rder_row (joinW u v) lblDigits [na, nb] 2 rfl (by simp) (by decide) W t)
  rw [hr] at HR
  clear hr hc
  have hw : W64 (r % 1000000#64) = ((r % 1000000#64).toNat : Int) := rfl
  have hi : IntKind.i64.wrap (W64 (r % 1000000#64)) = W64 (r % 1000000#64) := by rw [hw]; exact IntWalk.i64_in _ (by omega)
  have HW := Lib.hid hw
  clear hw
  go_enter Try.func19, Try.ntmps19
  go_wp2_with fail
  refine (ref10_pair _ _ _).mono ?_; rintro e w' ⟨rfl, rfl⟩
  go_wp2_with fail
  refine (HR.out _ _).mono ?_; rintro e w1 ⟨rfl, hb1⟩
  go_wp2
  go_ret
  exact ⟨ret_int HW.out, hb1⟩
theorem ref10_LongTerm (sh : BitVec 32) (na nb : BitVec 64) (ka : Int) (xa : BitVec 64) (kb : Int) (xb : BitVec 64) (w : World) :
    Calls Try.prog 23 #[.int .u32 (W32 sh), .int .u64 (W64 na), .int .u64 (W64 nb), .agg #[.int .i64 ka, .int .u64 (W64 xa)], .agg #[.int .i64 kb, .int .u64 (W64 xb)]] w fun e w' => e = .returned (.int .u64 (W64 (ltkK sh na nb (numA ka xa) (numA kb xb)))) ∧ Below w.heap.size w w' := by
  obtain ⟨r, hr⟩ : ∃ r, derive (sh.setWidth 64) (lbytes lblLtk) [na, nb, numA ka xa, numA kb xb] = r := ⟨_, rfl⟩
  have hc : ltkK sh na nb (numA ka xa) (numA kb xb) = r := hr
  rw [hc]
  have HR := Lib.hid hr
  clear hr hc
  go_enter Try.func23, Try.ntmps23
  go_wp2
  have hX := box2 w 39 #[.int .i64 ka, .int .u64 (W64 xa)] 39 #[.int .i64 kb, .int .u64 (W64 xb)]
  have hst := st2 w 39 #[.int .i64 ka, .int .u64 (W64 xa)] 39 #[.int .i64 kb, .int .u64 (W64 xb)]
  refine wp_region_v _ 11 hst ⟨hX.1.drew, hX.2⟩ ?_
  refine wpU_take (v := ?_) 0 hst (fun _ h => h) rfl ?_ ?_; rotate_left; (intro W hS K hK; have h1 := hS.2.1.cell; have h2 := hS.2.2.cell; clear hS; go_simp; exact hK.out _ (Below.refl _ _)); simp only [Act.put, List.setIfInBounds_toArray, List.set_cons_zero, List.set_cons_succ]
  refine wpU_take (v := ?_) 1 hst (fun _ h => h) rfl ?_ ?_; rotate_left; (intro W hS K hK; have h1 := hS.2.1.cell; have h2 := hS.2.2.cell; clear hS; go_simp; exact hK.out _ (Below.refl _ _)); simp only [Act.put, List.setIfInBounds_toArray, List.set_cons_zero, List.set_cons_succ]
  refine wpU_take (v := ?_) 2 hst (fun _ h => h) rfl ?_ ?_; rotate_left; (intro W hS K hK; have h1 := hS.2.1.cell; have h2 := hS.2.2.cell; clear hS; go_simp; exact hK.out _ (Below.refl _ _)); simp only [Act.put, List.setIfInBounds_toArray, List.set_cons_zero, List.set_cons_succ]
  refine wpU_take (v := ?_) 3 hst (fun _ h => h) rfl ?_ ?_; rotate_left; (intro W hS K hK; have h1 := hS.2.1.cell; have h2 := hS.2.2.cell; clear hS; go_simp; exact hK.out _ (Below.refl _ _)); simp only [Act.put, List.setIfInBounds_toArray, List.set_cons_zero, List.set_cons_succ]
  refine wpU_take (v := ?_) 4 hst (fun _ h => h) rfl ?_ ?_; rotate_left; (intro W hS K hK; have h1 := hS.2.1.cell; have h2 := hS.2.2.cell; clear hS; go_simp; exact hK.out _ (Below.refl _ _)); simp only [Act.put, List.setIfInBounds_toArray, List.set_cons_zero, List.set_cons_succ]
  refine wpU_take (v := ?_) 5 hst (fun _ h => h) rfl ?_ ?_; rotate_left; (intro W hS K hK; clear hS; go_simp; refine (ref10_Number ka xa _).mono ?_; rintro e w9 ⟨rfl, hb⟩; refine CallPost.mk ?_; exact hK.out _ (hb)); simp only [Act.put, List.setIfInBounds_toArray, List.set_cons_zero, List.set_cons_succ]
  refine wpU_take (v := ?_) 6 hst (fun _ h => h) rfl ?_ ?_; rotate_left; (intro W hS K hK; have h1 := hS.2.1.cell; have h2 := hS.2.2.cell; clear hS; go_simp; exact hK.out _ (Below.refl _ _)); simp only [Act.put, List.setIfInBounds_toArray, List.set_cons_zero, List.set_cons_succ]
  refine wpU_take (v := ?_) 7 hst (fun _ h => h) rfl ?_ ?_; rotate_left; (intro W hS K hK; clear hS; go_simp; refine (ref10_Number kb xb _).mono ?_; rintro e w9 ⟨rfl, hb⟩; refine CallPost.mk ?_; exact hK.out _ (hb)); simp only [Act.put, List.setIfInBounds_toArray, List.set_cons_zero, List.set_cons_succ]
  refine wpV_new 8 hst rfl ?_; intro W hS K hK; go_simp
  refine hK.out (fun W' => RdU W' (some ⟨W.heap.size, 0, none⟩) [na, nb, numA ka xa, numA kb xb]) _ _ (stable_rdU _ _) ((Below.refl _ _).alloc (Nat.le_refl _) _) (Rd.new _ _ _) (fun hst => ?_)
  clear hK K hS
  refine wpU_take (v := ?_) 9 hst (fun _ h => h) rfl ?_ ?_; rotate_left; (intro W hS K hK; have hr := hS.2; clear hS; go_simp; refine (rder_n (sh.setWidth 64) lblLtk _ _ 4 _ r HR.out rfl _ hr (by decide) (by decide)).mono ?_; rintro e w9 ⟨rfl, hb⟩; refine CallPost.mk ?_; exact hK.out _ (hb)); simp only [Act.put, List.setIfInBounds_toArray, List.set_cons_zero, List.set_cons_succ]
  refine wpU_take (v := ?_) 10 hst (fun _ h => h) rfl ?_ ?_; rotate_left; (intro W hS K hK; go_simp; exact hK.out _ (Below.refl _ _)); simp only [Act.put, List.setIfInBounds_toArray, List.set_cons_zero, List.set_cons_succ]
  refine wpU_done (fun W hS => ?_)
  go_wp2
  go_ret
  exact ⟨rfl, hS.1.1⟩
theorem ref10_Check (sh : BitVec 32) (n r : BitVec 64) (io : Int) (b1 b2 b3 b4 b5 : Bool) (ka : Int) (xa : BitVec 64) (kb : Int) (xb : BitVec 64) (w : World) :
    Calls Try.prog 25 #[.int .u32 (W32 sh), .int .u64 (W64 n), .int .u64 (W64 r), .agg #[.int .i64 io, .bool b1, .bool b2, .bool b3, .bool b4, .bool b5], .agg #[.int .i64 ka, .int .u64 (W64 xa)], .agg #[.int .i64 kb, .int .u64 (W64 xb)]] w fun e w' => e = .returned (.int .u64 (W64 (checkK sh n r (featK io [b1, b2, b3, b4, b5]) (numA ka xa) (numA kb xb)))) ∧ Below w.heap.size w w' := by
  obtain ⟨d, hd⟩ : ∃ d, derive 0#64 (lbytes lblCheck) [n, r, featK io [b1, b2, b3, b4, b5], numA ka xa, numA kb xb] = d := ⟨_, rfl⟩
  have hc : checkK sh n r (featK io [b1, b2, b3, b4, b5]) (numA ka xa) (numA kb xb) = mix d (sh.setWidth 64) := by unfold checkK; rw [hd]
  rw [hc]
  have HR := Lib.hid hd
  clear hd hc
  have HF := Lib.hid (fun W => ref10_Features io b1 b2 b3 b4 b5 W)
  generalize featK io [b1, b2, b3, b4, b5] = ft at *
  go_enter Try.func25, Try.ntmps25
  go_wp2
  have hX := box3 w 43 #[.int .i64 io, .bool b1, .bool b2, .bool b3, .bool b4, .bool b5] 39 #[.int .i64 ka, .int .u64 (W64 xa)] 39 #[.int .i64 kb, .int .u64 (W64 xb)]
  have hst := st3 w 43 #[.int .i64 io, .bool b1, .bool b2, .bool b3, .bool b4, .bool b5] 39 #[.int .i64 ka, .int .u64 (W64 xa)] 39 #[.int .i64 kb, .int .u64 (W64 xb)]
  refine wp_region_v _ 14 hst ⟨hX.1.drew, hX.2⟩ ?_
  refine wpU_take (v := ?_) 0 hst (fun _ h => h) rfl ?_ ?_; rotate_left; (intro W hS K hK; have h1 := hS.2.1.cell; have h2 := hS.2.2.1.cell; have h3 := hS.2.2.2.cell; clear hS; go_simp; exact hK.out _ (Below.refl _ _)); simp only [Act.put, List.setIfInBounds_toArray, List.set_cons_zero, List.set_cons_succ]
  refine wpU_take (v := ?_) 1 hst (fun _ h => h) rfl ?_ ?_; rotate_left; (intro W hS K hK; have h1 := hS.2.1.cell; have h2 := hS.2.2.1.cell; have h3 := hS.2.2.2.cell; clear hS; go_simp; exact hK.out _ (Below.refl _ _)); simp only [Act.put, List.setIfInBounds_toArray, List.set_cons_zero, List.set_cons_succ]
  refine wpU_take (v := ?_) 2 hst (fun _ h => h) rfl ?_ ?_; rotate_left; (intro W hS K hK; have h1 := hS.2.1.cell; have h2 := hS.2.2.1.cell; have h3 := hS.2.2.2.cell; clear hS; go_simp; exact hK.out _ (Below.refl _ _)); simp only [Act.put, List.setIfInBounds_toArray, List.set_cons_zero, List.set_cons_succ]
  refine wpU_take (v := ?_) 3 hst (fun _ h => h) rfl ?_ ?_; rotate_left; (intro W hS K hK; clear hS; go_simp; refine (HF.out _).mono ?_; rintro e w9 ⟨rfl, hb⟩; refine CallPost.mk ?_; exact hK.out _ (hb)); simp only [Act.put, List.setIfInBounds_toArray, List.set_cons_zero, List.set_cons_succ]
  refine wpU_take (v := ?_) 4 hst (fun _ h => h) rfl ?_ ?_; rotate_left; (intro W hS K hK; have h1 := hS.2.1.cell; have h2 := hS.2.2.1.cell; have h3 := hS.2.2.2.cell; clear hS; go_simp; exact hK.out _ (Below.refl _ _)); simp only [Act.put, List.setIfInBounds_toArray, List.set_cons_zero, List.set_cons_succ]
  refine wpU_take (v := ?_) 5 hst (fun _ h => h) rfl ?_ ?_; rotate_left; (intro W hS K hK; clear hS; go_simp; refine (ref10_Number ka xa _).mono ?_; rintro e w9 ⟨rfl, hb⟩; refine CallPost.mk ?_; exact hK.out _ (hb)); simp only [Act.put, List.setIfInBounds_toArray, List.set_cons_zero, List.set_cons_succ]
  refine wpU_take (v := ?_) 6 hst (fun _ h => h) rfl ?_ ?_; rotate_left; (intro W hS K hK; have h1 := hS.2.1.cell; have h2 := hS.2.2.1.cell; have h3 := hS.2.2.2.cell; clear hS; go_simp; exact hK.out _ (Below.refl _ _)); simp only [Act.put, List.setIfInBounds_toArray, List.set_cons_zero, List.set_cons_succ]
  refine wpU_take (v := ?_) 7 hst (fun _ h => h) rfl ?_ ?_; rotate_left; (intro W hS K hK; clear hS; go_simp; refine (ref10_Number kb xb _).mono ?_; rintro e w9 ⟨rfl, hb⟩; refine CallPost.mk ?_; exact hK.out _ (hb)); simp only [Act.put, List.setIfInBounds_toArray, List.set_cons_zero, List.set_cons_succ]
  refine wpU_take (v := ?_) 10 hst (fun _ h => h) rfl ?_ ?_; rotate_left; (intro W hS K hK; go_simp; exact hK.out _ (Below.refl _ _)); simp only [Act.put, List.setIfInBounds_toArray, List.set_cons_zero, List.set_cons_succ]
  refine wpU_take (v := ?_) 11 hst (fun _ h => h) rfl ?_ ?_; rotate_left; (intro W hS K hK; go_simp; exact hK.out _ (Below.refl _ _)); simp only [Act.put, List.setIfInBounds_toArray, List.set_cons_zero, List.set_cons_succ]
  refine wpV_new 8 hst rfl ?_; intro W hS K hK; go_simp
  refine hK.out (fun W' => RdU W' (some ⟨W.heap.size, 0, none⟩) [n, r, ft, numA ka xa, numA kb xb]) _ _ (stable_rdU _ _) ((Below.refl _ _).alloc (Nat.le_refl _) _) (Rd.new _ _ _) (fun hst => ?_)
  clear hK K hS
  refine wpU_take (v := ?_) 9 hst (fun _ h => h) rfl ?_ ?_; rotate_left; (intro W hS K hK; have hr := hS.2; clear hS; go_simp; refine (rder_n 0#64 lblCheck _ _ 5 _ d HR.out rfl _ hr (by decide) (by decide)).mono ?_; rintro e w9 ⟨rfl, hb⟩; refine CallPost.mk ?_; exact hK.out _ (hb)); simp only [Act.put, List.setIfInBounds_toArray, List.set_cons_zero, List.set_cons_succ]
  refine wpU_take (v := ?_) 12 hst (fun _ h => h) rfl ?_ ?_; rotate_left; (intro W hS K hK; clear hS; go_simp; refine (ref5_Mix _ _ _).mono ?_; rintro e w9 ⟨rfl, hb⟩; refine CallPost.mk ?_; exact hK.out _ (hb)); simp only [Act.put, List.setIfInBounds_toArray, List.set_cons_zero, List.set_cons_succ]
  refine wpU_take (v := ?_) 13 hst (fun _ h => h) rfl ?_ ?_; rotate_left; (intro W hS K hK; go_simp; exact hK.out _ (Below.refl _ _)); simp only [Act.put, List.setIfInBounds_toArray, List.set_cons_zero, List.set_cons_succ]
  refine wpU_done (fun W hS => ?_)
  go_wp2
  go_ret
  exact ⟨rfl, hS.1.1⟩
end Go.Proofs.Ythlbancokiaacaa
