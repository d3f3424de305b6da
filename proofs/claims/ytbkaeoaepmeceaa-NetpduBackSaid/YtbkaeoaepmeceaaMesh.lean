/- Contracts of the functions of layer 47 (meshkey) and of its reference. -/
import Derived.Test.YtbkaeoaepmeceaaDer2
import Derived.Test.YtbkaeoaepmeceaaMac3
import Derived.Test.YtbkaeoaepmeceaaMeshFn
namespace Go.Proofs.Ytbkaeoaepmeceaa
set_option maxRecDepth 100000
open Go.ChangeShapes Go.WideShapes Go.ChangeAt Go.RowKit
set_option linter.unusedVariables false
set_option linter.unusedSimpArgs false

theorem mesh_Derive (k : BitVec 64) (w : World) :
    Calls Try.prog 14 #[.int .u64 (W64 k)] w fun e w' => e = .returned (.agg #[.int .u64 (W64 k), .int .i64 (W64 (nidK k)), .int .u64 (W64 (encK k)), .int .u64 (W64 (hideK k)), .int .u64 (W64 (beaK k))]) ∧ Below w.heap.size w w' := by
  obtain ⟨r1, h1⟩ : ∃ r, derive k (lbytes lblNid) [] = r := ⟨_, rfl⟩
  have hn : nidK k = r1 % 128#64 := by unfold nidK; rw [h1]
  have hlt := nidK_lt k
  rw [hn] at hlt ⊢
  have D1 := Lib.hid (fun W => der_n k lblNid none 0 0 [] r1 h1 rfl W (Rd.nil _ _) (by decide) (by decide))
  have D2 := Lib.hid (fun W => der_n k lblEnc none 0 0 [] (encK k) rfl rfl W (Rd.nil _ _) (by decide) (by decide))
  have D3 := Lib.hid (fun W => der_n k lblHide none 0 0 [] (hideK k) rfl rfl W (Rd.nil _ _) (by decide) (by decide))
  have D4 := Lib.hid (fun W => der_n k lblBea none 0 0 [] (beaK k) rfl rfl W (Rd.nil _ _) (by decide) (by decide))
  have hi : IntKind.i64.wrap (W64 (r1 % 128#64)) = W64 (r1 % 128#64) := by
    have hw : W64 (r1 % 128#64) = ((r1 % 128#64).toNat : Int) := rfl
    rw [hw]; exact IntWalk.i64_in _ (by omega)
  clear h1 hn hlt
  generalize encK k = a2 at *
  generalize hideK k = a3 at *
  generalize beaK k = a4 at *
  have hB0 : Below w.heap.size w (w.alloc (.cells #[.int .u64 0, .int .i64 0, .int .u64 0, .int .u64 0, .int .u64 0] 25)) := (Below.refl _ _).alloc (Nat.le_refl _) _
  have hG0 := Blk.new w 25 #[.int .u64 0, .int .i64 0, .int .u64 0, .int .u64 0, .int .u64 0]
  go_enter Try.func14, Try.ntmps14
  go_wp2_with fail
  refine (D1.out _).mono ?_; rintro e w1 ⟨rfl, hb1⟩
  have hG1 := hG0.to hb1 (by simp)
  have hb01 := hB0.trans (hb1.mono hB0.size)
  clear hG0
  go_wp2_with fail
  refine (D2.out _).mono ?_; rintro e w2 ⟨rfl, hb2⟩
  have hG2 := hG1.to hb2 hG1.lt
  have hb02 := hb01.trans (hb2.mono hb01.size)
  go_wp2_with fail
  refine (D3.out _).mono ?_; rintro e w3 ⟨rfl, hb3⟩
  have hG3 := hG2.to hb3 hG2.lt
  have hb03 := hb02.trans (hb3.mono hb02.size)
  go_wp2_with fail
  refine (D4.out _).mono ?_; rintro e w4 ⟨rfl, hb4⟩
  have hG := hG3.to hb4 hG3.lt
  have hb04 := hb03.trans (hb4.mono hb03.size)
  clear hG1 hG2 hG3 hb1 hb2 hb3 hb4 hb01 hb02 hb03 hB0
  have hc0 : w4.cell? ⟨w.heap.size, 0, none⟩ = some (.int .u64 0) := hG.cell 0
  have hc1 : w4.cell? ⟨w.heap.size, 1, none⟩ = some (.int .i64 0) := hG.cell 1
  have hc2 : w4.cell? ⟨w.heap.size, 2, none⟩ = some (.int .u64 0) := hG.cell 2
  have hc3 : w4.cell? ⟨w.heap.size, 3, none⟩ = some (.int .u64 0) := hG.cell 3
  have hc4 : w4.cell? ⟨w.heap.size, 4, none⟩ = some (.int .u64 0) := hG.cell 4
  have hf0 := hG.free 0
  have hf1 := hG.free 1
  have hf2 := hG.free 2
  have hf3 := hG.free 3
  have hf4 := hG.free 4
  have hG2 := Lib.hid (((((hG.set_ 0 (.int .u64 (W64 k))).set_ 1 (.int .i64 (W64 (r1 % 128#64)))).set_ 2 (.int .u64 (W64 a2))).set_ 3 (.int .u64 (W64 a3))).set_ 4 (.int .u64 (W64 a4)))
  go_wp2
  refine bodyPost_ret (results_cell rfl rfl (load_blk hG2.out Try.underlying25 rfl (by kernel_rfl))) rfl ?_
  exact ⟨rfl, ((((hb04.setCell (Nat.le_refl _) _).setCell (Nat.le_refl _) _).setCell (Nat.le_refl _) _).setCell (Nat.le_refl _) _).setCell (Nat.le_refl _) _⟩
theorem ref47_Derive (k : BitVec 64) (w : World) :
    Calls Try.prog 16 #[.int .u64 (W64 k)] w fun e w' => e = .returned (.agg #[.int .u64 (W64 k), .int .i64 (W64 (nidK k)), .int .u64 (W64 (encK k)), .int .u64 (W64 (hideK k)), .int .u64 (W64 (beaK k))]) ∧ Below w.heap.size w w' := by
  obtain ⟨r1, h1⟩ : ∃ r, derive k (lbytes lblNid) [] = r := ⟨_, rfl⟩
  have hn : nidK k = r1 % 128#64 := by unfold nidK; rw [h1]
  have hlt := nidK_lt k
  rw [hn] at hlt ⊢
  have D1 := Lib.hid (fun W => rder_n k lblNid none 0 0 [] r1 h1 rfl W (Rd.nil _ _) (by decide) (by decide))
  have D2 := Lib.hid (fun W => rder_n k lblEnc none 0 0 [] (encK k) rfl rfl W (Rd.nil _ _) (by decide) (by decide))
  have D3 := Lib.hid (fun W => rder_n k lblHide none 0 0 [] (hideK k) rfl rfl W (Rd.nil _ _) (by decide) (by decide))
  have D4 := Lib.hid (fun W => rder_n k lblBea none 0 0 [] (beaK k) rfl rfl W (Rd.nil _ _) (by decide) (by decide))
  have hi : IntKind.i64.wrap (W64 (r1 % 128#64)) = W64 (r1 % 128#64) := by
    have hw : W64 (r1 % 128#64) = ((r1 % 128#64).toNat : Int) := rfl
    rw [hw]; exact IntWalk.i64_in _ (by omega)
  clear h1 hn hlt
  generalize encK k = a2 at *
  generalize hideK k = a3 at *
  generalize beaK k = a4 at *
  have hB0 : Below w.heap.size w (w.alloc (.cells #[.int .u64 0, .int .i64 0, .int .u64 0, .int .u64 0, .int .u64 0] 25)) := (Below.refl _ _).alloc (Nat.le_refl _) _
  have hG0 := Blk.new w 25 #[.int .u64 0, .int .i64 0, .int .u64 0, .int .u64 0, .int .u64 0]
  go_enter Try.func16, Try.ntmps16
  go_wp2_with fail
  refine (D1.out _).mono ?_; rintro e w1 ⟨rfl, hb1⟩
  have hG1 := hG0.to hb1 (by simp)
  have hb01 := hB0.trans (hb1.mono hB0.size)
  clear hG0
  go_wp2_with fail
  refine (D2.out _).mono ?_; rintro e w2 ⟨rfl, hb2⟩
  have hG2 := hG1.to hb2 hG1.lt
  have hb02 := hb01.trans (hb2.mono hb01.size)
  go_wp2_with fail
  refine (D3.out _).mono ?_; rintro e w3 ⟨rfl, hb3⟩
  have hG3 := hG2.to hb3 hG2.lt
  have hb03 := hb02.trans (hb3.mono hb02.size)
  go_wp2_with fail
  refine (D4.out _).mono ?_; rintro e w4 ⟨rfl, hb4⟩
  have hG := hG3.to hb4 hG3.lt
  have hb04 := hb03.trans (hb4.mono hb03.size)
  clear hG1 hG2 hG3 hb1 hb2 hb3 hb4 hb01 hb02 hb03 hB0
  have hc0 : w4.cell? ⟨w.heap.size, 0, none⟩ = some (.int .u64 0) := hG.cell 0
  have hc1 : w4.cell? ⟨w.heap.size, 1, none⟩ = some (.int .i64 0) := hG.cell 1
  have hc2 : w4.cell? ⟨w.heap.size, 2, none⟩ = some (.int .u64 0) := hG.cell 2
  have hc3 : w4.cell? ⟨w.heap.size, 3, none⟩ = some (.int .u64 0) := hG.cell 3
  have hc4 : w4.cell? ⟨w.heap.size, 4, none⟩ = some (.int .u64 0) := hG.cell 4
  have hf0 := hG.free 0
  have hf1 := hG.free 1
  have hf2 := hG.free 2
  have hf3 := hG.free 3
  have hf4 := hG.free 4
  have hG2 := Lib.hid (((((hG.set_ 0 (.int .u64 (W64 k))).set_ 1 (.int .i64 (W64 (r1 % 128#64)))).set_ 2 (.int .u64 (W64 a2))).set_ 3 (.int .u64 (W64 a3))).set_ 4 (.int .u64 (W64 a4)))
  go_wp2
  refine bodyPost_ret (results_cell rfl rfl (load_blk hG2.out Try.underlying25 rfl (by kernel_rfl))) rfl ?_
  exact ⟨rfl, ((((hb04.setCell (Nat.le_refl _) _).setCell (Nat.le_refl _) _).setCell (Nat.le_refl _) _).setCell (Nat.le_refl _) _).setCell (Nat.le_refl _) _⟩
theorem mesh_nonce (A : Option Addr) (c n : Nat) (xs : List (BitVec 64)) (r : BitVec 64) (hr : derive 0#64 (lbytes lblNonce) xs = r) (hn : xs.length = n) (w : World) (h : RdU w A xs) (hl : n ≤ 1024) :
    Calls Try.prog 40 #[.slice A n c] w fun e w' => e = .returned (.int .u64 (W64 r)) ∧ Below w.heap.size w w' := by
  have D := Lib.hid (fun W (h : RdU W A xs) => der_n 0#64 lblNonce A c n xs r hr hn W h hl (by decide))
  clear hr
  go_enter Try.func40, Try.ntmps40
  go_wp2_with fail
  refine (D.out _ h).mono ?_; rintro e w1 ⟨rfl, hb1⟩
  go_wp2
  go_ret
  exact ⟨rfl, hb1⟩
theorem mesh_Nonce (kind : Int) (src : BitVec 16) (seq iv : BitVec 32) (w : World) :
    Calls Try.prog 17 #[.int .i64 kind, .int .u16 (W16 src), .int .u32 (W32 seq), .int .u32 (W32 iv)] w fun e w' => e = .returned (.int .u64 (W64 (nonceK kind src seq iv))) ∧ Below w.heap.size w w' := by
  have D := Lib.hid (fun W A c (h : RdU W A [BitVec.ofInt 64 kind, src.setWidth 64, seq.setWidth 64, iv.setWidth 64]) => mesh_nonce A c 4 _ (nonceK kind src seq iv) rfl rfl W h (by decide))
  generalize nonceK kind src seq iv = r at *
  go_enter Try.func17, Try.ntmps17
  go_wp2_with fail
  refine (D.out _ _ _ (Rd.new _ _ _)).mono ?_; rintro e w1 ⟨rfl, hb1⟩
  have hb01 : Below w.heap.size w w1 := ((Below.refl _ _).alloc (Nat.le_refl _) _).trans (hb1.mono (by simp))
  go_wp2
  go_ret
  exact ⟨rfl, hb01⟩
theorem ref47_Nonce (kind : Int) (src : BitVec 16) (seq iv : BitVec 32) (w : World) :
    Calls Try.prog 18 #[.int .i64 kind, .int .u16 (W16 src), .int .u32 (W32 seq), .int .u32 (W32 iv)] w fun e w' => e = .returned (.int .u64 (W64 (nonceK kind src seq iv))) ∧ Below w.heap.size w w' := by
  have D := Lib.hid (fun W A c (h : RdU W A [BitVec.ofInt 64 kind, src.setWidth 64, seq.setWidth 64, iv.setWidth 64]) => rder_n 0#64 lblNonce A c 4 _ (nonceK kind src seq iv) rfl rfl W h (by decide) (by decide))
  generalize nonceK kind src seq iv = r at *
  go_enter Try.func18, Try.ntmps18
  go_wp2_with fail
  refine (D.out _ _ _ (Rd.new _ _ _)).mono ?_; rintro e w1 ⟨rfl, hb1⟩
  have hb01 : Below w.heap.size w w1 := ((Below.refl _ _).alloc (Nat.le_refl _) _).trans (hb1.mono (by simp))
  go_wp2
  go_ret
  exact ⟨rfl, hb01⟩
/-- What access returns: a nonce, and two bytes. -/
def RetH (w : World) (n : BitVec 64) (bs : List (BitVec 8)) (e : Ending) (w' : World) : Prop :=
  ∃ A, e = .returned (.tuple #[.int .u64 (W64 n), .slice (some A) 2 2]) ∧ RdB w' (some A) bs ∧ Below w.heap.size w w'
theorem mesh_access (app : Bool) (src : BitVec 16) (iv seq : BitVec 32) (dst : BitVec 16) (w : World) :
    Calls Try.prog 44 #[.bool app, .agg #[.int .u16 (W16 src), .int .u32 (W32 iv), .int .u32 (W32 seq)], .int .u16 (W16 dst)] w (RetH w (appK app src iv seq) (hdr dst)) := by
  cases app
  all_goals
    go_enter Try.func44, Try.ntmps44
    go_wp2_with fail
    refine (mesh_Nonce _ _ _ _ _).mono ?_; rintro e w1 ⟨rfl, hb1⟩
    have hb01 : Below w.heap.size w w1 := ((Below.refl _ _).alloc (Nat.le_refl _) _).trans (hb1.mono (by simp))
    go_wp2
    go_ret2
    rw [hdr_eq]
    exact ⟨_, rfl, Rd.new w1 #[.int .u8 (W8 (dst.setWidth 8)), .int .u8 (W8 ((dst >>> 8).setWidth 8))] 5, hb01.alloc hb01.size _⟩
theorem mesh_SealApp (k : BitVec 64) (app : Bool) (src : BitVec 16) (iv seq : BitVec 32) (dst : BitVec 16) (A : Option Addr) (c : Nat) (bs : List (BitVec 8)) (w : World) (hr : RdB w A bs) (hl : bs.length ≤ 65536) :
    Calls Try.prog 21 #[.int .u64 (W64 k), .bool app, .agg #[.int .u16 (W16 src), .int .u32 (W32 iv), .int .u32 (W32 seq)], .int .u16 (W16 dst), .slice A bs.length c] w (RetB w (sealB k (appK app src iv seq) (hdr dst) bs)) := by
  have HA := Lib.hid (fun W => mesh_access app src iv seq dst W)
  have HS := Lib.hid (fun W n B (h1 : RdB W B (hdr dst)) (h2 : RdB W A bs) => mac_Seal k n B A 2 c (hdr dst) bs W h1 h2 (by rw [hdr_length]; decide) hl)
  generalize appK app src iv seq = n at *
  go_enter Try.func21, Try.ntmps21
  go_wp2_with fail
  refine (HA.out _).mono ?_; rintro e w1 ⟨B1, rfl, hr1, hb1⟩
  have hb01 : Below w.heap.size w w1 := ((Below.refl _ _).alloc (Nat.le_refl _) _).trans (hb1.mono (by simp))
  go_wp2_with fail
  refine (HS.out _ _ _ hr1 (hr.to hb01)).mono ?_; rintro e w2 ⟨A2, c2, rfl, ho2, hb2⟩
  go_wp2
  go_ret
  exact ⟨A2, c2, rfl, own_mono ho2 hb01.size, hb01.trans (hb2.mono hb01.size)⟩
theorem mesh_OpenApp (k : BitVec 64) (app : Bool) (src : BitVec 16) (iv seq : BitVec 32) (dst : BitVec 16) (A : Option Addr) (c : Nat) (bs : List (BitVec 8)) (w : World) (hr : RdB w A bs) (hl : bs.length ≤ 65536) (hc : bs.length ≤ c) :
    Calls Try.prog 23 #[.int .u64 (W64 k), .bool app, .agg #[.int .u16 (W16 src), .int .u32 (W32 iv), .int .u32 (W32 seq)], .int .u16 (W16 dst), .slice A bs.length c] w (RetO w (openB k (appK app src iv seq) (hdr dst) bs)) := by
  have HA := Lib.hid (fun W => mesh_access app src iv seq dst W)
  have HS := Lib.hid (fun W n B (h1 : RdB W B (hdr dst)) (h2 : RdB W A bs) => mac_Open k n B A 2 c (hdr dst) bs W h1 h2 (by rw [hdr_length]; decide) hl hc)
  generalize appK app src iv seq = n at *
  go_enter Try.func23, Try.ntmps23
  go_wp2_with fail
  refine (HA.out _).mono ?_; rintro e w1 ⟨B1, rfl, hr1, hb1⟩
  have hb01 : Below w.heap.size w w1 := ((Below.refl _ _).alloc (Nat.le_refl _) _).trans (hb1.mono (by simp))
  go_wp2_with fail
  refine (HS.out _ _ _ hr1 (hr.to hb01)).mono ?_; rintro e w2 ⟨A2, c2, rfl, ho2, hc2, hb2⟩
  go_wp2
  go_ret2
  exact ⟨A2, c2, rfl, ho2, hc2, hb01.trans (hb2.mono hb01.size)⟩
theorem ref47_nonce (app : Bool) (src : BitVec 16) (iv seq : BitVec 32) (w : World) :
    Calls Try.prog 47 #[.bool app, .agg #[.int .u16 (W16 src), .int .u32 (W32 iv), .int .u32 (W32 seq)]] w fun e w' => e = .returned (.int .u64 (W64 (appK app src iv seq))) ∧ Below w.heap.size w w' := by
  cases app
  all_goals
    go_enter Try.func47, Try.ntmps47
    go_wp2_with fail
    refine (ref47_Nonce _ _ _ _ _).mono ?_; rintro e w1 ⟨rfl, hb1⟩
    have hb01 : Below w.heap.size w w1 := ((Below.refl _ _).alloc (Nat.le_refl _) _).trans (hb1.mono (by simp))
    go_wp2
    go_ret
    exact ⟨rfl, hb01⟩
theorem ref47_SealApp (k : BitVec 64) (app : Bool) (src : BitVec 16) (iv seq : BitVec 32) (dst : BitVec 16) (A : Option Addr) (c : Nat) (bs : List (BitVec 8)) (w : World) (hr : RdB w A bs) (hl : bs.length ≤ 65536) :
    Calls Try.prog 22 #[.int .u64 (W64 k), .bool app, .agg #[.int .u16 (W16 src), .int .u32 (W32 iv), .int .u32 (W32 seq)], .int .u16 (W16 dst), .slice A bs.length c] w (RetB w (sealB k (appK app src iv seq) (hdr dst) bs)) := by
  have HA := Lib.hid (fun W => ref47_nonce app src iv seq W)
  have HN := Lib.hid (show ∀ W, Calls Try.prog 48 #[.int .i64 2, .int .u64 (W64 (dst.setWidth 64))] W (RetB W (hdr dst)) from fun W => ref2_Num 2 _ W (by omega) (by omega))
  have HS := Lib.hid (fun W n B c2 (h1 : RdB W B (hdr dst)) (h2 : RdB W A bs) => ref6_Seal k n B A c2 c (hdr dst) bs W h1 h2 (by rw [hdr_length]; decide) hl)
  generalize appK app src iv seq = n at *
  go_enter Try.func22, Try.ntmps22
  go_wp2_with fail
  refine (HA.out _).mono ?_; rintro e w1 ⟨rfl, hb1⟩
  have hb01 : Below w.heap.size w w1 := ((Below.refl _ _).alloc (Nat.le_refl _) _).trans (hb1.mono (by simp))
  go_wp2_with fail
  refine (HN.out _).mono ?_; rintro e w2 hp2
  obtain ⟨A2, c2, rfl, ho2, hb2⟩ := hp2
  have hb02 := hb01.trans (hb2.mono hb01.size)
  go_wp2_with fail
  refine (HS.out _ _ _ _ (Rd.of_own ho2) (hr.to hb02)).mono ?_; rintro e w3 ⟨A3, c3, rfl, ho3, hb3⟩
  go_wp2
  go_ret
  exact ⟨A3, c3, rfl, own_mono ho3 hb02.size, hb02.trans (hb3.mono hb02.size)⟩
theorem ref47_OpenApp (k : BitVec 64) (app : Bool) (src : BitVec 16) (iv seq : BitVec 32) (dst : BitVec 16) (A : Option Addr) (c : Nat) (bs : List (BitVec 8)) (w : World) (hr : RdB w A bs) (hl : bs.length ≤ 65536) (hc : bs.length ≤ c) :
    Calls Try.prog 24 #[.int .u64 (W64 k), .bool app, .agg #[.int .u16 (W16 src), .int .u32 (W32 iv), .int .u32 (W32 seq)], .int .u16 (W16 dst), .slice A bs.length c] w (RetO w (openB k (appK app src iv seq) (hdr dst) bs)) := by
  have HA := Lib.hid (fun W => ref47_nonce app src iv seq W)
  have HN := Lib.hid (show ∀ W, Calls Try.prog 48 #[.int .i64 2, .int .u64 (W64 (dst.setWidth 64))] W (RetB W (hdr dst)) from fun W => ref2_Num 2 _ W (by omega) (by omega))
  have HS := Lib.hid (fun W n B c2 (h1 : RdB W B (hdr dst)) (h2 : RdB W A bs) => ref6_Open k n B A c2 c (hdr dst) bs W h1 h2 (by rw [hdr_length]; decide) hl hc)
  generalize appK app src iv seq = n at *
  go_enter Try.func24, Try.ntmps24
  go_wp2_with fail
  refine (HA.out _).mono ?_; rintro e w1 ⟨rfl, hb1⟩
  have hb01 : Below w.heap.size w w1 := ((Below.refl _ _).alloc (Nat.le_refl _) _).trans (hb1.mono (by simp))
  go_wp2_with fail
  refine (HN.out _).mono ?_; rintro e w2 hp2
  obtain ⟨A2, c2, rfl, ho2, hb2⟩ := hp2
  have hb02 := hb01.trans (hb2.mono hb01.size)
  go_wp2_with fail
  refine (HS.out _ _ _ _ (Rd.of_own ho2) (hr.to hb02)).mono ?_; rintro e w3 ⟨A3, c3, rfl, ho3, hc3, hb3⟩
  go_wp2
  go_ret2
  exact ⟨A3, c3, rfl, ho3, hc3, hb02.trans (hb3.mono hb02.size)⟩
end Go.Proofs.Ytbkaeoaepmeceaa
