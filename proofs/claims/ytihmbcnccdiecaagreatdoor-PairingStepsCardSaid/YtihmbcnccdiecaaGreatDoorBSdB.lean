/- Part of the proofs of the laws of pairing. -/
import Derived.Test.YtihmbcnccdiecaaGreatDoorBLowB
import Derived.Test.YtihmbcnccdiecaaGreatDoorBSdA
namespace Go.Proofs.YtihmbcnccdiecaaGreatDoor
set_option maxRecDepth 100000
set_option linter.unusedVariables false
set_option linter.unusedSimpArgs false
open Go.ChangeShapes Go.WideShapes Go.ChangeAt Go.RowKit
theorem F5 (n : Int) : bits .and .i64 n 1 = n % 2 := by
  have h1 : (BitVec.ofInt 64 1).toNat = 2 ^ 1 - 1 := by decide
  have key : (BitVec.ofInt 64 n &&& BitVec.ofInt 64 1).toNat = (n % ((2 ^ 64 : Nat) : Int)).toNat % 2 ^ 1 := by
    rw [BitVec.toNat_and, BitVec.toNat_ofInt, h1, Nat.and_two_pow_sub_one_eq_mod]
  show IntKind.i64.wrap ((BitVec.ofInt 64 n &&& BitVec.ofInt 64 1).toNat : Nat) = n % 2
  rw [key, IntKind.wrap_i64]
  omega
theorem rK (sh : BitVec 32) (n r : BitVec 64) (f : fQ) (a b : Adr) (w : World) : Calls Tryz.prog 109 #[.int .u32 (W32 sh), .int .u64 (W64 n), .int .u64 (W64 r), .agg (bL f).toArray, .agg (nR a).toArray, .agg (nR b).toArray] w fun e w' => e = .returned (.int .u64 (W64 (lI sh n r f a b))) ∧ Below w.heap.size w w' :=
  BV sh n r f.io f.oob f.bond f.mitm f.sid f.tid a.kind a.bits b.kind b.bits w
theorem tO (sh : BitVec 32) (na nb : BitVec 64) (a b : Adr) (w : World) : Calls Tryz.prog 81 #[.int .u32 (W32 sh), .int .u64 (W64 na), .int .u64 (W64 nb), .agg (nR a).toArray, .agg (nR b).toArray] w fun e w' => e = .returned (.int .u64 (W64 (mS sh na nb a b))) ∧ Below w.heap.size w w' :=
  tZ sh na nb a.kind a.bits b.kind b.bits w
theorem LU (g : Nat) (S : Sd) (v u : Value)  (w : World) (HG : Blk w g cQ (sdL S v u).toArray) (h0 : 0 ≤ S.p.round) (h1 : S.p.round ≤ 64) (r : BitVec 8) (hr : S.z = r) :
  Calls Tryz.prog 86 #[.pointer (some ⟨g, 0, none⟩)] w (fun e w' => e = .returned (.int .u8 (W8 r)) ∧ Below w.heap.size w w') := by
 have HR := Lib.hid hr
 clear hr
 have e1 := F5 (S.p.passkey / 2 ^ S.p.round.toNat)
 go_enter Tryz.func86, Tryz.ntmps86
 have hB := Below.refl w.heap.size w
 go_wp2_with with_reducible refine so ?_
 refine (eY _ _ _ _  _ HG (aU S.p.method) rfl).mono ?_; rintro e D ⟨rfl, C⟩
 replace HG := HG.to C HG.lt
 replace hB := hB.trans (C.mono hB.size)
 clear C
 rcases q : aU S.p.method with _ | _
 ·
  go_wp2_with with_reducible refine so ?_
  go_returns
  obtain rfl : r = 0#8 := by rw [← HR.out]; first | (simp only [Sd.z, Sd.pass, q]; simp [q]; done) | simp [Sd.z, Sd.pass, q] <;> rfl
  exact ⟨rfl, hB⟩
 go_wp2_with with_reducible refine so ?_
 have hst := aB (bB hB) (bK HG)
 refine aD _ 15 hst ⟨hB.drew, HG⟩ ?_
 clear hB HG
 refine aA 0 hst ?_
 refine aA 1 hst ?_
 refine aA 2 hst ?_
 refine aA 3 hst ?_
 refine bS 4 (.int .i64 S.p.passkey) hst (fun W hS => hS.2.cell 46) ?_
 refine aA 5 hst ?_
 refine aA 6 hst ?_
 refine aA 7 hst ?_
 refine aA 8 hst ?_
 refine bS 9 (.int .i64 S.p.round) hst (fun W hS => hS.2.cell 47) ?_
 refine aA 10 hst ?_
 refine aA 11 hst ?_
 refine aA 12 hst ?_
 refine aA 13 hst ?_
 refine aA 14 hst ?_
 refine aE (fun F hS => ?_)
 obtain ⟨hB, HG⟩ := hS
 clear hst
 go_wp2_with with_reducible refine so ?_
 go_returns
 obtain rfl : r = (128#8 + BitVec.ofInt 8 (S.p.passkey / 2 ^ S.p.round.toNat % 2)) := by rw [← HR.out]; first | (simp only [Sd.z, Sd.pass, q]; simp [q]; done) | simp [Sd.z, Sd.pass, q] <;> rfl
 exact ⟨rfl, hB⟩
theorem GV (g : Nat) (S : Sd) (v u : Value) (x : BitVec 64) (w : World) (HG : Blk w g cQ (sdL S v u).toArray) (h0 : 0 ≤ S.p.round) (h1 : S.p.round ≤ 64) (r : Bool) (hr : S.opens x = r) :
  Calls Tryz.prog 138 #[.pointer (some ⟨g, 0, none⟩), .int .u64 (W64 x)] w (fun e w' => e = .returned (.bool r) ∧ Below w.heap.size w w') := by
 have HR := Lib.hid hr
 clear hr
 go_enter Tryz.func138, Tryz.ntmps138
 have hB := Below.refl w.heap.size w
 go_wp2_with with_reducible refine so ?_
 have hst := aB (bB hB) (bK HG)
 refine aD _ 18 hst ⟨hB.drew, HG⟩ ?_
 clear hB HG
 refine aA 0 hst ?_
 refine aA 1 hst ?_
 refine aA 2 hst ?_
 refine aA 3 hst ?_
 refine bS 4 (.int .u32 (W32 S.p.peerKey)) hst (fun W hS => hS.2.cell 40) ?_
 refine aA 5 hst ?_
 refine aA 7 hst ?_
 refine aA 8 hst ?_
 refine aA 11 hst ?_
 refine aA 12 hst ?_
 refine aA 13 hst ?_
 refine aA 14 hst ?_
 refine bS 15 (.int .u64 (W64 S.p.commit)) hst (fun W hS => hS.2.cell 44) ?_
 refine aF 6 rfl hst (fun W hS K hK => by go_simp; exact cl (nT _ _ _ _  _ hS.2 (cJ S.p.cfg.secret) rfl) hK) ?_
 refine aF 9 rfl hst (fun W hS K hK => by go_simp; exact cl (LU _ _ _ _  _ hS.2 h0 h1 (Sd.z S) rfl) hK) ?_
 refine aF 10 rfl hst (fun W hS K hK => by clear hS; go_simp; exact cl (nG S.p.peerKey ((cJ S.p.cfg.secret)) x ((Sd.z S)) _) hK) ?_
 refine aA 16 hst ?_
 refine aA 17 hst ?_
 refine aE (fun q hS => ?_)
 obtain ⟨hB, HG⟩ := hS
 clear hst
 go_wp2_with with_reducible refine so ?_
 go_returns
 obtain rfl : r = (W64 (eF S.p.peerKey (cJ S.p.cfg.secret) x S.z) == W64 S.p.commit) := by rw [← HR.out]; rw [cG]; rfl
 exact ⟨rfl, hB⟩
theorem xZ (g : Nat) (S : Sd) (v u : Value)  (w : World) (HG : Blk w g cQ (sdL S v u).toArray) (r : BitVec 64) (hr : S.check = r) :
  Calls Tryz.prog 84 #[.pointer (some ⟨g, 0, none⟩)] w (fun e w' => e = .returned (.int .u64 (W64 r)) ∧ Below w.heap.size w w') := by
 have HR := Lib.hid hr
 clear hr
 go_enter Tryz.func84, Tryz.ntmps84
 have hB := Below.refl w.heap.size w
 go_wp2_with first | with_reducible refine so ?_ | with_reducible refine ld 0 (cT S.p.cfg) HG U34 ?_
 refine bF (ty := 34) (cs := (cT pN).toArray) (fun g => .pointer (some ⟨g, 0, none⟩)) rfl (by kernel_rfl) ?_
 intro z L J C D I
 have O : g < z := Nat.lt_of_lt_of_le HG.lt C
 have U : w.heap.size ≤ z := Nat.le_trans hB.size C
 replace HG := HG.to D HG.lt
 replace hB := hB.trans (D.mono hB.size)
 clear D C J
 go_wp2_with with_reducible refine so ?_
 refine sv _ I ?_
 intro Z q F
 replace HG := F.blk HG (by omega)
 replace hB := F.below hB (by omega)
 clear I F
 go_wp2_with with_reducible refine so ?_
 have hst := aB (bB hB) (aB (bK HG) (bK q))
 refine aD _ 26 hst ⟨hB.drew, HG, q⟩ ?_
 clear hB HG q
 refine aA 0 hst ?_
 refine aA 1 hst ?_
 refine aA 2 hst ?_
 refine aA 3 hst ?_
 refine bS 4 (.int .u32 (W32 S.p.shared)) hst (fun W hS => hS.2.1.cell 41) ?_
 refine aA 5 hst ?_
 refine aA 6 hst ?_
 refine aA 7 hst ?_
 refine aA 8 hst ?_
 refine bS 9 (.int .u64 (W64 S.p.nonce)) hst (fun W hS => hS.2.1.cell 42) ?_
 refine aA 10 hst ?_
 refine aA 11 hst ?_
 refine aA 12 hst ?_
 refine aF 13 rfl hst (fun W hS K hK => by have ld : W.cell? ⟨z, 2, none⟩ = some (.bool S.p.cfg.feat.oob) := hS.2.2.cell 2; clear hS; go_simp; exact hk hK) ?_
 refine aA 14 hst ?_
 refine aA 15 hst ?_
 refine bS 16 (.int .u64 (W64 S.p.cfg.oob.random)) hst (fun W hS => hS.2.2.cell 18) ?_
 refine aA 18 hst ?_
 refine dA 19 1 (bL S.p.cfg.feat) (fun W hS => hS.2.2) U23 hst ?_
 refine aA 20 hst ?_
 refine dA 21 7 [.int .i64 S.p.cfg.own.kind, .int .u64 (W64 S.p.cfg.own.bits)] (fun W hS => hS.2.2) U26 hst ?_
 refine aA 22 hst ?_
 refine dA 23 9 [.int .i64 S.p.cfg.peer.kind, .int .u64 (W64 S.p.cfg.peer.bits)] (fun W hS => hS.2.2) U26 hst ?_
 refine aF 17 rfl hst (fun W hS K hK => by go_simp; exact cl (yK _ _ _ _ S.p.cfg.feat.oob S.p.cfg.oob.random _ hS.2.1 (Sd.extra S S.p.cfg.feat.oob S.p.cfg.oob.random) rfl) hK) ?_
 refine aF 24 rfl hst (fun W hS K hK => by clear hS; go_simp; exact cl (rK S.p.shared S.p.nonce ((Sd.extra S S.p.cfg.feat.oob S.p.cfg.oob.random)) S.p.cfg.feat S.p.cfg.own S.p.cfg.peer _) hK) ?_
 refine aA 25 hst ?_
 refine aE (fun a0 hS => ?_)
 obtain ⟨hB, HG, q⟩ := hS
 clear hst
 go_wp2_with with_reducible refine so ?_
 go_returns
 obtain rfl : r = (lI S.p.shared S.p.nonce ((Sd.extra S S.p.cfg.feat.oob S.p.cfg.oob.random)) S.p.cfg.feat S.p.cfg.own S.p.cfg.peer) := by rw [← HR.out]; rfl
 exact ⟨rfl, hB⟩
theorem uE (g : Nat) (S : Sd) (v u : Value)  (w : World) (HG : Blk w g cQ (sdL S v u).toArray) (r : BitVec 64) (hr : S.otherCheck = r) :
  Calls Tryz.prog 80 #[.pointer (some ⟨g, 0, none⟩)] w (fun e w' => e = .returned (.int .u64 (W64 r)) ∧ Below w.heap.size w w') := by
 have HR := Lib.hid hr
 clear hr
 go_enter Tryz.func80, Tryz.ntmps80
 have hB := Below.refl w.heap.size w
 go_wp2_with first | with_reducible refine so ?_ | with_reducible refine ld 0 (cT S.p.cfg) HG U34 ?_
 refine bF (ty := 34) (cs := (cT pN).toArray) (fun g => .pointer (some ⟨g, 0, none⟩)) rfl (by kernel_rfl) ?_
 intro F L J z C I
 have O : g < F := Nat.lt_of_lt_of_le HG.lt z
 have U : w.heap.size ≤ F := Nat.le_trans hB.size z
 replace HG := HG.to C HG.lt
 replace hB := hB.trans (C.mono hB.size)
 clear C z J
 go_wp2_with with_reducible refine so ?_
 refine sv _ I ?_
 intro Z q D
 replace HG := D.blk HG (by omega)
 replace hB := D.below hB (by omega)
 clear I D
 go_wp2_with with_reducible refine so ?_
 have hst := aB (bB hB) (aB (bK HG) (bK q))
 refine aD _ 31 hst ⟨hB.drew, HG, q⟩ ?_
 clear hB HG q
 refine aA 0 hst ?_
 refine aA 1 hst ?_
 refine aA 2 hst ?_
 refine aA 3 hst ?_
 refine bS 4 (.int .u32 (W32 S.p.shared)) hst (fun W hS => hS.2.1.cell 41) ?_
 refine aA 5 hst ?_
 refine aA 6 hst ?_
 refine aA 7 hst ?_
 refine aA 8 hst ?_
 refine bS 9 (.int .u64 (W64 S.p.other)) hst (fun W hS => hS.2.1.cell 43) ?_
 refine aA 10 hst ?_
 refine aA 11 hst ?_
 refine aA 12 hst ?_
 refine aA 13 hst ?_
 refine aA 14 hst ?_
 refine aA 15 hst ?_
 refine aF 16 rfl hst (fun W hS K hK => by have ld : W.cell? ⟨g, 23, none⟩ = some (.bool S.p.peer.oob) := hS.2.1.cell 23; clear hS; go_simp; exact hk hK) ?_
 refine aA 17 hst ?_
 refine bS 18 (.int .u64 (W64 S.p.cfg.mine)) hst (fun W hS => hS.2.2.cell 16) ?_
 refine aA 20 hst ?_
 refine aA 21 hst ?_
 refine aA 22 hst ?_
 refine aA 23 hst ?_
 refine dA 24 22 (bL S.p.peer) (fun W hS => hS.2.1) U23 hst ?_
 refine aA 25 hst ?_
 refine dA 26 9 [.int .i64 S.p.cfg.peer.kind, .int .u64 (W64 S.p.cfg.peer.bits)] (fun W hS => hS.2.2) U26 hst ?_
 refine aA 27 hst ?_
 refine dA 28 7 [.int .i64 S.p.cfg.own.kind, .int .u64 (W64 S.p.cfg.own.bits)] (fun W hS => hS.2.2) U26 hst ?_
 refine aF 19 rfl hst (fun W hS K hK => by go_simp; exact cl (yK _ _ _ _ S.p.peer.oob S.p.cfg.mine _ hS.2.1 (Sd.extra S S.p.peer.oob S.p.cfg.mine) rfl) hK) ?_
 refine aF 29 rfl hst (fun W hS K hK => by clear hS; go_simp; exact cl (rK S.p.shared S.p.other ((Sd.extra S S.p.peer.oob S.p.cfg.mine)) S.p.peer S.p.cfg.peer S.p.cfg.own _) hK) ?_
 refine aA 30 hst ?_
 refine aE (fun a0 hS => ?_)
 obtain ⟨hB, HG, q⟩ := hS
 clear hst
 go_wp2_with with_reducible refine so ?_
 go_returns
 obtain rfl : r = (lI S.p.shared S.p.other ((Sd.extra S S.p.peer.oob S.p.cfg.mine)) S.p.peer S.p.cfg.peer S.p.cfg.own) := by rw [← HR.out]; rfl
 exact ⟨rfl, hB⟩
theorem iY (g : Nat) (S : Sd) (v u : Value)  (w : World) (HG : Blk w g cQ (sdL S v u).toArray) (r : Bool × Bool) (hr : S.dist = r) :
  Calls Tryz.prog 60 #[.pointer (some ⟨g, 0, none⟩)] w (fun e w' => e = .returned (.tuple #[.bool r.1, .bool r.2]) ∧ Below w.heap.size w w') := by
 have HR := Lib.hid hr
 clear hr
 go_enter Tryz.func60, Tryz.ntmps60
 have hB := Below.refl w.heap.size w
 go_wp2_with with_reducible refine so ?_
 have hst := aB (bB hB) (bK HG)
 refine aD _ 16 hst ⟨hB.drew, HG⟩ ?_
 clear hB HG
 refine aA 0 hst ?_
 refine aA 1 hst ?_
 refine aA 2 hst ?_
 refine aA 3 hst ?_
 refine dA 4 28 (bL S.p.req) (fun W hS => hS.2) U23 hst ?_
 refine aA 5 hst ?_
 refine aA 6 hst ?_
 refine aA 7 hst ?_
 refine aA 8 hst ?_
 refine dA 9 34 (bL S.p.res) (fun W hS => hS.2) U23 hst ?_
 refine aF 10 rfl hst (fun W hS K hK => by clear hS; go_simp; exact cl (uA S.p.req S.p.res _) hK) ?_
 refine aA 11 hst ?_
 refine aA 12 hst ?_
 refine aA 13 hst ?_
 refine aA 14 hst ?_
 refine aA 15 hst ?_
 refine aE (fun C hS => ?_)
 obtain ⟨hB, HG⟩ := hS
 clear hst
 go_wp2_with with_reducible refine so ?_
 refine (nO _ _ _ _ ((aT S.p.req S.p.res).1) ((aT S.p.req S.p.res).2) _ HG (byR S ((aT S.p.req S.p.res).1) ((aT S.p.req S.p.res).2)) rfl).mono ?_; rintro e D ⟨rfl, q⟩
 replace HG := HG.to q HG.lt
 replace hB := hB.trans (q.mono hB.size)
 clear q
 go_wp2_with with_reducible refine so ?_
 refine (nO _ _ _ _ ((aT S.p.req S.p.res).2) ((aT S.p.req S.p.res).1) _ HG (byR S ((aT S.p.req S.p.res).2) ((aT S.p.req S.p.res).1)) rfl).mono ?_; rintro e F ⟨rfl, z⟩
 replace HG := HG.to z HG.lt
 replace hB := hB.trans (z.mono hB.size)
 clear z
 go_wp2_with with_reducible refine so ?_
 go_returns
 obtain rfl : r = (byR S (aT S.p.req S.p.res).1 (aT S.p.req S.p.res).2, byR S (aT S.p.req S.p.res).2 (aT S.p.req S.p.res).1) := by rw [← HR.out]; rfl
 exact ⟨rfl, hB⟩
end Go.Proofs.YtihmbcnccdiecaaGreatDoor
