/- Part of the proofs of the laws of pairing. -/
import Derived.Handy
import Derived.Test.YtihmbcnccdiecaaDoorA2
import Derived.Test.YtihmbcnccdiecaaDoorBFit
import Derived.Test.YtihmbcnccdiecaaDoorBLive
import Derived.Test.YtihmbcnccdiecaaDoorBLowB
import Derived.Test.YtihmbcnccdiecaaDoorBLowC
import Derived.Test.YtihmbcnccdiecaaDoorBSdA
import Derived.Test.YtihmbcnccdiecaaDoorBSdB
import Derived.Test.YtihmbcnccdiecaaDoorBSdC
import Derived.Test.YtihmbcnccdiecaaDoorBSdD
import Derived.Test.YtihmbcnccdiecaaDoorBSdE
import Derived.Test.YtihmbcnccdiecaaDoorBSdF
import Derived.Test.YtihmbcnccdiecaaDoorBSdG
import Derived.Test.YtihmbcnccdiecaaDoorBSdH
import Derived.Test.YtihmbcnccdiecaaDoorBSdIe
import Derived.Test.YtihmbcnccdiecaaDoorBSdIs
import Derived.Test.YtihmbcnccdiecaaDoorBSdIu
import Derived.Test.YtihmbcnccdiecaaDoorBSdJ
import Derived.Test.YtihmbcnccdiecaaDoorBSdK
import Derived.Test.YtihmbcnccdiecaaDoorBSdL
import Derived.Test.YtihmbcnccdiecaaDoorBSdM
import Derived.Test.YtihmbcnccdiecaaDoorBSdN
import Derived.Test.YtihmbcnccdiecaaDoorBTkP
import Derived.Test.YtihmbcnccdiecaaDoorBTkU
import Derived.Test.YtihmbcnccdiecaaDoorBTkV
import Derived.Test.YtihmbcnccdiecaaDoorBTkW
import Derived.Test.YtihmbcnccdiecaaDoorBTkY
import Derived.Test.YtihmbcnccdiecaaDoorBTkZ
namespace Go.Proofs.YtihmbcnccdiecaaDoor
def oobV (u : BitVec 32) (x : BitVec 64) : Oob := ⟨commitK u u x 0#8, x⟩
end Go.Proofs.YtihmbcnccdiecaaDoor
namespace Go.Proofs.YtihmbcnccdiecaaDoor
set_option maxRecDepth 100000
set_option linter.unusedVariables false
set_option linter.unusedSimpArgs false
theorem run_inv (l : List Chg) (common : Int) (J : Tk → Prop)
    (hh : ∀ x b d rest n, Inv2 x → J x → x.line = (b, d) :: rest → J (stepT l b { x with line := rest } (handleR (x.side b) d n)))
    (hu : ∀ x b n, Inv2 x → J x → (x.side b).phase = 4 → J (stepT l b x (userR (x.side b) (x.answer b common) n)))
    (he : ∀ x b n, Inv2 x → J x → J (stepT l b x (encR (x.side b) n))) :
    ∀ (k : Nat) (n : Int) (x : Tk), 0 ≤ n → n + k ≤ 1099511627776 → Inv2 x → J x → Inv2 (runT l common k n x) ∧ J (runT l common k n x) := by
  intro k
  induction k with
  | zero => intro n x _ _ hi hj; exact ⟨hi, hj⟩
  | succ k ih =>
    intro n x h0 h1 hi hj
    have hn : 0 ≤ n ∧ n ≤ 1099511627776 := ⟨h0, by omega⟩
    have user : ∀ b x, Inv2 x → J x → Inv2 (userT l common n b x) ∧ J (userT l common n b x) := by
      intro b x hi hj
      unfold userT
      split
      · rename_i h4
        rw [user_eq]
        refine ⟨inv2_step (x' := x) hi (fun _ => rfl) (s := userR (x.side b) (x.answer b common) n) ?_, hu x b n hi hj h4⟩
        have := inv_user (x.answer b common) (hi b) hn
        rwa [user_eq] at this
      · exact ⟨hi, hj⟩
    have enc : ∀ b x, Inv2 x → J x → Inv2 (encT l n b x) ∧ J (encT l n b x) := by
      intro b x hi hj
      unfold encT
      rw [enc_eq]
      refine ⟨inv2_step (x' := x) hi (fun _ => rfl) (s := encR (x.side b) n) ?_, he x b n hi hj⟩
      have := inv_enc (hi b) hn
      rwa [enc_eq] at this
    have key : ∀ y, roundT l common n x = some y → Inv2 y ∧ J y := by
      intro y hy
      unfold roundT at hy
      split at hy
      · rename_i b d rest hl
        injection hy with hy
        subst hy
        rw [show ({ x with line := rest } : Tk).side b = x.side b from by cases b <;> rfl, handle_eq _ _ _ (hi b)]
        refine ⟨inv2_step (x := x) (x' := { x with line := rest }) hi (fun c => by cases c <;> rfl) (s := handleR (x.side b) d n) ?_, hh x b d rest n hi hj hl⟩
        have := inv_handle d (hi b) hn
        rwa [handle_eq _ _ _ (hi b)] at this
      · split at hy
        · injection hy with hy
          subst hy
          obtain ⟨i1, j1⟩ := user false x hi hj
          exact user true _ i1 j1
        · split at hy
          · injection hy with hy
            subst hy
            obtain ⟨i1, j1⟩ := enc false x hi hj
            exact enc true _ i1 j1
          · exact absurd hy (by simp)
    show Inv2 (match roundT l common n x with | some y => runT l common k (n + 1) y | none => x) ∧ J (match roundT l common n x with | some y => runT l common k (n + 1) y | none => x)
    cases hr : roundT l common n x with
    | none => exact ⟨hi, hj⟩
    | some y =>
      obtain ⟨i1, j1⟩ := key y hr
      exact ih (n + 1) y (by omega) (by omega) i1 j1
end Go.Proofs.YtihmbcnccdiecaaDoor
namespace Go.Proofs.YtihmbcnccdiecaaDoor
set_option maxRecDepth 100000
set_option linter.unusedVariables false
set_option linter.unusedSimpArgs false
def pubS (k : BitVec 32) : Sec := { sec0 with kind := 12, pub := k }
end Go.Proofs.YtihmbcnccdiecaaDoor
namespace Go.Proofs.YtihmbcnccdiecaaDoor
set_option maxRecDepth 100000
open Go.ChangeShapes Go.WideShapes Go.ChangeAt Go.RowKit
set_option linter.unusedVariables false
set_option linter.unusedSimpArgs false
theorem conf_OOB (u : BitVec 32) (x : BitVec 64) (w : World) :
  Calls Tryd.prog 30 #[.int .u32 (W32 u), .int .u64 (W64 x)] w fun e w' => e = .returned (.agg #[.int .u64 (W64 (commitK u u x 0#8)), .int .u64 (W64 x)]) ∧ Below w.heap.size w w' := by
 have HC := Lib.hid (show ∀ W, Calls Tryd.prog 60 #[.int .u32 (W32 u), .int .u32 (W32 u), .int .u64 (W64 x), .int .u8 0] W fun e w' => e = .returned (.int .u64 (W64 (commitK u u x 0#8))) ∧ Below W.heap.size W w' from fun W => conf_Commit u u x 0#8 W)
 generalize commitK u u x 0#8 = r at *
 go_enter Tryd.func30, Tryd.ntmps30
 go_wp2_with fail
 refine (HC.out _).mono ?_; rintro e w1 ⟨rfl, hb1⟩
 have hG := (Blk.new w 32 #[.int .u64 0, .int .u64 0]).to hb1 (by simp)
 have hc0 : w1.cell? ⟨w.heap.size, 0, none⟩ = some (.int .u64 0) := hG.cell 0
 have hc1 : w1.cell? ⟨w.heap.size, 1, none⟩ = some (.int .u64 0) := hG.cell 1
 have hf0 := hG.free 0
 have hf1 := hG.free 1
 have hG2 := Lib.hid ((hG.set_ 0 (.int .u64 (W64 r))).set_ 1 (.int .u64 (W64 x)))
 go_wp2
 refine bodyPost_ret (results_cell rfl rfl (load_blk hG2.out Tryd.underlying32 rfl (by kernel_rfl))) rfl ?_
 exact ⟨rfl, (((Below.refl _ _).alloc (Nat.le_refl _) _).trans (hb1.mono (by simp))).setCell (Nat.le_refl _) _ |>.setCell (Nat.le_refl _) _⟩
end Go.Proofs.YtihmbcnccdiecaaDoor
namespace Go.Proofs.YtihmbcnccdiecaaDoor
set_option maxRecDepth 100000
open Go.ChangeShapes Go.WideShapes Go.ChangeAt Go.RowKit
set_option linter.unusedVariables false
set_option linter.unusedSimpArgs false
section
variable {w0 W W' : World} {base : Nat} {rs : List Rw} {bx : List Bk}
theorem MR.r2 {a b r : Rw} (h : MR w0 W base (a :: b :: r :: rs) bx) : ownsAt W base r.e r.size r.v r.n r.xs := h.rows r (by simp)
end
end Go.Proofs.YtihmbcnccdiecaaDoor
namespace Go.Proofs.YtihmbcnccdiecaaDoor
set_option maxRecDepth 100000
set_option linter.unusedVariables false
set_option linter.unusedSimpArgs false
structure Two (a b : Cfg) (K0 K1 : BitVec 32) (bad : Prop) : Prop where
  r0 : a.role = 0
  r1 : b.role = 1
  own : a.own = b.peer
  peer : b.own = a.peer
  keys : pubK a.secret ≠ pubK b.secret
  va : validK (pubK a.secret) = true
  vb : validK (pubK b.secret) = true
  oa : a.feat.oob = true → a.oob = oobV (pubK b.secret) b.mine
  ob : b.feat.oob = true → b.oob = oobV (pubK a.secret) a.mine
  ia : a.feat.sid = true → idnK a.idn = 0
  ib : b.feat.sid = true → idnK b.idn = 0
  good : ¬ bad → K0 = pubK b.secret ∧ K1 = pubK a.secret
def At4 (x : Tk) (p0 p1 : Pr) (line : List (Bool × Sec)) (v : Vw) : Prop := ∃ k, 4 ≤ k ∧ At x p0 p1 line v k
section
variable {l : List Chg} {common : Int} {bad : Prop} {E : Tk → Prop} {m : Nat} {x : Tk} {p0 p1 : Pr} {d : Sec} {rest : List (Bool × Sec)} {v : Vw}
theorem At4.s0 {line : List (Bool × Sec)} (h : At4 x p0 p1 line v) : x.s0 = p0 := by obtain ⟨k, _, h⟩ := h; exact h.s0
theorem At4.s1 {line : List (Bool × Sec)} (h : At4 x p0 p1 line v) : x.s1 = p1 := by obtain ⟨k, _, h⟩ := h; exact h.s1
end
end Go.Proofs.YtihmbcnccdiecaaDoor
namespace Go.Proofs.YtihmbcnccdiecaaDoor
set_option maxRecDepth 100000
set_option linter.unusedVariables false
set_option linter.unusedSimpArgs false
section
variable {l : List Chg} {common : Int} {a b : Cfg} {K0 K1 : BitVec 32} {bad : Prop} {x : Tk} {p0 p1 : Pr}
structure Lq (l : List Chg) (a b : Cfg) (K0 K1 : BitVec 32) : Prop where
  q0 : ∀ d, chg l 0 d = d
  q1 : ∀ d, chg l 1 d = d
  q2 : chg l 2 (pubS (pubK a.secret)) = pubS K1
  q3 : chg l 3 (pubS (pubK b.secret)) = pubS K0
  hq : ∀ m d, 4 ≤ m → chg l m d = d
end
end Go.Proofs.YtihmbcnccdiecaaDoor
namespace Go.Proofs.YtihmbcnccdiecaaDoor
set_option maxRecDepth 100000
set_option linter.unusedVariables false
set_option linter.unusedSimpArgs false
def fitsK (a b : Cfg) (common : Int) : Bool :=
  decide (a.own = b.peer) && decide (b.own = a.peer) && decide (0 ≤ common) && decide (common ≤ 999999) && !decide (pubK a.secret = pubK b.secret) &&
    (!a.feat.oob || decide (a.oob = oobV (pubK b.secret) b.mine)) && (!b.feat.oob || decide (b.oob = oobV (pubK a.secret) a.mine))
end Go.Proofs.YtihmbcnccdiecaaDoor
namespace Go.Proofs.YtihmbcnccdiecaaDoor
set_option maxRecDepth 100000
open Go.ChangeShapes Go.WideShapes Go.ChangeAt Go.RowKit
set_option linter.unusedVariables false
set_option linter.unusedSimpArgs false
theorem conf_OOBV (u : BitVec 32) (x : BitVec 64) (w : World) : Calls Tryd.prog 30 #[.int .u32 (W32 u), .int .u64 (W64 x)] w fun e w' => e = .returned (.agg (oobL (oobV u x)).toArray) ∧ Below w.heap.size w w' := conf_OOB u x w
set_option maxHeartbeats 4000000 in
theorem fits_all (a b : Cfg) (common : Int) (w : World) (HL : Laid w) :
  Calls Tryd.prog 11 #[.agg (cfgL a).toArray, .agg (cfgL b).toArray, .int .i64 common] w (fun e w' => e = .returned (.bool (fitsK a b common)) ∧ Below w.heap.size w w') := by
 have HM := MR.start HL
 obtain ⟨base, hbs⟩ : ∃ b, w.heap.size = b := ⟨_, rfl⟩
 rw [hbs] at HM
 go_enter Tryd.func11, Tryd.ntmps11
 go_wp2_with (with_reducible refine so ?_)
 refine HM.nw (ty := 34) (cs := (cfgL a).toArray) ?_; clear HM; intro g_1 w_2 HM
 go_wp2_with (with_reducible refine so ?_)
 refine HM.nw (ty := 34) (cs := (cfgL b).toArray) ?_; clear HM; intro g_7 w_8 HM
 rcases hc_13 : decide (a.own = b.peer) with _ | _
 ·
  skip
  go_wp2_with (with_reducible refine so ?_)
  have hst : Stable fun W => MR w W base ([]) ((g_7, 34, (cfgL b).toArray) :: (g_1, 34, (cfgL a).toArray) :: []) := stable_mr _ _ _ _
  refine wp_region_v _ 29 hst (HM.drew) ?_
  clear HM
  refine wpU_p 0 hst ?_
  refine wpU_l 1 7 (adrL a.own) (fun W hS => hS.b1) Tryd.underlying26 hst ?_
  refine wpU_p 2 hst ?_
  refine wpU_l 3 9 (adrL b.peer) (fun W hS => hS.b0) Tryd.underlying26 hst ?_
  refine wpU_p 4 hst ?_
  refine wpU_p 5 hst ?_
  refine wpU_s 6 hst ?_
  refine wpU_s 7 hst ?_
  refine wpU_s 8 hst ?_
  refine wpU_s 9 hst ?_
  refine wpU_s 10 hst ?_
  refine wpU_p 11 hst ?_
  refine wpU_p 12 hst ?_
  refine wpU_s 13 hst ?_
  refine wpU_s 14 hst ?_
  refine wpU_p 15 hst ?_
  refine wpU_p 16 hst ?_
  refine wpU_s 17 hst ?_
  refine wpU_s 18 hst ?_
  refine wpU_p 19 hst ?_
  refine wpU_p 20 hst ?_
  refine wpU_s 21 hst ?_
  refine wpU_s 22 hst ?_
  refine wpU_s 24 hst ?_
  refine wpU_s 25 hst ?_
  refine wpU_s 23 hst ?_
  refine wpU_s 26 hst ?_
  refine wpU_s 27 hst ?_
  refine wpU_p 28 hst ?_
  refine wpU_done (fun w_14 hS => ?_)
  have HM := hS
  clear hst
  go_wp2_with (with_reducible refine so ?_)
  go_returns
  have er : fitsK a b common = false := by unfold fitsK; simp [hc_13] <;> omega
  rw [er]; first | exact ⟨rfl, HM.below⟩ | (rw [hbs]; exact ⟨rfl, HM.below⟩)
 skip
 rcases hc_15 : decide (b.own = a.peer) with _ | _
 ·
  skip
  go_wp2_with (with_reducible refine so ?_)
  have hst : Stable fun W => MR w W base ([]) ((g_7, 34, (cfgL b).toArray) :: (g_1, 34, (cfgL a).toArray) :: []) := stable_mr _ _ _ _
  refine wp_region_v _ 29 hst (HM.drew) ?_
  clear HM
  refine wpU_p 0 hst ?_
  refine wpU_l 1 7 (adrL a.own) (fun W hS => hS.b1) Tryd.underlying26 hst ?_
  refine wpU_p 2 hst ?_
  refine wpU_l 3 9 (adrL b.peer) (fun W hS => hS.b0) Tryd.underlying26 hst ?_
  refine wpU_p 4 hst ?_
  refine wpU_p 5 hst ?_
  refine wpU_p 6 hst ?_
  refine wpU_l 7 7 (adrL b.own) (fun W hS => hS.b0) Tryd.underlying26 hst ?_
  refine wpU_p 8 hst ?_
  refine wpU_l 9 9 (adrL a.peer) (fun W hS => hS.b1) Tryd.underlying26 hst ?_
  refine wpU_p 10 hst ?_
  refine wpU_p 11 hst ?_
  refine wpU_p 12 hst ?_
  refine wpU_s 13 hst ?_
  refine wpU_s 14 hst ?_
  refine wpU_p 15 hst ?_
  refine wpU_p 16 hst ?_
  refine wpU_s 17 hst ?_
  refine wpU_s 18 hst ?_
  refine wpU_p 19 hst ?_
  refine wpU_p 20 hst ?_
  refine wpU_s 21 hst ?_
  refine wpU_s 22 hst ?_
  refine wpU_s 24 hst ?_
  refine wpU_s 25 hst ?_
  refine wpU_s 23 hst ?_
  refine wpU_s 26 hst ?_
  refine wpU_s 27 hst ?_
  refine wpU_p 28 hst ?_
  refine wpU_done (fun w_16 hS => ?_)
  have HM := hS
  clear hst
  go_wp2_with (with_reducible refine so ?_)
  go_returns
  have er : fitsK a b common = false := by unfold fitsK; simp [hc_13, hc_15] <;> omega
  rw [er]; first | exact ⟨rfl, HM.below⟩ | (rw [hbs]; exact ⟨rfl, HM.below⟩)
 skip
 by_cases hc_17 : (common : Int) < 0
 ·
  obtain ⟨ec_17m, ec_17, ec_17n, kc_17⟩ := lT hc_17; clear hc_17
  go_wp2_with (with_reducible refine so ?_)
  have hst : Stable fun W => MR w W base ([]) ((g_7, 34, (cfgL b).toArray) :: (g_1, 34, (cfgL a).toArray) :: []) := stable_mr _ _ _ _
  refine wp_region_v _ 29 hst (HM.drew) ?_
  clear HM
  refine wpU_p 0 hst ?_
  refine wpU_l 1 7 (adrL a.own) (fun W hS => hS.b1) Tryd.underlying26 hst ?_
  refine wpU_p 2 hst ?_
  refine wpU_l 3 9 (adrL b.peer) (fun W hS => hS.b0) Tryd.underlying26 hst ?_
  refine wpU_p 4 hst ?_
  refine wpU_p 5 hst ?_
  refine wpU_p 6 hst ?_
  refine wpU_l 7 7 (adrL b.own) (fun W hS => hS.b0) Tryd.underlying26 hst ?_
  refine wpU_p 8 hst ?_
  refine wpU_l 9 9 (adrL a.peer) (fun W hS => hS.b1) Tryd.underlying26 hst ?_
  refine wpU_p 10 hst ?_
  refine wpU_p 11 hst ?_
  refine wpU_p 12 hst ?_
  refine wpU_p 13 hst ?_
  refine wpU_p 14 hst ?_
  refine wpU_p 15 hst ?_
  refine wpU_p 16 hst ?_
  refine wpU_s 17 hst ?_
  refine wpU_s 18 hst ?_
  refine wpU_p 19 hst ?_
  refine wpU_p 20 hst ?_
  refine wpU_s 21 hst ?_
  refine wpU_s 22 hst ?_
  refine wpU_s 24 hst ?_
  refine wpU_s 25 hst ?_
  refine wpU_s 23 hst ?_
  refine wpU_s 26 hst ?_
  refine wpU_s 27 hst ?_
  refine wpU_p 28 hst ?_
  refine wpU_done (fun w_18 hS => ?_)
  have HM := hS
  clear hst
  go_wp2_with (with_reducible refine so ?_)
  go_returns
  have q2 := kc_17.out
  have er : fitsK a b common = false := by unfold fitsK; simp [hc_13, hc_15, q2] <;> omega
  rw [er]; first | exact ⟨rfl, HM.below⟩ | (rw [hbs]; exact ⟨rfl, HM.below⟩)
 obtain ⟨ec_17m, ec_17, ec_17n, kc_17⟩ := lF hc_17; clear hc_17
 by_cases hc_19 : (999999 : Int) < common
 ·
  obtain ⟨ec_19m, ec_19, ec_19n, kc_19⟩ := lT hc_19; clear hc_19
  go_wp2_with (with_reducible refine so ?_)
  have hst : Stable fun W => MR w W base ([]) ((g_7, 34, (cfgL b).toArray) :: (g_1, 34, (cfgL a).toArray) :: []) := stable_mr _ _ _ _
  refine wp_region_v _ 29 hst (HM.drew) ?_
  clear HM
  refine wpU_p 0 hst ?_
  refine wpU_l 1 7 (adrL a.own) (fun W hS => hS.b1) Tryd.underlying26 hst ?_
  refine wpU_p 2 hst ?_
  refine wpU_l 3 9 (adrL b.peer) (fun W hS => hS.b0) Tryd.underlying26 hst ?_
  refine wpU_p 4 hst ?_
  refine wpU_p 5 hst ?_
  refine wpU_p 6 hst ?_
  refine wpU_l 7 7 (adrL b.own) (fun W hS => hS.b0) Tryd.underlying26 hst ?_
  refine wpU_p 8 hst ?_
  refine wpU_l 9 9 (adrL a.peer) (fun W hS => hS.b1) Tryd.underlying26 hst ?_
  refine wpU_p 10 hst ?_
  refine wpU_p 11 hst ?_
  refine wpU_p 12 hst ?_
  refine wpU_p 13 hst ?_
  refine wpU_p 14 hst ?_
  refine wpU_p 15 hst ?_
  refine wpU_p 16 hst ?_
  refine wpU_p 17 hst ?_
  refine wpU_p 18 hst ?_
  refine wpU_p 19 hst ?_
  refine wpU_p 20 hst ?_
  refine wpU_s 21 hst ?_
  refine wpU_s 22 hst ?_
  refine wpU_s 24 hst ?_
  refine wpU_s 25 hst ?_
  refine wpU_s 23 hst ?_
  refine wpU_s 26 hst ?_
  refine wpU_s 27 hst ?_
  refine wpU_p 28 hst ?_
  refine wpU_done (fun w_20 hS => ?_)
  have HM := hS
  clear hst
  go_wp2_with (with_reducible refine so ?_)
  go_returns
  have q2 := kc_17.out
  have q3 := kc_19.out
  have er : fitsK a b common = false := by unfold fitsK; simp [hc_13, hc_15, q2, q3] <;> omega
  rw [er]; first | exact ⟨rfl, HM.below⟩ | (rw [hbs]; exact ⟨rfl, HM.below⟩)
 obtain ⟨ec_19m, ec_19, ec_19n, kc_19⟩ := lF hc_19; clear hc_19
 go_wp2_with (with_reducible refine so ?_)
 have hst : Stable fun W => MR w W base ([]) ((g_7, 34, (cfgL b).toArray) :: (g_1, 34, (cfgL a).toArray) :: []) := stable_mr _ _ _ _
 refine wp_region_v _ 29 hst (HM.drew) ?_
 clear HM
 refine wpU_p 0 hst ?_
 refine wpU_l 1 7 (adrL a.own) (fun W hS => hS.b1) Tryd.underlying26 hst ?_
 refine wpU_p 2 hst ?_
 refine wpU_l 3 9 (adrL b.peer) (fun W hS => hS.b0) Tryd.underlying26 hst ?_
 refine wpU_p 4 hst ?_
 refine wpU_p 5 hst ?_
 refine wpU_p 6 hst ?_
 refine wpU_l 7 7 (adrL b.own) (fun W hS => hS.b0) Tryd.underlying26 hst ?_
 refine wpU_p 8 hst ?_
 refine wpU_l 9 9 (adrL a.peer) (fun W hS => hS.b1) Tryd.underlying26 hst ?_
 refine wpU_p 10 hst ?_
 refine wpU_p 11 hst ?_
 refine wpU_p 12 hst ?_
 refine wpU_p 13 hst ?_
 refine wpU_p 14 hst ?_
 refine wpU_p 15 hst ?_
 refine wpU_p 16 hst ?_
 refine wpU_p 17 hst ?_
 refine wpU_p 18 hst ?_
 refine wpU_p 19 hst ?_
 refine wpU_p 20 hst ?_
 refine wpU_p 21 hst ?_
 refine wpU_c 22 (.int .u32 (W32 a.secret)) hst (fun W hS => hS.b1.cell 14) ?_
 refine wpU_p 24 hst ?_
 refine wpU_c 25 (.int .u32 (W32 b.secret)) hst (fun W hS => hS.b0.cell 14) ?_
 refine wpU_take (v := ?_) 23 hst (fun _ h => h) rfl ?_ ?_; rotate_left; (intro W hS K hK; clear hS; go_simp; refine (gr_Public a.secret _).mono ?_; rintro e w9 ⟨rfl, hb⟩; refine CallPost.mk ?_; exact hK.out _ (hb)); simp only [nrm]
 refine wpU_take (v := ?_) 26 hst (fun _ h => h) rfl ?_ ?_; rotate_left; (intro W hS K hK; clear hS; go_simp; refine (gr_Public b.secret _).mono ?_; rintro e w9 ⟨rfl, hb⟩; refine CallPost.mk ?_; exact hK.out _ (hb)); simp only [nrm]
 refine wpU_p 27 hst ?_
 refine wpU_p 28 hst ?_
 refine wpU_done (fun w_21 hS => ?_)
 have HM := hS
 clear hst
 by_cases hc_22 : pubK a.secret = pubK b.secret
 ·
  have ec_22 : ((W32 (pubK a.secret) : Int) == W32 (pubK b.secret)) = true := by have this : (W32 (pubK a.secret) == W32 (pubK b.secret)) = true := (by rw [W32_beq]; simpa using hc_22); exact this
  have ec_22n : ((W32 (pubK a.secret) : Int) != W32 (pubK b.secret)) = false := by have this : (W32 (pubK a.secret) != W32 (pubK b.secret)) = false := (by rw [W32_bne]; simpa using hc_22); exact this
  have kc_22 := Lib.hid hc_22
  clear hc_22
  go_wp2_with (with_reducible refine so ?_)
  go_returns
  have q2 := kc_17.out
  have q3 := kc_19.out
  have q4 := kc_22.out
  have er : fitsK a b common = false := by unfold fitsK; simp [hc_13, hc_15, q2, q3, q4] <;> omega
  rw [er]; first | exact ⟨rfl, HM.below⟩ | (rw [hbs]; exact ⟨rfl, HM.below⟩)
 have ec_22 : ((W32 (pubK a.secret) : Int) == W32 (pubK b.secret)) = false := by have this : (W32 (pubK a.secret) == W32 (pubK b.secret)) = false := (by rw [W32_beq]; simpa using hc_22); exact this
 have ec_22n : ((W32 (pubK a.secret) : Int) != W32 (pubK b.secret)) = true := by have this : (W32 (pubK a.secret) != W32 (pubK b.secret)) = true := (by rw [W32_bne]; simpa using hc_22); exact this
 have kc_22 := Lib.hid hc_22
 clear hc_22
 go_wp2_with (with_reducible refine so ?_)
 try simp only [nrm]
 have hst : Stable fun W => Below w_21.heap.size w_21 W := stable_below _ _ (Nat.le_refl _)
 refine wp_region_v (fun W => Below w_21.heap.size w_21 W) 8 hst (Below.refl _ _).drew ?_
 refine wpU_p 0 hst ?_
 refine wpU_c 1 (.int .u32 (W32 b.secret)) hst (fun W hS => (HM.to hS).b0.cell 14) ?_
 refine wpU_take (v := .int .u32 (W32 (pubK b.secret))) 2 hst (fun _ h => h) rfl (fun W hS K hK => ?_) ?_
 · go_simp; refine (gr_Public b.secret W).mono ?_; rintro e w9 ⟨rfl, hb⟩; refine CallPost.mk ?_; exact hK.out _ hb
 simp only [nrm]
 refine wpU_p 3 hst ?_
 refine wpU_c 4 (.int .u64 (W64 b.mine)) hst (fun W hS => (HM.to hS).b0.cell 16) ?_
 refine wpU_take (v := .agg (oobL (oobV (pubK b.secret) b.mine)).toArray) 5 hst (fun _ h => h) rfl (fun W hS K hK => ?_) ?_
 · go_simp; refine (conf_OOBV (pubK b.secret) b.mine W).mono ?_; rintro e w9 ⟨rfl, hb⟩; refine CallPost.mk ?_; exact hK.out _ hb
 simp only [nrm]
 refine wpU_one 6 rfl (fun W hS K hK => ?_)
 rw [if_pos (show Region.wanted _ _ = true from rfl)]
 refine op_new (ty := 32) (cs := (oobL oob0).toArray) (fun g => .pointer (some ⟨g, 0, none⟩)) (by kernel_rfl) (fun g_23 W2 z l hb G => ?_)
 have hst2 : Stable fun W => Below w_21.heap.size w_21 W ∧ ∃ cs, cs.size = 2 ∧ Blk W g_23 32 cs := fun W W' h hb => ⟨hst W W' h.1 hb, let ⟨cs, h1, h2⟩ := h.2; ⟨cs, h1, h2.to hb h2.lt⟩⟩
 have hg : w_21.heap.size ≤ g_23 := Nat.le_trans hS.size l
 refine hK.out _ _ _ _ (fun _ h => h.1) hst2 (fun _ h => h) ⟨hS.trans (hb.mono hS.size), _, rfl, G⟩ ?_
 clear hK K hb l z G hS hst
 have hst := hst2; clear hst2
 try simp only [nrm]
 refine wpU_one 7 rfl (fun W hS K hK => ?_)
 rw [if_pos (show Region.wanted _ _ = true from rfl)]
 obtain ⟨hS1, cs, hcs, hG⟩ := hS
 obtain ⟨W2, hrun, hG2, hU⟩ := store_all (P := Tryd.prog) (ty := 32) (vs := oobL (oobV (pubK b.secret) b.mine)) hG hcs (by kernel_rfl) rfl
 refine op_store rfl rfl rfl hrun ?_
 refine hK.out _ (fun W => Below w_21.heap.size w_21 W ∧ Blk W g_23 32 (oobL (oobV (pubK b.secret) b.mine)).toArray) _ _ (fun W h => ⟨h.1, _, rfl, h.2⟩) (stable_and (stable_below _ _ (Nat.le_refl _)) (stable_blk _ _ _)) (fun _ h => h) ⟨hU.below hS1 hg, hG2⟩ ?_
 clear hK K hrun hG2 hU hG hcs cs hS1 hst; have hst : Stable fun W => Below w_21.heap.size w_21 W ∧ Blk W g_23 32 (oobL (oobV (pubK b.secret) b.mine)).toArray := stable_and (stable_below _ _ (Nat.le_refl _)) (stable_blk _ _ _); try simp only [nrm]
 refine wpU_done (fun w_24 hS => ?_)
 replace HM := HM.alloc hg hS.1 hS.2; clear hS hg hst
 go_wp2_with (with_reducible refine so ?_)
 try simp only [nrm]
 have hst : Stable fun W => Below w_24.heap.size w_24 W := stable_below _ _ (Nat.le_refl _)
 refine wp_region_v (fun W => Below w_24.heap.size w_24 W) 8 hst (Below.refl _ _).drew ?_
 refine wpU_p 0 hst ?_
 refine wpU_c 1 (.int .u32 (W32 a.secret)) hst (fun W hS => (HM.to hS).b2.cell 14) ?_
 refine wpU_take (v := .int .u32 (W32 (pubK a.secret))) 2 hst (fun _ h => h) rfl (fun W hS K hK => ?_) ?_
 · go_simp; refine (gr_Public a.secret W).mono ?_; rintro e w9 ⟨rfl, hb⟩; refine CallPost.mk ?_; exact hK.out _ hb
 simp only [nrm]
 refine wpU_p 3 hst ?_
 refine wpU_c 4 (.int .u64 (W64 a.mine)) hst (fun W hS => (HM.to hS).b2.cell 16) ?_
 refine wpU_take (v := .agg (oobL (oobV (pubK a.secret) a.mine)).toArray) 5 hst (fun _ h => h) rfl (fun W hS K hK => ?_) ?_
 · go_simp; refine (conf_OOBV (pubK a.secret) a.mine W).mono ?_; rintro e w9 ⟨rfl, hb⟩; refine CallPost.mk ?_; exact hK.out _ hb
 simp only [nrm]
 refine wpU_one 6 rfl (fun W hS K hK => ?_)
 rw [if_pos (show Region.wanted _ _ = true from rfl)]
 refine op_new (ty := 32) (cs := (oobL oob0).toArray) (fun g => .pointer (some ⟨g, 0, none⟩)) (by kernel_rfl) (fun g_25 W2 z l hb G => ?_)
 have hst2 : Stable fun W => Below w_24.heap.size w_24 W ∧ ∃ cs, cs.size = 2 ∧ Blk W g_25 32 cs := fun W W' h hb => ⟨hst W W' h.1 hb, let ⟨cs, h1, h2⟩ := h.2; ⟨cs, h1, h2.to hb h2.lt⟩⟩
 have hg : w_24.heap.size ≤ g_25 := Nat.le_trans hS.size l
 refine hK.out _ _ _ _ (fun _ h => h.1) hst2 (fun _ h => h) ⟨hS.trans (hb.mono hS.size), _, rfl, G⟩ ?_
 clear hK K hb l z G hS hst
 have hst := hst2; clear hst2
 try simp only [nrm]
 refine wpU_one 7 rfl (fun W hS K hK => ?_)
 rw [if_pos (show Region.wanted _ _ = true from rfl)]
 obtain ⟨hS1, cs, hcs, hG⟩ := hS
 obtain ⟨W2, hrun, hG2, hU⟩ := store_all (P := Tryd.prog) (ty := 32) (vs := oobL (oobV (pubK a.secret) a.mine)) hG hcs (by kernel_rfl) rfl
 refine op_store rfl rfl rfl hrun ?_
 refine hK.out _ (fun W => Below w_24.heap.size w_24 W ∧ Blk W g_25 32 (oobL (oobV (pubK a.secret) a.mine)).toArray) _ _ (fun W h => ⟨h.1, _, rfl, h.2⟩) (stable_and (stable_below _ _ (Nat.le_refl _)) (stable_blk _ _ _)) (fun _ h => h) ⟨hU.below hS1 hg, hG2⟩ ?_
 clear hK K hrun hG2 hU hG hcs cs hS1 hst; have hst : Stable fun W => Below w_24.heap.size w_24 W ∧ Blk W g_25 32 (oobL (oobV (pubK a.secret) a.mine)).toArray := stable_and (stable_below _ _ (Nat.le_refl _)) (stable_blk _ _ _); try simp only [nrm]
 refine wpU_done (fun w_26 hS => ?_)
 replace HM := HM.alloc hg hS.1 hS.2; clear hS hg hst
 rcases hc_27 : a.feat.oob with _ | _
 ·
  skip
  rcases hc_28 : b.feat.oob with _ | _
  ·
   skip
   have ld_29 := HM.b3.c 2 (.bool a.feat.oob)
   have ld_30 := HM.b2.c 2 (.bool b.feat.oob)
   go_wp2_with (with_reducible refine so ?_)
   go_returns
   have q2 := kc_17.out
   have q3 := kc_19.out
   have q4 := kc_22.out
   have er : fitsK a b common = true := by unfold fitsK; simp [hc_13, hc_15, q2, q3, q4, hc_27, hc_28] <;> omega
   rw [er]; first | exact ⟨rfl, HM.below⟩ | (rw [hbs]; exact ⟨rfl, HM.below⟩)
  skip
  have ld_31 := HM.b3.c 2 (.bool a.feat.oob)
  have ld_32 := HM.b2.c 2 (.bool b.feat.oob)
  go_wp2_with (first | (with_reducible refine so ?_) | (with_reducible refine ld 17 (oobL b.oob) HM.b2 Tryd.underlying32 ?_) | ((with_reducible refine wpList_ldg 17 (oobL b.oob) HM.b2 ?_ ?_ Tryd.underlying32 ?_ ?_ ?_ ?_); rfl; rfl; rfl; kernel_rfl; rfl) | (with_reducible refine ld 0 (oobL (oobV (pubK a.secret) a.mine)) HM.b0 Tryd.underlying32 ?_) | ((with_reducible refine wpList_ldg 0 (oobL (oobV (pubK a.secret) a.mine)) HM.b0 ?_ ?_ Tryd.underlying32 ?_ ?_ ?_ ?_); rfl; rfl; rfl; kernel_rfl; rfl))
  go_returns
  have q2 := kc_17.out
  have q3 := kc_19.out
  have q4 := kc_22.out
  have er : fitsK a b common = decide (b.oob = (oobV (pubK a.secret) a.mine)) := by unfold fitsK; simp [hc_13, hc_15, q2, q3, q4, hc_27, hc_28] <;> omega
  rw [er]; first | exact ⟨rfl, HM.below⟩ | (rw [hbs]; exact ⟨rfl, HM.below⟩)
 skip
 rcases hc_35 : decide (a.oob = (oobV (pubK b.secret) b.mine)) with _ | _
 ·
  skip
  have ld_36 := HM.b3.c 2 (.bool a.feat.oob)
  go_wp2_with (first | (with_reducible refine so ?_) | (with_reducible refine ld 17 (oobL a.oob) HM.b3 Tryd.underlying32 ?_) | ((with_reducible refine wpList_ldg 17 (oobL a.oob) HM.b3 ?_ ?_ Tryd.underlying32 ?_ ?_ ?_ ?_); rfl; rfl; rfl; kernel_rfl; rfl) | (with_reducible refine ld 0 (oobL (oobV (pubK b.secret) b.mine)) HM.b1 Tryd.underlying32 ?_) | ((with_reducible refine wpList_ldg 0 (oobL (oobV (pubK b.secret) b.mine)) HM.b1 ?_ ?_ Tryd.underlying32 ?_ ?_ ?_ ?_); rfl; rfl; rfl; kernel_rfl; rfl))
  go_returns
  have q2 := kc_17.out
  have q3 := kc_19.out
  have q4 := kc_22.out
  have er : fitsK a b common = false := by unfold fitsK; simp [hc_13, hc_15, q2, q3, q4, hc_27, hc_35] <;> omega
  rw [er]; first | exact ⟨rfl, HM.below⟩ | (rw [hbs]; exact ⟨rfl, HM.below⟩)
 skip
 rcases hc_39 : b.feat.oob with _ | _
 ·
  skip
  have ld_40 := HM.b3.c 2 (.bool a.feat.oob)
  have ld_43 := HM.b2.c 2 (.bool b.feat.oob)
  go_wp2_with (first | (with_reducible refine so ?_) | (with_reducible refine ld 17 (oobL a.oob) HM.b3 Tryd.underlying32 ?_) | ((with_reducible refine wpList_ldg 17 (oobL a.oob) HM.b3 ?_ ?_ Tryd.underlying32 ?_ ?_ ?_ ?_); rfl; rfl; rfl; kernel_rfl; rfl) | (with_reducible refine ld 0 (oobL (oobV (pubK b.secret) b.mine)) HM.b1 Tryd.underlying32 ?_) | ((with_reducible refine wpList_ldg 0 (oobL (oobV (pubK b.secret) b.mine)) HM.b1 ?_ ?_ Tryd.underlying32 ?_ ?_ ?_ ?_); rfl; rfl; rfl; kernel_rfl; rfl))
  go_returns
  have q2 := kc_17.out
  have q3 := kc_19.out
  have q4 := kc_22.out
  have er : fitsK a b common = true := by unfold fitsK; simp [hc_13, hc_15, q2, q3, q4, hc_27, hc_35, hc_39] <;> omega
  rw [er]; first | exact ⟨rfl, HM.below⟩ | (rw [hbs]; exact ⟨rfl, HM.below⟩)
 skip
 have ld_44 := HM.b3.c 2 (.bool a.feat.oob)
 have ld_47 := HM.b2.c 2 (.bool b.feat.oob)
 go_wp2_with (first | (with_reducible refine so ?_) | (with_reducible refine ld 17 (oobL a.oob) HM.b3 Tryd.underlying32 ?_) | ((with_reducible refine wpList_ldg 17 (oobL a.oob) HM.b3 ?_ ?_ Tryd.underlying32 ?_ ?_ ?_ ?_); rfl; rfl; rfl; kernel_rfl; rfl) | (with_reducible refine ld 0 (oobL (oobV (pubK b.secret) b.mine)) HM.b1 Tryd.underlying32 ?_) | ((with_reducible refine wpList_ldg 0 (oobL (oobV (pubK b.secret) b.mine)) HM.b1 ?_ ?_ Tryd.underlying32 ?_ ?_ ?_ ?_); rfl; rfl; rfl; kernel_rfl; rfl) | (with_reducible refine ld 17 (oobL b.oob) HM.b2 Tryd.underlying32 ?_) | ((with_reducible refine wpList_ldg 17 (oobL b.oob) HM.b2 ?_ ?_ Tryd.underlying32 ?_ ?_ ?_ ?_); rfl; rfl; rfl; kernel_rfl; rfl) | (with_reducible refine ld 0 (oobL (oobV (pubK a.secret) a.mine)) HM.b0 Tryd.underlying32 ?_) | ((with_reducible refine wpList_ldg 0 (oobL (oobV (pubK a.secret) a.mine)) HM.b0 ?_ ?_ Tryd.underlying32 ?_ ?_ ?_ ?_); rfl; rfl; rfl; kernel_rfl; rfl))
 go_returns
 have q2 := kc_17.out
 have q3 := kc_19.out
 have q4 := kc_22.out
 have er : fitsK a b common = decide (b.oob = (oobV (pubK a.secret) a.mine)) := by unfold fitsK; simp [hc_13, hc_15, q2, q3, q4, hc_27, hc_35, hc_39] <;> omega
 rw [er]; first | exact ⟨rfl, HM.below⟩ | (rw [hbs]; exact ⟨rfl, HM.below⟩)
end Go.Proofs.YtihmbcnccdiecaaDoor
