/- Part of the proofs of the laws of pairing. -/
import Derived.Below
import Derived.Carry
import Derived.ChangeMaps5
import Derived.ChangeOld
import Derived.OpenShut
import Derived.ProofKit
import Derived.SevenTiedAt
import Derived.ShutString
import Derived.WalkKit
import Derived.Test.YtihmbcnccdiecaaDoorA2
import Derived.Test.YtihmbcnccdiecaaDoorBFit
import Derived.Test.YtihmbcnccdiecaaDoorBLive
import Derived.Test.YtihmbcnccdiecaaDoorBLowB
import Derived.Test.YtihmbcnccdiecaaDoorBLowC
import Derived.Test.YtihmbcnccdiecaaDoorBSdA
import Derived.Test.YtihmbcnccdiecaaDoorBSdB
import Derived.Test.YtihmbcnccdiecaaDoorBSdC
import Derived.Test.YtihmbcnccdiecaaDoorBSdD
import Derived.Test.YtihmbcnccdiecaaDoorBSdE
import Derived.Test.YtihmbcnccdiecaaDoorBSdF
import Derived.Test.YtihmbcnccdiecaaDoorBSdG
import Derived.Test.YtihmbcnccdiecaaDoorBSdH
import Derived.Test.YtihmbcnccdiecaaDoorBSdIe
import Derived.Test.YtihmbcnccdiecaaDoorBSdIs
import Derived.Test.YtihmbcnccdiecaaDoorBSdIu
import Derived.Test.YtihmbcnccdiecaaDoorBSdJ
import Derived.Test.YtihmbcnccdiecaaDoorBSdK
import Derived.Test.YtihmbcnccdiecaaDoorBSdL
import Derived.Test.YtihmbcnccdiecaaDoorBSdM
import Derived.Test.YtihmbcnccdiecaaDoorBSdN
import Derived.Test.YtihmbcnccdiecaaDoorBTkP
import Derived.Test.YtihmbcnccdiecaaDoorBTkU
import Derived.Test.YtihmbcnccdiecaaDoorBTkV
import Derived.Test.YtihmbcnccdiecaaDoorBTkW
import Derived.Test.YtihmbcnccdiecaaDoorBTkY
import Derived.Test.YtihmbcnccdiecaaDoorBTkZ
import Derived.Test.YtihmbcnccdiecaaDoorCACKS
import Derived.Test.YtihmbcnccdiecaaDoorCAKS
import Derived.Test.YtihmbcnccdiecaaDoorCCKS
import Derived.Test.YtihmbcnccdiecaaDoorCAS
import Derived.Test.YtihmbcnccdiecaaDoorCKS
namespace Go.Proofs.YtihmbcnccdiecaaDoor
set_option maxRecDepth 100000
open Go.ChangeShapes Go.WideShapes Go.ChangeAt Go.RowKit
set_option linter.unusedVariables false
set_option linter.unusedSimpArgs false
theorem tk_done0_f (X : Tk) (n : Nat) (A : Option Addr) (c : Nat) (v1 va vl : Value) (w : World) (HL : Laid w) (hg : X.g0.length = n) (hn : ¬ (n : Int) = 1) :
  Calls Tryd.prog 14 #[.agg (tkL X (.slice A n c) v1 va vl).toArray, .int .i64 0] w (fun e w' => e = .returned (.bool (X.done false)) ∧ Below w.heap.size w w') := by
 have HM := MR.start HL
 obtain ⟨base, hbs⟩ : ∃ b, w.heap.size = b := ⟨_, rfl⟩
 rw [hbs] at HM
 have HG := Lib.hid (And.intro hg hn)
 have y0 : (((n : Nat) : Int) == 1) = false := by simpa using hn
 clear hg hn
 go_enter Tryd.func14, Tryd.ntmps14
 go_wp2_with (with_reducible refine so ?_)
 refine HM.nw (ty := 58) (cs := (tkL X (.slice A n c) v1 va vl).toArray) ?_; clear HM; intro g_1 w_2 HM
 rcases hc_7 : X.ok with _ | _
 ·
  skip
  have ld_8 := HM.b0.c 123 (.slice A n c)
  go_wp2_with (with_reducible refine so ?_)
  clear ld_8
  have hst : Stable fun W => MR w W base ([]) ((g_1, 58, (tkL X (.slice A n c) v1 va vl).toArray) :: []) := stable_mr _ _ _ _
  refine wp_region_v _ 35 hst (HM.drew) ?_
  clear HM
  refine wpU_p 0 hst ?_
  refine wpU_take (v := ?_) 1 hst (fun _ h => h) rfl ?_ ?_; rotate_left; (intro W hS K hK; have ld : W.cell? ⟨g_1, 116, none⟩ = some (.bool X.ok) := hS.b0.cell 116; clear hS; go_simp; exact hK.out _ (Below.refl _ _)); simp only [nrm]
  refine wpU_p 2 hst ?_
  refine wpU_s 3 hst ?_
  refine wpU_s 4 hst ?_
  refine wpU_s 5 hst ?_
  refine wpU_p 6 hst ?_
  refine wpU_p 7 hst ?_
  refine wpU_s 8 hst ?_
  refine wpU_s 9 hst ?_
  refine wpU_s 10 hst ?_
  refine wpU_s 11 hst ?_
  refine wpU_s 12 hst ?_
  refine wpU_p 13 hst ?_
  refine wpU_p 14 hst ?_
  refine wpU_s 15 hst ?_
  refine wpU_s 16 hst ?_
  refine wpU_s 17 hst ?_
  refine wpU_s 18 hst ?_
  refine wpU_s 19 hst ?_
  refine wpU_s 20 hst ?_
  refine wpU_s 21 hst ?_
  refine wpU_s 22 hst ?_
  refine wpU_s 23 hst ?_
  refine wpU_s 24 hst ?_
  refine wpU_p 25 hst ?_
  refine wpU_p 26 hst ?_
  refine wpU_s 27 hst ?_
  refine wpU_s 28 hst ?_
  refine wpU_s 29 hst ?_
  refine wpU_s 30 hst ?_
  refine wpU_s 31 hst ?_
  refine wpU_s 32 hst ?_
  refine wpU_p 33 hst ?_
  refine wpU_p 34 hst ?_
  refine wpU_done (fun w_9 hS => ?_)
  have HM := hS
  clear hst
  go_wp2_with (with_reducible refine so ?_)
  go_returns
  have er : X.done false = false := by unfold Tk.done Tk.side; have h := HG.out; rcases hx : X.g0 with _ | ⟨e1, _ | ⟨e2, t⟩⟩ <;> simp_all <;> omega
  rw [er]; first | exact ⟨rfl, HM.below⟩ | (rw [hbs]; exact ⟨rfl, HM.below⟩)
 skip
 have ld_10 := HM.b0.c 123 (.slice A n c)
 go_wp2_with (with_reducible refine so ?_)
 clear ld_10
 have hst : Stable fun W => MR w W base ([]) ((g_1, 58, (tkL X (.slice A n c) v1 va vl).toArray) :: []) := stable_mr _ _ _ _
 refine wp_region_v _ 35 hst (HM.drew) ?_
 clear HM
 refine wpU_p 0 hst ?_
 refine wpU_take (v := ?_) 1 hst (fun _ h => h) rfl ?_ ?_; rotate_left; (intro W hS K hK; have ld : W.cell? ⟨g_1, 116, none⟩ = some (.bool X.ok) := hS.b0.cell 116; clear hS; go_simp; exact hK.out _ (Below.refl _ _)); simp only [nrm]
 refine wpU_p 2 hst ?_
 refine wpU_p 3 hst ?_
 refine wpU_p 4 hst ?_
 refine wpU_p 5 hst ?_
 refine wpU_p 6 hst ?_
 refine wpU_p 7 hst ?_
 refine wpU_s 8 hst ?_
 refine wpU_s 9 hst ?_
 refine wpU_s 10 hst ?_
 refine wpU_s 11 hst ?_
 refine wpU_s 12 hst ?_
 refine wpU_p 13 hst ?_
 refine wpU_p 14 hst ?_
 refine wpU_s 15 hst ?_
 refine wpU_s 16 hst ?_
 refine wpU_s 17 hst ?_
 refine wpU_s 18 hst ?_
 refine wpU_s 19 hst ?_
 refine wpU_s 20 hst ?_
 refine wpU_s 21 hst ?_
 refine wpU_s 22 hst ?_
 refine wpU_s 23 hst ?_
 refine wpU_s 24 hst ?_
 refine wpU_p 25 hst ?_
 refine wpU_p 26 hst ?_
 refine wpU_s 27 hst ?_
 refine wpU_s 28 hst ?_
 refine wpU_s 29 hst ?_
 refine wpU_s 30 hst ?_
 refine wpU_s 31 hst ?_
 refine wpU_s 32 hst ?_
 refine wpU_p 33 hst ?_
 refine wpU_p 34 hst ?_
 refine wpU_done (fun w_11 hS => ?_)
 have HM := hS
 clear hst
 go_wp2_with (with_reducible refine so ?_)
 go_returns
 have er : X.done false = false := by unfold Tk.done Tk.side; have h := HG.out; rcases hx : X.g0 with _ | ⟨e1, _ | ⟨e2, t⟩⟩ <;> simp_all <;> omega
 rw [er]; first | exact ⟨rfl, HM.below⟩ | (rw [hbs]; exact ⟨rfl, HM.below⟩)
theorem tk_done0_t (X : Tk) (n : Nat) (A : Option Addr) (c : Nat) (v0 va vl : Value) (w : World) (HL : Laid w) (hg : X.g1.length = n) (hn : ¬ (n : Int) = 1) :
  Calls Tryd.prog 14 #[.agg (tkL X v0 (.slice A n c) va vl).toArray, .int .i64 1] w (fun e w' => e = .returned (.bool (X.done true)) ∧ Below w.heap.size w w') := by
 have HM := MR.start HL
 obtain ⟨base, hbs⟩ : ∃ b, w.heap.size = b := ⟨_, rfl⟩
 rw [hbs] at HM
 have HG := Lib.hid (And.intro hg hn)
 have y0 : (((n : Nat) : Int) == 1) = false := by simpa using hn
 clear hg hn
 go_enter Tryd.func14, Tryd.ntmps14
 go_wp2_with (with_reducible refine so ?_)
 refine HM.nw (ty := 58) (cs := (tkL X v0 (.slice A n c) va vl).toArray) ?_; clear HM; intro g_1 w_2 HM
 rcases hc_7 : X.ok with _ | _
 ·
  skip
  have ld_8 := HM.b0.c 124 (.slice A n c)
  go_wp2_with (with_reducible refine so ?_)
  clear ld_8
  have hst : Stable fun W => MR w W base ([]) ((g_1, 58, (tkL X v0 (.slice A n c) va vl).toArray) :: []) := stable_mr _ _ _ _
  refine wp_region_v _ 35 hst (HM.drew) ?_
  clear HM
  refine wpU_p 0 hst ?_
  refine wpU_take (v := ?_) 1 hst (fun _ h => h) rfl ?_ ?_; rotate_left; (intro W hS K hK; have ld : W.cell? ⟨g_1, 116, none⟩ = some (.bool X.ok) := hS.b0.cell 116; clear hS; go_simp; exact hK.out _ (Below.refl _ _)); simp only [nrm]
  refine wpU_p 2 hst ?_
  refine wpU_s 3 hst ?_
  refine wpU_s 4 hst ?_
  refine wpU_s 5 hst ?_
  refine wpU_p 6 hst ?_
  refine wpU_p 7 hst ?_
  refine wpU_s 8 hst ?_
  refine wpU_s 9 hst ?_
  refine wpU_s 10 hst ?_
  refine wpU_s 11 hst ?_
  refine wpU_s 12 hst ?_
  refine wpU_p 13 hst ?_
  refine wpU_p 14 hst ?_
  refine wpU_s 15 hst ?_
  refine wpU_s 16 hst ?_
  refine wpU_s 17 hst ?_
  refine wpU_s 18 hst ?_
  refine wpU_s 19 hst ?_
  refine wpU_s 20 hst ?_
  refine wpU_s 21 hst ?_
  refine wpU_s 22 hst ?_
  refine wpU_s 23 hst ?_
  refine wpU_s 24 hst ?_
  refine wpU_p 25 hst ?_
  refine wpU_p 26 hst ?_
  refine wpU_s 27 hst ?_
  refine wpU_s 28 hst ?_
  refine wpU_s 29 hst ?_
  refine wpU_s 30 hst ?_
  refine wpU_s 31 hst ?_
  refine wpU_s 32 hst ?_
  refine wpU_p 33 hst ?_
  refine wpU_p 34 hst ?_
  refine wpU_done (fun w_9 hS => ?_)
  have HM := hS
  clear hst
  go_wp2_with (with_reducible refine so ?_)
  go_returns
  have er : X.done true = false := by unfold Tk.done Tk.side; have h := HG.out; rcases hx : X.g1 with _ | ⟨e1, _ | ⟨e2, t⟩⟩ <;> simp_all <;> omega
  rw [er]; first | exact ⟨rfl, HM.below⟩ | (rw [hbs]; exact ⟨rfl, HM.below⟩)
 skip
 have ld_10 := HM.b0.c 124 (.slice A n c)
 go_wp2_with (with_reducible refine so ?_)
 clear ld_10
 have hst : Stable fun W => MR w W base ([]) ((g_1, 58, (tkL X v0 (.slice A n c) va vl).toArray) :: []) := stable_mr _ _ _ _
 refine wp_region_v _ 35 hst (HM.drew) ?_
 clear HM
 refine wpU_p 0 hst ?_
 refine wpU_take (v := ?_) 1 hst (fun _ h => h) rfl ?_ ?_; rotate_left; (intro W hS K hK; have ld : W.cell? ⟨g_1, 116, none⟩ = some (.bool X.ok) := hS.b0.cell 116; clear hS; go_simp; exact hK.out _ (Below.refl _ _)); simp only [nrm]
 refine wpU_p 2 hst ?_
 refine wpU_p 3 hst ?_
 refine wpU_p 4 hst ?_
 refine wpU_p 5 hst ?_
 refine wpU_p 6 hst ?_
 refine wpU_p 7 hst ?_
 refine wpU_s 8 hst ?_
 refine wpU_s 9 hst ?_
 refine wpU_s 10 hst ?_
 refine wpU_s 11 hst ?_
 refine wpU_s 12 hst ?_
 refine wpU_p 13 hst ?_
 refine wpU_p 14 hst ?_
 refine wpU_s 15 hst ?_
 refine wpU_s 16 hst ?_
 refine wpU_s 17 hst ?_
 refine wpU_s 18 hst ?_
 refine wpU_s 19 hst ?_
 refine wpU_s 20 hst ?_
 refine wpU_s 21 hst ?_
 refine wpU_s 22 hst ?_
 refine wpU_s 23 hst ?_
 refine wpU_s 24 hst ?_
 refine wpU_p 25 hst ?_
 refine wpU_p 26 hst ?_
 refine wpU_s 27 hst ?_
 refine wpU_s 28 hst ?_
 refine wpU_s 29 hst ?_
 refine wpU_s 30 hst ?_
 refine wpU_s 31 hst ?_
 refine wpU_s 32 hst ?_
 refine wpU_p 33 hst ?_
 refine wpU_p 34 hst ?_
 refine wpU_done (fun w_11 hS => ?_)
 have HM := hS
 clear hst
 go_wp2_with (with_reducible refine so ?_)
 go_returns
 have er : X.done true = false := by unfold Tk.done Tk.side; have h := HG.out; rcases hx : X.g1 with _ | ⟨e1, _ | ⟨e2, t⟩⟩ <;> simp_all <;> omega
 rw [er]; first | exact ⟨rfl, HM.below⟩ | (rw [hbs]; exact ⟨rfl, HM.below⟩)
end Go.Proofs.YtihmbcnccdiecaaDoor
namespace Go.Proofs.YtihmbcnccdiecaaDoor
set_option maxRecDepth 100000
set_option linter.unusedVariables false
set_option linter.unusedSimpArgs false
section
variable {l : List Chg} {common : Int} {a b : Cfg} {K0 K1 : BitVec 32} {bad : Prop} {x : Tk} {p0 p1 : Pr}
theorem succ_plain (hf : fitsK a b common = true) (hok : (playT a b [] common).ok = true) :
    (enoughK a.feat b.feat = false → (playT a b [] common).s0.phase = 8 ∧ (playT a b [] common).s1.phase = 8) ∧ (enoughK a.feat b.feat = true → EndOk a b (playT a b [] common)) := by
  obtain ⟨h1, h2, h3, h4⟩ := ok_cases hok
  constructor
  · intro hen
    rcases play_w h1 h2 h3 h4 (w_poor (common := common) (l := []) (fun _ => rfl) (fun _ => rfl) h4 hen (newP_facts h1).1) (by decide) with ⟨hb, _⟩ | h
    · exact hb.elim
    · exact h
  · intro hen
    obtain ⟨T, c0, c1⟩ := fitsK_two (K0 := pubK b.secret) (K1 := pubK a.secret) (bad := False) hf h1 h2 h3 h4 (fun _ => ⟨rfl, rfl⟩)
    rcases play_w h1 h2 h3 h4 (w_start (l := []) T ⟨fun _ => rfl, fun _ => rfl, rfl, rfl, fun _ _ _ => rfl⟩ hen (newP_facts h1).1 (newP_facts h2).1 c0 c1) (by decide) with ⟨hb, _⟩ | h
    · exact hb.elim
    · exact h
end
end Go.Proofs.YtihmbcnccdiecaaDoor
namespace Go.Proofs.YtihmbcnccdiecaaDoor
set_option maxRecDepth 100000
open Go.ChangeShapes Go.WideShapes Go.ChangeAt Go.RowKit
set_option linter.unusedVariables false
set_option linter.unusedSimpArgs false
theorem one_of {α : Type} {l : List α} (h : ((l.length : Nat) : Int) = 1) : ∃ x, l = [x] := by
  match l, h with
  | [x], _ => exact ⟨x, rfl⟩
  | [], h => simp at h
  | _ :: _ :: _, h => simp at h; omega
theorem doneA_f (X : Tk) (A : Option Addr) (c : Nat) (v1 va vl : Value) (w : World) (HL : Laid w) (hr : Rd w A (evts X.g0)) : Calls Tryd.prog 14 #[.agg (tkL X (.slice A X.g0.length c) v1 va vl).toArray, .int .i64 0] w (fun e w' => e = .returned (.bool (X.done false)) ∧ Below w.heap.size w w') := by
  by_cases hn : ((X.g0.length : Nat) : Int) = 1
  · obtain ⟨ee, hg⟩ := one_of hn
    rw [hg] at hr ⊢
    obtain ⟨bk, off, rfl, hrow⟩ := srow_open evtL_len (by decide) (show Rd w A ([ee].flatMap evtL) from hr) 0 Nat.zero_lt_one
    exact tk_done1_f X ee bk off c v1 va vl w HL hg ⟨rd_lt hr (by simp [evts, evtL]) _ rfl, by have h := hrow w (Below.refl _ _); simpa using h⟩
  · exact tk_done0_f X _ A c v1 va vl w HL rfl hn
theorem doneA_t (X : Tk) (A : Option Addr) (c : Nat) (v0 va vl : Value) (w : World) (HL : Laid w) (hr : Rd w A (evts X.g1)) : Calls Tryd.prog 14 #[.agg (tkL X v0 (.slice A X.g1.length c) va vl).toArray, .int .i64 1] w (fun e w' => e = .returned (.bool (X.done true)) ∧ Below w.heap.size w w') := by
  by_cases hn : ((X.g1.length : Nat) : Int) = 1
  · obtain ⟨ee, hg⟩ := one_of hn
    rw [hg] at hr ⊢
    obtain ⟨bk, off, rfl, hrow⟩ := srow_open evtL_len (by decide) (show Rd w A ([ee].flatMap evtL) from hr) 0 Nat.zero_lt_one
    exact tk_done1_t X ee bk off c v0 va vl w HL hg ⟨rd_lt hr (by simp [evts, evtL]) _ rfl, by have h := hrow w (Below.refl _ _); simpa using h⟩
  · exact tk_done0_t X _ A c v0 va vl w HL rfl hn
theorem done_eight {x : Tk} (h0 : x.s0.phase = 8) (h1 : x.s1.phase = 8) : x.done false = false ∧ x.done true = false := by
  have e0 : x.side false = x.s0 := rfl
  have e1 : x.side true = x.s1 := rfl
  unfold Tk.done
  rw [e0, e1, h0, h1]
  constructor
  · simp only [Bool.false_eq_true, if_false]; split <;> simp
  · simp only [if_true]; split <;> simp
theorem done_end {a b : Cfg} {x : Tk} (h : EndOk a b x) : x.done false = true ∧ x.done true = true := by
  have e0 : x.side false = x.s0 := rfl
  have e1 : x.side true = x.s1 := rfl
  unfold Tk.done
  rw [e0, e1, h.p0, h.p1, h.ok, h.g0, h.g1]
  simp [resX]
theorem row_one {W : World} {base n c : Nat} {A : Option Addr} {es : List Evt} {E : Evt} (h : ownsAt W base EvtT 8 (.slice A n c) n (evts es)) (hg : es = [E]) : ∃ b o, A = some ⟨b, o, none⟩ ∧ Rg b o (evtL E) W := by
  subst hg
  have h' : ownsAt W base EvtT 8 (.slice A n c) n (evtL E ++ []) := h
  exact h'.head (by rw [evtL_len]; decide)
set_option maxHeartbeats 8000000 in
theorem law_PairingSucceeds (a b : Cfg) (common : Int) (w : World) (HL : Laid w) :
  Calls Tryd.prog 4 #[.agg (cfgL a).toArray, .agg (cfgL b).toArray, .int .i64 common] w (fun e w' => e = .returned (.bool true) ∧ Below w.heap.size w w') := by
 have HM := MR.start HL
 obtain ⟨base, hbs⟩ : ∃ b, w.heap.size = b := ⟨_, rfl⟩
 rw [hbs] at HM
 have hbs1 := Lib.hid hbs
 clear hbs
 go_enter Tryd.func4, Tryd.ntmps4
 go_wp2_with (with_reducible refine so ?_)
 refine HM.nw (ty := 34) (cs := (cfgL a).toArray) ?_; clear HM; intro g_1 w_2 HM
 go_wp2_with (with_reducible refine so ?_)
 refine HM.nw (ty := 34) (cs := (cfgL b).toArray) ?_; clear HM; intro g_7 w_8 HM
 go_wp2_with (first | (with_reducible refine so ?_) | (with_reducible refine ld 0 (cfgL a) HM.b1 Tryd.underlying34 ?_) | (with_reducible refine ld 0 (cfgL b) HM.b0 Tryd.underlying34 ?_))
 refine (fits_all a b common _ HM.laid).mono ?_; rintro e w_15 ⟨rfl, hb_16⟩
 replace HM := HM.to hb_16
 clear hb_16
 rcases hc_17 : (fitsK a b common) with _ | _
 ·
  skip
  go_wp2_with (with_reducible refine so ?_)
  refine (lives38 _ HM.laid).mono ?_; rintro e w_18 ⟨rfl, hb_19⟩
  replace HM := HM.to hb_19
  clear hb_19
  go_wp2_with (with_reducible refine so ?_)
  go_returns
  exact ⟨rfl, by first | exact HM.below | (rw [hbs1.out]; exact HM.below)⟩
 skip
 go_wp2_with (first | (with_reducible refine so ?_) | (with_reducible refine ld 0 (cfgL a) HM.b1 Tryd.underlying34 ?_) | (with_reducible refine ld 0 (cfgL b) HM.b0 Tryd.underlying34 ?_))
 refine (tk_play a b [] none 0 common _ HM.laid (Rd.nil _ _) (by decide)).mono ?_; rintro e w_22 ⟨P0, d0, P1, d1, va, vl, rfl, ho1, ho2, hb_23⟩
 replace HM := HM.joinM hb_23; clear hb_23
 dsimp only [List.nil_append] at HM
 generalize hX : playT a b [] common = XL at HM ⊢
 have HX := Lib.hid hX; clear hX
 have O1 := Lib.hid ho1; have O2 := Lib.hid ho2; clear ho1 ho2
 go_wp2_with (with_reducible refine so ?_)
 refine HM.nw (ty := 58) (cs := (tkL tk0 (.slice none 0 0) (.slice none 0 0) (.slice none 0 0) (.slice none 0 0)).toArray) ?_; clear HM; intro g_24 w_25 HM
 go_wp2_with (with_reducible refine so ?_)
 unfold Kept
 refine wpList_st 0 (tkL XL (.slice P0 XL.g0.length d0) (.slice P1 XL.g1.length d1) va vl).toArray (tkL XL (.slice P0 XL.g0.length d0) (.slice P1 XL.g1.length d1) va vl).toArray HM.b0 rfl rfl (by kernel_rfl) (tkL_one XL rfl rfl O1.out O2.out) (of_decide_eq_true rfl) (by kernel_rfl) ?_
 intro w_30 G_32 hU_31
 replace HM := HM.s0 hU_31 G_32
 clear hU_31 G_32
 rcases hc_33 : XL.ok with _ | _
 ·
  skip
  have ld_34 := HM.b0.c 116 (.bool XL.ok)
  go_wp2_with (with_reducible refine so ?_)
  refine (lives38 _ HM.laid).mono ?_; rintro e w_35 ⟨rfl, hb_36⟩
  clear ld_34
  replace HM := HM.to hb_36
  clear hb_36
  go_wp2_with (with_reducible refine so ?_)
  go_returns
  exact ⟨rfl, by first | exact HM.below | (rw [hbs1.out]; exact HM.below)⟩
 skip
 have ld_37 := HM.b0.c 116 (.bool XL.ok)
 go_wp2_with (first | (with_reducible refine so ?_) | (with_reducible refine ld 1 (featL a.feat) HM.b2 Tryd.underlying23 ?_) | (with_reducible refine ld 1 (featL b.feat) HM.b1 Tryd.underlying23 ?_))
 refine (me_Enough a.feat b.feat _ HM.laid).mono ?_; rintro e w_40 ⟨rfl, hb_41⟩
 clear ld_37
 replace HM := HM.to hb_41
 clear hb_41
 rcases hc_42 : (enoughK a.feat b.feat) with _ | _
 ·
  skip
  have hp := succ_plain hc_17 (by rw [HX.out]; exact hc_33)
  rw [HX.out] at hp
  obtain ⟨p0, p1⟩ := hp.1 hc_42
  obtain ⟨y0, y1⟩ := done_eight p0 p1
  have z0 : ((XL.s0.phase : Int) == 8) = true := by rw [p0]; rfl
  have z1 : ((XL.s1.phase : Int) == 8) = true := by rw [p1]; rfl
  clear hp p0 p1
  go_wp2_with (with_reducible refine so ?_)
  refine (lives38 _ HM.laid).mono ?_; rintro e w_43 ⟨rfl, hb_44⟩
  replace HM := HM.to hb_44
  clear hb_44
  go_wp2_with (first | (with_reducible refine so ?_) | (with_reducible refine ld 0 (tkL XL (.slice P0 XL.g0.length d0) (.slice P1 XL.g1.length d1) va vl) HM.b0 Tryd.underlying58 ?_) | ((with_reducible refine wpList_ldg 0 (tkL XL (.slice P0 XL.g0.length d0) (.slice P1 XL.g1.length d1) va vl) HM.b0 ?_ ?_ Tryd.underlying58 ?_ ?_ ?_ ?_); rfl; rfl; rfl; kernel_rfl; rfl))
  refine (doneA_f XL _ _ _ _ _ _ HM.laid HM.row0.rd).mono ?_; rintro e w_46 ⟨rfl, hb_47⟩
  replace HM := HM.to hb_47
  clear hb_47
  go_wp2_with (first | (with_reducible refine so ?_) | (with_reducible refine ld 0 (tkL XL (.slice P0 XL.g0.length d0) (.slice P1 XL.g1.length d1) va vl) HM.b0 Tryd.underlying58 ?_) | ((with_reducible refine wpList_ldg 0 (tkL XL (.slice P0 XL.g0.length d0) (.slice P1 XL.g1.length d1) va vl) HM.b0 ?_ ?_ Tryd.underlying58 ?_ ?_ ?_ ?_); rfl; rfl; rfl; kernel_rfl; rfl))
  refine (doneA_t XL _ _ _ _ _ _ HM.laid HM.rswap.row0.rd).mono ?_; rintro e w_49 ⟨rfl, hb_50⟩
  replace HM := HM.to hb_50
  clear hb_50
  have ld_51 := HM.b0.c 19 (.int .i64 XL.s0.phase)
  have ld_52 := HM.b0.c 77 (.int .i64 XL.s1.phase)
  go_wp2_with (with_reducible refine so ?_)
  go_returns
  exact ⟨rfl, by first | exact HM.below | (rw [hbs1.out]; exact HM.below)⟩
 skip
 have hp := succ_plain hc_17 (by rw [HX.out]; exact hc_33)
 rw [HX.out] at hp
 have hE := hp.2 hc_42
 obtain ⟨y0, y1⟩ := done_end hE
 obtain ⟨I0, hI0⟩ : ∃ i, (if (identsK a.feat b.feat).2 then b.idn else idn0) = i := ⟨_, rfl⟩
 obtain ⟨I1, hI1⟩ : ∃ i, (if (identsK a.feat b.feat).1 then a.idn else idn0) = i := ⟨_, rfl⟩
 have hg0 : XL.g0 = [(⟨3, 0, XL.s0.ltk, (chooseK a.feat b.feat).2, I0, 0⟩ : Evt)] := by rw [hE.g0, hI0]; rfl
 have hg1 : XL.g1 = [(⟨3, 0, XL.s0.ltk, (chooseK a.feat b.feat).2, I1, 0⟩ : Evt)] := by rw [hE.g1, hI1, ← hE.ltk]; rfl
 have HG0 := Lib.hid hg0; have HG1 := Lib.hid hg1; have HI0 := Lib.hid hI0; have HI1 := Lib.hid hI1; clear hg0 hg1 hE hp hI0 hI1
 go_wp2_with (first | (with_reducible refine so ?_) | (with_reducible refine ld 0 (tkL XL (.slice P0 XL.g0.length d0) (.slice P1 XL.g1.length d1) va vl) HM.b0 Tryd.underlying58 ?_) | ((with_reducible refine wpList_ldg 0 (tkL XL (.slice P0 XL.g0.length d0) (.slice P1 XL.g1.length d1) va vl) HM.b0 ?_ ?_ Tryd.underlying58 ?_ ?_ ?_ ?_); rfl; rfl; rfl; kernel_rfl; rfl))
 refine (doneA_f XL _ _ _ _ _ _ HM.laid HM.row0.rd).mono ?_; rintro e w_54 ⟨rfl, hb_55⟩
 replace HM := HM.to hb_55
 clear hb_55
 go_wp2_with (first | (with_reducible refine so ?_) | (with_reducible refine ld 0 (tkL XL (.slice P0 XL.g0.length d0) (.slice P1 XL.g1.length d1) va vl) HM.b0 Tryd.underlying58 ?_) | ((with_reducible refine wpList_ldg 0 (tkL XL (.slice P0 XL.g0.length d0) (.slice P1 XL.g1.length d1) va vl) HM.b0 ?_ ?_ Tryd.underlying58 ?_ ?_ ?_ ?_); rfl; rfl; rfl; kernel_rfl; rfl))
 refine (doneA_t XL _ _ _ _ _ _ HM.laid HM.rswap.row0.rd).mono ?_; rintro e w_57 ⟨rfl, hb_58⟩
 replace HM := HM.to hb_58
 clear hb_58
 go_wp2_with (with_reducible refine so ?_)
 obtain ⟨b0, o0, rfl, HE0⟩ := row_one HM.row0 HG0.out
 have j0a : decide ((0 : Int) < ((XL.g0.length : Nat) : Int)) = true := by rw [HG0.out]; rfl
 have j0c : 0 < XL.g0.length := by rw [HG0.out]; exact Nat.zero_lt_one
 have j0b : decide (0 < XL.g0.length) = true := decide_eq_true j0c
 obtain ⟨b1, o1, rfl, HE1⟩ := row_one HM.rswap.row0 HG1.out
 have j1a : decide ((0 : Int) < ((XL.g1.length : Nat) : Int)) = true := by rw [HG1.out]; rfl
 have j1c : 0 < XL.g1.length := by rw [HG1.out]; exact Nat.zero_lt_one
 have j1b : decide (0 < XL.g1.length) = true := decide_eq_true j1c
 go_wp2_with (with_reducible refine so ?_)
 try simp only [nrm]
 go_cut [8, 9] from 135 (fun v8 v9 WX => ∃ (ga gb : Nat), v8 = .pointer (some ⟨ga, 0, none⟩) ∧ v9 = .pointer (some ⟨gb, 0, none⟩) ∧ MR w WX base ([rwE (.slice (some ⟨b0, o0, none⟩) XL.g0.length d0) XL.g0, rwE (.slice (some ⟨b1, o1, none⟩) XL.g1.length d1) XL.g1]) ((ga, 63, (evtL (⟨3, 0, XL.s0.ltk, (chooseK a.feat b.feat).2, I0, 0⟩ : Evt)).toArray) :: (gb, 63, (evtL (⟨3, 0, XL.s0.ltk, (chooseK a.feat b.feat).2, I1, 0⟩ : Evt)).toArray) :: (g_24, 58, (tkL XL (.slice ((some ⟨b0, o0, none⟩)) XL.g0.length d0) (.slice ((some ⟨b1, o1, none⟩)) XL.g1.length d1) va vl).toArray) :: (g_7, 34, (cfgL b).toArray) :: (g_1, 34, (cfgL a).toArray) :: []))
 case first =>
  go_wp2_with (with_reducible refine so ?_)
  try simp only [nrm]
  have hst : Stable fun W => Below w_57.heap.size w_57 W := stable_below _ _ (Nat.le_refl _)
  refine wp_region_v (fun W => Below w_57.heap.size w_57 W) 14 hst (Below.refl _ _).drew ?_
  refine wpU_p 0 hst ?_
  refine wpU_p 1 hst ?_
  refine wpU_c 2 (.slice ((some ⟨b0, o0, none⟩)) XL.g0.length d0) hst (fun W hS => (HM.to hS).b0.cell 123) ?_
  refine wpU_p 3 hst ?_
  refine wpU_take (v := .agg (evtL (⟨3, 0, XL.s0.ltk, (chooseK a.feat b.feat).2, I0, 0⟩ : Evt)).toArray) 4 hst (fun _ h => h) rfl (fun W hS K hK => calm_load rfl rfl (run_loadVar_mid W b0 (o0) 63 (evtL (⟨3, 0, XL.s0.ltk, (chooseK a.feat b.feat).2, I0, 0⟩ : Evt)) _ (range_part (Rg.to HE0 hS).2 0 (evtL (⟨3, 0, XL.s0.ltk, (chooseK a.feat b.feat).2, I0, 0⟩ : Evt)) rfl) Tryd.underlying63 rfl (by kernel_rfl)) (hK.out _ (Below.refl _ _))) ?_; simp only [nrm]
  refine wpU_p 5 hst ?_
  refine wpU_p 6 hst ?_
  refine wpU_c 7 (.slice ((some ⟨b1, o1, none⟩)) XL.g1.length d1) hst (fun W hS => (HM.to hS).b0.cell 124) ?_
  refine wpU_p 8 hst ?_
  refine wpU_take (v := .agg (evtL (⟨3, 0, XL.s0.ltk, (chooseK a.feat b.feat).2, I1, 0⟩ : Evt)).toArray) 9 hst (fun _ h => h) rfl (fun W hS K hK => calm_load rfl rfl (run_loadVar_mid W b1 (o1) 63 (evtL (⟨3, 0, XL.s0.ltk, (chooseK a.feat b.feat).2, I1, 0⟩ : Evt)) _ (range_part (Rg.to HE1 hS).2 0 (evtL (⟨3, 0, XL.s0.ltk, (chooseK a.feat b.feat).2, I1, 0⟩ : Evt)) rfl) Tryd.underlying63 rfl (by kernel_rfl)) (hK.out _ (Below.refl _ _))) ?_; simp only [nrm]
  refine wpV_two 10 11 hst rfl rfl ?_ ?_
  ·
   intro W hS K hK
   rw [if_pos (show Region.wanted _ _ = true from rfl)]
   refine op_new (ty := 63) (cs := (evtL evt0).toArray) (fun g => .pointer (some ⟨g, 0, none⟩)) (by kernel_rfl) (fun ga W2 z lg hb G => ?_)
   refine hK.out (fun W => w_57.heap.size ≤ ga ∧ ∃ cs, cs.size = 8 ∧ Blk W ga 63 cs) _ _ (stable_some _ _ _ _) hb ⟨Nat.le_trans hS.size lg, _, rfl, G⟩ (fun hst => ?_)
   clear hK K hb lg z G
   try simp only [nrm]
   clear hS
   refine wpV_new 11 hst rfl ?_; intro W hS K hK
   have hl9 : ga + 1 ≤ W.heap.size := by obtain ⟨_, _, _, hh⟩ := hS.2; exact hh.lt
   rw [if_pos (show Region.wanted _ _ = true from rfl)]
   refine op_new (ty := 63) (cs := (evtL evt0).toArray) (fun g => .pointer (some ⟨g, 0, none⟩)) (by kernel_rfl) (fun gb W2 z lg hb G => ?_)
   refine hK.out (fun W => ga + 1 ≤ gb ∧ ∃ cs, cs.size = 8 ∧ Blk W gb 63 cs) _ _ (stable_some _ _ _ _) hb ⟨Nat.le_trans hl9 lg, _, rfl, G⟩ (fun hst => ?_)
   clear hK K hb lg z G
   try simp only [nrm]
   clear hS hl9
   refine wpU_one 12 rfl (fun W hS K hK => ?_)
   rw [if_pos (show Region.wanted _ _ = true from rfl)]
   obtain ⟨⟨hS1, ha, cs1, hc1, hG1⟩, hl, cs2, hc2, hG2'⟩ := hS
   have hb : w_57.heap.size ≤ gb := by omega
   have hne : ga ≠ gb := by omega
   obtain ⟨W2, hrun, hG2, hU⟩ := store_all (P := Tryd.prog) (ty := 63) (vs := evtL (⟨3, 0, XL.s0.ltk, (chooseK a.feat b.feat).2, I0, 0⟩ : Evt)) hG1 hc1 (by kernel_rfl) rfl
   refine op_store rfl rfl rfl hrun ?_
   refine hK.out _ (fun W => Below w_57.heap.size w_57 W ∧ w_57.heap.size ≤ ga ∧ w_57.heap.size ≤ gb ∧ ga ≠ gb ∧ Blk W ga 63 (evtL (⟨3, 0, XL.s0.ltk, (chooseK a.feat b.feat).2, I0, 0⟩ : Evt)).toArray ∧ ∃ cs, cs.size = 8 ∧ Blk W gb 63 cs) _ _ (fun W h => ⟨⟨h.1, h.2.1, _, rfl, h.2.2.2.2.1⟩, hl, h.2.2.2.2.2⟩) (stable_and (stable_below _ _ (Nat.le_refl _)) (stable_and (stable_const _) (stable_and (stable_const _) (stable_and (stable_const _) (stable_and (stable_blk _ _ _) (stable_ex _ _ _)))))) (fun _ h => h) ⟨hU.below hS1 ha, ha, hb, hne, hG2, _, hc2, hU.blk hG2' (Ne.symm hne)⟩ ?_
   clear hK K hrun hG2 hU hG1 hG2' hc1 hc2 cs1 cs2 hS1 ha hb hne hst; have hst : Stable fun W => Below w_57.heap.size w_57 W ∧ w_57.heap.size ≤ ga ∧ w_57.heap.size ≤ gb ∧ ga ≠ gb ∧ Blk W ga 63 (evtL (⟨3, 0, XL.s0.ltk, (chooseK a.feat b.feat).2, I0, 0⟩ : Evt)).toArray ∧ ∃ cs, cs.size = 8 ∧ Blk W gb 63 cs := stable_and (stable_below _ _ (Nat.le_refl _)) (stable_and (stable_const _) (stable_and (stable_const _) (stable_and (stable_const _) (stable_and (stable_blk _ _ _) (stable_ex _ _ _))))); try simp only [nrm]
   refine wpU_one 13 rfl (fun W hS K hK => ?_)
   rw [if_pos (show Region.wanted _ _ = true from rfl)]
   obtain ⟨hS1, ha, hb, hne, hGa, cs2, hc2, hG2⟩ := hS
   obtain ⟨W2, hrun, hG3, hU⟩ := store_all (P := Tryd.prog) (ty := 63) (vs := evtL (⟨3, 0, XL.s0.ltk, (chooseK a.feat b.feat).2, I1, 0⟩ : Evt)) hG2 hc2 (by kernel_rfl) rfl
   refine op_store rfl rfl rfl hrun ?_
   refine hK.out _ (fun W => Below w_57.heap.size w_57 W ∧ w_57.heap.size ≤ ga ∧ w_57.heap.size ≤ gb ∧ ga ≠ gb ∧ Blk W ga 63 (evtL (⟨3, 0, XL.s0.ltk, (chooseK a.feat b.feat).2, I0, 0⟩ : Evt)).toArray ∧ Blk W gb 63 (evtL (⟨3, 0, XL.s0.ltk, (chooseK a.feat b.feat).2, I1, 0⟩ : Evt)).toArray) _ _ (fun W h => ⟨h.1, h.2.1, h.2.2.1, h.2.2.2.1, h.2.2.2.2.1, _, rfl, h.2.2.2.2.2⟩) (stable_and (stable_below _ _ (Nat.le_refl _)) (stable_and (stable_const _) (stable_and (stable_const _) (stable_and (stable_const _) (stable_and (stable_blk _ _ _) (stable_blk _ _ _)))))) (fun _ h => h) ⟨hU.below hS1 hb, ha, hb, hne, hU.blk hGa hne, hG3⟩ ?_
   clear hK K hrun hG3 hU hG2 hc2 cs2 hS1 ha hb hne hGa hst; have hst : Stable fun W => Below w_57.heap.size w_57 W ∧ w_57.heap.size ≤ ga ∧ w_57.heap.size ≤ gb ∧ ga ≠ gb ∧ Blk W ga 63 (evtL (⟨3, 0, XL.s0.ltk, (chooseK a.feat b.feat).2, I0, 0⟩ : Evt)).toArray ∧ Blk W gb 63 (evtL (⟨3, 0, XL.s0.ltk, (chooseK a.feat b.feat).2, I1, 0⟩ : Evt)).toArray := stable_and (stable_below _ _ (Nat.le_refl _)) (stable_and (stable_const _) (stable_and (stable_const _) (stable_and (stable_const _) (stable_and (stable_blk _ _ _) (stable_blk _ _ _))))); try simp only [nrm]
   refine wpU_done (fun W5 hS => ?_)
   obtain ⟨hS1, ha, hb, hne, hGa, hGb⟩ := hS
   replace HM := HM.twoR hS1 ha hGa hb hGb hne; clear hst
   go_wp2_with fail
   go_meet
   case rel => exact ⟨ga, gb, rfl, rfl, HM⟩
  intro W hS K hK
  rw [if_pos (show Region.wanted _ _ = true from rfl)]
  refine op_new (ty := 63) (cs := (evtL evt0).toArray) (fun g => .pointer (some ⟨g, 0, none⟩)) (by kernel_rfl) (fun gb W2 z lg hb G => ?_)
  refine hK.out (fun W => w_57.heap.size ≤ gb ∧ ∃ cs, cs.size = 8 ∧ Blk W gb 63 cs) _ _ (stable_some _ _ _ _) hb ⟨Nat.le_trans hS.size lg, _, rfl, G⟩ (fun hst => ?_)
  clear hK K hb lg z G
  try simp only [nrm]
  clear hS
  refine wpV_new 10 hst rfl ?_; intro W hS K hK
  have hl9 : gb + 1 ≤ W.heap.size := by obtain ⟨_, _, _, hh⟩ := hS.2; exact hh.lt
  rw [if_pos (show Region.wanted _ _ = true from rfl)]
  refine op_new (ty := 63) (cs := (evtL evt0).toArray) (fun g => .pointer (some ⟨g, 0, none⟩)) (by kernel_rfl) (fun ga W2 z lg hb G => ?_)
  refine hK.out (fun W => gb + 1 ≤ ga ∧ ∃ cs, cs.size = 8 ∧ Blk W ga 63 cs) _ _ (stable_some _ _ _ _) hb ⟨Nat.le_trans hl9 lg, _, rfl, G⟩ (fun hst => ?_)
  clear hK K hb lg z G
  try simp only [nrm]
  clear hS hl9
  refine wpU_one 12 rfl (fun W hS K hK => ?_)
  rw [if_pos (show Region.wanted _ _ = true from rfl)]
  obtain ⟨⟨hS1, hb, cs2, hc2, hG2'⟩, hl, cs1, hc1, hG1⟩ := hS
  have ha : w_57.heap.size ≤ ga := by omega
  have hne : ga ≠ gb := by omega
  obtain ⟨W2, hrun, hG2, hU⟩ := store_all (P := Tryd.prog) (ty := 63) (vs := evtL (⟨3, 0, XL.s0.ltk, (chooseK a.feat b.feat).2, I0, 0⟩ : Evt)) hG1 hc1 (by kernel_rfl) rfl
  refine op_store rfl rfl rfl hrun ?_
  refine hK.out _ (fun W => Below w_57.heap.size w_57 W ∧ w_57.heap.size ≤ ga ∧ w_57.heap.size ≤ gb ∧ ga ≠ gb ∧ Blk W ga 63 (evtL (⟨3, 0, XL.s0.ltk, (chooseK a.feat b.feat).2, I0, 0⟩ : Evt)).toArray ∧ ∃ cs, cs.size = 8 ∧ Blk W gb 63 cs) _ _ (fun W h => ⟨⟨h.1, h.2.2.1, h.2.2.2.2.2⟩, hl, _, rfl, h.2.2.2.2.1⟩) (stable_and (stable_below _ _ (Nat.le_refl _)) (stable_and (stable_const _) (stable_and (stable_const _) (stable_and (stable_const _) (stable_and (stable_blk _ _ _) (stable_ex _ _ _)))))) (fun _ h => h) ⟨hU.below hS1 ha, ha, hb, hne, hG2, _, hc2, hU.blk hG2' (Ne.symm hne)⟩ ?_
  clear hK K hrun hG2 hU hG1 hG2' hc1 hc2 cs1 cs2 hS1 ha hb hne hst; have hst : Stable fun W => Below w_57.heap.size w_57 W ∧ w_57.heap.size ≤ ga ∧ w_57.heap.size ≤ gb ∧ ga ≠ gb ∧ Blk W ga 63 (evtL (⟨3, 0, XL.s0.ltk, (chooseK a.feat b.feat).2, I0, 0⟩ : Evt)).toArray ∧ ∃ cs, cs.size = 8 ∧ Blk W gb 63 cs := stable_and (stable_below _ _ (Nat.le_refl _)) (stable_and (stable_const _) (stable_and (stable_const _) (stable_and (stable_const _) (stable_and (stable_blk _ _ _) (stable_ex _ _ _))))); try simp only [nrm]
  refine wpU_one 13 rfl (fun W hS K hK => ?_)
  rw [if_pos (show Region.wanted _ _ = true from rfl)]
  obtain ⟨hS1, ha, hb, hne, hGa, cs2, hc2, hG2⟩ := hS
  obtain ⟨W2, hrun, hG3, hU⟩ := store_all (P := Tryd.prog) (ty := 63) (vs := evtL (⟨3, 0, XL.s0.ltk, (chooseK a.feat b.feat).2, I1, 0⟩ : Evt)) hG2 hc2 (by kernel_rfl) rfl
  refine op_store rfl rfl rfl hrun ?_
  refine hK.out _ (fun W => Below w_57.heap.size w_57 W ∧ w_57.heap.size ≤ ga ∧ w_57.heap.size ≤ gb ∧ ga ≠ gb ∧ Blk W ga 63 (evtL (⟨3, 0, XL.s0.ltk, (chooseK a.feat b.feat).2, I0, 0⟩ : Evt)).toArray ∧ Blk W gb 63 (evtL (⟨3, 0, XL.s0.ltk, (chooseK a.feat b.feat).2, I1, 0⟩ : Evt)).toArray) _ _ (fun W h => ⟨h.1, h.2.1, h.2.2.1, h.2.2.2.1, h.2.2.2.2.1, _, rfl, h.2.2.2.2.2⟩) (stable_and (stable_below _ _ (Nat.le_refl _)) (stable_and (stable_const _) (stable_and (stable_const _) (stable_and (stable_const _) (stable_and (stable_blk _ _ _) (stable_blk _ _ _)))))) (fun _ h => h) ⟨hU.below hS1 hb, ha, hb, hne, hU.blk hGa hne, hG3⟩ ?_
  clear hK K hrun hG3 hU hG2 hc2 cs2 hS1 ha hb hne hGa hst; have hst : Stable fun W => Below w_57.heap.size w_57 W ∧ w_57.heap.size ≤ ga ∧ w_57.heap.size ≤ gb ∧ ga ≠ gb ∧ Blk W ga 63 (evtL (⟨3, 0, XL.s0.ltk, (chooseK a.feat b.feat).2, I0, 0⟩ : Evt)).toArray ∧ Blk W gb 63 (evtL (⟨3, 0, XL.s0.ltk, (chooseK a.feat b.feat).2, I1, 0⟩ : Evt)).toArray := stable_and (stable_below _ _ (Nat.le_refl _)) (stable_and (stable_const _) (stable_and (stable_const _) (stable_and (stable_const _) (stable_and (stable_blk _ _ _) (stable_blk _ _ _))))); try simp only [nrm]
  refine wpU_done (fun W5 hS => ?_)
  obtain ⟨hS1, ha, hb, hne, hGa, hGb⟩ := hS
  replace HM := HM.twoR hS1 ha hGa hb hGb hne; clear hst
  go_wp2_with fail
  go_meet
  case rel => exact ⟨ga, gb, rfl, rfl, HM⟩
 case rest =>
  obtain ⟨ga, gb, rfl, rfl, HMM⟩ := hcut; clear HM; have HM := HMM; clear HMM
  go_wp2_with (first | (with_reducible refine so ?_) | (with_reducible refine ld 1 (featL a.feat) HM.b4 Tryd.underlying23 ?_) | (with_reducible refine ld 1 (featL b.feat) HM.b3 Tryd.underlying23 ?_))
  refine (me_Choose a.feat b.feat _ HM.laid).mono ?_; rintro e w_61 ⟨rfl, hb_62⟩
  replace HM := HM.to hb_62
  clear hb_62
  go_wp2_with (first | (with_reducible refine so ?_) | (with_reducible refine ld 1 (featL a.feat) HM.b4 Tryd.underlying23 ?_) | (with_reducible refine ld 1 (featL b.feat) HM.b3 Tryd.underlying23 ?_))
  refine (me_Identities a.feat b.feat _).mono ?_; rintro e w_65 ⟨rfl, hb_66⟩
  replace HM := HM.to hb_66
  clear hb_66
  go_wp2_with (with_reducible refine so ?_)
  refine HM.nw (ty := 29) (cs := #[.int .i64 0, .int .u64 0, .int .u64 0]) ?_; clear HM; intro g_67 w_68 HM
  go_wp2_with (with_reducible refine so ?_)
  refine HM.nw (ty := 29) (cs := #[.int .i64 0, .int .u64 0, .int .u64 0]) ?_; clear HM; intro g_73 w_74 HM
  go_wp2_with (with_reducible refine so ?_)
  refine sv (idnL idn0).toArray HM.b1 ?_
  intro w_79 G_81 hU_80
  replace HM := HM.s1 hU_80 G_81
  clear hU_80 G_81
  go_wp2_with (with_reducible refine so ?_)
  refine sv (idnL idn0).toArray HM.b0 ?_
  intro w_82 G_84 hU_83
  replace HM := HM.s0 hU_83 G_84
  clear hU_83 G_84
  rcases hc_85 : (identsK a.feat b.feat).1 with _ | _
  ·
   skip
   rcases hc_86 : (identsK a.feat b.feat).2 with _ | _
   ·
    skip
    have w0 : decide (I0 = idn0) = true := by rw [← HI0.out, hc_86]; simp
    have w1 : decide (I1 = idn0) = true := by rw [← HI1.out, hc_85]; simp
    go_wp2_with (with_reducible refine so ?_)
    refine (lives38 _ HM.laid).mono ?_; rintro e w_87 ⟨rfl, hb_88⟩
    replace HM := HM.to hb_88
    clear hb_88
    have ld_89 := HM.b2.c 2 (.int .u64 (W64 XL.s0.ltk))
    have ld_90 := HM.b3.c 2 (.int .u64 (W64 XL.s0.ltk))
    have ld_91 := HM.b2.c 3 (.bool ((chooseK a.feat b.feat).2))
    have ld_92 := HM.b3.c 3 (.bool ((chooseK a.feat b.feat).2))
    go_wp2_with (first | (with_reducible refine so ?_) | (with_reducible refine ld 4 (idnL I0) HM.b2 Tryd.underlying29 ?_) | ((with_reducible refine wpList_ldg 4 (idnL I0) HM.b2 ?_ ?_ Tryd.underlying29 ?_ ?_ ?_ ?_); rfl; rfl; rfl; kernel_rfl; rfl) | (with_reducible refine ld 0 (idnL idn0) HM.b0 Tryd.underlying29 ?_) | ((with_reducible refine wpList_ldg 0 (idnL idn0) HM.b0 ?_ ?_ Tryd.underlying29 ?_ ?_ ?_ ?_); rfl; rfl; rfl; kernel_rfl; rfl) | (with_reducible refine ld 4 (idnL I1) HM.b3 Tryd.underlying29 ?_) | ((with_reducible refine wpList_ldg 4 (idnL I1) HM.b3 ?_ ?_ Tryd.underlying29 ?_ ?_ ?_ ?_); rfl; rfl; rfl; kernel_rfl; rfl) | (with_reducible refine ld 0 (idnL idn0) HM.b1 Tryd.underlying29 ?_) | ((with_reducible refine wpList_ldg 0 (idnL idn0) HM.b1 ?_ ?_ Tryd.underlying29 ?_ ?_ ?_ ?_); rfl; rfl; rfl; kernel_rfl; rfl))
    go_returns
    exact ⟨rfl, by first | exact HM.below | (rw [hbs1.out]; exact HM.below)⟩
   skip
   go_wp2_with (first | (with_reducible refine so ?_) | (with_reducible refine ld 11 (idnL b.idn) HM.b5 Tryd.underlying29 ?_) | ((with_reducible refine wpList_ldg 11 (idnL b.idn) HM.b5 ?_ ?_ Tryd.underlying29 ?_ ?_ ?_ ?_); rfl; rfl; rfl; kernel_rfl; rfl))
   refine sv (idnL b.idn).toArray HM.b0 ?_
   intro w_98 G_100 hU_99
   replace HM := HM.s0 hU_99 G_100
   clear hU_99 G_100
   have w0 : decide (I0 = b.idn) = true := by rw [← HI0.out, hc_86]; simp
   have w1 : decide (I1 = idn0) = true := by rw [← HI1.out, hc_85]; simp
   go_wp2_with (with_reducible refine so ?_)
   refine (lives38 _ HM.laid).mono ?_; rintro e w_101 ⟨rfl, hb_102⟩
   replace HM := HM.to hb_102
   clear hb_102
   have ld_103 := HM.b2.c 2 (.int .u64 (W64 XL.s0.ltk))
   have ld_104 := HM.b3.c 2 (.int .u64 (W64 XL.s0.ltk))
   have ld_105 := HM.b2.c 3 (.bool ((chooseK a.feat b.feat).2))
   have ld_106 := HM.b3.c 3 (.bool ((chooseK a.feat b.feat).2))
   go_wp2_with (first | (with_reducible refine so ?_) | (with_reducible refine ld 4 (idnL I0) HM.b2 Tryd.underlying29 ?_) | ((with_reducible refine wpList_ldg 4 (idnL I0) HM.b2 ?_ ?_ Tryd.underlying29 ?_ ?_ ?_ ?_); rfl; rfl; rfl; kernel_rfl; rfl) | (with_reducible refine ld 0 (idnL b.idn) HM.b0 Tryd.underlying29 ?_) | ((with_reducible refine wpList_ldg 0 (idnL b.idn) HM.b0 ?_ ?_ Tryd.underlying29 ?_ ?_ ?_ ?_); rfl; rfl; rfl; kernel_rfl; rfl) | (with_reducible refine ld 4 (idnL I1) HM.b3 Tryd.underlying29 ?_) | ((with_reducible refine wpList_ldg 4 (idnL I1) HM.b3 ?_ ?_ Tryd.underlying29 ?_ ?_ ?_ ?_); rfl; rfl; rfl; kernel_rfl; rfl) | (with_reducible refine ld 0 (idnL idn0) HM.b1 Tryd.underlying29 ?_) | ((with_reducible refine wpList_ldg 0 (idnL idn0) HM.b1 ?_ ?_ Tryd.underlying29 ?_ ?_ ?_ ?_); rfl; rfl; rfl; kernel_rfl; rfl))
   go_returns
   exact ⟨rfl, by first | exact HM.below | (rw [hbs1.out]; exact HM.below)⟩
  skip
  go_wp2_with (first | (with_reducible refine so ?_) | (with_reducible refine ld 11 (idnL a.idn) HM.b6 Tryd.underlying29 ?_) | ((with_reducible refine wpList_ldg 11 (idnL a.idn) HM.b6 ?_ ?_ Tryd.underlying29 ?_ ?_ ?_ ?_); rfl; rfl; rfl; kernel_rfl; rfl))
  refine sv (idnL a.idn).toArray HM.b1 ?_
  intro w_112 G_114 hU_113
  replace HM := HM.s1 hU_113 G_114
  clear hU_113 G_114
  rcases hc_115 : (identsK a.feat b.feat).2 with _ | _
  ·
   skip
   have w0 : decide (I0 = idn0) = true := by rw [← HI0.out, hc_115]; simp
   have w1 : decide (I1 = a.idn) = true := by rw [← HI1.out, hc_85]; simp
   go_wp2_with (with_reducible refine so ?_)
   refine (lives38 _ HM.laid).mono ?_; rintro e w_116 ⟨rfl, hb_117⟩
   replace HM := HM.to hb_117
   clear hb_117
   have ld_118 := HM.b2.c 2 (.int .u64 (W64 XL.s0.ltk))
   have ld_119 := HM.b3.c 2 (.int .u64 (W64 XL.s0.ltk))
   have ld_120 := HM.b2.c 3 (.bool ((chooseK a.feat b.feat).2))
   have ld_121 := HM.b3.c 3 (.bool ((chooseK a.feat b.feat).2))
   go_wp2_with (first | (with_reducible refine so ?_) | (with_reducible refine ld 4 (idnL I0) HM.b2 Tryd.underlying29 ?_) | ((with_reducible refine wpList_ldg 4 (idnL I0) HM.b2 ?_ ?_ Tryd.underlying29 ?_ ?_ ?_ ?_); rfl; rfl; rfl; kernel_rfl; rfl) | (with_reducible refine ld 0 (idnL idn0) HM.b0 Tryd.underlying29 ?_) | ((with_reducible refine wpList_ldg 0 (idnL idn0) HM.b0 ?_ ?_ Tryd.underlying29 ?_ ?_ ?_ ?_); rfl; rfl; rfl; kernel_rfl; rfl) | (with_reducible refine ld 4 (idnL I1) HM.b3 Tryd.underlying29 ?_) | ((with_reducible refine wpList_ldg 4 (idnL I1) HM.b3 ?_ ?_ Tryd.underlying29 ?_ ?_ ?_ ?_); rfl; rfl; rfl; kernel_rfl; rfl) | (with_reducible refine ld 0 (idnL a.idn) HM.b1 Tryd.underlying29 ?_) | ((with_reducible refine wpList_ldg 0 (idnL a.idn) HM.b1 ?_ ?_ Tryd.underlying29 ?_ ?_ ?_ ?_); rfl; rfl; rfl; kernel_rfl; rfl))
   go_returns
   exact ⟨rfl, by first | exact HM.below | (rw [hbs1.out]; exact HM.below)⟩
  skip
  go_wp2_with (first | (with_reducible refine so ?_) | (with_reducible refine ld 11 (idnL b.idn) HM.b5 Tryd.underlying29 ?_) | ((with_reducible refine wpList_ldg 11 (idnL b.idn) HM.b5 ?_ ?_ Tryd.underlying29 ?_ ?_ ?_ ?_); rfl; rfl; rfl; kernel_rfl; rfl))
  refine sv (idnL b.idn).toArray HM.b0 ?_
  intro w_127 G_129 hU_128
  replace HM := HM.s0 hU_128 G_129
  clear hU_128 G_129
  have w0 : decide (I0 = b.idn) = true := by rw [← HI0.out, hc_115]; simp
  have w1 : decide (I1 = a.idn) = true := by rw [← HI1.out, hc_85]; simp
  go_wp2_with (with_reducible refine so ?_)
  refine (lives38 _ HM.laid).mono ?_; rintro e w_130 ⟨rfl, hb_131⟩
  replace HM := HM.to hb_131
  clear hb_131
  have ld_132 := HM.b2.c 2 (.int .u64 (W64 XL.s0.ltk))
  have ld_133 := HM.b3.c 2 (.int .u64 (W64 XL.s0.ltk))
  have ld_134 := HM.b2.c 3 (.bool ((chooseK a.feat b.feat).2))
  have ld_135 := HM.b3.c 3 (.bool ((chooseK a.feat b.feat).2))
  go_wp2_with (first | (with_reducible refine so ?_) | (with_reducible refine ld 4 (idnL I0) HM.b2 Tryd.underlying29 ?_) | ((with_reducible refine wpList_ldg 4 (idnL I0) HM.b2 ?_ ?_ Tryd.underlying29 ?_ ?_ ?_ ?_); rfl; rfl; rfl; kernel_rfl; rfl) | (with_reducible refine ld 0 (idnL b.idn) HM.b0 Tryd.underlying29 ?_) | ((with_reducible refine wpList_ldg 0 (idnL b.idn) HM.b0 ?_ ?_ Tryd.underlying29 ?_ ?_ ?_ ?_); rfl; rfl; rfl; kernel_rfl; rfl) | (with_reducible refine ld 4 (idnL I1) HM.b3 Tryd.underlying29 ?_) | ((with_reducible refine wpList_ldg 4 (idnL I1) HM.b3 ?_ ?_ Tryd.underlying29 ?_ ?_ ?_ ?_); rfl; rfl; rfl; kernel_rfl; rfl) | (with_reducible refine ld 0 (idnL a.idn) HM.b1 Tryd.underlying29 ?_) | ((with_reducible refine wpList_ldg 0 (idnL a.idn) HM.b1 ?_ ?_ Tryd.underlying29 ?_ ?_ ?_ ?_); rfl; rfl; rfl; kernel_rfl; rfl))
  go_returns
  exact ⟨rfl, by first | exact HM.below | (rw [hbs1.out]; exact HM.below)⟩
end Go.Proofs.YtihmbcnccdiecaaDoor
namespace Go.Proofs.YtihmbcnccdiecaaDoor
set_option maxRecDepth 100000
open Go.ChangeShapes Go.WideShapes Go.ChangeAt Go.RowKit
set_option linter.unusedVariables false
theorem law38_PairingSucceeds (rolea : Int) (wrolea : (Lit.int .i64 rolea).wf = true) (feat_ioa : Int) (wfeat_ioa : (Lit.int .i64 feat_ioa).wf = true) (feat_ooba : Bool) (feat_bonda : Bool) (feat_mitma : Bool) (feat_sida : Bool) (feat_tida : Bool) (own_kinda : Int) (wown_kinda : (Lit.int .i64 own_kinda).wf = true) (own_bitsa : BitVec 64) (peer_kinda : Int) (wpeer_kinda : (Lit.int .i64 peer_kinda).wf = true) (peer_bitsa : BitVec 64) (idn_adr_kinda : Int) (widn_adr_kinda : (Lit.int .i64 idn_adr_kinda).wf = true) (idn_adr_bitsa : BitVec 64) (idn_irka : BitVec 64) (secreta : BitVec 32) (seeda : BitVec 64) (minea : BitVec 64) (oob_valuea : BitVec 64) (oob_randoma : BitVec 64) (roleb : Int) (wroleb : (Lit.int .i64 roleb).wf = true) (feat_iob : Int) (wfeat_iob : (Lit.int .i64 feat_iob).wf = true) (feat_oobb : Bool) (feat_bondb : Bool) (feat_mitmb : Bool) (feat_sidb : Bool) (feat_tidb : Bool) (own_kindb : Int) (wown_kindb : (Lit.int .i64 own_kindb).wf = true) (own_bitsb : BitVec 64) (peer_kindb : Int) (wpeer_kindb : (Lit.int .i64 peer_kindb).wf = true) (peer_bitsb : BitVec 64) (idn_adr_kindb : Int) (widn_adr_kindb : (Lit.int .i64 idn_adr_kindb).wf = true) (idn_adr_bitsb : BitVec 64) (idn_irkb : BitVec 64) (secretb : BitVec 32) (seedb : BitVec 64) (mineb : BitVec 64) (oob_valueb : BitVec 64) (oob_randomb : BitVec 64) (n : Int) (wn : (Lit.int .i64 n).wf = true) (w : World) (HL : Laid w)  :
    Calls Tryd.prog 4 #[.agg #[.int .i64 rolea, .int .i64 feat_ioa, .bool feat_ooba, .bool feat_bonda, .bool feat_mitma, .bool feat_sida, .bool feat_tida, .int .i64 own_kinda, .int .u64 (W64 own_bitsa), .int .i64 peer_kinda, .int .u64 (W64 peer_bitsa), .int .i64 idn_adr_kinda, .int .u64 (W64 idn_adr_bitsa), .int .u64 (W64 idn_irka), .int .u32 (W32 secreta), .int .u64 (W64 seeda), .int .u64 (W64 minea), .int .u64 (W64 oob_valuea), .int .u64 (W64 oob_randoma)], .agg #[.int .i64 roleb, .int .i64 feat_iob, .bool feat_oobb, .bool feat_bondb, .bool feat_mitmb, .bool feat_sidb, .bool feat_tidb, .int .i64 own_kindb, .int .u64 (W64 own_bitsb), .int .i64 peer_kindb, .int .u64 (W64 peer_bitsb), .int .i64 idn_adr_kindb, .int .u64 (W64 idn_adr_bitsb), .int .u64 (W64 idn_irkb), .int .u32 (W32 secretb), .int .u64 (W64 seedb), .int .u64 (W64 mineb), .int .u64 (W64 oob_valueb), .int .u64 (W64 oob_randomb)], .int .i64 n] w (fun e w' => e = .returned (.bool true) ∧ Below w.heap.size w w') := law_PairingSucceeds (⟨rolea, ⟨feat_ioa, feat_ooba, feat_bonda, feat_mitma, feat_sida, feat_tida⟩, ⟨own_kinda, own_bitsa⟩, ⟨peer_kinda, peer_bitsa⟩, ⟨⟨idn_adr_kinda, idn_adr_bitsa⟩, idn_irka⟩, secreta, seeda, minea, ⟨oob_valuea, oob_randoma⟩⟩ : Cfg) (⟨roleb, ⟨feat_iob, feat_oobb, feat_bondb, feat_mitmb, feat_sidb, feat_tidb⟩, ⟨own_kindb, own_bitsb⟩, ⟨peer_kindb, peer_bitsb⟩, ⟨⟨idn_adr_kindb, idn_adr_bitsb⟩, idn_irkb⟩, secretb, seedb, mineb, ⟨oob_valueb, oob_randomb⟩⟩ : Cfg) n w HL
end Go.Proofs.YtihmbcnccdiecaaDoor
namespace Go.Proofs.YtihmbcnccdiecaaDoor.pairingSucceeds
open Go.ChangeShapes Go.WideShapes Go.ChangeAt Go.RowKit
open Go.ChangeMaps (open_string shut_string)
set_option linter.unusedVariables false
theorem own : ownKnob Tryd.prog.godebug = none := by kernel_rfl
theorem laidOut : laidOutB Tryd.prog = true := by kernel_rfl
theorem door_met (os : Os) (args : Array Value) : laidMetH Tryd.prog laidT ((World.doorLaid Tryd.prog 400 os).forCall (fun _ _ => 0) ⟨#[], args, []⟩).memory :=
  laidMetH_of_parts3 (fuel := 8) (laidMet_of_run' 8 (by kernel_rfl) (by kernel_rfl)) (by kernel_rfl) (by kernel_rfl)
set_option maxRecDepth 100000 in
theorem lifted (os : Os) (started : os.Started) (H : Type) (enc : TypeId × Value → H) :
    ReturnsInHanded {} Tryd.checked os 4 .any (fun w args => (Rows.pairingSucceedsSpec.pre enc Tryd.prog Tryd.f4 [] false w args ∧ laidMetH Tryd.prog laidT w) ∧ sizedMet enc Tryd.prog Tryd.f4 (OpenSpec.ofChange Rows.pairingSucceedsSpec) false w args)
      (Rows.pairingSucceedsSpec.post enc Tryd.prog Tryd.f4 false true false false) := by
  refine returnsInHanded_of_change_and (C := Tryd.checked) (X := fun w _ => laidMetH Tryd.prog laidT w) (fun _ _ _ hh h => h.of_heap hh) own started (by kernel_rfl) Tryd.func4
    (ChangeSpec.witness_shaped (enc := enc) (C := Tryd.checked) (os := os) (X := fun w _ => laidMetH Tryd.prog laidT w) false (World.doorLaid Tryd.prog 400 os) #[.agg #[.int .i64 0, .int .i64 0, .bool false, .bool false, .bool false, .bool false, .bool false, .int .i64 0, .int .u64 0, .int .i64 0, .int .u64 0, .int .i64 0, .int .u64 0, .int .u64 0, .int .u32 0, .int .u64 0, .int .u64 0, .int .u64 0, .int .u64 0], .agg #[.int .i64 0, .int .i64 0, .bool false, .bool false, .bool false, .bool false, .bool false, .int .i64 0, .int .u64 0, .int .i64 0, .int .u64 0, .int .i64 0, .int .u64 0, .int .u64 0, .int .u32 0, .int .u64 0, .int .u64 0, .int .u64 0, .int .u64 0], .int .i64 0] 8 rfl (World.shaped_of_RefB (by kernel_rfl) (by kernel_rfl)) (by kernel_rfl) (by kernel_rfl) (by kernel_rfl) (door_met os _)) ?_
  intro W base args ds gs before hval0 hW _ _ hL _
  have hval : ∀ (j : Nat) t v, Tryd.f4.params[j]? = some t → args[j]? = some v → Value.okWide Tryd.prog W .any base t v := hval0
  have hW' := hW
  obtain ⟨p, q, hA0, hV, rfl, hfz, hnd⟩ := hW
  have hA : DataW.TrodAll enc Tryd.prog W 0 (fun _ => true) true Tryd.f4.params.toList args.toList ds p := hA0
  rw [Tryd.params4] at hA hval
  obtain ⟨v0, vs0, d0, ds0, p0, q0, hargs, rfl, rfl, h0, r0⟩ := trodAll_cons hA
  obtain ⟨v1, vs1, d1, ds1, p1, q1, rfl, rfl, rfl, h1, r1⟩ := trodAll_cons r0
  obtain ⟨v2, vs2, d2, ds2, p2, q2, rfl, rfl, rfl, h2, r2⟩ := trodAll_cons r1
  obtain ⟨rfl, rfl, rfl⟩ := trodAll_nil r2
  obtain rfl : args = #[v0, v1, v2] := by cases args; simp_all
  obtain ⟨rfl, rfl⟩ := trodVars_none hV
  have k0 := h0
  have lt0 : ∀ x ∈ p0, x.block < W.heap.size := by obtain ⟨m, hm⟩ := k0; exact DataW.trod_lt m _ _ _ hm
  obtain ⟨role0, feat_io0, feat_oob0, feat_bond0, feat_mitm0, feat_sid0, feat_tid0, own_kind0, own_bits0, peer_kind0, peer_bits0, idn_adr_kind0, idn_adr_bits0, idn_irk0, secret0, seed0, mine0, oob_value0, oob_random0, rfl, wrole0, wfeat_io0, wown_kind0, wpeer_kind0, widn_adr_kind0⟩ := pcfg_in (hval 0 34 v0 rfl rfl) h0
  have k1 := h1
  have lt1 : ∀ x ∈ p1, x.block < W.heap.size := by obtain ⟨m, hm⟩ := k1; exact DataW.trod_lt m _ _ _ hm
  obtain ⟨role1, feat_io1, feat_oob1, feat_bond1, feat_mitm1, feat_sid1, feat_tid1, own_kind1, own_bits1, peer_kind1, peer_bits1, idn_adr_kind1, idn_adr_bits1, idn_irk1, secret1, seed1, mine1, oob_value1, oob_random1, rfl, wrole1, wfeat_io1, wown_kind1, wpeer_kind1, widn_adr_kind1⟩ := pcfg_in (hval 1 34 v1 rfl rfl) h1
  obtain ⟨a2, rfl, rfl, rfl, w2⟩ := open_int Tryd.underlying3 (hval 2 3 v2 rfl rfl) h2
  clear hA0 hval0
  refine (law38_PairingSucceeds role0 wrole0 feat_io0 wfeat_io0 feat_oob0 feat_bond0 feat_mitm0 feat_sid0 feat_tid0 own_kind0 wown_kind0 own_bits0 peer_kind0 wpeer_kind0 peer_bits0 idn_adr_kind0 widn_adr_kind0 idn_adr_bits0 idn_irk0 secret0 seed0 mine0 oob_value0 oob_random0 role1 wrole1 feat_io1 wfeat_io1 feat_oob1 feat_bond1 feat_mitm1 feat_sid1 feat_tid1 own_kind1 wown_kind1 own_bits1 peer_kind1 wpeer_kind1 peer_bits1 idn_adr_kind1 widn_adr_kind1 idn_adr_bits1 idn_irk1 secret1 seed1 mine1 oob_value1 oob_random1 a2 w2 W (laid_of hL) ).mono fun e W' ⟨he, bel⟩ => ?_
  subst he
  exact ⟨_, rfl, _, _, _, [], _, [], hW', trodAll_mk1 (shut_bool Tryd.underlying4 _), (trodAll_cons_mk (Below.trod laidOut (by kernel_rfl) (of_decide_eq_true (by kernel_rfl)) k0 bel lt0) (trodAll_cons_mk (Below.trod laidOut (by kernel_rfl) (of_decide_eq_true (by kernel_rfl)) k1 bel lt1) (trodAll_cons_mk (shut_int Tryd.underlying3 w2) trodAll_mk0))), rfl, bel.frame _, fun h => by cases h⟩
theorem over : Rows.pairingSucceedsRow.holds Tryd.pinned (OpenSpec.ofChange Rows.pairingSucceedsSpec) :=
  OpenClaim.holds_of_wide 4 Tryd.f4 rfl rfl rfl rfl rfl rfl rfl ⟨rfl, rfl, rfl, rfl, rfl⟩ rfl rfl rfl rfl rfl (by kernel_rfl) Tryd.func4 (by kernel_rfl)
    (of_decide_eq_true (by kernel_rfl)) (by unfold Func.isWrapper; first | (rw [if_pos (by decide +kernel)]; kernel_rfl) | (rw [if_neg (by decide +kernel)]; exact ⟨rfl, rfl⟩))
    (fun os started H enc _ => lifted os started H enc)
theorem proved : Rows.PairingSucceedsCardSaid :=
  Claim7.holds_tied_plain_at .later [] [.data, .data] true _ false over (fun _ h => by cases h) (by kernel_rfl) (fun _ h => by cases h) pairingSucceeds_row_tie rfl ⟨rfl, rfl⟩ (by kernel_rfl) rfl
    (fun f fn hf hfn => by
      obtain rfl : f = 4 := Option.some.inj ((show Tryd.prog.funcNamed "wireless/wirelesslaw38.PairingSucceeds" = some 4 by kernel_rfl).symm.trans hf) |>.symm
      obtain rfl : fn = Tryd.f4 := (Option.some.inj (Tryd.func4.symm.trans hfn)).symm
      exact ⟨by kernel_rfl, fun j t ht => by
        rw [Tryd.params4] at ht
        have hm : t ∈ [34, 34, 3] := by simpa using Array.mem_of_getElem? ht
        have hall : ([34, 34, 3].all fun u => !Tryd.prog.wantsStandIn u) = true := by kernel_rfl
        exact (show Tryd.prog.wantsStandIn t = false by simpa using List.all_eq_true.1 hall t hm)⟩)
    (by kernel_rfl)
end Go.Proofs.YtihmbcnccdiecaaDoor.pairingSucceeds
