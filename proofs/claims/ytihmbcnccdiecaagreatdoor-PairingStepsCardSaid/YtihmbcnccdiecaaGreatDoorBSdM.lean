/- Part of the proofs of the laws of pairing. -/
import Derived.Test.YtihmbcnccdiecaaGreatDoorBSdG
namespace Go.Proofs.YtihmbcnccdiecaaGreatDoor
set_option maxRecDepth 100000
set_option linter.unusedVariables false
set_option linter.unusedSimpArgs false
open Go.ChangeShapes Go.WideShapes Go.ChangeAt Go.RowKit
set_option maxHeartbeats 4000000 in
theorem CO (p : Pr) (d : Sec) (now : Int) (w : World) (HL : bW w) (r0 : 0 ≤ p.round) (r1 : p.round ≤ 60) (hp0 : ¬ p.phase = 0) (hp1 : ¬ p.phase = 1) (hp2 : ¬ p.phase = 2) (hp3 : ¬ p.phase = 3) (hp4 : ¬ p.phase = 4) (hp5 : ¬ p.phase = 5) (hp6 : ¬ p.phase = 6) :
  Calls Tryz.prog 26 #[.agg (prL p).toArray, .agg (aI d).toArray, .int .i64 now] w (fun e w' => jF w w' (bU p d now).1 (bU p d now).2.1 (bU p d now).2.2 e) := by
 obtain ⟨base, hbs⟩ : ∃ b, w.heap.size = b := ⟨_, rfl⟩
 have HM := Mem.start HL
 rw [hbs] at HM
 obtain ⟨S, hS⟩ : ∃ S, aH p now = S := ⟨_, rfl⟩
 have hs0 : S.sent = [] := by rw [← hS]; rfl
 have ht0 : S.told = [] := by rw [← hS]; rfl
 have hw0 : S.was = S.p := by rw [← hS]; rfl
 have ls : S.sent.length ≤ 900 := by rw [hs0]; decide
 have lt : S.told.length ≤ 900 := by rw [ht0]; decide
 have h0 : 0 ≤ S.p.round := by rw [← hS]; exact r0
 have h1 : S.p.round ≤ 64 := by rw [← hS]; show p.round ≤ 64; omega
 have h2 : S.p.round ≤ 60 := by rw [← hS]; exact r1
 have kph0 := Lib.hid (show ¬ S.p.phase = 0 by rw [← hS]; exact hp0)
 have eph0 : ((S.p.phase : Int) == 0) = false := by simpa using kph0.out
 have eph0n : ((S.p.phase : Int) != 0) = true := by simpa using kph0.out
 have kph1 := Lib.hid (show ¬ S.p.phase = 1 by rw [← hS]; exact hp1)
 have kph2 := Lib.hid (show ¬ S.p.phase = 2 by rw [← hS]; exact hp2)
 have kph3 := Lib.hid (show ¬ S.p.phase = 3 by rw [← hS]; exact hp3)
 have kph4 := Lib.hid (show ¬ S.p.phase = 4 by rw [← hS]; exact hp4)
 have kph5 := Lib.hid (show ¬ S.p.phase = 5 by rw [← hS]; exact hp5)
 have kph6 := Lib.hid (show ¬ S.p.phase = 6 by rw [← hS]; exact hp6)
 go_enter Tryz.func26, Tryz.ntmps26
 go_wp2_with with_reducible refine sm ?_
 refine HM.nw (ty := 37) (cs := (prL p).toArray) ?_; clear HM; intro D F HM
 go_wp2_with with_reducible refine sm ?_
 refine HM.nw (ty := 43) (cs := (aI d).toArray) ?_; clear HM; intro I J HM
 go_wp2_with with_reducible refine sm ?_
 refine HM.nw (ty := 37) (cs := (prL pr0).toArray) ?_; clear HM; intro L O HM
 go_wp2_with first | with_reducible refine sm ?_ | with_reducible refine lw HM.b2 U37 ?_
 refine (fD _ p now _ _ HM.here).mono ?_; rintro e z ⟨gs, rfl, q⟩
 replace HM := HM.trans q; clear q
 rw [hS] at HM
 rw [← hs0, ← ht0] at HM
 go_wp2_with with_reducible refine sm ?_
 unfold bA
 refine fM ?_
 go_wp2_with with_reducible refine sm ?_
 unfold bA
 refine aS (k := 3) (e := 97) rfl rfl rfl U98 U3 rfl ?_
 simp only [List.nil_append, List.cons_append, Nat.zero_add, Nat.reduceAdd]
 go_wp2_with with_reducible refine sm ?_
 unfold bA
 refine aS (k := 3) (e := 97) rfl rfl rfl U98 U3 rfl ?_
 simp only [List.nil_append, List.cons_append, Nat.zero_add, Nat.reduceAdd]
 go_wp2_with with_reducible refine sm ?_
 unfold bA
 refine aS (k := 3) (e := 97) rfl rfl rfl U98 U3 rfl ?_
 simp only [List.nil_append, List.cons_append, Nat.zero_add, Nat.reduceAdd]
 go_wp2_with with_reducible refine sm ?_
 unfold bA
 refine aS (k := 3) (e := 97) rfl rfl rfl U98 U3 rfl ?_
 simp only [List.nil_append, List.cons_append, Nat.zero_add, Nat.reduceAdd]
 go_wp2_with with_reducible refine sm ?_
 unfold bA
 refine aS (k := 3) (e := 97) rfl rfl rfl U98 U3 rfl ?_
 simp only [List.nil_append, List.cons_append, Nat.zero_add, Nat.reduceAdd]
 go_wp2_with with_reducible refine sm ?_
 unfold bA
 refine aS (k := 3) (e := 97) rfl rfl rfl U98 U3 rfl ?_
 simp only [List.nil_append, List.cons_append, Nat.zero_add, Nat.reduceAdd]
 go_wp2_with with_reducible refine sm ?_
 unfold bA
 refine dY (k := 3) (e := 97) [{ key := .int .i64 0, val := .func (.func 47) #[.pointer (some ⟨gs, 0, none⟩)] #[], born := 0 }, { key := .int .i64 1, val := .func (.func 48) #[.pointer (some ⟨gs, 0, none⟩)] #[], born := 1 }, { key := .int .i64 2, val := .func (.func 49) #[.pointer (some ⟨gs, 0, none⟩)] #[], born := 2 }, { key := .int .i64 3, val := .func (.func 50) #[.pointer (some ⟨gs, 0, none⟩)] #[], born := 3 }, { key := .int .i64 4, val := .func (.func 51) #[.pointer (some ⟨gs, 0, none⟩)] #[], born := 4 }, { key := .int .i64 5, val := .func (.func 52) #[.pointer (some ⟨gs, 0, none⟩)] #[], born := 5 }, { key := .int .i64 6, val := .func (.func 53) #[.pointer (some ⟨gs, 0, none⟩)] #[], born := 6 }] 7 rfl rfl rfl U98 U3 rfl rfl rfl ?_
 intro U hbm hem
 replace HM := HM.to hbm; clear hbm
 generalize z.heap.size = mb at hem ⊢
 have HE := Lib.hid hem; clear hem
 have C := HM.b0.c 19 (.int .i64 S.p.phase)
 go_wp2_with with_reducible refine sm ?_
 unfold bA
 refine fZ (k := 3) (e := 97) none .nilFunc (.tuple #[.nilFunc, .bool false]) HE.out rfl rfl U98 U3 (by have e0 : ((S.p.phase : Int) == 0) = false := (by simpa using kph0.out); have e1 : ((S.p.phase : Int) == 1) = false := (by simpa using kph1.out); have e2 : ((S.p.phase : Int) == 2) = false := (by simpa using kph2.out); have e3 : ((S.p.phase : Int) == 3) = false := (by simpa using kph3.out); have e4 : ((S.p.phase : Int) == 4) = false := (by simpa using kph4.out); have e5 : ((S.p.phase : Int) == 5) = false := (by simpa using kph5.out); have e6 : ((S.p.phase : Int) == 6) = false := (by simpa using kph6.out); simp [Instr.findNow, Instr.sameNow, e0, e1, e2, e3, e4, e5, e6]) (by kernel_rfl) rfl ?_
 clear C
 go_wp2_with with_reducible refine sm ?_
 refine bt HM.trans (aR _ _ S _ _ _ _ HM.here) ?_; clear HM; intro Z HM
 go_wp2_with with_reducible refine sm ?_
 refine yv HM.b1 HM.s1 ?_; clear HM; intro a7 HM
 go_wp2_with with_reducible refine sm ?_
 refine rc3 HM.b1 U37 ?_
 have es : bE S d = S := by have a0 := kph0.out; have a1 := kph1.out; have a2 := kph2.out; have a3 := kph3.out; have a4 := kph4.out; have a5 := kph5.out; have a6 := kph6.out; unfold bE; rw [if_pos (by omega)]
 exact eC hS es hbs HM
end Go.Proofs.YtihmbcnccdiecaaGreatDoor
