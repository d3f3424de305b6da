/- Part of the proofs of the laws of pairing. -/
import Derived.Test.YtihmbcnccdiecaaGreatDoorBSdG
namespace Go.Proofs.YtihmbcnccdiecaaGreatDoor
set_option maxRecDepth 100000
set_option linter.unusedVariables false
set_option linter.unusedSimpArgs false
open Go.ChangeShapes Go.WideShapes Go.ChangeAt Go.RowKit
set_option maxHeartbeats 4000000 in
theorem CS (p : Pr) (d : Sec) (now : Int) (w : World) (HL : bW w) (r0 : 0 ≤ p.round) (r1 : p.round ≤ 60) (hp0 : p.phase = 0) :
  Calls Tryz.prog 26 #[.agg (prL p).toArray, .agg (aI d).toArray, .int .i64 now] w (fun e w' => jF w w' (bU p d now).1 (bU p d now).2.1 (bU p d now).2.2 e) := by
 obtain ⟨base, hbs⟩ : ∃ b, w.heap.size = b := ⟨_, rfl⟩
 have HM := Mem.start HL
 rw [hbs] at HM
 obtain ⟨S, hS⟩ : ∃ S, aH p now = S := ⟨_, rfl⟩
 have hs0 : S.sent = [] := by rw [← hS]; rfl
 have ht0 : S.told = [] := by rw [← hS]; rfl
 have hw0 : S.was = S.p := by rw [← hS]; rfl
 have ls : S.sent.length ≤ 900 := by rw [hs0]; decide
 have lt : S.told.length ≤ 900 := by rw [ht0]; decide
 have h0 : 0 ≤ S.p.round := by rw [← hS]; exact r0
 have h1 : S.p.round ≤ 64 := by rw [← hS]; show p.round ≤ 64; omega
 have h2 : S.p.round ≤ 60 := by rw [← hS]; exact r1
 have kph0 := Lib.hid (show S.p.phase = 0 by rw [← hS]; exact hp0)
 have eph0 : ((S.p.phase : Int) == 0) = true := by simpa using kph0.out
 have eph0n : ((S.p.phase : Int) != 0) = false := by simpa using kph0.out
 go_enter Tryz.func26, Tryz.ntmps26
 go_wp2_with with_reducible refine sm ?_
 refine HM.nw (ty := 37) (cs := (prL p).toArray) ?_; clear HM; intro b3 b4 HM
 go_wp2_with with_reducible refine sm ?_
 refine HM.nw (ty := 43) (cs := (aI d).toArray) ?_; clear HM; intro b5 b6 HM
 go_wp2_with with_reducible refine sm ?_
 refine HM.nw (ty := 37) (cs := (prL pr0).toArray) ?_; clear HM; intro b7 b8 HM
 go_wp2_with first | with_reducible refine sm ?_ | with_reducible refine lw HM.b2 U37 ?_
 refine (fD _ p now _ _ HM.here).mono ?_; rintro e O ⟨gs, rfl, L⟩
 replace HM := HM.trans L; clear L
 rw [hS] at HM
 rw [← hs0, ← ht0] at HM
 go_wp2_with with_reducible refine sm ?_
 unfold bA
 refine fM ?_
 go_wp2_with with_reducible refine sm ?_
 unfold bA
 refine aS (k := 3) (e := 97) rfl rfl rfl U98 U3 rfl ?_
 simp only [List.nil_append, List.cons_append, Nat.zero_add, Nat.reduceAdd]
 go_wp2_with with_reducible refine sm ?_
 unfold bA
 refine aS (k := 3) (e := 97) rfl rfl rfl U98 U3 rfl ?_
 simp only [List.nil_append, List.cons_append, Nat.zero_add, Nat.reduceAdd]
 go_wp2_with with_reducible refine sm ?_
 unfold bA
 refine aS (k := 3) (e := 97) rfl rfl rfl U98 U3 rfl ?_
 simp only [List.nil_append, List.cons_append, Nat.zero_add, Nat.reduceAdd]
 go_wp2_with with_reducible refine sm ?_
 unfold bA
 refine aS (k := 3) (e := 97) rfl rfl rfl U98 U3 rfl ?_
 simp only [List.nil_append, List.cons_append, Nat.zero_add, Nat.reduceAdd]
 go_wp2_with with_reducible refine sm ?_
 unfold bA
 refine aS (k := 3) (e := 97) rfl rfl rfl U98 U3 rfl ?_
 simp only [List.nil_append, List.cons_append, Nat.zero_add, Nat.reduceAdd]
 go_wp2_with with_reducible refine sm ?_
 unfold bA
 refine aS (k := 3) (e := 97) rfl rfl rfl U98 U3 rfl ?_
 simp only [List.nil_append, List.cons_append, Nat.zero_add, Nat.reduceAdd]
 go_wp2_with with_reducible refine sm ?_
 unfold bA
 refine dY (k := 3) (e := 97) [{ key := .int .i64 0, val := .func (.func 47) #[.pointer (some ⟨gs, 0, none⟩)] #[], born := 0 }, { key := .int .i64 1, val := .func (.func 48) #[.pointer (some ⟨gs, 0, none⟩)] #[], born := 1 }, { key := .int .i64 2, val := .func (.func 49) #[.pointer (some ⟨gs, 0, none⟩)] #[], born := 2 }, { key := .int .i64 3, val := .func (.func 50) #[.pointer (some ⟨gs, 0, none⟩)] #[], born := 3 }, { key := .int .i64 4, val := .func (.func 51) #[.pointer (some ⟨gs, 0, none⟩)] #[], born := 4 }, { key := .int .i64 5, val := .func (.func 52) #[.pointer (some ⟨gs, 0, none⟩)] #[], born := 5 }, { key := .int .i64 6, val := .func (.func 53) #[.pointer (some ⟨gs, 0, none⟩)] #[], born := 6 }] 7 rfl rfl rfl U98 U3 rfl rfl rfl ?_
 intro b9 hbm hem
 replace HM := HM.to hbm; clear hbm
 generalize O.heap.size = mb at hem ⊢
 have HE := Lib.hid hem; clear hem
 have U := HM.b0.c 19 (.int .i64 S.p.phase)
 go_wp2_with with_reducible refine sm ?_
 unfold bA
 refine fZ (k := 3) (e := 97) (some (0, .func (.func 47) #[.pointer (some ⟨gs, 0, none⟩)] #[])) .nilFunc (.tuple #[.func (.func 47) #[.pointer (some ⟨gs, 0, none⟩)] #[], .bool true]) HE.out rfl rfl U98 U3 (by rw [kph0.out]; rfl) (by kernel_rfl) rfl ?_
 clear U
 go_wp2_with first | with_reducible refine sm ?_ | with_reducible refine ld 0 (aI d) HM.b2 U43 ?_
 refine bt HM.to (jM d _ HM.laid) ?_; clear HM; intro c0 HM
 by_cases F : (gD d : Int) = 0
 rotate_left
 ·
  obtain ⟨Z, a0, q⟩ := fF F; clear F
  go_wp2_with with_reducible refine sm ?_
  refine bd HM (cI _ _ S 7 _ _ _ _ HM.here) ?_; clear HM; intro c4 c5 c6 HM
  go_wp2_with with_reducible refine sm ?_
  refine bt HM.trans (aR _ _ (S.fail 7) _ _ _ _ HM.here) ?_; clear HM; intro c7 HM
  go_wp2_with with_reducible refine sm ?_
  refine yv HM.b1 HM.s1 ?_; clear HM; intro c8 HM
  go_wp2_with with_reducible refine sm ?_
  refine rc3 HM.b1 U37 ?_
  have q0 := kph0.out
  have q1 := q.out
  exact eC hS (by unfold bE; exact es9) hbs HM
 obtain ⟨Z, a0, q⟩ := fT F; clear F
 by_cases I : (d.kind : Int) = 5
 ·
  obtain ⟨a1, a2, z⟩ := fT I; clear I
  have a3 := HM.b2.c 0 (.int .i64 d.kind)
  have a4 := HM.b0.c 19 (.int .i64 S.p.phase)
  go_wp2_with with_reducible refine sm ?_
  refine bt HM.trans (aR _ _ S _ _ _ _ HM.here) ?_; clear HM; intro c9 HM; clear a3 a4
  go_wp2_with with_reducible refine sm ?_
  refine yv HM.b1 HM.s1 ?_; clear HM; intro d0 HM
  go_wp2_with with_reducible refine sm ?_
  refine rc3 HM.b1 U37 ?_
  have q0 := kph0.out
  have q1 := q.out
  have q2 := z.out
  have es : bE S d = S := by first | (simp [bE, Sd.call, q0, q1, q2]; done) | (exfalso; omega) | (simp [bE, Sd.call, q0, q1, q2]; rfl) | (unfold bE; (try unfold Sd.take); (try unfold Sd.open_); (try unfold Sd.identity); (try dsimp only); (repeat' (split <;> (first | (exfalso; rename_i hh; first | exact absurd q0 hh | exact absurd hh q0 | exact absurd (q0.symm.trans hh) (by decide) | exact absurd q1 hh | exact absurd hh q1 | exact absurd (q1.symm.trans hh) (by decide) | exact absurd q2 hh | exact absurd hh q2 | exact absurd (q2.symm.trans hh) (by decide) | (simp [Sd.call, q0, q1, q2] at hh; done)) | skip))); all_goals rfl)
  exact eC hS es hbs HM
 obtain ⟨a1, a2, z⟩ := fF I; clear I
 by_cases J : (d.kind : Int) = 11
 rotate_left
 ·
  obtain ⟨a5, a6, C⟩ := fF J; clear J
  have a7 := HM.b2.c 0 (.int .i64 d.kind)
  go_wp2_with first | with_reducible refine sm ?_ | with_reducible refine ld 0 (aI d) HM.b2 U43 ?_
  refine bd HM (DM _ _ S d _ _ _ _ HM.here bV bV ) ?_; clear HM; intro d1 d2 d3 HM; clear a7
  rcases d4 : (S.idle d).2 with _ | _
  ·
   go_wp2_with with_reducible refine sm ?_
   refine bd HM (cI _ _ ((S.idle d).1) 7 _ _ _ _ HM.here) ?_; clear HM; intro d5 d6 d7 HM
   go_wp2_with with_reducible refine sm ?_
   refine bt HM.trans (aR _ _ (((S.idle d).1).fail 7) _ _ _ _ HM.here) ?_; clear HM; intro d8 HM
   go_wp2_with with_reducible refine sm ?_
   refine yv HM.b1 HM.s1 ?_; clear HM; intro d9 HM
   go_wp2_with with_reducible refine sm ?_
   refine rc3 HM.b1 U37 ?_
   have q0 := kph0.out
   have q1 := q.out
   have q2 := z.out
   have q3 := C.out
   exact eC hS (by unfold bE; exact es9) hbs HM
  go_wp2_with with_reducible refine sm ?_
  refine bt HM.trans (aR _ _ ((S.idle d).1) _ _ _ _ HM.here) ?_; clear HM; intro e0 HM
  go_wp2_with with_reducible refine sm ?_
  refine yv HM.b1 HM.s1 ?_; clear HM; intro e1 HM
  go_wp2_with with_reducible refine sm ?_
  refine rc3 HM.b1 U37 ?_
  have q0 := kph0.out
  have q1 := q.out
  have q2 := z.out
  have q3 := C.out
  exact eC hS (by unfold bE; exact es9) hbs HM
 obtain ⟨a5, a6, C⟩ := fT J; clear J
 have a8 := HM.b2.c 0 (.int .i64 d.kind)
 go_wp2_with with_reducible refine sm ?_
 refine bt HM.to (bQ _ _ _ _  _ HM.b0 S.first rfl) ?_; clear HM; intro e2 HM; clear a8
 rcases D : S.first with _ | _
 rotate_left
 ·
  have a9 := HM.b0.c 19 (.int .i64 S.p.phase)
  go_wp2_with with_reducible refine sm ?_
  refine bt HM.trans (aR _ _ S _ _ _ _ HM.here) ?_; clear HM; intro e3 HM; clear a9
  go_wp2_with with_reducible refine sm ?_
  refine yv HM.b1 HM.s1 ?_; clear HM; intro e4 HM
  go_wp2_with with_reducible refine sm ?_
  refine rc3 HM.b1 U37 ?_
  have q0 := kph0.out
  have q1 := q.out
  have q2 := z.out
  have q3 := C.out
  have es : bE S d = S := by first | (simp [bE, Sd.call, q0, q1, q2, q3, D]; done) | (exfalso; omega) | (simp [bE, Sd.call, q0, q1, q2, q3, D]; rfl) | (unfold bE; (try unfold Sd.take); (try unfold Sd.open_); (try unfold Sd.identity); (try dsimp only); (repeat' (split <;> (first | (exfalso; rename_i hh; first | exact absurd q0 hh | exact absurd hh q0 | exact absurd (q0.symm.trans hh) (by decide) | exact absurd q1 hh | exact absurd hh q1 | exact absurd (q1.symm.trans hh) (by decide) | exact absurd q2 hh | exact absurd hh q2 | exact absurd (q2.symm.trans hh) (by decide) | exact absurd q3 hh | exact absurd hh q3 | exact absurd (q3.symm.trans hh) (by decide) | exact absurd D hh | exact absurd hh D | exact absurd (D.symm.trans hh) (by decide) | (simp [Sd.call, q0, q1, q2, q3, D] at hh; done)) | skip))); all_goals rfl)
  exact eC hS es hbs HM
 go_wp2_with first | with_reducible refine sm ?_ | with_reducible refine ld 0 (aI d) HM.b2 U43 ?_
 refine bd HM (DM _ _ S d _ _ _ _ HM.here bV bV ) ?_; clear HM; intro e5 e6 e7 HM
 rcases e8 : (S.idle d).2 with _ | _
 ·
  go_wp2_with with_reducible refine sm ?_
  refine bd HM (cI _ _ ((S.idle d).1) 7 _ _ _ _ HM.here) ?_; clear HM; intro e9 f0 f1 HM
  go_wp2_with with_reducible refine sm ?_
  refine bt HM.trans (aR _ _ (((S.idle d).1).fail 7) _ _ _ _ HM.here) ?_; clear HM; intro f2 HM
  go_wp2_with with_reducible refine sm ?_
  refine yv HM.b1 HM.s1 ?_; clear HM; intro f3 HM
  go_wp2_with with_reducible refine sm ?_
  refine rc3 HM.b1 U37 ?_
  have q0 := kph0.out
  have q1 := q.out
  have q2 := z.out
  have q3 := C.out
  exact eC hS (by unfold bE; exact es9) hbs HM
 go_wp2_with with_reducible refine sm ?_
 refine bt HM.trans (aR _ _ ((S.idle d).1) _ _ _ _ HM.here) ?_; clear HM; intro f4 HM
 go_wp2_with with_reducible refine sm ?_
 refine yv HM.b1 HM.s1 ?_; clear HM; intro f5 HM
 go_wp2_with with_reducible refine sm ?_
 refine rc3 HM.b1 U37 ?_
 have q0 := kph0.out
 have q1 := q.out
 have q2 := z.out
 have q3 := C.out
 exact eC hS (by unfold bE; exact es9) hbs HM
set_option maxHeartbeats 4000000 in
theorem AF (p : Pr) (d : Sec) (now : Int) (w : World) (HL : bW w) (r0 : 0 ≤ p.round) (r1 : p.round ≤ 60) (hp0 : ¬ p.phase = 0) (hp1 : p.phase = 1) :
  Calls Tryz.prog 26 #[.agg (prL p).toArray, .agg (aI d).toArray, .int .i64 now] w (fun e w' => jF w w' (bU p d now).1 (bU p d now).2.1 (bU p d now).2.2 e) := by
 obtain ⟨base, hbs⟩ : ∃ b, w.heap.size = b := ⟨_, rfl⟩
 have HM := Mem.start HL
 rw [hbs] at HM
 obtain ⟨S, hS⟩ : ∃ S, aH p now = S := ⟨_, rfl⟩
 have hs0 : S.sent = [] := by rw [← hS]; rfl
 have ht0 : S.told = [] := by rw [← hS]; rfl
 have hw0 : S.was = S.p := by rw [← hS]; rfl
 have ls : S.sent.length ≤ 900 := by rw [hs0]; decide
 have lt : S.told.length ≤ 900 := by rw [ht0]; decide
 have h0 : 0 ≤ S.p.round := by rw [← hS]; exact r0
 have h1 : S.p.round ≤ 64 := by rw [← hS]; show p.round ≤ 64; omega
 have h2 : S.p.round ≤ 60 := by rw [← hS]; exact r1
 have kph0 := Lib.hid (show ¬ S.p.phase = 0 by rw [← hS]; exact hp0)
 have eph0 : ((S.p.phase : Int) == 0) = false := by simpa using kph0.out
 have eph0n : ((S.p.phase : Int) != 0) = true := by simpa using kph0.out
 have kph1 := Lib.hid (show S.p.phase = 1 by rw [← hS]; exact hp1)
 have eph1 : ((S.p.phase : Int) == 1) = true := by simpa using kph1.out
 have eph1n : ((S.p.phase : Int) != 1) = false := by simpa using kph1.out
 go_enter Tryz.func26, Tryz.ntmps26
 go_wp2_with with_reducible refine sm ?_
 refine HM.nw (ty := 37) (cs := (prL p).toArray) ?_; clear HM; intro b3 b4 HM
 go_wp2_with with_reducible refine sm ?_
 refine HM.nw (ty := 43) (cs := (aI d).toArray) ?_; clear HM; intro b5 b6 HM
 go_wp2_with with_reducible refine sm ?_
 refine HM.nw (ty := 37) (cs := (prL pr0).toArray) ?_; clear HM; intro b7 b8 HM
 go_wp2_with first | with_reducible refine sm ?_ | with_reducible refine lw HM.b2 U37 ?_
 refine (fD _ p now _ _ HM.here).mono ?_; rintro e L ⟨gs, rfl, J⟩
 replace HM := HM.trans J; clear J
 rw [hS] at HM
 rw [← hs0, ← ht0] at HM
 go_wp2_with with_reducible refine sm ?_
 unfold bA
 refine fM ?_
 go_wp2_with with_reducible refine sm ?_
 unfold bA
 refine aS (k := 3) (e := 97) rfl rfl rfl U98 U3 rfl ?_
 simp only [List.nil_append, List.cons_append, Nat.zero_add, Nat.reduceAdd]
 go_wp2_with with_reducible refine sm ?_
 unfold bA
 refine aS (k := 3) (e := 97) rfl rfl rfl U98 U3 rfl ?_
 simp only [List.nil_append, List.cons_append, Nat.zero_add, Nat.reduceAdd]
 go_wp2_with with_reducible refine sm ?_
 unfold bA
 refine aS (k := 3) (e := 97) rfl rfl rfl U98 U3 rfl ?_
 simp only [List.nil_append, List.cons_append, Nat.zero_add, Nat.reduceAdd]
 go_wp2_with with_reducible refine sm ?_
 unfold bA
 refine aS (k := 3) (e := 97) rfl rfl rfl U98 U3 rfl ?_
 simp only [List.nil_append, List.cons_append, Nat.zero_add, Nat.reduceAdd]
 go_wp2_with with_reducible refine sm ?_
 unfold bA
 refine aS (k := 3) (e := 97) rfl rfl rfl U98 U3 rfl ?_
 simp only [List.nil_append, List.cons_append, Nat.zero_add, Nat.reduceAdd]
 go_wp2_with with_reducible refine sm ?_
 unfold bA
 refine aS (k := 3) (e := 97) rfl rfl rfl U98 U3 rfl ?_
 simp only [List.nil_append, List.cons_append, Nat.zero_add, Nat.reduceAdd]
 go_wp2_with with_reducible refine sm ?_
 unfold bA
 refine dY (k := 3) (e := 97) [{ key := .int .i64 0, val := .func (.func 47) #[.pointer (some ⟨gs, 0, none⟩)] #[], born := 0 }, { key := .int .i64 1, val := .func (.func 48) #[.pointer (some ⟨gs, 0, none⟩)] #[], born := 1 }, { key := .int .i64 2, val := .func (.func 49) #[.pointer (some ⟨gs, 0, none⟩)] #[], born := 2 }, { key := .int .i64 3, val := .func (.func 50) #[.pointer (some ⟨gs, 0, none⟩)] #[], born := 3 }, { key := .int .i64 4, val := .func (.func 51) #[.pointer (some ⟨gs, 0, none⟩)] #[], born := 4 }, { key := .int .i64 5, val := .func (.func 52) #[.pointer (some ⟨gs, 0, none⟩)] #[], born := 5 }, { key := .int .i64 6, val := .func (.func 53) #[.pointer (some ⟨gs, 0, none⟩)] #[], born := 6 }] 7 rfl rfl rfl U98 U3 rfl rfl rfl ?_
 intro b9 hbm hem
 replace HM := HM.to hbm; clear hbm
 generalize L.heap.size = mb at hem ⊢
 have HE := Lib.hid hem; clear hem
 have O := HM.b0.c 19 (.int .i64 S.p.phase)
 go_wp2_with with_reducible refine sm ?_
 unfold bA
 refine fZ (k := 3) (e := 97) (some (1, .func (.func 48) #[.pointer (some ⟨gs, 0, none⟩)] #[])) .nilFunc (.tuple #[.func (.func 48) #[.pointer (some ⟨gs, 0, none⟩)] #[], .bool true]) HE.out rfl rfl U98 U3 (by rw [kph1.out]; rfl) (by kernel_rfl) rfl ?_
 clear O
 go_wp2_with first | with_reducible refine sm ?_ | with_reducible refine ld 0 (aI d) HM.b2 U43 ?_
 refine bt HM.to (jM d _ HM.laid) ?_; clear HM; intro c0 HM
 by_cases D : (gD d : Int) = 0
 rotate_left
 ·
  obtain ⟨U, Z, q⟩ := fF D; clear D
  go_wp2_with with_reducible refine sm ?_
  refine bd HM (cI _ _ S 7 _ _ _ _ HM.here) ?_; clear HM; intro c4 c5 c6 HM
  go_wp2_with with_reducible refine sm ?_
  refine bt HM.trans (aR _ _ (S.fail 7) _ _ _ _ HM.here) ?_; clear HM; intro c7 HM
  go_wp2_with with_reducible refine sm ?_
  refine yv HM.b1 HM.s1 ?_; clear HM; intro c8 HM
  go_wp2_with with_reducible refine sm ?_
  refine rc3 HM.b1 U37 ?_
  have q0 := kph0.out
  have q1 := kph1.out
  have q2 := q.out
  exact eC hS (by unfold bE; exact es9) hbs HM
 obtain ⟨U, Z, q⟩ := fT D; clear D
 by_cases F : (d.kind : Int) = 5
 ·
  obtain ⟨a0, a1, z⟩ := fT F; clear F
  have a2 := HM.b2.c 0 (.int .i64 d.kind)
  have a3 := HM.b0.c 19 (.int .i64 S.p.phase)
  have a4 := HM.b2.c 12 (.int .i64 d.reason)
  go_wp2_with with_reducible refine sm ?_
  refine bd HM (nF _ _ S d.reason _ _ _ _ HM.here) ?_; clear HM; intro c9 d0 d1 HM; clear a2 a3 a4
  go_wp2_with with_reducible refine sm ?_
  refine bt HM.trans (aR _ _ (S.end_ d.reason) _ _ _ _ HM.here) ?_; clear HM; intro d2 HM
  go_wp2_with with_reducible refine sm ?_
  refine yv HM.b1 HM.s1 ?_; clear HM; intro d3 HM
  go_wp2_with with_reducible refine sm ?_
  refine rc3 HM.b1 U37 ?_
  have q0 := kph0.out
  have q1 := kph1.out
  have q2 := q.out
  have q3 := z.out
  exact eC hS (by unfold bE; exact es9) hbs HM
 obtain ⟨a0, a1, z⟩ := fF F; clear F
 by_cases I : (d.kind : Int) = 11
 rotate_left
 ·
  obtain ⟨a5, a6, C⟩ := fF I; clear I
  have a7 := HM.b2.c 0 (.int .i64 d.kind)
  go_wp2_with first | with_reducible refine sm ?_ | with_reducible refine ld 0 (aI d) HM.b2 U43 ?_
  refine bd HM (nK _ _ S d _ _ _ _ HM.here bV bV ) ?_; clear HM; intro d4 d5 d6 HM; clear a7
  rcases d7 : (S.features d).2 with _ | _
  ·
   go_wp2_with with_reducible refine sm ?_
   refine bd HM (cI _ _ ((S.features d).1) 7 _ _ _ _ HM.here) ?_; clear HM; intro d8 d9 e0 HM
   go_wp2_with with_reducible refine sm ?_
   refine bt HM.trans (aR _ _ (((S.features d).1).fail 7) _ _ _ _ HM.here) ?_; clear HM; intro e1 HM
   go_wp2_with with_reducible refine sm ?_
   refine yv HM.b1 HM.s1 ?_; clear HM; intro e2 HM
   go_wp2_with with_reducible refine sm ?_
   refine rc3 HM.b1 U37 ?_
   have q0 := kph0.out
   have q1 := kph1.out
   have q2 := q.out
   have q3 := z.out
   have q4 := C.out
   exact eC hS (by unfold bE; exact es9) hbs HM
  go_wp2_with with_reducible refine sm ?_
  refine bt HM.trans (aR _ _ ((S.features d).1) _ _ _ _ HM.here) ?_; clear HM; intro e3 HM
  go_wp2_with with_reducible refine sm ?_
  refine yv HM.b1 HM.s1 ?_; clear HM; intro e4 HM
  go_wp2_with with_reducible refine sm ?_
  refine rc3 HM.b1 U37 ?_
  have q0 := kph0.out
  have q1 := kph1.out
  have q2 := q.out
  have q3 := z.out
  have q4 := C.out
  exact eC hS (by unfold bE; exact es9) hbs HM
 obtain ⟨a5, a6, C⟩ := fT I; clear I
 have a8 := HM.b2.c 0 (.int .i64 d.kind)
 go_wp2_with with_reducible refine sm ?_
 refine bt HM.to (bQ _ _ _ _  _ HM.b0 S.first rfl) ?_; clear HM; intro e5 HM; clear a8
 rcases e6 : S.first with _ | _
 ·
  go_wp2_with first | with_reducible refine sm ?_ | with_reducible refine ld 0 (aI d) HM.b2 U43 ?_
  refine bd HM (nK _ _ S d _ _ _ _ HM.here bV bV ) ?_; clear HM; intro e7 e8 e9 HM
  rcases f0 : (S.features d).2 with _ | _
  ·
   go_wp2_with with_reducible refine sm ?_
   refine bd HM (cI _ _ ((S.features d).1) 7 _ _ _ _ HM.here) ?_; clear HM; intro f1 f2 f3 HM
   go_wp2_with with_reducible refine sm ?_
   refine bt HM.trans (aR _ _ (((S.features d).1).fail 7) _ _ _ _ HM.here) ?_; clear HM; intro f4 HM
   go_wp2_with with_reducible refine sm ?_
   refine yv HM.b1 HM.s1 ?_; clear HM; intro f5 HM
   go_wp2_with with_reducible refine sm ?_
   refine rc3 HM.b1 U37 ?_
   have q0 := kph0.out
   have q1 := kph1.out
   have q2 := q.out
   have q3 := z.out
   have q4 := C.out
   exact eC hS (by unfold bE; exact es9) hbs HM
  go_wp2_with with_reducible refine sm ?_
  refine bt HM.trans (aR _ _ ((S.features d).1) _ _ _ _ HM.here) ?_; clear HM; intro f6 HM
  go_wp2_with with_reducible refine sm ?_
  refine yv HM.b1 HM.s1 ?_; clear HM; intro f7 HM
  go_wp2_with with_reducible refine sm ?_
  refine rc3 HM.b1 U37 ?_
  have q0 := kph0.out
  have q1 := kph1.out
  have q2 := q.out
  have q3 := z.out
  have q4 := C.out
  exact eC hS (by unfold bE; exact es9) hbs HM
 have a9 := HM.b0.c 19 (.int .i64 S.p.phase)
 go_wp2_with first | with_reducible refine sm ?_ | with_reducible refine ld 0 (aI d) HM.b2 U43 ?_
 refine bd HM (nK _ _ S d _ _ _ _ HM.here bV bV ) ?_; clear HM; intro f8 f9 g0 HM; clear a9
 rcases g3 : (S.features d).2 with _ | _
 ·
  go_wp2_with with_reducible refine sm ?_
  refine bd HM (cI _ _ ((S.features d).1) 7 _ _ _ _ HM.here) ?_; clear HM; intro g4 g5 g6 HM
  go_wp2_with with_reducible refine sm ?_
  refine bt HM.trans (aR _ _ (((S.features d).1).fail 7) _ _ _ _ HM.here) ?_; clear HM; intro g7 HM
  go_wp2_with with_reducible refine sm ?_
  refine yv HM.b1 HM.s1 ?_; clear HM; intro g8 HM
  go_wp2_with with_reducible refine sm ?_
  refine rc3 HM.b1 U37 ?_
  have q0 := kph0.out
  have q1 := kph1.out
  have q2 := q.out
  have q3 := z.out
  have q4 := C.out
  exact eC hS (by unfold bE; exact es9) hbs HM
 go_wp2_with with_reducible refine sm ?_
 refine bt HM.trans (aR _ _ ((S.features d).1) _ _ _ _ HM.here) ?_; clear HM; intro g9 HM
 go_wp2_with with_reducible refine sm ?_
 refine yv HM.b1 HM.s1 ?_; clear HM; intro h6 HM
 go_wp2_with with_reducible refine sm ?_
 refine rc3 HM.b1 U37 ?_
 have q0 := kph0.out
 have q1 := kph1.out
 have q2 := q.out
 have q3 := z.out
 have q4 := C.out
 exact eC hS (by unfold bE; exact es9) hbs HM
set_option maxHeartbeats 4000000 in
theorem BJ (p : Pr) (d : Sec) (now : Int) (w : World) (HL : bW w) (r0 : 0 ≤ p.round) (r1 : p.round ≤ 60) (hp0 : ¬ p.phase = 0) (hp1 : ¬ p.phase = 1) (hp2 : p.phase = 2) :
  Calls Tryz.prog 26 #[.agg (prL p).toArray, .agg (aI d).toArray, .int .i64 now] w (fun e w' => jF w w' (bU p d now).1 (bU p d now).2.1 (bU p d now).2.2 e) := by
 obtain ⟨base, hbs⟩ : ∃ b, w.heap.size = b := ⟨_, rfl⟩
 have HM := Mem.start HL
 rw [hbs] at HM
 obtain ⟨S, hS⟩ : ∃ S, aH p now = S := ⟨_, rfl⟩
 have hs0 : S.sent = [] := by rw [← hS]; rfl
 have ht0 : S.told = [] := by rw [← hS]; rfl
 have hw0 : S.was = S.p := by rw [← hS]; rfl
 have ls : S.sent.length ≤ 900 := by rw [hs0]; decide
 have lt : S.told.length ≤ 900 := by rw [ht0]; decide
 have h0 : 0 ≤ S.p.round := by rw [← hS]; exact r0
 have h1 : S.p.round ≤ 64 := by rw [← hS]; show p.round ≤ 64; omega
 have h2 : S.p.round ≤ 60 := by rw [← hS]; exact r1
 have kph0 := Lib.hid (show ¬ S.p.phase = 0 by rw [← hS]; exact hp0)
 have eph0 : ((S.p.phase : Int) == 0) = false := by simpa using kph0.out
 have eph0n : ((S.p.phase : Int) != 0) = true := by simpa using kph0.out
 have kph1 := Lib.hid (show ¬ S.p.phase = 1 by rw [← hS]; exact hp1)
 have kph2 := Lib.hid (show S.p.phase = 2 by rw [← hS]; exact hp2)
 have eph2 : ((S.p.phase : Int) == 2) = true := by simpa using kph2.out
 have eph2n : ((S.p.phase : Int) != 2) = false := by simpa using kph2.out
 go_enter Tryz.func26, Tryz.ntmps26
 go_wp2_with with_reducible refine sm ?_
 refine HM.nw (ty := 37) (cs := (prL p).toArray) ?_; clear HM; intro b3 b4 HM
 go_wp2_with with_reducible refine sm ?_
 refine HM.nw (ty := 43) (cs := (aI d).toArray) ?_; clear HM; intro b5 b6 HM
 go_wp2_with with_reducible refine sm ?_
 refine HM.nw (ty := 37) (cs := (prL pr0).toArray) ?_; clear HM; intro b7 b8 HM
 go_wp2_with first | with_reducible refine sm ?_ | with_reducible refine lw HM.b2 U37 ?_
 refine (fD _ p now _ _ HM.here).mono ?_; rintro e L ⟨gs, rfl, J⟩
 replace HM := HM.trans J; clear J
 rw [hS] at HM
 rw [← hs0, ← ht0] at HM
 go_wp2_with with_reducible refine sm ?_
 unfold bA
 refine fM ?_
 go_wp2_with with_reducible refine sm ?_
 unfold bA
 refine aS (k := 3) (e := 97) rfl rfl rfl U98 U3 rfl ?_
 simp only [List.nil_append, List.cons_append, Nat.zero_add, Nat.reduceAdd]
 go_wp2_with with_reducible refine sm ?_
 unfold bA
 refine aS (k := 3) (e := 97) rfl rfl rfl U98 U3 rfl ?_
 simp only [List.nil_append, List.cons_append, Nat.zero_add, Nat.reduceAdd]
 go_wp2_with with_reducible refine sm ?_
 unfold bA
 refine aS (k := 3) (e := 97) rfl rfl rfl U98 U3 rfl ?_
 simp only [List.nil_append, List.cons_append, Nat.zero_add, Nat.reduceAdd]
 go_wp2_with with_reducible refine sm ?_
 unfold bA
 refine aS (k := 3) (e := 97) rfl rfl rfl U98 U3 rfl ?_
 simp only [List.nil_append, List.cons_append, Nat.zero_add, Nat.reduceAdd]
 go_wp2_with with_reducible refine sm ?_
 unfold bA
 refine aS (k := 3) (e := 97) rfl rfl rfl U98 U3 rfl ?_
 simp only [List.nil_append, List.cons_append, Nat.zero_add, Nat.reduceAdd]
 go_wp2_with with_reducible refine sm ?_
 unfold bA
 refine aS (k := 3) (e := 97) rfl rfl rfl U98 U3 rfl ?_
 simp only [List.nil_append, List.cons_append, Nat.zero_add, Nat.reduceAdd]
 go_wp2_with with_reducible refine sm ?_
 unfold bA
 refine dY (k := 3) (e := 97) [{ key := .int .i64 0, val := .func (.func 47) #[.pointer (some ⟨gs, 0, none⟩)] #[], born := 0 }, { key := .int .i64 1, val := .func (.func 48) #[.pointer (some ⟨gs, 0, none⟩)] #[], born := 1 }, { key := .int .i64 2, val := .func (.func 49) #[.pointer (some ⟨gs, 0, none⟩)] #[], born := 2 }, { key := .int .i64 3, val := .func (.func 50) #[.pointer (some ⟨gs, 0, none⟩)] #[], born := 3 }, { key := .int .i64 4, val := .func (.func 51) #[.pointer (some ⟨gs, 0, none⟩)] #[], born := 4 }, { key := .int .i64 5, val := .func (.func 52) #[.pointer (some ⟨gs, 0, none⟩)] #[], born := 5 }, { key := .int .i64 6, val := .func (.func 53) #[.pointer (some ⟨gs, 0, none⟩)] #[], born := 6 }] 7 rfl rfl rfl U98 U3 rfl rfl rfl ?_
 intro b9 hbm hem
 replace HM := HM.to hbm; clear hbm
 generalize L.heap.size = mb at hem ⊢
 have HE := Lib.hid hem; clear hem
 have O := HM.b0.c 19 (.int .i64 S.p.phase)
 go_wp2_with with_reducible refine sm ?_
 unfold bA
 refine fZ (k := 3) (e := 97) (some (2, .func (.func 49) #[.pointer (some ⟨gs, 0, none⟩)] #[])) .nilFunc (.tuple #[.func (.func 49) #[.pointer (some ⟨gs, 0, none⟩)] #[], .bool true]) HE.out rfl rfl U98 U3 (by rw [kph2.out]; rfl) (by kernel_rfl) rfl ?_
 clear O
 go_wp2_with first | with_reducible refine sm ?_ | with_reducible refine ld 0 (aI d) HM.b2 U43 ?_
 refine bt HM.to (jM d _ HM.laid) ?_; clear HM; intro c0 HM
 by_cases D : (gD d : Int) = 0
 rotate_left
 ·
  obtain ⟨U, Z, q⟩ := fF D; clear D
  go_wp2_with with_reducible refine sm ?_
  refine bd HM (cI _ _ S 7 _ _ _ _ HM.here) ?_; clear HM; intro c4 c5 c6 HM
  go_wp2_with with_reducible refine sm ?_
  refine bt HM.trans (aR _ _ (S.fail 7) _ _ _ _ HM.here) ?_; clear HM; intro c7 HM
  go_wp2_with with_reducible refine sm ?_
  refine yv HM.b1 HM.s1 ?_; clear HM; intro c8 HM
  go_wp2_with with_reducible refine sm ?_
  refine rc3 HM.b1 U37 ?_
  have q0 := kph0.out
  have q1 := kph1.out
  have q2 := kph2.out
  have q3 := q.out
  exact eC hS (by unfold bE; exact es9) hbs HM
 obtain ⟨U, Z, q⟩ := fT D; clear D
 by_cases F : (d.kind : Int) = 5
 ·
  obtain ⟨a0, a1, z⟩ := fT F; clear F
  have a2 := HM.b2.c 0 (.int .i64 d.kind)
  have a3 := HM.b0.c 19 (.int .i64 S.p.phase)
  have a4 := HM.b2.c 12 (.int .i64 d.reason)
  go_wp2_with with_reducible refine sm ?_
  refine bd HM (nF _ _ S d.reason _ _ _ _ HM.here) ?_; clear HM; intro c9 d0 d1 HM; clear a2 a3 a4
  go_wp2_with with_reducible refine sm ?_
  refine bt HM.trans (aR _ _ (S.end_ d.reason) _ _ _ _ HM.here) ?_; clear HM; intro d2 HM
  go_wp2_with with_reducible refine sm ?_
  refine yv HM.b1 HM.s1 ?_; clear HM; intro d3 HM
  go_wp2_with with_reducible refine sm ?_
  refine rc3 HM.b1 U37 ?_
  have q0 := kph0.out
  have q1 := kph1.out
  have q2 := kph2.out
  have q3 := q.out
  have q4 := z.out
  exact eC hS (by unfold bE; exact es9) hbs HM
 obtain ⟨a0, a1, z⟩ := fF F; clear F
 by_cases I : (d.kind : Int) = 11
 rotate_left
 ·
  obtain ⟨a5, a6, C⟩ := fF I; clear I
  have a7 := HM.b2.c 0 (.int .i64 d.kind)
  go_wp2_with first | with_reducible refine sm ?_ | with_reducible refine ld 0 (aI d) HM.b2 U43 ?_
  refine bd HM (qO _ _ S d _ _ _ _ HM.here bV bV (by first | exact h0 | exact h0p) (by first | exact h1 | exact h1p)) ?_; clear HM; intro d4 d5 d6 HM; clear a7
  rcases d7 : (S.public_ d).2 with _ | _
  ·
   go_wp2_with with_reducible refine sm ?_
   refine bd HM (cI _ _ ((S.public_ d).1) 7 _ _ _ _ HM.here) ?_; clear HM; intro d8 d9 e0 HM
   go_wp2_with with_reducible refine sm ?_
   refine bt HM.trans (aR _ _ (((S.public_ d).1).fail 7) _ _ _ _ HM.here) ?_; clear HM; intro e1 HM
   go_wp2_with with_reducible refine sm ?_
   refine yv HM.b1 HM.s1 ?_; clear HM; intro e2 HM
   go_wp2_with with_reducible refine sm ?_
   refine rc3 HM.b1 U37 ?_
   have q0 := kph0.out
   have q1 := kph1.out
   have q2 := kph2.out
   have q3 := q.out
   have q4 := z.out
   have q5 := C.out
   exact eC hS (by unfold bE; exact es9) hbs HM
  go_wp2_with with_reducible refine sm ?_
  refine bt HM.trans (aR _ _ ((S.public_ d).1) _ _ _ _ HM.here) ?_; clear HM; intro e3 HM
  go_wp2_with with_reducible refine sm ?_
  refine yv HM.b1 HM.s1 ?_; clear HM; intro e4 HM
  go_wp2_with with_reducible refine sm ?_
  refine rc3 HM.b1 U37 ?_
  have q0 := kph0.out
  have q1 := kph1.out
  have q2 := kph2.out
  have q3 := q.out
  have q4 := z.out
  have q5 := C.out
  exact eC hS (by unfold bE; exact es9) hbs HM
 obtain ⟨a5, a6, C⟩ := fT I; clear I
 have a8 := HM.b2.c 0 (.int .i64 d.kind)
 go_wp2_with with_reducible refine sm ?_
 refine bt HM.to (bQ _ _ _ _  _ HM.b0 S.first rfl) ?_; clear HM; intro e5 HM; clear a8
 rcases e6 : S.first with _ | _
 ·
  go_wp2_with first | with_reducible refine sm ?_ | with_reducible refine ld 0 (aI d) HM.b2 U43 ?_
  refine bd HM (qO _ _ S d _ _ _ _ HM.here bV bV (by first | exact h0 | exact h0p) (by first | exact h1 | exact h1p)) ?_; clear HM; intro e7 e8 e9 HM
  rcases f0 : (S.public_ d).2 with _ | _
  ·
   go_wp2_with with_reducible refine sm ?_
   refine bd HM (cI _ _ ((S.public_ d).1) 7 _ _ _ _ HM.here) ?_; clear HM; intro f1 f2 f3 HM
   go_wp2_with with_reducible refine sm ?_
   refine bt HM.trans (aR _ _ (((S.public_ d).1).fail 7) _ _ _ _ HM.here) ?_; clear HM; intro f4 HM
   go_wp2_with with_reducible refine sm ?_
   refine yv HM.b1 HM.s1 ?_; clear HM; intro f5 HM
   go_wp2_with with_reducible refine sm ?_
   refine rc3 HM.b1 U37 ?_
   have q0 := kph0.out
   have q1 := kph1.out
   have q2 := kph2.out
   have q3 := q.out
   have q4 := z.out
   have q5 := C.out
   exact eC hS (by unfold bE; exact es9) hbs HM
  go_wp2_with with_reducible refine sm ?_
  refine bt HM.trans (aR _ _ ((S.public_ d).1) _ _ _ _ HM.here) ?_; clear HM; intro f6 HM
  go_wp2_with with_reducible refine sm ?_
  refine yv HM.b1 HM.s1 ?_; clear HM; intro f7 HM
  go_wp2_with with_reducible refine sm ?_
  refine rc3 HM.b1 U37 ?_
  have q0 := kph0.out
  have q1 := kph1.out
  have q2 := kph2.out
  have q3 := q.out
  have q4 := z.out
  have q5 := C.out
  exact eC hS (by unfold bE; exact es9) hbs HM
 have a9 := HM.b0.c 19 (.int .i64 S.p.phase)
 go_wp2_with first | with_reducible refine sm ?_ | with_reducible refine ld 0 (aI d) HM.b2 U43 ?_
 refine bd HM (qO _ _ S d _ _ _ _ HM.here bV bV (by first | exact h0 | exact h0p) (by first | exact h1 | exact h1p)) ?_; clear HM; intro f8 f9 g0 HM; clear a9
 rcases g3 : (S.public_ d).2 with _ | _
 ·
  go_wp2_with with_reducible refine sm ?_
  refine bd HM (cI _ _ ((S.public_ d).1) 7 _ _ _ _ HM.here) ?_; clear HM; intro g4 g5 g6 HM
  go_wp2_with with_reducible refine sm ?_
  refine bt HM.trans (aR _ _ (((S.public_ d).1).fail 7) _ _ _ _ HM.here) ?_; clear HM; intro g7 HM
  go_wp2_with with_reducible refine sm ?_
  refine yv HM.b1 HM.s1 ?_; clear HM; intro g8 HM
  go_wp2_with with_reducible refine sm ?_
  refine rc3 HM.b1 U37 ?_
  have q0 := kph0.out
  have q1 := kph1.out
  have q2 := kph2.out
  have q3 := q.out
  have q4 := z.out
  have q5 := C.out
  exact eC hS (by unfold bE; exact es9) hbs HM
 go_wp2_with with_reducible refine sm ?_
 refine bt HM.trans (aR _ _ ((S.public_ d).1) _ _ _ _ HM.here) ?_; clear HM; intro g9 HM
 go_wp2_with with_reducible refine sm ?_
 refine yv HM.b1 HM.s1 ?_; clear HM; intro h6 HM
 go_wp2_with with_reducible refine sm ?_
 refine rc3 HM.b1 U37 ?_
 have q0 := kph0.out
 have q1 := kph1.out
 have q2 := kph2.out
 have q3 := q.out
 have q4 := z.out
 have q5 := C.out
 exact eC hS (by unfold bE; exact es9) hbs HM
end Go.Proofs.YtihmbcnccdiecaaGreatDoor
