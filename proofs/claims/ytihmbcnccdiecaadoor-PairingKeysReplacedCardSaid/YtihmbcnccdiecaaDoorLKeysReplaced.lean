/- Part of the proofs of the laws of pairing. -/
import Derived.Below
import Derived.Carry
import Derived.ChangeMaps5
import Derived.ChangeOld
import Derived.ChangeSame
import Derived.Deep.Slices
import Derived.OpenShut
import Derived.ProofKit
import Derived.SevenTiedAt
import Derived.ShutString
import Derived.Test.YtihmbcnccdiecaaDoorRows
import Derived.WalkKit
import Derived.Test.YtihmbcnccdiecaaDoorA2
import Derived.Test.YtihmbcnccdiecaaDoorBFit
import Derived.Test.YtihmbcnccdiecaaDoorBLive
import Derived.Test.YtihmbcnccdiecaaDoorBLowB
import Derived.Test.YtihmbcnccdiecaaDoorBLowC
import Derived.Test.YtihmbcnccdiecaaDoorBSdA
import Derived.Test.YtihmbcnccdiecaaDoorBSdB
import Derived.Test.YtihmbcnccdiecaaDoorBSdC
import Derived.Test.YtihmbcnccdiecaaDoorBSdD
import Derived.Test.YtihmbcnccdiecaaDoorBSdE
import Derived.Test.YtihmbcnccdiecaaDoorBSdF
import Derived.Test.YtihmbcnccdiecaaDoorBSdG
import Derived.Test.YtihmbcnccdiecaaDoorBSdH
import Derived.Test.YtihmbcnccdiecaaDoorBSdIe
import Derived.Test.YtihmbcnccdiecaaDoorBSdIs
import Derived.Test.YtihmbcnccdiecaaDoorBSdIu
import Derived.Test.YtihmbcnccdiecaaDoorBSdJ
import Derived.Test.YtihmbcnccdiecaaDoorBSdK
import Derived.Test.YtihmbcnccdiecaaDoorBSdL
import Derived.Test.YtihmbcnccdiecaaDoorBSdM
import Derived.Test.YtihmbcnccdiecaaDoorBSdN
import Derived.Test.YtihmbcnccdiecaaDoorBTkP
import Derived.Test.YtihmbcnccdiecaaDoorBTkU
import Derived.Test.YtihmbcnccdiecaaDoorBTkV
import Derived.Test.YtihmbcnccdiecaaDoorBTkW
import Derived.Test.YtihmbcnccdiecaaDoorBTkY
import Derived.Test.YtihmbcnccdiecaaDoorBTkZ
import Derived.Test.YtihmbcnccdiecaaDoorCACKS
import Derived.Test.YtihmbcnccdiecaaDoorCACK
import Derived.Test.YtihmbcnccdiecaaDoorCAKS
import Derived.Test.YtihmbcnccdiecaaDoorCCKS
import Derived.Test.YtihmbcnccdiecaaDoorCAK
import Derived.Test.YtihmbcnccdiecaaDoorCKS
namespace Go.Proofs.YtihmbcnccdiecaaDoor
set_option maxRecDepth 100000
open Go.ChangeShapes Go.WideShapes Go.ChangeAt Go.RowKit
set_option linter.unusedVariables false
theorem rd_blk {w : World} {g : Nat} {t : TypeId} {cs : Array Value} (hG : Blk w g t cs) : Rd w (some ⟨g, 0, none⟩) cs.toList := fun j u hu =>
  ⟨_, rfl, hG.lt, by rw [add_zero_, hG.cell]; simpa using hu⟩
end Go.Proofs.YtihmbcnccdiecaaDoor
namespace Go.Proofs.YtihmbcnccdiecaaDoor
set_option maxRecDepth 100000
open Go.ChangeShapes Go.WideShapes Go.ChangeAt Go.RowKit
set_option linter.unusedVariables false
theorem leaf_array {P : Program} {t e : TypeId} {n : Nat} (ls : List TypeId) (ht : P.underlying t = some (.array n e)) (he : LeafOf P e ls) (hc : P.cellsOf t = n * ls.length) : LeafOf P t (List.replicate n ls).flatten := by
  obtain ⟨hce, hl⟩ := he
  have hfl : (List.replicate n ls).flatten.length = n * ls.length := by simp
  refine ⟨by rw [hc, hfl], fun enc w base sp held fuel cs x h hlen j l c h1 h2 => ?_⟩
  obtain ⟨xs, m, _, _, _, hxl, hg⟩ := DataW.trod_array ht h
  have hj : j < n * ls.length := by
    rcases Nat.lt_or_ge j (n * ls.length) with h | h
    · exact h
    · rw [List.getElem?_eq_none (by omega)] at h1; cases h1
  have hpos : 0 < ls.length := by
    rcases Nat.eq_zero_or_pos ls.length with h | h
    · rw [h] at hj; omega
    · exact h
  have hi : j / ls.length < n := Nat.div_lt_of_lt_mul (by rw [Nat.mul_comm]; exact hj)
  have hmod := Nat.mod_lt j hpos
  have hdm := Nat.div_add_mod j ls.length
  have hmul : (j / ls.length + 1) * ls.length ≤ n * ls.length := Nat.mul_le_mul_right _ hi
  rw [Nat.add_mul, Nat.one_mul] at hmul
  have hcm : ls.length * (j / ls.length) = j / ls.length * ls.length := Nat.mul_comm _ _
  have ht' := (hg _ hi).trans (List.getElem?_eq_getElem (by omega))
  rw [hce] at ht'
  have hl1 : ls[j % ls.length]? = some l := by
    have key : ∀ (n j : Nat), j < n * ls.length → (List.replicate n ls).flatten[j]? = ls[j % ls.length]? := by
      intro n
      induction n with
      | zero => intro j h; omega
      | succ n ih =>
        intro j h
        rw [List.replicate_succ, List.flatten_cons]
        by_cases hj : j < ls.length
        · rw [List.getElem?_append_left hj, Nat.mod_eq_of_lt hj]
        · rw [List.getElem?_append_right (by omega), ih (j - ls.length) (by rw [Nat.add_mul] at h; omega)]
          congr 1
          rw [← Nat.mod_eq_sub_mod (by omega)]
    rw [← key n j hj]
    exact h1
  refine hl enc w base sp held m _ _ ht' (by rw [List.length_take, List.length_drop]; omega) _ l c hl1 ?_
  rw [List.getElem?_take, if_pos hmod, List.getElem?_drop, show j / ls.length * ls.length + j % ls.length = j by omega]
  exact h2
theorem okWide_array {P : Program} {w : World} {r : Reach} {base : Nat} {t e : TypeId} {n : Nat} {v : Value} (ht : P.underlying t = some (.array n e)) (h : Value.okWide P w r base t v) : ∃ cs, v = .agg cs ∧ cs.size = P.cellsOf t := by
  simp only [Value.okWide, ht] at h
  obtain ⟨cs, h1, h2, _⟩ := h
  exact ⟨cs, h1, h2⟩
end Go.Proofs.YtihmbcnccdiecaaDoor
namespace Go.Proofs.YtihmbcnccdiecaaDoor
set_option maxRecDepth 100000
open Go.ChangeShapes Go.WideShapes Go.ChangeAt Go.RowKit
set_option linter.unusedVariables false
def ls_h32 : List TypeId := [30, 30]
theorem leaf_h32 : LeafOf Tryd.prog 68 ls_h32 := leaf_array (P := Tryd.prog) [30] Tryd.underlying68 (leaf_one (by kernel_rfl)) (by kernel_rfl)
theorem h32_in {H : Type} {enc : TypeId × Value → H} {W w : World} {r : Reach} {b0 base : Nat} {sp : Nat → Bool} {held : Bool} {v : Value} {d : DataW H} {p : List MemPlace} (hv : Value.okWide Tryd.prog W r b0 68 v) (h : DataW.Trod enc Tryd.prog w base sp held 68 v d p) :
    ∃ (x0 : BitVec 32) (x1 : BitVec 32), v = .agg #[.int .u32 (W32 x0), .int .u32 (W32 x1)] := by
  obtain ⟨cs, rfl, hl, hg⟩ := agg_in (okWide_array Tryd.underlying68 hv) leaf_h32 h
  match cs, hl with
  | [c0, c1], _ =>
    obtain ⟨n0, y0, h0⟩ := hg 0 _ _ rfl rfl
    obtain ⟨x0, rfl⟩ := leaf_u32 Tryd.underlying30 h0
    obtain ⟨n1, y1, h1⟩ := hg 1 _ _ rfl rfl
    obtain ⟨x1, rfl⟩ := leaf_u32 Tryd.underlying30 h1
    exact ⟨x0, x1, rfl⟩
end Go.Proofs.YtihmbcnccdiecaaDoor
namespace Go.Proofs.YtihmbcnccdiecaaDoor
set_option maxRecDepth 100000
set_option linter.unusedVariables false
set_option linter.unusedSimpArgs false
section
variable {l : List Chg} {common : Int} {a b : Cfg} {K0 K1 : BitVec 32} {bad : Prop} {x : Tk} {p0 p1 : Pr}
def twoC (k0 k1 : BitVec 32) : List Chg := [⟨2, k0, 0#64⟩, ⟨3, k1, 0#64⟩]
theorem chg1_no (n : Int) (d : Sec) (c : Chg) (h : c.at_ ≠ n) : chg1 n d c = d := by
  unfold chg1
  rw [if_neg (fun e => h e.1)]
  exact if_neg (fun e => h e.1)
theorem chg1_pub (n : Int) (k : BitVec 32) (c : Chg) (h : c.at_ = n) : chg1 n (pubS k) c = pubS c.pub := by
  unfold chg1
  have e : (if c.at_ = n ∧ (pubS k).kind = 12 then { pubS k with pub := c.pub } else pubS k) = pubS c.pub := by rw [if_pos ⟨h, rfl⟩]; rfl
  simp only [e]
  exact if_neg (fun e => absurd e.2 (by show ¬ ((12 : Int) = 3 ∨ (12 : Int) = 4); decide))
theorem two_lq (a b : Cfg) (k0 k1 : BitVec 32) : Lq (twoC k0 k1) a b k1 k0 := by
  have h : ∀ n d, chg (twoC k0 k1) n d = chg1 n (chg1 n d ⟨2, k0, 0#64⟩) ⟨3, k1, 0#64⟩ := fun _ _ => rfl
  have n2 : ∀ n, n ≠ 2 → (⟨2, k0, 0#64⟩ : Chg).at_ ≠ n := fun n e h => e h.symm
  have n3 : ∀ n, n ≠ 3 → (⟨3, k1, 0#64⟩ : Chg).at_ ≠ n := fun n e h => e h.symm
  refine ⟨fun d => ?_, fun d => ?_, ?_, ?_, fun m d hm => ?_⟩
  · rw [h, chg1_no 0 d _ (n2 0 (by decide)), chg1_no 0 d _ (n3 0 (by decide))]
  · rw [h, chg1_no 1 d _ (n2 1 (by decide)), chg1_no 1 d _ (n3 1 (by decide))]
  · rw [h, chg1_pub 2 _ _ rfl, chg1_no 2 _ _ (n3 2 (by decide))]
  · rw [h, chg1_no 3 _ _ (n2 3 (by decide)), chg1_pub 3 _ _ rfl]
  · rw [h, chg1_no m d _ (n2 m (by omega)), chg1_no m d _ (n3 m (by omega))]
theorem repl_plain (k0 k1 : BitVec 32) (hf : fitsK a b common = true) (hk0 : (playT a b (twoC k0 k1) common).keyed false = true) (hk1 : (playT a b (twoC k0 k1) common).keyed true = true) :
    (playT a b (twoC k0 k1) common).s0.ltk = (playT a b (twoC k0 k1) common).s1.ltk ∧ (playT a b (twoC k0 k1) common).s0.shared = (playT a b (twoC k0 k1) common).s1.shared := by
  have p0 : (playT a b (twoC k0 k1) common).s0.phase ≠ 8 := by
    intro h8
    unfold Tk.keyed at hk0
    rw [show ((playT a b (twoC k0 k1) common).side false).phase = 8 from h8] at hk0
    simp at hk0
  have p1 : (playT a b (twoC k0 k1) common).s1.phase ≠ 8 := by
    intro h8
    unfold Tk.keyed at hk1
    rw [show ((playT a b (twoC k0 k1) common).side true).phase = 8 from h8] at hk1
    simp at hk1
  have hok : (playT a b (twoC k0 k1) common).ok = true := by
    unfold Tk.keyed at hk0
    simp only [Bool.and_eq_true] at hk0
    exact hk0.1.1
  obtain ⟨h1, h2, h3, h4⟩ := ok_cases hok
  have Q := two_lq a b k0 k1
  rcases hen : enoughK a.feat b.feat with _ | _
  · rcases play_w h1 h2 h3 h4 (w_poor (common := common) Q.q0 Q.q1 h4 hen (newP_facts h1).1) (by decide) with ⟨hb, _⟩ | h
    · exact hb.elim
    · exact absurd h.1 p0
  · obtain ⟨T, c0, c1⟩ := fitsK_two (K0 := k1) (K1 := k0) (bad := True) hf h1 h2 h3 h4 (fun h => absurd trivial h)
    rcases play_w h1 h2 h3 h4 (w_start T Q hen (newP_facts h1).1 (newP_facts h2).1 c0 c1) (by decide) with ⟨_, h | h⟩ | h
    · exact absurd h p0
    · exact absurd h p1
    · exact ⟨h.ltk, h.sh⟩
end
end Go.Proofs.YtihmbcnccdiecaaDoor
namespace Go.Proofs.YtihmbcnccdiecaaDoor
set_option maxRecDepth 100000
open Go.ChangeShapes Go.WideShapes Go.ChangeAt Go.RowKit
set_option linter.unusedVariables false
set_option linter.unusedSimpArgs false
set_option maxHeartbeats 4000000 in
theorem law_PairingKeysReplaced (a b : Cfg) (k0 k1 : BitVec 32) (common : Int) (w : World) (HL : Laid w) :
  Calls Tryd.prog 5 #[.agg (cfgL a).toArray, .agg (cfgL b).toArray, .agg #[.int .u32 (W32 k0), .int .u32 (W32 k1)], .int .i64 common] w (fun e w' => e = .returned (.bool true) ∧ Below w.heap.size w w') := by
 have HM := MR.start HL
 obtain ⟨base, hbs⟩ : ∃ b, w.heap.size = b := ⟨_, rfl⟩
 rw [hbs] at HM
 have hbs1 := Lib.hid hbs
 clear hbs
 go_enter Tryd.func5, Tryd.ntmps5
 go_wp2_with (with_reducible refine so ?_)
 refine HM.nw (ty := 34) (cs := (cfgL a).toArray) ?_; clear HM; intro g_1 w_2 HM
 go_wp2_with (with_reducible refine so ?_)
 refine HM.nw (ty := 34) (cs := (cfgL b).toArray) ?_; clear HM; intro g_7 w_8 HM
 go_wp2_with (with_reducible refine so ?_)
 refine HM.nw (ty := 68) (cs := #[.int .u32 (W32 k0), .int .u32 (W32 k1)]) ?_; clear HM; intro g_13 w_14 HM
 go_wp2_with (first | (with_reducible refine so ?_) | (with_reducible refine ld 0 (cfgL a) HM.b2 Tryd.underlying34 ?_) | (with_reducible refine ld 0 (cfgL b) HM.b1 Tryd.underlying34 ?_))
 refine (fits_all a b common _ HM.laid).mono ?_; rintro e w_21 ⟨rfl, hb_22⟩
 replace HM := HM.to hb_22
 clear hb_22
 rcases hc_23 : (fitsK a b common) with _ | _
 ·
  skip
  go_wp2_with (with_reducible refine so ?_)
  refine (lives38 _ HM.laid).mono ?_; rintro e w_24 ⟨rfl, hb_25⟩
  replace HM := HM.to hb_25
  clear hb_25
  go_wp2_with (with_reducible refine so ?_)
  go_returns
  exact ⟨rfl, by first | exact HM.below | (rw [hbs1.out]; exact HM.below)⟩
 skip
 have ld_28 := HM.b0.c 0 (.int .u32 (W32 k0))
 have ld_29 := HM.b0.c 1 (.int .u32 (W32 k1))
 go_wp2_with (first | (with_reducible refine so ?_) | (with_reducible refine ld 0 (cfgL a) HM.b2 Tryd.underlying34 ?_) | (with_reducible refine ld 0 (cfgL b) HM.b1 Tryd.underlying34 ?_))
 refine go_mem (ty := 70) (cs := #[.int .i64 2, .int .u32 (W32 k0), .int .u64 0, .int .i64 3, .int .u32 (W32 k1), .int .u64 0]) (fun g => .slice (some ⟨g, 0, none⟩) 2 2) rfl (by kernel_rfl) ?_
 intro g_30 w_31 z_35 l_34 hb_32 G_33
 clear ld_28 ld_29
 replace HM := HM.alloc l_34 hb_32 G_33
 clear hb_32 l_34 z_35 G_33
 go_wp2_with (with_reducible refine so ?_)
 refine (tk_play a b (twoC k0 k1) _ 2 common _ HM.laid (by have h := rd_blk HM.b0; exact h) (by show (2 : Nat) ≤ 1000; decide)).mono ?_; rintro e w_36 ⟨P0, d0, P1, d1, va, vl, rfl, ho1, ho2, hb_37⟩
 replace HM := HM.joinM hb_37; clear hb_37
 dsimp only [List.nil_append] at HM
 replace HM := HM.rdrop.rdrop
 generalize hX : playT a b (twoC k0 k1) common = XL at HM ⊢
 have HX := Lib.hid hX; clear hX
 have O1 := Lib.hid ho1; have O2 := Lib.hid ho2; clear ho1 ho2
 go_wp2_with (with_reducible refine so ?_)
 refine HM.nw (ty := 58) (cs := (tkL tk0 (.slice none 0 0) (.slice none 0 0) (.slice none 0 0) (.slice none 0 0)).toArray) ?_; clear HM; intro g_38 w_39 HM
 go_wp2_with (with_reducible refine so ?_)
 unfold Kept
 refine wpList_st 0 (tkL XL (.slice P0 XL.g0.length d0) (.slice P1 XL.g1.length d1) va vl).toArray (tkL XL (.slice P0 XL.g0.length d0) (.slice P1 XL.g1.length d1) va vl).toArray HM.b0 rfl rfl (by kernel_rfl) (tkL_one XL rfl rfl O1.out O2.out) (of_decide_eq_true rfl) (by kernel_rfl) ?_
 intro w_44 G_46 hU_45
 replace HM := HM.s0 hU_45 G_46
 clear hU_45 G_46
 go_wp2_with (first | (with_reducible refine so ?_) | (with_reducible refine ld 0 (tkL XL (.slice P0 XL.g0.length d0) (.slice P1 XL.g1.length d1) va vl) HM.b0 Tryd.underlying58 ?_) | ((with_reducible refine wpList_ldg 0 (tkL XL (.slice P0 XL.g0.length d0) (.slice P1 XL.g1.length d1) va vl) HM.b0 ?_ ?_ Tryd.underlying58 ?_ ?_ ?_ ?_); rfl; rfl; rfl; kernel_rfl; rfl))
 refine (tk_keyed_f XL _ _ _ _ _ HM.laid).mono ?_; rintro e w_48 ⟨rfl, hb_49⟩
 replace HM := HM.to hb_49
 clear hb_49
 rcases hc_50 : (XL.keyed false) with _ | _
 ·
  skip
  go_wp2_with (with_reducible refine so ?_)
  refine (lives38 _ HM.laid).mono ?_; rintro e w_51 ⟨rfl, hb_52⟩
  replace HM := HM.to hb_52
  clear hb_52
  go_wp2_with (with_reducible refine so ?_)
  go_returns
  exact ⟨rfl, by first | exact HM.below | (rw [hbs1.out]; exact HM.below)⟩
 skip
 go_wp2_with (first | (with_reducible refine so ?_) | (with_reducible refine ld 0 (tkL XL (.slice P0 XL.g0.length d0) (.slice P1 XL.g1.length d1) va vl) HM.b0 Tryd.underlying58 ?_) | ((with_reducible refine wpList_ldg 0 (tkL XL (.slice P0 XL.g0.length d0) (.slice P1 XL.g1.length d1) va vl) HM.b0 ?_ ?_ Tryd.underlying58 ?_ ?_ ?_ ?_); rfl; rfl; rfl; kernel_rfl; rfl))
 refine (tk_keyed_t XL _ _ _ _ _ HM.laid).mono ?_; rintro e w_54 ⟨rfl, hb_55⟩
 replace HM := HM.to hb_55
 clear hb_55
 rcases hc_56 : (XL.keyed true) with _ | _
 ·
  skip
  go_wp2_with (with_reducible refine so ?_)
  refine (lives38 _ HM.laid).mono ?_; rintro e w_57 ⟨rfl, hb_58⟩
  replace HM := HM.to hb_58
  clear hb_58
  go_wp2_with (with_reducible refine so ?_)
  go_returns
  exact ⟨rfl, by first | exact HM.below | (rw [hbs1.out]; exact HM.below)⟩
 skip
 have hp := repl_plain k0 k1 hc_23 (by rw [HX.out]; exact hc_50) (by rw [HX.out]; exact hc_56)
 rw [HX.out] at hp
 have y0 : (W64 XL.s0.ltk == W64 XL.s1.ltk) = true := by simp [hp.1]
 have y1 : (W32 XL.s0.shared == W32 XL.s1.shared) = true := by simp [hp.2]
 clear hp
 go_wp2_with (with_reducible refine so ?_)
 refine (lives38 _ HM.laid).mono ?_; rintro e w_59 ⟨rfl, hb_60⟩
 replace HM := HM.to hb_60
 clear hb_60
 have ld_61 := HM.b0.c 52 (.int .u64 (W64 XL.s0.ltk))
 have ld_62 := HM.b0.c 110 (.int .u64 (W64 XL.s1.ltk))
 have ld_63 := HM.b0.c 41 (.int .u32 (W32 XL.s0.shared))
 have ld_64 := HM.b0.c 99 (.int .u32 (W32 XL.s1.shared))
 go_wp2_with (with_reducible refine so ?_)
 go_returns
 exact ⟨rfl, by first | exact HM.below | (rw [hbs1.out]; exact HM.below)⟩
end Go.Proofs.YtihmbcnccdiecaaDoor
namespace Go.Proofs.YtihmbcnccdiecaaDoor
set_option maxRecDepth 100000
open Go.ChangeShapes Go.WideShapes Go.ChangeAt Go.RowKit
set_option linter.unusedVariables false
theorem law38_PairingKeysReplaced (rolea : Int) (wrolea : (Lit.int .i64 rolea).wf = true) (feat_ioa : Int) (wfeat_ioa : (Lit.int .i64 feat_ioa).wf = true) (feat_ooba : Bool) (feat_bonda : Bool) (feat_mitma : Bool) (feat_sida : Bool) (feat_tida : Bool) (own_kinda : Int) (wown_kinda : (Lit.int .i64 own_kinda).wf = true) (own_bitsa : BitVec 64) (peer_kinda : Int) (wpeer_kinda : (Lit.int .i64 peer_kinda).wf = true) (peer_bitsa : BitVec 64) (idn_adr_kinda : Int) (widn_adr_kinda : (Lit.int .i64 idn_adr_kinda).wf = true) (idn_adr_bitsa : BitVec 64) (idn_irka : BitVec 64) (secreta : BitVec 32) (seeda : BitVec 64) (minea : BitVec 64) (oob_valuea : BitVec 64) (oob_randoma : BitVec 64) (roleb : Int) (wroleb : (Lit.int .i64 roleb).wf = true) (feat_iob : Int) (wfeat_iob : (Lit.int .i64 feat_iob).wf = true) (feat_oobb : Bool) (feat_bondb : Bool) (feat_mitmb : Bool) (feat_sidb : Bool) (feat_tidb : Bool) (own_kindb : Int) (wown_kindb : (Lit.int .i64 own_kindb).wf = true) (own_bitsb : BitVec 64) (peer_kindb : Int) (wpeer_kindb : (Lit.int .i64 peer_kindb).wf = true) (peer_bitsb : BitVec 64) (idn_adr_kindb : Int) (widn_adr_kindb : (Lit.int .i64 idn_adr_kindb).wf = true) (idn_adr_bitsb : BitVec 64) (idn_irkb : BitVec 64) (secretb : BitVec 32) (seedb : BitVec 64) (mineb : BitVec 64) (oob_valueb : BitVec 64) (oob_randomb : BitVec 64) (x0k x1k : BitVec 32) (n : Int) (wn : (Lit.int .i64 n).wf = true) (w : World) (HL : Laid w)  :
    Calls Tryd.prog 5 #[.agg #[.int .i64 rolea, .int .i64 feat_ioa, .bool feat_ooba, .bool feat_bonda, .bool feat_mitma, .bool feat_sida, .bool feat_tida, .int .i64 own_kinda, .int .u64 (W64 own_bitsa), .int .i64 peer_kinda, .int .u64 (W64 peer_bitsa), .int .i64 idn_adr_kinda, .int .u64 (W64 idn_adr_bitsa), .int .u64 (W64 idn_irka), .int .u32 (W32 secreta), .int .u64 (W64 seeda), .int .u64 (W64 minea), .int .u64 (W64 oob_valuea), .int .u64 (W64 oob_randoma)], .agg #[.int .i64 roleb, .int .i64 feat_iob, .bool feat_oobb, .bool feat_bondb, .bool feat_mitmb, .bool feat_sidb, .bool feat_tidb, .int .i64 own_kindb, .int .u64 (W64 own_bitsb), .int .i64 peer_kindb, .int .u64 (W64 peer_bitsb), .int .i64 idn_adr_kindb, .int .u64 (W64 idn_adr_bitsb), .int .u64 (W64 idn_irkb), .int .u32 (W32 secretb), .int .u64 (W64 seedb), .int .u64 (W64 mineb), .int .u64 (W64 oob_valueb), .int .u64 (W64 oob_randomb)], .agg #[.int .u32 (W32 x0k), .int .u32 (W32 x1k)], .int .i64 n] w (fun e w' => e = .returned (.bool true) ∧ Below w.heap.size w w') := law_PairingKeysReplaced (⟨rolea, ⟨feat_ioa, feat_ooba, feat_bonda, feat_mitma, feat_sida, feat_tida⟩, ⟨own_kinda, own_bitsa⟩, ⟨peer_kinda, peer_bitsa⟩, ⟨⟨idn_adr_kinda, idn_adr_bitsa⟩, idn_irka⟩, secreta, seeda, minea, ⟨oob_valuea, oob_randoma⟩⟩ : Cfg) (⟨roleb, ⟨feat_iob, feat_oobb, feat_bondb, feat_mitmb, feat_sidb, feat_tidb⟩, ⟨own_kindb, own_bitsb⟩, ⟨peer_kindb, peer_bitsb⟩, ⟨⟨idn_adr_kindb, idn_adr_bitsb⟩, idn_irkb⟩, secretb, seedb, mineb, ⟨oob_valueb, oob_randomb⟩⟩ : Cfg) x0k x1k n w HL
end Go.Proofs.YtihmbcnccdiecaaDoor
namespace Go.Proofs.YtihmbcnccdiecaaDoor.pairingKeysReplaced
open Go.ChangeShapes Go.WideShapes Go.ChangeAt Go.RowKit
open Go.ChangeMaps (open_string shut_string)
set_option linter.unusedVariables false
theorem own : ownKnob Tryd.prog.godebug = none := by kernel_rfl
theorem laidOut : laidOutB Tryd.prog = true := by kernel_rfl
theorem door_met (os : Os) (args : Array Value) : laidMetH Tryd.prog laidT ((World.doorLaid Tryd.prog 400 os).forCall (fun _ _ => 0) ⟨#[], args, []⟩).memory :=
  laidMetH_of_parts3 (fuel := 8) (laidMet_of_run' 8 (by kernel_rfl) (by kernel_rfl)) (by kernel_rfl) (by kernel_rfl)
set_option maxRecDepth 100000 in
theorem lifted (os : Os) (started : os.Started) (H : Type) (enc : TypeId × Value → H) :
    ReturnsInHanded {} Tryd.checked os 5 .any (fun w args => (Rows.pairingKeysReplacedSpec.pre enc Tryd.prog Tryd.f5 [] false w args ∧ laidMetH Tryd.prog laidT w) ∧ sizedMet enc Tryd.prog Tryd.f5 (OpenSpec.ofChange Rows.pairingKeysReplacedSpec) false w args)
      (Rows.pairingKeysReplacedSpec.post enc Tryd.prog Tryd.f5 false true false false) := by
  refine returnsInHanded_of_change_and (C := Tryd.checked) (X := fun w _ => laidMetH Tryd.prog laidT w) (fun _ _ _ hh h => h.of_heap hh) own started (by kernel_rfl) Tryd.func5
    (ChangeSpec.witness_shaped (enc := enc) (C := Tryd.checked) (os := os) (X := fun w _ => laidMetH Tryd.prog laidT w) false (World.doorLaid Tryd.prog 400 os) #[.agg #[.int .i64 0, .int .i64 0, .bool false, .bool false, .bool false, .bool false, .bool false, .int .i64 0, .int .u64 0, .int .i64 0, .int .u64 0, .int .i64 0, .int .u64 0, .int .u64 0, .int .u32 0, .int .u64 0, .int .u64 0, .int .u64 0, .int .u64 0], .agg #[.int .i64 0, .int .i64 0, .bool false, .bool false, .bool false, .bool false, .bool false, .int .i64 0, .int .u64 0, .int .i64 0, .int .u64 0, .int .i64 0, .int .u64 0, .int .u64 0, .int .u32 0, .int .u64 0, .int .u64 0, .int .u64 0, .int .u64 0], .agg #[.int .u32 0, .int .u32 0], .int .i64 0] 8 rfl (World.shaped_of_RefB (by kernel_rfl) (by kernel_rfl)) (by kernel_rfl) (by kernel_rfl) (by kernel_rfl) (door_met os _)) ?_
  intro W base args ds gs before hval0 hW _ _ hL _
  have hval : ∀ (j : Nat) t v, Tryd.f5.params[j]? = some t → args[j]? = some v → Value.okWide Tryd.prog W .any base t v := hval0
  have hW' := hW
  obtain ⟨p, q, hA0, hV, rfl, hfz, hnd⟩ := hW
  have hA : DataW.TrodAll enc Tryd.prog W 0 (fun _ => true) true Tryd.f5.params.toList args.toList ds p := hA0
  rw [Tryd.params5] at hA hval
  obtain ⟨v0, vs0, d0, ds0, p0, q0, hargs, rfl, rfl, h0, r0⟩ := trodAll_cons hA
  obtain ⟨v1, vs1, d1, ds1, p1, q1, rfl, rfl, rfl, h1, r1⟩ := trodAll_cons r0
  obtain ⟨v2, vs2, d2, ds2, p2, q2, rfl, rfl, rfl, h2, r2⟩ := trodAll_cons r1
  obtain ⟨v3, vs3, d3, ds3, p3, q3, rfl, rfl, rfl, h3, r3⟩ := trodAll_cons r2
  obtain ⟨rfl, rfl, rfl⟩ := trodAll_nil r3
  obtain rfl : args = #[v0, v1, v2, v3] := by cases args; simp_all
  obtain ⟨rfl, rfl⟩ := trodVars_none hV
  have k0 := h0
  have lt0 : ∀ x ∈ p0, x.block < W.heap.size := by obtain ⟨m, hm⟩ := k0; exact DataW.trod_lt m _ _ _ hm
  obtain ⟨role0, feat_io0, feat_oob0, feat_bond0, feat_mitm0, feat_sid0, feat_tid0, own_kind0, own_bits0, peer_kind0, peer_bits0, idn_adr_kind0, idn_adr_bits0, idn_irk0, secret0, seed0, mine0, oob_value0, oob_random0, rfl, wrole0, wfeat_io0, wown_kind0, wpeer_kind0, widn_adr_kind0⟩ := pcfg_in (hval 0 34 v0 rfl rfl) h0
  have k1 := h1
  have lt1 : ∀ x ∈ p1, x.block < W.heap.size := by obtain ⟨m, hm⟩ := k1; exact DataW.trod_lt m _ _ _ hm
  obtain ⟨role1, feat_io1, feat_oob1, feat_bond1, feat_mitm1, feat_sid1, feat_tid1, own_kind1, own_bits1, peer_kind1, peer_bits1, idn_adr_kind1, idn_adr_bits1, idn_irk1, secret1, seed1, mine1, oob_value1, oob_random1, rfl, wrole1, wfeat_io1, wown_kind1, wpeer_kind1, widn_adr_kind1⟩ := pcfg_in (hval 1 34 v1 rfl rfl) h1
  have k2 := h2
  have lt2 : ∀ x ∈ p2, x.block < W.heap.size := by obtain ⟨m, hm⟩ := k2; exact DataW.trod_lt m _ _ _ hm
  obtain ⟨x02, x12, rfl⟩ := h32_in (hval 2 68 v2 rfl rfl) h2
  obtain ⟨a3, rfl, rfl, rfl, w3⟩ := open_int Tryd.underlying3 (hval 3 3 v3 rfl rfl) h3
  clear hA0 hval0
  refine (law38_PairingKeysReplaced role0 wrole0 feat_io0 wfeat_io0 feat_oob0 feat_bond0 feat_mitm0 feat_sid0 feat_tid0 own_kind0 wown_kind0 own_bits0 peer_kind0 wpeer_kind0 peer_bits0 idn_adr_kind0 widn_adr_kind0 idn_adr_bits0 idn_irk0 secret0 seed0 mine0 oob_value0 oob_random0 role1 wrole1 feat_io1 wfeat_io1 feat_oob1 feat_bond1 feat_mitm1 feat_sid1 feat_tid1 own_kind1 wown_kind1 own_bits1 peer_kind1 wpeer_kind1 peer_bits1 idn_adr_kind1 widn_adr_kind1 idn_adr_bits1 idn_irk1 secret1 seed1 mine1 oob_value1 oob_random1 x02 x12 a3 w3 W (laid_of hL) ).mono fun e W' ⟨he, bel⟩ => ?_
  subst he
  exact ⟨_, rfl, _, _, _, [], _, [], hW', trodAll_mk1 (shut_bool Tryd.underlying4 _), (trodAll_cons_mk (Below.trod laidOut (by kernel_rfl) (of_decide_eq_true (by kernel_rfl)) k0 bel lt0) (trodAll_cons_mk (Below.trod laidOut (by kernel_rfl) (of_decide_eq_true (by kernel_rfl)) k1 bel lt1) (trodAll_cons_mk (Below.trod laidOut (by kernel_rfl) (of_decide_eq_true (by kernel_rfl)) k2 bel lt2) (trodAll_cons_mk (shut_int Tryd.underlying3 w3) trodAll_mk0)))), rfl, bel.frame _, fun h => by cases h⟩
theorem over : Rows.pairingKeysReplacedRow.holds Tryd.pinned (OpenSpec.ofChange Rows.pairingKeysReplacedSpec) :=
  OpenClaim.holds_of_wide 5 Tryd.f5 rfl rfl rfl rfl rfl rfl rfl ⟨rfl, rfl, rfl, rfl, rfl⟩ rfl rfl rfl rfl rfl (by kernel_rfl) Tryd.func5 (by kernel_rfl)
    (of_decide_eq_true (by kernel_rfl)) (by unfold Func.isWrapper; first | (rw [if_pos (by decide +kernel)]; kernel_rfl) | (rw [if_neg (by decide +kernel)]; exact ⟨rfl, rfl⟩))
    (fun os started H enc _ => lifted os started H enc)
theorem proved : Rows.PairingKeysReplacedCardSaid :=
  Claim7.holds_tied_plain_at .later [] [.data, .data] true _ false over (fun _ h => by cases h) (by kernel_rfl) (fun _ h => by cases h) pairingKeysReplaced_row_tie rfl ⟨rfl, rfl⟩ (by kernel_rfl) rfl
    (fun f fn hf hfn => by
      obtain rfl : f = 5 := Option.some.inj ((show Tryd.prog.funcNamed "wireless/wirelesslaw38.PairingKeysReplaced" = some 5 by kernel_rfl).symm.trans hf) |>.symm
      obtain rfl : fn = Tryd.f5 := (Option.some.inj (Tryd.func5.symm.trans hfn)).symm
      exact ⟨by kernel_rfl, fun j t ht => by
        rw [Tryd.params5] at ht
        have hm : t ∈ [34, 34, 68, 3] := by simpa using Array.mem_of_getElem? ht
        have hall : ([34, 34, 68, 3].all fun u => !Tryd.prog.wantsStandIn u) = true := by kernel_rfl
        exact (show Tryd.prog.wantsStandIn t = false by simpa using List.all_eq_true.1 hall t hm)⟩)
    (by kernel_rfl)
end Go.Proofs.YtihmbcnccdiecaaDoor.pairingKeysReplaced
