/- Contracts of the functions that encrypt needs of layer 23 (datapdu), and of the small functions of layer 29. -/
import Derived.Test.YtmehemojopfihaaEncA
import Derived.Test.YtmehemojopfihaaRef2
namespace Go.Proofs.Ytmehemojopfihaa
set_option maxRecDepth 100000
open Go.ChangeShapes Go.WideShapes Go.ChangeAt Go.RowKit
set_option linter.unusedVariables false
set_option linter.unusedSimpArgs false

def pduA (p : Pdu) (A : Option Addr) (c : Nat) : Array Value := #[.int .i64 p.sn, .int .i64 p.nesn, .int .i64 p.md, .int .i64 p.ll, .slice A p.pay.length c]
def pakA (p : Pdu) (A : Option Addr) (c : Nat) : Array Value := #[.int .i64 p.ll, .slice A p.pay.length c]

theorem dp_bit (n : Int) (w : World) : Calls Try.prog 88 #[.int .i64 n] w fun e w' => e = .returned (.bool (bitS n)) ∧ w' = w := by
  by_cases h0 : n = 0
  · subst h0
    go_enter Try.func88, Try.ntmps88
    go_wp2
    go_returns
    exact ⟨rfl, rfl⟩
  · have e0 : (n == 0) = false := by simpa using h0
    by_cases h1 : n = 1
    · subst h1
      go_enter Try.func88, Try.ntmps88
      go_wp2
      go_returns
      exact ⟨rfl, rfl⟩
    · have e1 : (n == 1) = false := by simpa using h1
      have e : bitS n = false := by simp [bitS, h0, h1]
      rw [e]
      go_enter Try.func88, Try.ntmps88
      go_wp2
      go_returns
      exact ⟨rfl, rfl⟩
theorem dp_Blank (q : Pdu) (A : Option Addr) (c : Nat) (w : World) : Calls Try.prog 63 #[.agg (pakA q A c)] w fun e w' => e = .returned (.bool (blankS q)) ∧ Below w.heap.size w w' := by
  obtain ⟨sn, ne, md, ll, pay⟩ := q
  unfold pakA blankS
  dsimp only
  generalize pay.length = n
  by_cases h0 : ll = 1
  · subst h0
    have e0 : (((n : Nat) : Int) == 0) = decide (n = 0) := by by_cases h : n = 0 <;> simp [h]
    go_enter Try.func63, Try.ntmps63
    go_wp2
    go_returns
    refine ⟨?_, by go_grown⟩
    simp_all
  · have e0 : (ll == 1) = false := by simpa using h0
    have e1 : decide (ll = 1) = false := by simpa using h0
    rw [e1]
    go_enter Try.func63, Try.ntmps63
    go_wp2
    go_returns
    exact ⟨rfl, by go_grown⟩
theorem r23_bit (n : Int) (w : World) : Calls Try.prog 72 #[.int .i64 n] w fun e w' => e = .returned (.bool (bitS n)) ∧ w' = w := by
  by_cases h0 : n = 0
  · subst h0
    go_enter Try.func72, Try.ntmps72
    go_wp2
    go_returns
    exact ⟨rfl, rfl⟩
  · have e0 : (n == 0) = false := by simpa using h0
    by_cases h1 : n = 1
    · subst h1
      go_enter Try.func72, Try.ntmps72
      go_wp2
      go_returns
      exact ⟨rfl, rfl⟩
    · have e1 : (n == 1) = false := by simpa using h1
      have e : bitS n = false := by simp [bitS, h0, h1]
      rw [e]
      go_enter Try.func72, Try.ntmps72
      go_wp2
      go_returns
      exact ⟨rfl, rfl⟩
theorem r23_Blank (q : Pdu) (A : Option Addr) (c : Nat) (w : World) : Calls Try.prog 52 #[.agg (pakA q A c)] w fun e w' => e = .returned (.bool (blankS q)) ∧ Below w.heap.size w w' := by
  obtain ⟨sn, ne, md, ll, pay⟩ := q
  unfold pakA blankS
  dsimp only
  generalize pay.length = n
  by_cases h0 : ll = 1
  · subst h0
    have e0 : (((n : Nat) : Int) == 0) = decide (n = 0) := by by_cases h : n = 0 <;> simp [h]
    go_enter Try.func52, Try.ntmps52
    go_wp2
    go_returns
    refine ⟨?_, by go_grown⟩
    simp_all
  · have e0 : (ll == 1) = false := by simpa using h0
    have e1 : decide (ll = 1) = false := by simpa using h0
    rw [e1]
    go_enter Try.func52, Try.ntmps52
    go_wp2
    go_returns
    exact ⟨rfl, by go_grown⟩
theorem r23_CheckPacket (q : Pdu) (A : Option Addr) (c : Nat) (w : World) : Calls Try.prog 73 #[.agg (pakA q A c)] w fun e w' => e = .returned (.int .i64 (checkL q.ll q.pay.length)) ∧ Below w.heap.size w w' := by
  obtain ⟨sn, ne, md, ll, pay⟩ := q
  unfold pakA
  dsimp only
  generalize pay.length = n
  by_cases h1 : ll < 1
  · have e1 : decide (ll < 1) = true := by simpa using h1
    have er : checkL ll n = 12 := by unfold checkL; rw [if_pos (Or.inl h1)]
    rw [er]
    go_enter Try.func73, Try.ntmps73
    go_wp2
    go_returns
    exact ⟨rfl, by go_grown⟩
  · have e1 : decide (ll < 1) = false := by simpa using h1
    by_cases h2 : 3 < ll
    · have e2 : decide (3 < ll) = true := by simpa using h2
      have er : checkL ll n = 12 := by unfold checkL; rw [if_pos (Or.inr h2)]
      rw [er]
      go_enter Try.func73, Try.ntmps73
      go_wp2
      go_returns
      exact ⟨rfl, by go_grown⟩
    · have e2 : decide (3 < ll) = false := by simpa using h2
      by_cases h3 : n = 0
      · subst h3
        by_cases h4 : ll = 1
        · subst h4
          go_enter Try.func73, Try.ntmps73
          go_wp2
          go_returns
          exact ⟨rfl, by go_grown⟩
        · have e4 : (ll != 1) = true := by simpa using h4
          have er : checkL ll 0 = 1 := by unfold checkL; rw [if_neg (by omega), if_pos ⟨rfl, h4⟩]
          rw [er]
          go_enter Try.func73, Try.ntmps73
          go_wp2
          go_returns
          exact ⟨rfl, by go_grown⟩
      · have e3 : (((n : Nat) : Int) == 0) = false := by simpa using h3
        by_cases h5 : 255 < n
        · have e5 : decide ((255 : Int) < ((n : Nat) : Int)) = true := by simp; omega
          have er : checkL ll n = 4 := by unfold checkL; rw [if_neg (by omega), if_neg (by omega), if_pos h5]
          rw [er]
          go_enter Try.func73, Try.ntmps73
          go_wp2
          go_returns
          exact ⟨rfl, by go_grown⟩
        · have e5 : decide ((255 : Int) < ((n : Nat) : Int)) = false := by simp; omega
          have er : checkL ll n = 0 := by unfold checkL; rw [if_neg (by omega), if_neg (by omega), if_neg h5]
          rw [er]
          go_enter Try.func73, Try.ntmps73
          go_wp2
          go_returns
          exact ⟨rfl, by go_grown⟩
theorem dp_Check (q : Pdu) (A : Option Addr) (c : Nat) (w : World) : Calls Try.prog 62 #[.agg (pduA q A c)] w fun e w' => e = .returned (.int .i64 (checkS q)) ∧ Below w.heap.size w w' := by
  obtain ⟨sn, ne, md, ll, pay⟩ := q
  unfold pduA checkS
  dsimp only
  rcases hb1 : bitS sn with _ | _
  · have b1 := hb1
    rw [show (if (false && bitS ne && bitS md) = true then checkL ll pay.length else 5) = (5 : Int) from rfl]
    generalize pay.length = n
    go_enter Try.func62, Try.ntmps62
    go_wp2_with fail
    refine ((dp_bit _ _)).mono ?_; rintro e w1 ⟨rfl, rfl⟩; rw [b1]
    go_wp2
    go_returns
    exact ⟨rfl, by go_grown⟩
  · have b1 := hb1
    rcases hb2 : bitS ne with _ | _
    · have b2 := hb2
      rw [show (if (true && false && bitS md) = true then checkL ll pay.length else 5) = (5 : Int) from rfl]
      generalize pay.length = n
      go_enter Try.func62, Try.ntmps62
      go_wp2_with fail
      refine ((dp_bit _ _)).mono ?_; rintro e w1 ⟨rfl, rfl⟩; rw [b1]
      go_wp2_with fail
      refine ((dp_bit _ _)).mono ?_; rintro e w2 ⟨rfl, rfl⟩; rw [b2]
      go_wp2
      go_returns
      exact ⟨rfl, by go_grown⟩
    · have b2 := hb2
      rcases hb3 : bitS md with _ | _
      · have b3 := hb3
        rw [show (if (true && true && false) = true then checkL ll pay.length else 5) = (5 : Int) from rfl]
        generalize pay.length = n
        go_enter Try.func62, Try.ntmps62
        go_wp2_with fail
        refine ((dp_bit _ _)).mono ?_; rintro e w1 ⟨rfl, rfl⟩; rw [b1]
        go_wp2_with fail
        refine ((dp_bit _ _)).mono ?_; rintro e w2 ⟨rfl, rfl⟩; rw [b2]
        go_wp2_with fail
        refine ((dp_bit _ _)).mono ?_; rintro e w3 ⟨rfl, rfl⟩; rw [b3]
        go_wp2
        go_returns
        exact ⟨rfl, by go_grown⟩
      · have b3 := hb3
        rw [show (if (true && true && true) = true then checkL ll pay.length else 5) = checkL ll pay.length from rfl]
        generalize pay.length = n
        by_cases h1 : ll < 1
        · have e1 : decide (ll < 1) = true := by simpa using h1
          have er : checkL ll n = 12 := by unfold checkL; rw [if_pos (Or.inl h1)]
          rw [er]
          go_enter Try.func62, Try.ntmps62
          go_wp2_with fail
          refine ((dp_bit _ _)).mono ?_; rintro e w1 ⟨rfl, rfl⟩; rw [b1]
          go_wp2_with fail
          refine ((dp_bit _ _)).mono ?_; rintro e w2 ⟨rfl, rfl⟩; rw [b2]
          go_wp2_with fail
          refine ((dp_bit _ _)).mono ?_; rintro e w3 ⟨rfl, rfl⟩; rw [b3]
          go_wp2
          go_returns
          exact ⟨rfl, by go_grown⟩
        · have e1 : decide (ll < 1) = false := by simpa using h1
          by_cases h2 : 3 < ll
          · have e2 : decide (3 < ll) = true := by simpa using h2
            have er : checkL ll n = 12 := by unfold checkL; rw [if_pos (Or.inr h2)]
            rw [er]
            go_enter Try.func62, Try.ntmps62
            go_wp2_with fail
            refine ((dp_bit _ _)).mono ?_; rintro e w1 ⟨rfl, rfl⟩; rw [b1]
            go_wp2_with fail
            refine ((dp_bit _ _)).mono ?_; rintro e w2 ⟨rfl, rfl⟩; rw [b2]
            go_wp2_with fail
            refine ((dp_bit _ _)).mono ?_; rintro e w3 ⟨rfl, rfl⟩; rw [b3]
            go_wp2
            go_returns
            exact ⟨rfl, by go_grown⟩
          · have e2 : decide (3 < ll) = false := by simpa using h2
            by_cases h3 : n = 0
            · subst h3
              by_cases h4 : ll = 1
              · subst h4
                go_enter Try.func62, Try.ntmps62
                go_wp2_with fail
                refine ((dp_bit _ _)).mono ?_; rintro e w1 ⟨rfl, rfl⟩; rw [b1]
                go_wp2_with fail
                refine ((dp_bit _ _)).mono ?_; rintro e w2 ⟨rfl, rfl⟩; rw [b2]
                go_wp2_with fail
                refine ((dp_bit _ _)).mono ?_; rintro e w3 ⟨rfl, rfl⟩; rw [b3]
                go_wp2
                go_returns
                exact ⟨rfl, by go_grown⟩
              · have e4 : (ll != 1) = true := by simpa using h4
                have er : checkL ll 0 = 1 := by unfold checkL; rw [if_neg (by omega), if_pos ⟨rfl, h4⟩]
                rw [er]
                go_enter Try.func62, Try.ntmps62
                go_wp2_with fail
                refine ((dp_bit _ _)).mono ?_; rintro e w1 ⟨rfl, rfl⟩; rw [b1]
                go_wp2_with fail
                refine ((dp_bit _ _)).mono ?_; rintro e w2 ⟨rfl, rfl⟩; rw [b2]
                go_wp2_with fail
                refine ((dp_bit _ _)).mono ?_; rintro e w3 ⟨rfl, rfl⟩; rw [b3]
                go_wp2
                go_returns
                exact ⟨rfl, by go_grown⟩
            · have e3 : (((n : Nat) : Int) == 0) = false := by simpa using h3
              by_cases h5 : 255 < n
              · have e5 : decide ((255 : Int) < ((n : Nat) : Int)) = true := by simp; omega
                have er : checkL ll n = 4 := by unfold checkL; rw [if_neg (by omega), if_neg (by omega), if_pos h5]
                rw [er]
                go_enter Try.func62, Try.ntmps62
                go_wp2_with fail
                refine ((dp_bit _ _)).mono ?_; rintro e w1 ⟨rfl, rfl⟩; rw [b1]
                go_wp2_with fail
                refine ((dp_bit _ _)).mono ?_; rintro e w2 ⟨rfl, rfl⟩; rw [b2]
                go_wp2_with fail
                refine ((dp_bit _ _)).mono ?_; rintro e w3 ⟨rfl, rfl⟩; rw [b3]
                go_wp2
                go_returns
                exact ⟨rfl, by go_grown⟩
              · have e5 : decide ((255 : Int) < ((n : Nat) : Int)) = false := by simp; omega
                have er : checkL ll n = 0 := by unfold checkL; rw [if_neg (by omega), if_neg (by omega), if_neg h5]
                rw [er]
                go_enter Try.func62, Try.ntmps62
                go_wp2_with fail
                refine ((dp_bit _ _)).mono ?_; rintro e w1 ⟨rfl, rfl⟩; rw [b1]
                go_wp2_with fail
                refine ((dp_bit _ _)).mono ?_; rintro e w2 ⟨rfl, rfl⟩; rw [b2]
                go_wp2_with fail
                refine ((dp_bit _ _)).mono ?_; rintro e w3 ⟨rfl, rfl⟩; rw [b3]
                go_wp2
                go_returns
                exact ⟨rfl, by go_grown⟩
theorem r23_Check (q : Pdu) (A : Option Addr) (c : Nat) (w : World) : Calls Try.prog 35 #[.agg (pduA q A c)] w fun e w' => e = .returned (.int .i64 (checkS q)) ∧ Below w.heap.size w w' := by
  obtain ⟨sn, ne, md, ll, pay⟩ := q
  unfold pduA checkS
  dsimp only
  rcases hb1 : bitS sn with _ | _
  · have b1 := hb1
    rw [show (if (false && bitS ne && bitS md) = true then checkL ll pay.length else 5) = (5 : Int) from rfl]
    generalize pay.length = n
    go_enter Try.func35, Try.ntmps35
    go_wp2_with fail
    refine ((r23_bit _ _)).mono ?_; rintro e w1 ⟨rfl, rfl⟩; rw [b1]
    go_wp2
    go_returns
    exact ⟨rfl, by go_grown⟩
  · have b1 := hb1
    rcases hb2 : bitS ne with _ | _
    · have b2 := hb2
      rw [show (if (true && false && bitS md) = true then checkL ll pay.length else 5) = (5 : Int) from rfl]
      generalize pay.length = n
      go_enter Try.func35, Try.ntmps35
      go_wp2_with fail
      refine ((r23_bit _ _)).mono ?_; rintro e w1 ⟨rfl, rfl⟩; rw [b1]
      go_wp2_with fail
      refine ((r23_bit _ _)).mono ?_; rintro e w2 ⟨rfl, rfl⟩; rw [b2]
      go_wp2
      go_returns
      exact ⟨rfl, by go_grown⟩
    · have b2 := hb2
      rcases hb3 : bitS md with _ | _
      · have b3 := hb3
        rw [show (if (true && true && false) = true then checkL ll pay.length else 5) = (5 : Int) from rfl]
        generalize pay.length = n
        go_enter Try.func35, Try.ntmps35
        go_wp2_with fail
        refine ((r23_bit _ _)).mono ?_; rintro e w1 ⟨rfl, rfl⟩; rw [b1]
        go_wp2_with fail
        refine ((r23_bit _ _)).mono ?_; rintro e w2 ⟨rfl, rfl⟩; rw [b2]
        go_wp2_with fail
        refine ((r23_bit _ _)).mono ?_; rintro e w3 ⟨rfl, rfl⟩; rw [b3]
        go_wp2
        go_returns
        exact ⟨rfl, by go_grown⟩
      · have b3 := hb3
        rw [show (if (true && true && true) = true then checkL ll pay.length else 5) = checkL ll pay.length from rfl]
        have R := Lib.hid (fun W => r23_CheckPacket ⟨0, 0, 0, ll, pay⟩ A c W)
        unfold pakA at R
        dsimp only at R
        generalize checkL ll pay.length = r at *
        generalize pay.length = n at *
        go_enter Try.func35, Try.ntmps35
        go_wp2_with fail
        refine ((r23_bit _ _)).mono ?_; rintro e w1 ⟨rfl, rfl⟩; rw [b1]
        go_wp2_with fail
        refine ((r23_bit _ _)).mono ?_; rintro e w2 ⟨rfl, rfl⟩; rw [b2]
        go_wp2_with fail
        refine ((r23_bit _ _)).mono ?_; rintro e w3 ⟨rfl, rfl⟩; rw [b3]
        go_wp2_with fail
        refine (R.out _).mono ?_; rintro e w4 ⟨rfl, h4⟩
        have h5 := ((Below.refl _ _).alloc (Nat.le_refl _) _).trans (h4.mono ((Below.refl _ _).alloc (Nat.le_refl _) _).size)
        go_wp2
        go_returns
        exact ⟨rfl, h5⟩
theorem enc_sides (s : Ses) (w : World) : Calls Try.prog 66 #[.agg (seA s)] w fun e w' => e = .returned (.tuple #[.int .u64 (W64 (sentD s.role)), .int .u64 (W64 (gotD s.role))]) ∧ Below w.heap.size w w' := by
  obtain ⟨ro, ke, sa, to, rn, tx, rx⟩ := s
  unfold seA
  dsimp only
  by_cases h : ro = 1
  · subst h
    go_enter Try.func66, Try.ntmps66
    go_wp2
    go_returns
    exact ⟨rfl, by go_grown⟩
  · have e1 : (ro == 1) = false := by simpa using h
    have e2 : sentD ro = 0#64 := if_neg h
    have e3 : gotD ro = 1#64 := if_neg h
    rw [e2, e3]
    go_enter Try.func66, Try.ntmps66
    go_wp2
    go_returns
    exact ⟨rfl, by go_grown⟩
theorem enc_with (q : Pdu) (A B : Option Addr) (c d : Nat) (bs : List (BitVec 8)) (w : World) : Calls Try.prog 64 #[.agg (pduA q A c), .slice B bs.length d] w fun e w' => e = .returned (.agg (pduA { q with pay := bs } B d)) ∧ Below w.heap.size w w' := by
  obtain ⟨sn, ne, md, ll, pay⟩ := q
  unfold pduA
  dsimp only
  generalize pay.length = n
  generalize bs.length = m
  go_enter Try.func64, Try.ntmps64
  go_wp2
  go_returns
  exact ⟨rfl, by go_grown⟩
theorem r29_with (q : Pdu) (A B : Option Addr) (c d : Nat) (bs : List (BitVec 8)) (w : World) : Calls Try.prog 69 #[.agg (pduA q A c), .slice B bs.length d] w fun e w' => e = .returned (.agg (pduA { q with pay := bs } B d)) ∧ Below w.heap.size w w' := by
  obtain ⟨sn, ne, md, ll, pay⟩ := q
  unfold pduA
  dsimp only
  generalize pay.length = n
  generalize bs.length = m
  go_enter Try.func69, Try.ntmps69
  go_wp2
  go_returns
  exact ⟨rfl, by go_grown⟩
theorem r29_nonce (s : Ses) (ro : Int) (n : BitVec 64) (w : World) : Calls Try.prog 71 #[.agg (seA s), .int .i64 ro, .int .u64 (W64 n)] w fun e w' => e = .returned (.int .u64 (W64 (nonceS s.salt (sentD ro) n))) ∧ Below w.heap.size w w' := by
  obtain ⟨r0, ke, sa, to, rn, tx, rx⟩ := s
  unfold seA nonceS
  dsimp only
  by_cases h : ro = 1
  · subst h
    go_enter Try.func71, Try.ntmps71
    go_wp2
    go_returns
    exact ⟨rfl, by go_grown⟩
  · have e1 : (ro == 1) = false := by simpa using h
    have e2 : sentD ro = 0#64 := if_neg h
    have e4 : 2#64 * n + 0#64 = 2#64 * n := by simp
    rw [e2, e4]
    go_enter Try.func71, Try.ntmps71
    go_wp2
    go_returns
    exact ⟨rfl, by go_grown⟩
def otherS (ro : Int) : Int := if ro = 1 then 0 else 1
theorem r29_other (ro : Int) (w : World) : Calls Try.prog 80 #[.int .i64 ro] w fun e w' => e = .returned (.int .i64 (otherS ro)) ∧ Below w.heap.size w w' := by
  by_cases h : ro = 1
  · subst h
    go_enter Try.func80, Try.ntmps80
    go_wp2
    go_returns
    exact ⟨rfl, by go_grown⟩
  · have e1 : (ro == 1) = false := by simpa using h
    have e2 : otherS ro = 1 := if_neg h
    rw [e2]
    go_enter Try.func80, Try.ntmps80
    go_wp2
    go_returns
    exact ⟨rfl, by go_grown⟩
theorem sentD_other (ro : Int) : sentD (otherS ro) = gotD ro := by unfold sentD otherS gotD; by_cases h : ro = 1 <;> simp [h]
theorem r23_Same (A B : Option Addr) (c d : Nat) (a b : List (BitVec 8)) (w : World) (hra : RdB w A a) (hrb : RdB w B b) :
    Calls Try.prog 74 #[.slice A a.length c, .slice B b.length d] w fun e w' => e = .returned (.bool (decide (a = b))) ∧ w = w' := by
  have h1 := run_string_of hra c
  have h2 := run_string_of hrb d
  go_enter Try.func74, Try.ntmps74
  go_wp2
  go_ret
  exact ⟨ret_bool (bstr_beq a b), rfl⟩
theorem r23_SamePacket (p q : Pdu) (A B : Option Addr) (c d : Nat) (w : World) (ha : RdB w A p.pay) (hb : RdB w B q.pay) :
    Calls Try.prog 36 #[.agg (pakA p A c), .agg (pakA q B d)] w fun e w' => e = .returned (.bool (decide (p.ll = q.ll) && decide (p.pay = q.pay))) ∧ Below w.heap.size w w' := by
  obtain ⟨sn, ne, md, ll, pay⟩ := p
  obtain ⟨sn', ne', md', ll', pay'⟩ := q
  unfold pakA
  dsimp only at ha hb ⊢
  have R := Lib.hid (fun W (h1 : RdB W A pay) (h2 : RdB W B pay') => r23_Same A B c d pay pay' W h1 h2)
  generalize decide (pay = pay') = r at *
  by_cases h : ll = ll'
  · subst h
    have e0 : decide (ll = ll) = true := by simp
    have e1 : (ll == ll) = true := by simp
    rw [e0, Bool.true_and]
    have ha2 : RdB ((w.alloc (.cells #[.int .i64 ll, .slice A pay.length c] 47)).alloc (.cells #[.int .i64 ll, .slice B pay'.length d] 47)) A pay := (Rd.to ha (by go_grown))
    have hb2 : RdB ((w.alloc (.cells #[.int .i64 ll, .slice A pay.length c] 47)).alloc (.cells #[.int .i64 ll, .slice B pay'.length d] 47)) B pay' := (Rd.to hb (by go_grown))
    clear ha hb
    have R2 := Lib.hid (R.out _ ha2 hb2)
    clear R ha2 hb2
    generalize pay.length = n at *
    generalize pay'.length = n' at *
    go_enter Try.func36, Try.ntmps36
    go_wp2_with fail
    refine (R2.out).mono ?_; rintro e w1 ⟨rfl, rfl⟩
    go_wp2
    go_returns
    exact ⟨rfl, by go_grown⟩
  · have e0 : decide (ll = ll') = false := by simpa using h
    have e1 : (ll == ll') = false := by simpa using h
    rw [e0, Bool.false_and]
    clear R ha hb
    generalize pay.length = n at *
    generalize pay'.length = n' at *
    go_enter Try.func36, Try.ntmps36
    go_wp2
    go_returns
    exact ⟨rfl, by go_grown⟩
end Go.Proofs.Ytmehemojopfihaa
