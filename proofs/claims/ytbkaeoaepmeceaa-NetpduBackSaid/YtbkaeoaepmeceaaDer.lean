/- The derived key of the reference of layer 6: append onto the bytes of a string. -/
import Derived.Test.YtbkaeoaepmeceaaMac2
import Derived.Test.YtbkaeoaepmeceaaRef6
import Derived.Laws.IdiomCopy
namespace Go.Proofs.Ytbkaeoaepmeceaa
set_option maxRecDepth 100000
open Go.ChangeShapes Go.WideShapes Go.ChangeAt Go.RowKit
set_option linter.unusedVariables false

/-- A row of bytes of the call's own, known by its cells (a row that a string was turned into has a mark at its end). -/
structure OwnC (w : World) (base g n cap : Nat) (xs : List (BitVec 8)) : Prop where
  ge : base ≤ g
  lt : g < w.heap.size
  len : xs.length = n
  room : n ≤ cap
  max : cap ≤ maxLen
  cells : ∀ j, (h : j < xs.length) → w.cell? ⟨g, j, none⟩ = some (.int .u8 (W8 xs[j]))
  some_ : ∀ j, j < cap → (w.cell? ⟨g, j, none⟩).isSome = true
  free : ∀ j, j < cap → w.frozen? ⟨g, j, none⟩ = false
theorem add_zero_ (g j : Nat) : (⟨g, 0, none⟩ : Addr).add j = ⟨g, j, none⟩ := by unfold Addr.add; split <;> simp_all
section
variable {w w' : World} {base g n cap : Nat} {xs : List (BitVec 8)}
theorem OwnC.rd (h : OwnC w base g n cap xs) : RdB w (some ⟨g, 0, none⟩) xs := fun j u hu => by
  have hj : j < xs.length := by
    rcases Nat.lt_or_ge j xs.length with h | h
    · exact h
    · rw [List.getElem?_eq_none (by rw [bcells_length]; exact h)] at hu; cases hu
  refine ⟨_, rfl, h.lt, ?_⟩
  rw [add_zero_, h.cells j hj, ← hu]
  simp [bcells, hj]
theorem OwnC.to (h : OwnC w base g n cap xs) (hb : Below w.heap.size w w') : OwnC w' base g n cap xs :=
  ⟨h.ge, Nat.lt_of_lt_of_le h.lt hb.size, h.len, h.room, h.max, fun j hj => (hb.cell (p := ⟨g, j, none⟩) h.lt).trans (h.cells j hj),
    fun j hj => by rw [hb.cell (p := ⟨g, j, none⟩) h.lt]; exact h.some_ j hj, fun j hj => (hb.frozen (p := ⟨g, j, none⟩) h.lt).trans (h.free j hj)⟩
end
theorem bcells_at (l : List (BitVec 8)) (j : Nat) (h : j < l.length) : (bcells l)[j]? = some (.int .u8 (W8 l[j])) := by simp [bcells, h]
theorem frozen_past {w : World} {g j lo hi : Nat} {cs : Array Value} {t : TypeId} (h : w.heap[g]? = some (.cells cs t (lo, hi))) (hj : j < lo) : w.frozen? ⟨g, j, none⟩ = false := by
  unfold World.frozen?
  dsimp only
  rw [h]
  simp
  omega
theorem below_setCells {base : Nat} {a : World} (b : Nat) (hb : base ≤ b) : ∀ (vs : List Value) (o : Nat) (w : World), Below base a w → Below base a (w.setCells b o vs)
  | [], _, _, h => h
  | v :: r, o, w, h => below_setCells b hb r (o + 1) _ (h.setCell (p := ⟨b, o, none⟩) hb v)
theorem run_append_c {w : World} {base g n cap : Nat} {xs : List (BitVec 8)} (h : OwnC w base g n cap xs) (A : Option Addr) (m c : Nat) (news : List (BitVec 8)) (hr : RdB w A news) (hm : news.length = m) (hsz : n + m ≤ 1048576) (hbase : base ≤ w.heap.size) (ty : TypeId) :
    ∃ g' cap' w', (Builtin.append_ #[36, 36] ty #[.slice (some ⟨g, 0, none⟩) n cap, .slice A m c]).run Try.prog w = .ok (.slice (some ⟨g', 0, none⟩) (n + m) cap') w' ∧ OwnC w' base g' (n + m) cap' (xs ++ news) ∧ Below base w w' := by
  obtain ⟨i0, hi0, hz0, hz1, hz2⟩ := info_parts info_u8
  have hs : Src Try.prog i0.size 36 (.slice A m c) m (bcells news) w := by
    rw [hz1]
    exact Rd.src hr Try.underlying36 c (by rw [bcells_length]; omega) (bcells_one _) (by omega)
  have hlen := h.len
  have hbl : (bcells news).length = m := by rw [bcells_length]; exact hm
  by_cases hroom : n + m ≤ cap
  · have hrun := run_append_room_src (P := Try.prog) w 36 36 ty 5 i0 Try.underlying36 hi0 g 0 n cap (.slice A m c) m (bcells news) hs hroom
      (fun j hj => by rw [hz1]; exact h.some_ _ (by omega)) (fun j hj => by rw [hz1]; exact h.free _ (by omega))
    rw [hz1, Nat.mul_one, Nat.zero_add] at hrun
    have hB := below_setCells (a := w) g h.ge (bcells news) n w (Below.refl _ _)
    have hin := World.cell?_setCells_in g (bcells news) n w (fun j hj => h.some_ _ (by omega))
    refine ⟨g, cap, _, hrun, ⟨h.ge, Nat.lt_of_lt_of_le h.lt hB.size, by rw [List.length_append]; omega, hroom, h.max, fun j hj => ?_, fun j hj => ?_, fun j hj => ?_⟩, hB⟩
    · rw [List.length_append] at hj
      by_cases hjn : j < xs.length
      · rw [World.cell?_setCells_out _ _ _ _ _ (fun _ _ => .inl (by show j < n; omega)), List.getElem_append_left hjn]
        exact h.cells j hjn
      · have := hin (j - n) (by omega)
        rw [show n + (j - n) = j by omega] at this
        rw [this, List.getElem_append_right (by omega)]
        simp [bcells, hlen]
    · by_cases hjn : n ≤ j ∧ j < n + m
      · have := hin (j - n) (by omega)
        rw [show n + (j - n) = j by omega] at this
        rw [this]
        rfl
      · rw [World.cell?_setCells_out _ _ _ _ _ (fun _ _ => by show j < n ∨ n + (bcells news).length ≤ j; omega)]
        exact h.some_ j hj
    · rw [World.frozen?_setCells]
      exact h.free j hj
  · have hgr := run_append_grow_src (P := Try.prog) w 36 36 ty 5 i0 _ Try.underlying36 hi0 hz0 (some ⟨g, 0, none⟩) n cap (bcells xs)
      (run_firstCells_some (P := Try.prog) w.drew i0.size n ⟨g, 0, none⟩ n cap (bcells xs) (by rw [bcells_length, hz1]; omega) (fun j u hu => by
        obtain ⟨ad, he, _, hc⟩ := h.rd j u hu
        injection he with he
        subst he
        exact hc)) (.slice A m c) m (bcells news) hs (by omega) (by omega) (growslice_fits (by omega) (by rw [hz2]; omega))
    have hge := grownCap_ge w (n + m) cap 5
    have hcm : grownCap w (n + m) cap 5 ≤ maxLen := grownCap_le_maxLen w (n + m) cap 5 (by simp only [maxLen]; omega)
    have hnew := heap_alloc_new w.drew (.cells ((bcells xs ++ bcells news).toArray ++ Builtin.zeroCells (Value.int .u8 0).cells (grownCap w (n + m) cap 5 - (n + m))) 5)
    have hcell := fun j => cell_of_row _ _ j _ _ _ hnew
    have hzs : ((bcells xs ++ bcells news).toArray ++ Builtin.zeroCells (Value.int .u8 0).cells (grownCap w (n + m) cap 5 - (n + m))).size = grownCap w (n + m) cap 5 := by
      rw [Array.size_append, size_zeroCells, List.size_toArray, List.length_append, bcells_length, hbl]
      have : (Value.int .u8 0).cells.size = 1 := rfl
      rw [this]
      omega
    refine ⟨_, _, _, hgr, ⟨hbase, by simp, by rw [List.length_append]; omega, hge, hcm, fun j hj => ?_, fun j hj => ?_, fun j hj => ?_⟩, ((Below.refl _ _).drew).alloc hbase _⟩
    · rw [List.length_append] at hj
      refine (hcell j).trans ?_
      rw [← bcells_append, Array.getElem?_append_left (by rw [List.size_toArray, bcells_length, List.length_append]; omega)]
      rw [List.getElem?_toArray]
      exact bcells_at _ _ _
    · refine (congrArg Option.isSome (hcell j)).trans ?_
      rw [Array.getElem?_eq_getElem (by rw [hzs]; exact hj)]
      rfl
    · exact Blk.free (g := w.heap.size) hnew j
theorem wpList_append_c (w : World) {ops : Array Oper} {rest : List Oper} {o : Oper} {a : Act} {Q : Exit → Act → World → Prop} (hgd : o.guard = none) (s x : Operand)
    (ho : o.op = .call { callee := .builtin .append, args := #[s, x], argTypes := #[36, 36] })
    (base g n cap : Nat) (xs : List (BitVec 8)) (hs : a.eval s = .slice (some ⟨g, 0, none⟩) n cap) (h : OwnC w base g n cap xs) (A : Option Addr) (m c : Nat) (news : List (BitVec 8)) (hx : a.eval x = .slice A m c) (hr : RdB w A news) (hm : news.length = m)
    (hsz : n + m ≤ 1048576) (hbase : base ≤ w.heap.size)
    (hK : ∀ g' cap' w', OwnC w' base g' (n + m) cap' (xs ++ news) → Below base w w' → wpList Try.prog ops Q rest (a.put o.dst (.slice (some ⟨g', 0, none⟩) (n + m) cap')) w') : wpList Try.prog ops Q (o :: rest) a w :=
  wpList_plain hgd fun _ hK' => by
    obtain ⟨g', cap', w', hrun, h2, h3⟩ := run_append_c h A m c news hr hm hsz hbase o.type
    unfold Oper.wp execOp
    simp only [ho, resolve, invoke, builtin, Sem.run_bind, Sem.run_pure, Result.andThen_ok, List.map_toArray, List.map_cons, List.map_nil, hs, hx, hrun]
    exact hK' _ _ (hK g' cap' w' h2 h3)
theorem own_row (s : ByteArray) (w : World) (hs : s.size ≤ 65536) : OwnC (w.drew.alloc (.cells (bytesRow s (grownCap w s.size 0 5)) 5 ((bytesRow s (grownCap w s.size 0 5)).size, (bytesRow s (grownCap w s.size 0 5)).size + 1))) w.heap.size w.heap.size s.size (grownCap w s.size 0 5) (sbytes s) := by
  have hge := grownCap_ge w s.size 0 5
  have hcm : grownCap w s.size 0 5 ≤ maxLen := grownCap_le_maxLen w s.size 0 5 (by simp only [maxLen]; omega)
  have hrs := row_size s _ hge
  have hnew := heap_alloc_new w.drew (.cells (bytesRow s (grownCap w s.size 0 5)) 5 ((bytesRow s (grownCap w s.size 0 5)).size, (bytesRow s (grownCap w s.size 0 5)).size + 1))
  have hcell := fun j => cell_of_row _ _ j _ _ _ hnew
  refine ⟨Nat.le_refl _, by simp, sbytes_length s, hge, hcm, fun j hj => (hcell j).trans (row_cell s _ j hj), fun j hj => ?_, fun j hj => ?_⟩
  · refine (congrArg Option.isSome (hcell j)).trans ?_
    rw [Array.getElem?_eq_getElem (by rw [hrs]; exact hj)]
    rfl
  · rw [hrs] at hnew ⊢
    exact frozen_past hnew (by omega)
theorem mac_tagL (k : BitVec 64) (A : Option Addr) (c n : Nat) (bs : List (BitVec 8)) (w : World) (hn : bs.length = n) (hr : RdB w A bs) (hlen : n ≤ 1048576) (hcap : n ≤ c) :
    Calls Try.prog 58 #[.int .u64 (W64 k), .slice A n c] w fun e w' => e = .returned (.int .u64 (W64 (tag k bs))) ∧ Below w.heap.size w w' := by
  subst hn
  exact ref6_Tag k A c bs w hr hlen hcap
theorem ref6_Derive (k : BitVec 64) (s : ByteArray) (A : Option Addr) (c : Nat) (xs : List (BitVec 64)) (w : World) (hr : RdU w A xs) (hl : xs.length ≤ 1024) (hs : s.size ≤ 65536) :
    Calls Try.prog 39 #[.int .u64 (W64 k), .string s, .slice A xs.length c] w fun e w' => e = .returned (.int .u64 (W64 (derive k (sbytes s) xs))) ∧ Below w.heap.size w w' := by
  have hcv := run_bytes_of_string (P := Try.prog) w 9 36 5 s Try.underlying9 Try.underlying36 Try.underlying5
  have hown := own_row s w hs
  have hB1 : Below w.heap.size w (w.drew.alloc (.cells (bytesRow s (grownCap w s.size 0 5)) 5 ((bytesRow s (grownCap w s.size 0 5)).size, (bytesRow s (grownCap w s.size 0 5)).size + 1))) := ((Below.refl _ w).drew).alloc (Nat.le_refl _) _
  generalize w.drew.alloc (.cells (bytesRow s (grownCap w s.size 0 5)) 5 ((bytesRow s (grownCap w s.size 0 5)).size, (bytesRow s (grownCap w s.size 0 5)).size + 1)) = w1 at *
  generalize grownCap w s.size 0 5 = cp at *
  obtain ⟨tg, htg⟩ : ∃ tg, tag k (sbytes s ++ [0#8] ++ nums8 xs) = tg := ⟨_, rfl⟩
  have hdv : derive k (sbytes s) xs = tg := htg
  rw [hdv]
  have HG := Lib.hid htg
  clear htg hdv
  have hown1 := hown.to ((Below.refl w1.heap.size w1).alloc (Nat.le_refl _) (.cells #[.int .u8 0] 5))
  have hB2 : Below w.heap.size w (w1.alloc (.cells #[.int .u8 0] 5)) := hB1.alloc hB1.size _
  have hz : RdB (w1.alloc (.cells #[.int .u8 0] 5)) (some ⟨w1.heap.size, 0, none⟩) [0#8] := Rd.new w1 #[.int .u8 0] 5
  go_enter Try.func39, Try.ntmps39
  go_wp2_with (at_builtin; refine wpList_append_c _ rfl _ _ rfl w.heap.size w.heap.size s.size cp (sbytes s) rfl hown1 (some ⟨w1.heap.size, 0, none⟩) 1 1 [0#8] rfl hz rfl (by omega) hB2.size ?_; intro g3 c3 w3 hown3 hb3)
  have hb03 := hB2.trans hb3
  go_loopw [7, 8] (fun v i wr => ∃ (j g c : Nat), j ≤ xs.length ∧ i = .int .i64 j ∧ v = .slice (some ⟨g, 0, none⟩) (s.size + 1 + j * 8) c ∧ OwnC wr w.heap.size g (s.size + 1 + j * 8) c (sbytes s ++ [0#8] ++ nums8 (xs.take j)) ∧ Below w.heap.size w wr)
    (fun _ i _ => xs.length - (intOf i).toNat)
  case atStart => exact ⟨0, g3, c3, by omega, rfl, rfl, by simpa [nums8] using hown3, hb03⟩
  case round =>
    obtain ⟨j, g, cc, hj, rfl, rfl, hownj, hb⟩ := hrel
    by_cases hlt : j < xs.length
    · obtain ⟨ad, rfl, hlt2, hcell⟩ := RdU.at_ (hr.to hb) j hlt
      have HS := Lib.hid (show nums8 (xs.take (j + 1)) = nums8 (xs.take j) ++ numB 8 xs[j] by rw [List.take_succ_eq_append_getElem hlt, nums8_snoc])
      generalize xs[j] = x at *
      go_wp2_with fail
      refine (ref2_Num 8 _ _ (by omega) (by omega)).mono ?_; rintro e w4 hp4
      obtain ⟨A4, c4, rfl, ho4, hb4⟩ := hp4.at_ (n := 8) rfl
      have hown4 := hownj.to hb4
      have hb04 := hb.trans (hb4.mono hb.size)
      have hr4 : RdB w4 A4 (numB 8 x) := Rd.of_own ho4
      go_wp2_with (at_builtin; refine wpList_append_c _ rfl _ _ rfl w.heap.size g (s.size + 1 + j * 8) cc _ rfl hown4 A4 8 c4 (numB 8 x) rfl hr4 (numB_length _ _) (by omega) hb04.size ?_; intro g5 c5 w5 hown5 hb5)
      go_roundw
      case rel => exact ⟨j + 1, g5, c5, by omega, by go_num, by congr 1; omega, by rw [HS.out, ← List.append_assoc, show s.size + 1 + (j + 1) * 8 = s.size + 1 + j * 8 + 8 by omega]; exact hown5, hb04.trans hb5⟩
      case measure => simp [intOf]; omega
    · obtain rfl : j = xs.length := by omega
      rw [List.take_length] at hownj
      have ht := mac_tagL k (some ⟨g, 0, none⟩) cc _ _ wr hownj.len hownj.rd (by omega) hownj.room
      rw [HG.out] at ht
      go_wp2_with fail
      refine ht.mono ?_; rintro e w5 ⟨rfl, hb5⟩
      go_wp2
      go_ret
      exact ⟨rfl, hb.trans (hb5.mono hb.size)⟩
end Go.Proofs.Ytbkaeoaepmeceaa
