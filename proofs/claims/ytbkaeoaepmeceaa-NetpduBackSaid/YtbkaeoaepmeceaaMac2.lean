/- Contracts of the functions of layer 6 (mac): derived keys, streams, sealed bytes. -/
import Derived.Test.YtbkaeoaepmeceaaMac
import Derived.Test.YtbkaeoaepmeceaaRef2
import Derived.Test.YtbkaeoaepmeceaaRet
import Derived.Laws.IdiomStrings
namespace Go.Proofs.Ytbkaeoaepmeceaa
set_option maxRecDepth 100000
open Go.ChangeShapes Go.WideShapes Go.ChangeAt Go.RowKit
set_option linter.unusedVariables false

/-- The bytes of a string. -/
def sbytes (s : ByteArray) : List (BitVec 8) := s.data.toList.map (·.toBitVec)
theorem sbytes_length (s : ByteArray) : (sbytes s).length = s.size := by
  unfold sbytes
  rw [List.length_map, Array.length_toList]
  rfl
theorem row_cell (s : ByteArray) (cap j : Nat) (h : j < (sbytes s).length) : (bytesRow s cap)[j]? = some (.int .u8 (W8 (sbytes s)[j])) := by
  have h' : j < s.data.size := by rw [sbytes_length] at h; exact h
  unfold bytesRow
  rw [Array.getElem?_append_left (by simpa using h')]
  have e : (s.data.map (fun b => Value.int .u8 b.toNat))[j]? = some (.int .u8 (s.data[j].toNat : Int)) := by rw [Array.getElem?_map, Array.getElem?_eq_getElem h']; rfl
  rw [e]
  simp [sbytes, W8]
theorem row_size (s : ByteArray) (cap : Nat) (h : s.size ≤ cap) : (bytesRow s cap).size = cap := by
  unfold bytesRow
  rw [Array.size_append, Array.size_map, Array.size_replicate]
  show s.size + (cap - s.size) = cap
  omega
theorem rd_row (s : ByteArray) (cap : Nat) (w : World) (fz : Nat × Nat) (t : TypeId) : RdB (w.alloc (.cells (bytesRow s cap) t fz)) (some ⟨w.heap.size, 0, none⟩) (sbytes s) := fun j u hu => by
  have hj : j < (sbytes s).length := by
    rcases Nat.lt_or_ge j (sbytes s).length with h | h
    · exact h
    · rw [List.getElem?_eq_none (by rw [bcells_length]; exact h)] at hu; cases hu
  refine ⟨_, rfl, by simp, ?_⟩
  have e : (⟨w.heap.size, 0, none⟩ : Addr).add j = ⟨w.heap.size, j, none⟩ := by unfold Addr.add; split <;> simp_all
  rw [e, cell_of_row _ w.heap.size j _ t fz (heap_alloc_new w _), row_cell s cap j hj, ← hu]
  simp [bcells, hj]
theorem join_row (w : World) (vs : Array Value) (t : TypeId) (ps : List Part) (n : Nat) (bs : List (BitVec 8)) (hv : vs.toList = pcells ps) (hn : ps.length = n) (hbs : ps.flatMap (·.2.2) = bs)
    (hp : ∀ p ∈ ps, RdB w p.1 p.2.2) (hlen : bs.length ≤ 1048576) (hl : n ≤ 1048576) :
    Calls Try.prog 42 #[.slice (some ⟨w.heap.size, 0, none⟩) n n] (w.alloc (.cells vs t)) (RetB w bs) := by
  subst hn
  subst hbs
  refine (octets_Join (some ⟨w.heap.size, 0, none⟩) ps.length ps (w.alloc (.cells vs t)) (by rw [← hv]; exact Rd.new w vs t) (fun p h => (hp p h).to ((Below.refl _ _).alloc (Nat.le_refl _) _)) hlen hl).mono ?_
  rintro e w' ⟨A, c, rfl, ho, hb⟩
  exact ⟨A, c, rfl, own_mono ho (by simp), ((Below.refl w.heap.size w).alloc (Nat.le_refl _) _).trans (hb.mono (by simp))⟩
theorem mac_Derive (k : BitVec 64) (s : ByteArray) (A : Option Addr) (c : Nat) (xs : List (BitVec 64)) (w : World) (hr : RdU w A xs) (hl : xs.length ≤ 1024) (hs : s.size ≤ 65536) :
    Calls Try.prog 19 #[.int .u64 (W64 k), .string s, .slice A xs.length c] w fun e w' => e = .returned (.int .u64 (W64 (derive k (sbytes s) xs))) ∧ Below w.heap.size w w' := by
  have hcv := run_bytes_of_string (P := Try.prog) w 9 36 5 s Try.underlying9 Try.underlying36 Try.underlying5
  have hge := grownCap_ge w s.size 0 5
  have hrow := rd_row s (grownCap w s.size 0 5) w.drew ((bytesRow s (grownCap w s.size 0 5)).size, (bytesRow s (grownCap w s.size 0 5)).size + 1) 5
  have hB1 : Below w.heap.size w (w.drew.alloc (.cells (bytesRow s (grownCap w s.size 0 5)) 5 ((bytesRow s (grownCap w s.size 0 5)).size, (bytesRow s (grownCap w s.size 0 5)).size + 1))) := ((Below.refl _ w).drew).alloc (Nat.le_refl _) _
  generalize w.drew.alloc (.cells (bytesRow s (grownCap w s.size 0 5)) 5 ((bytesRow s (grownCap w s.size 0 5)).size, (bytesRow s (grownCap w s.size 0 5)).size + 1)) = w1 at *
  generalize grownCap w s.size 0 5 = cp at *
  have hsl := sbytes_length s
  have hdv : derive k (sbytes s) xs = tag k (sbytes s ++ [0#8] ++ nums8 xs) := rfl
  rw [hdv]
  clear hdv
  have hlen : (sbytes s ++ [0#8] ++ nums8 xs).length ≤ 1048576 := by simp only [List.length_append, sbytes_length, nums8_length, List.length_cons, List.length_nil]; omega
  have hflat : ∀ a b : Option Addr × Nat, ∀ c : Option Addr × Nat, List.flatMap (fun p : Part => p.2.2) [(a.1, a.2, sbytes s), (b.1, b.2, [0#8]), (c.1, c.2, nums8 xs)] = sbytes s ++ [0#8] ++ nums8 xs := fun a b c => by simp
  generalize sbytes s ++ [0#8] ++ nums8 xs = L at *
  obtain ⟨tg, htg⟩ : ∃ tg, tag k L = tg := ⟨_, rfl⟩
  rw [htg]
  have HG := Lib.hid htg
  clear htg
  go_enter Try.func19, Try.ntmps19
  go_wp2_with fail
  refine (mac_bytes _ _ _ _ ((hr.to hB1).to ((Below.refl _ _).alloc (Nat.le_refl _) _)) (by omega)).mono ?_; rintro e w3 ⟨A3, c3, rfl, ho3, hb3⟩
  have hb13 : Below w1.heap.size w1 w3 := ((Below.refl _ _).alloc (Nat.le_refl _) _).trans (hb3.mono (by simp))
  have hb03 := hB1.trans (hb13.mono hB1.size)
  have hz : RdB w3 (some ⟨w1.heap.size, 0, none⟩) [0#8] := Rd.to (Rd.new w1 #[.int .u8 0] 5) hb3
  have HJ := fun t => Lib.hid (join_row w3 #[.slice (some ⟨w.heap.size, 0, none⟩) s.size cp, .slice (some ⟨w1.heap.size, 0, none⟩) 1 1, .slice A3 (nums8 xs).length c3] t [(some ⟨w.heap.size, 0, none⟩, cp, sbytes s), (some ⟨w1.heap.size, 0, none⟩, 1, [0#8]), (A3, c3, nums8 xs)] 3 L
    (by simp [pcells, hsl]) rfl (hflat (_, _) (_, _) (_, _)) (fun p hp => by
      simp only [List.mem_cons, List.not_mem_nil, or_false] at hp
      rcases hp with rfl | rfl | rfl
      · exact hrow.to hb13
      · exact hz
      · exact Rd.of_own ho3) hlen (by omega))
  go_wp2_with fail
  refine (HJ _).out.mono ?_; rintro e w4 ⟨A4, c4, rfl, ho4, hb4⟩
  have hb04 := hb03.trans (hb4.mono hb03.size)
  go_wp2_with fail
  have ht := mac_Tag k A4 c4 L w4 (Rd.of_own ho4) hlen (own_cap ho4).1
  rw [HG.out] at ht
  refine ht.mono ?_; rintro e w5 ⟨rfl, hb5⟩
  go_wp2
  go_ret
  exact ⟨rfl, hb04.trans (hb5.mono hb04.size)⟩
theorem nums8_one (x : BitVec 64) : nums8 [x] = numB 8 x := by simp [nums8]
theorem mac_one (b : Nat) (x : BitVec 64) (w : World) (hr : RdU w (some ⟨b, 0, none⟩) [x]) : Calls Try.prog 43 #[.slice (some ⟨b, 0, none⟩) 1 1] w (RetB w (numB 8 x)) := by
  have := mac_bytes (some ⟨b, 0, none⟩) 1 [x] w hr (by simp)
  rwa [nums8_one] at this
theorem own_made (w : World) (n : Nat) (hn : n ≤ maxLen) : (w.alloc (.cells (madeCells #[Value.int .u8 0] n) 5)).ownsRow w.heap.size 5 1 (.slice (some ⟨w.heap.size, 0, none⟩) 0 n) 0 [] :=
  ⟨by simp, .inr ⟨w.heap.size, n, _, rfl, Nat.le_refl _, heap_alloc_new w _, Nat.zero_le _, hn, by simp [madeCells], by simp⟩⟩
def lenV : Value → Nat
  | .slice _ n _ => n
  | _ => 0
theorem mac_stream (k nonce : BitVec 64) (n : Nat) (w : World) (hn : n ≤ 1048576) :
    Calls Try.prog 63 #[.int .u64 (W64 k), .int .u64 (W64 nonce), .int .i64 n] w (RetR w (stream k nonce n)) := by
  obtain ⟨i0, hi0, hz0, hz1, hz2⟩ := info_parts info_u8
  have hmk : ∀ W : World, (Instr.makeSlice 36 (.int .i64 0) (.int .i64 ((n : Int) + 8))).run Try.prog W = .ok (.slice (some ⟨W.heap.size, 0, none⟩) 0 (n + 8)) (W.alloc (.cells (madeCells #[Value.int .u8 0] (n + 8)) 5)) := fun W => by
    have h := run_make (P := Try.prog) W 36 5 i0 _ Try.underlying36 hi0 hz0 .i64 .i64 0 ((n : Int) + 8) (by omega) (by omega) (by rw [hz2]; omega) (by omega)
    rw [h, hz1, show ((n : Int) + 8).toNat = n + 8 by omega, Nat.mul_one]
    rfl
  go_enter Try.func63, Try.ntmps63
  go_wp2_with fail
  refine (block_Mix _ _ _).mono ?_; rintro e w1 ⟨rfl, hb1⟩
  have hown0 := own_mono (own_made w1 (n + 8) (by simp only [maxLen]; omega)) hb1.size
  go_wp2
  clear hmk
  go_loopw [8, 9] (fun v i wr => ∃ (j : Nat) (A' : Option Addr) (c' : Nat), j ≤ nGroups n ∧ i = .int .u64 (W64 (BitVec.ofNat 64 j)) ∧ v = .slice A' (j * 8) c' ∧ wr.ownsRow w.heap.size 5 1 (.slice A' (j * 8) c') (j * 8) (bcells (nums8 (streamNums k nonce j))) ∧ Below w.heap.size w wr)
    (fun v _ _ => n + 8 - lenV v)
  case atStart => exact ⟨0, _, _, by omega, rfl, rfl, hown0, hb1.alloc hb1.size _⟩
  case round =>
    obtain ⟨j, A', c', hj, rfl, rfl, hown, hb⟩ := hrel
    by_cases hlt : j * 8 < n
    · have hjn : j < nGroups n := by unfold nGroups; omega
      have HS := Lib.hid (streamNums_succ k nonce j)
      have hj9 : j ≤ 131072 := by unfold nGroups at hj; omega
      go_wp2_with fail
      refine (block_Mix _ _ _).mono ?_; rintro e w3 ⟨rfl, hb3⟩
      go_wp2_with fail
      refine (mac_one _ _ _ (Rd.new _ _ _)).mono ?_; rintro e w4 hp4
      obtain ⟨A4, c4, rfl, ho4, hb4⟩ := hp4.at_ (n := 8) (numB_length _ _)
      have hb34 : Below w3.heap.size w3 w4 := ((Below.refl _ _).alloc (Nat.le_refl _) _).trans (hb4.mono (by simp))
      have hown4 := own_to (own_to hown hb3) hb34
      have hb14 := (hb.trans (hb3.mono hb.size)).trans (hb34.mono (Nat.le_trans hb.size hb3.size))
      have hr4 : RdB w4 A4 _ := Rd.of_own ho4
      go_wp2_with (at_builtin; refine wpList_append_rd _ rfl _ _ 36 rfl w.heap.size 5 i0 _ 1 1 Try.underlying36 hi0 hz0 hz1 hz2 rfl (by omega) _ _ _ rfl hown4 A4 8 c4 _ rfl hr4 (by rw [bcells_length, numB_length]) (bcells_one _) (by simp only [maxLen]; omega) (by omega) hb14.size ?_; intro A5 c5 w5 hown5 hb5 _)
      go_roundw
      case rel => exact ⟨j + 1, A5, c5, by omega, congrArg (Value.int .u64) (congrArg W64 (BitVec.ofNat_add j 1).symm), by congr 1; omega, by rw [HS.out, nums8_snoc, bcells_append, show (j + 1) * 8 = j * 8 + 8 by omega]; exact hown5, hb14.trans hb5⟩
      case measure => simp [lenV]; omega
    · have hjn : j = nGroups n := by unfold nGroups at hj ⊢; omega
      have hcn := (own_cap hown).1
      have hnc : n ≤ c' := by omega
      have HJ := Lib.hid hjn
      clear hjn
      go_wp2
      go_ret
      refine ⟨A', n, by rw [stream_length]; rfl, ?_, by rw [stream_length]; exact Nat.le_refl _, hb⟩
      unfold stream
      rw [← HJ.out]
      exact RdB.take (Rd.of_own hown) n
theorem put_one (b : Nat) (n : Nat) (x : BitVec 64) (w : World) (hr : Rd w (some ⟨b, 0, none⟩) [.int .i64 (n : Int), .int .u64 (W64 x)]) (hf : fits (n, x)) : Calls Try.prog 61 #[.slice (some ⟨b, 0, none⟩) 1 1] w (RetPut w (numB n x)) := by
  have := octets_Put (some ⟨b, 0, none⟩) 1 [(n, x)] w hr (fun f h => by
    rw [List.mem_singleton] at h
    subst h
    exact hf) (by simp)
  have e : putB [(n, x)] = numB n x := by simp [putB]
  rwa [e] at this
theorem RetPut.at_ {w : World} {bs : List (BitVec 8)} {e : Ending} {w' : World} {n : Nat} (h : RetPut w bs e w') (hn : bs.length = n) :
    ∃ (A : Option Addr) (c : Nat), e = .returned (.tuple #[.slice A n c, .int .i64 0]) ∧ w'.ownsRow w.heap.size 5 1 (.slice A n c) n (bcells bs) ∧ Below w.heap.size w w' := by
  subst hn
  exact h
theorem fits4 (n : Nat) : fits (4, (BitVec.ofNat 32 n).setWidth 64) := by
  refine ⟨by show 1 ≤ 4; omega, by show 4 ≤ 8; omega, fun _ => ?_⟩
  apply BitVec.eq_of_toNat_eq
  have := (BitVec.ofNat 32 n).isLt
  simp only [BitVec.toNat_ushiftRight, BitVec.toNat_setWidth, Nat.shiftRight_eq_div_pow]
  have e : (8 * (4, (BitVec.ofNat 32 n).setWidth 64).1) = 32 := rfl
  rw [e]
  have : (BitVec.ofNat 32 n).toNat % 2 ^ 64 / 2 ^ 32 = 0 := by omega
  rw [this]
  rfl
theorem numB_take (n m : Nat) (x : BitVec 64) (h : m ≤ n) : (numB n x).take m = numB m x := by
  unfold numB
  rw [← List.map_take, List.take_range, Nat.min_eq_left h]
theorem mac_tail (k nonce : BitVec 64) (A B : Option Addr) (c d : Nat) (header cs : List (BitVec 8)) (w : World) (hra : RdB w A header) (hrb : RdB w B cs) (hla : header.length ≤ 65536) (hlb : cs.length ≤ 65536) :
    Calls Try.prog 64 #[.int .u64 (W64 k), .int .u64 (W64 nonce), .slice A header.length c, .slice B cs.length d] w (RetR w (tailB k nonce header cs)) := by
  have hf := Lib.hid (fits4 header.length)
  have hlen : (tagInput nonce header cs).length ≤ 1048576 := by rw [tagInput_length]; omega
  have hw0 : Below w.heap.size w (w.alloc (.cells #[.int .i64 4, .int .u64 (W64 ((BitVec.ofNat 32 header.length).setWidth 64))] 86)) := (Below.refl _ _).alloc (Nat.le_refl _) _
  go_enter Try.func64, Try.ntmps64
  go_wp2_with fail
  refine (put_one _ 4 _ _ (Rd.new _ _ _) hf.out).mono ?_; rintro e w1 hp1
  obtain ⟨A1, c1, rfl, ho1, hb1⟩ := hp1.at_ (n := 4) (numB_length _ _)
  have hb01 := hw0.trans (hb1.mono hw0.size)
  go_wp2_with fail
  refine (mac_one _ _ _ (Rd.new _ _ _)).mono ?_; rintro e w2 hp2
  obtain ⟨A2, c2, rfl, ho2, hb2⟩ := hp2.at_ (n := 8) (numB_length _ _)
  have hb12 : Below w1.heap.size w1 w2 := ((Below.refl _ _).alloc (Nat.le_refl _) _).trans (hb2.mono (by simp))
  have hb02 := hb01.trans (hb12.mono hb01.size)
  have HJ := fun t => Lib.hid (join_row w2 #[.slice A2 8 c2, .slice A1 4 c1, .slice A header.length c, .slice B cs.length d] t [(A2, c2, numB 8 nonce), (A1, c1, numB 4 ((BitVec.ofNat 32 header.length).setWidth 64)), (A, c, header), (B, d, cs)] 4 (tagInput nonce header cs)
    (by simp [pcells, numB_length]) rfl (by simp [tagInput]) (fun p hp => by
      simp only [List.mem_cons, List.not_mem_nil, or_false] at hp
      rcases hp with rfl | rfl | rfl | rfl
      · exact Rd.of_own ho2
      · exact (show RdB w1 A1 _ from Rd.of_own ho1).to hb12
      · exact hra.to hb02
      · exact hrb.to hb02) hlen (by omega))
  go_wp2_with fail
  refine (HJ _).out.mono ?_; rintro e w3 ⟨A3, c3, rfl, ho3, hb3⟩
  have hb03 := hb02.trans (hb3.mono hb02.size)
  go_wp2_with fail
  refine (mac_Tag k A3 c3 _ w3 (Rd.of_own ho3) hlen (own_cap ho3).1).mono ?_; rintro e w4 ⟨rfl, hb4⟩
  have hb04 := hb03.trans (hb4.mono hb03.size)
  go_wp2_with fail
  refine (mac_one _ _ _ (Rd.new _ _ _)).mono ?_; rintro e w5 hp5
  obtain ⟨A5, c5, rfl, ho5, hb5⟩ := hp5.at_ (n := 8) (numB_length _ _)
  have hb45 : Below w4.heap.size w4 w5 := ((Below.refl _ _).alloc (Nat.le_refl _) _).trans (hb5.mono (by simp))
  have hc5 : 4 ≤ c5 := by have := (own_cap ho5).1; omega
  go_wp2
  go_ret
  unfold RetR
  rw [tailB_length]
  refine ⟨A5, c5, rfl, ?_, hc5, hb04.trans (hb45.mono hb04.size)⟩
  unfold tailB
  rw [← numB_take 8 4 _ (by omega)]
  exact RdB.take (Rd.of_own ho5) 4
theorem mac_Seal (k nonce : BitVec 64) (A B : Option Addr) (c d : Nat) (header plain : List (BitVec 8)) (w : World) (hra : RdB w A header) (hrb : RdB w B plain) (hla : header.length ≤ 65536) (hlb : plain.length ≤ 65536) :
    Calls Try.prog 45 #[.int .u64 (W64 k), .int .u64 (W64 nonce), .slice A header.length c, .slice B plain.length d] w (RetB w (sealB k nonce header plain)) := by
  have hcl := crypt_length k nonce plain
  have hlen : (sealB k nonce header plain).length ≤ 1048576 := by rw [sealB_length]; omega
  go_enter Try.func45, Try.ntmps45
  go_wp2_with fail
  refine (mac_stream _ _ _ _ (by omega)).mono ?_; rintro e w1 ⟨A1, c1, rfl, hr1, hc1, hb1⟩
  go_wp2_with fail
  refine (octets_Xor _ _ _ _ _ _ _ (hrb.to hb1) hr1 (by omega)).mono ?_; rintro e w2 hp
  obtain ⟨A2, c2, rfl, ho2, hb2⟩ := RetB.at_ (bs := crypt k nonce plain) hp hcl
  have h12 := hb1.trans (hb2.mono hb1.size)
  have hx : RdB w2 A2 (crypt k nonce plain) := Rd.of_own ho2
  have hend := mac_tail k nonce A A2 c c2 header _ w2 (hra.to h12) hx hla (by omega)
  rw [hcl] at hend
  have HE := Lib.hid hend
  have HCL := Lib.hid hcl
  clear hend hcl
  go_wp2_with fail
  refine HE.out.mono ?_; rintro e w3 hp
  obtain ⟨A3, c3, rfl, hr3, hc3, hb3⟩ := hp.at_ (n := 4) (tailB_length _ _ _ _)
  have h13 := h12.trans (hb3.mono h12.size)
  have HJ := fun t => Lib.hid (join_row w3 #[.slice A2 plain.length c2, .slice A3 4 c3] t [(A2, c2, crypt k nonce plain), (A3, c3, tailB k nonce header (crypt k nonce plain))] 2 (sealB k nonce header plain)
    (by simp [pcells, HCL.out, tailB_length]) rfl (by simp [sealB]) (fun p hp => by
      simp only [List.mem_cons, List.not_mem_nil, or_false] at hp
      rcases hp with rfl | rfl
      · exact hx.to hb3
      · exact hr3) hlen (by omega))
  go_wp2_with fail
  refine (HJ _).out.mono ?_; rintro e w4 ⟨A4, c4, rfl, ho4, hb4⟩
  go_wp2
  go_ret
  exact ⟨A4, c4, rfl, own_mono ho4 h13.size, h13.trans (hb4.mono h13.size)⟩
end Go.Proofs.Ytbkaeoaepmeceaa
