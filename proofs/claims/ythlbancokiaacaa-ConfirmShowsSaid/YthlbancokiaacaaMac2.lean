/- Contracts of the functions of layer 6 (mac): derived keys, streams, sealed bytes. -/
import Derived.Test.YthlbancokiaacaaMac
import Derived.Test.YthlbancokiaacaaRef2
import Derived.Test.YthlbancokiaacaaRet
import Derived.Laws.IdiomStrings
namespace Go.Proofs.Ythlbancokiaacaa
open Go.ChangeShapes Go.WideShapes Go.ChangeAt Go.RowKit
set_option linter.unusedVariables false

/-- The bytes of a string. -/
def sbytes (s : ByteArray) : List (BitVec 8) := s.data.toList.map (·.toBitVec)
theorem sbytes_length (s : ByteArray) : (sbytes s).length = s.size := by
  unfold sbytes
  rw [List.length_map, Array.length_toList]
  rfl
theorem row_cell (s : ByteArray) (cap j : Nat) (h : j < (sbytes s).length) : (bytesRow s cap)[j]? = some (.int .u8 (W8 (sbytes s)[j])) := by
  have h' : j < s.data.size := by rw [sbytes_length] at h; exact h
  unfold bytesRow
  rw [Array.getElem?_append_left (by simpa using h')]
  have e : (s.data.map (fun b => Value.int .u8 b.toNat))[j]? = some (.int .u8 (s.data[j].toNat : Int)) := by rw [Array.getElem?_map, Array.getElem?_eq_getElem h']; rfl
  rw [e]
  simp [sbytes, W8]
theorem row_size (s : ByteArray) (cap : Nat) (h : s.size ≤ cap) : (bytesRow s cap).size = cap := by
  unfold bytesRow
  rw [Array.size_append, Array.size_map, Array.size_replicate]
  show s.size + (cap - s.size) = cap
  omega
theorem rd_row (s : ByteArray) (cap : Nat) (w : World) (fz : Nat × Nat) (t : TypeId) : RdB (w.alloc (.cells (bytesRow s cap) t fz)) (some ⟨w.heap.size, 0, none⟩) (sbytes s) := fun j u hu => by
  have hj : j < (sbytes s).length := by
    rcases Nat.lt_or_ge j (sbytes s).length with h | h
    · exact h
    · rw [List.getElem?_eq_none (by rw [bcells_length]; exact h)] at hu; cases hu
  refine ⟨_, rfl, by simp, ?_⟩
  have e : (⟨w.heap.size, 0, none⟩ : Addr).add j = ⟨w.heap.size, j, none⟩ := by unfold Addr.add; split <;> simp_all
  rw [e, cell_of_row _ w.heap.size j _ t fz (heap_alloc_new w _), row_cell s cap j hj, ← hu]
  simp [bcells, hj]
theorem join_row (w : World) (vs : Array Value) (t : TypeId) (ps : List Part) (n : Nat) (bs : List (BitVec 8)) (hv : vs.toList = pcells ps) (hn : ps.length = n) (hbs : ps.flatMap (·.2.2) = bs)
    (hp : ∀ p ∈ ps, RdB w p.1 p.2.2) (hlen : bs.length ≤ 1048576) (hl : n ≤ 1048576) :
    Calls Try.prog 34 #[.slice (some ⟨w.heap.size, 0, none⟩) n n] (w.alloc (.cells vs t)) (RetB w bs) := by
  subst hn
  subst hbs
  refine (octets_Join (some ⟨w.heap.size, 0, none⟩) ps.length ps (w.alloc (.cells vs t)) (by rw [← hv]; exact Rd.new w vs t) (fun p h => (hp p h).to ((Below.refl _ _).alloc (Nat.le_refl _) _)) hlen hl).mono ?_
  rintro e w' ⟨A, c, rfl, ho, hb⟩
  exact ⟨A, c, rfl, own_mono ho (by simp), ((Below.refl w.heap.size w).alloc (Nat.le_refl _) _).trans (hb.mono (by simp))⟩
theorem mac_Derive (k : BitVec 64) (s : ByteArray) (A : Option Addr) (c : Nat) (xs : List (BitVec 64)) (w : World) (hr : RdU w A xs) (hl : xs.length ≤ 1024) (hs : s.size ≤ 65536) :
    Calls Try.prog 21 #[.int .u64 (W64 k), .string s, .slice A xs.length c] w fun e w' => e = .returned (.int .u64 (W64 (derive k (sbytes s) xs))) ∧ Below w.heap.size w w' := by
  have hcv := run_bytes_of_string (P := Try.prog) w 9 56 5 s Try.underlying9 Try.underlying56 Try.underlying5
  have hge := grownCap_ge w s.size 0 5
  have hrow := rd_row s (grownCap w s.size 0 5) w.drew ((bytesRow s (grownCap w s.size 0 5)).size, (bytesRow s (grownCap w s.size 0 5)).size + 1) 5
  have hB1 : Below w.heap.size w (w.drew.alloc (.cells (bytesRow s (grownCap w s.size 0 5)) 5 ((bytesRow s (grownCap w s.size 0 5)).size, (bytesRow s (grownCap w s.size 0 5)).size + 1))) := ((Below.refl _ w).drew).alloc (Nat.le_refl _) _
  generalize w.drew.alloc (.cells (bytesRow s (grownCap w s.size 0 5)) 5 ((bytesRow s (grownCap w s.size 0 5)).size, (bytesRow s (grownCap w s.size 0 5)).size + 1)) = w1 at *
  generalize grownCap w s.size 0 5 = cp at *
  have hsl := sbytes_length s
  have hdv : derive k (sbytes s) xs = tag k (sbytes s ++ [0#8] ++ nums8 xs) := rfl
  rw [hdv]
  clear hdv
  have hlen : (sbytes s ++ [0#8] ++ nums8 xs).length ≤ 1048576 := by simp only [List.length_append, sbytes_length, nums8_length, List.length_cons, List.length_nil]; omega
  have hflat : ∀ a b : Option Addr × Nat, ∀ c : Option Addr × Nat, List.flatMap (fun p : Part => p.2.2) [(a.1, a.2, sbytes s), (b.1, b.2, [0#8]), (c.1, c.2, nums8 xs)] = sbytes s ++ [0#8] ++ nums8 xs := fun a b c => by simp
  generalize sbytes s ++ [0#8] ++ nums8 xs = L at *
  obtain ⟨tg, htg⟩ : ∃ tg, tag k L = tg := ⟨_, rfl⟩
  rw [htg]
  have HG := Lib.hid htg
  clear htg
  go_enter Try.func21, Try.ntmps21
  go_wp2_with fail
  refine (mac_bytes _ _ _ _ ((hr.to hB1).to ((Below.refl _ _).alloc (Nat.le_refl _) _)) (by omega)).mono ?_; rintro e w3 ⟨A3, c3, rfl, ho3, hb3⟩
  have hb13 : Below w1.heap.size w1 w3 := ((Below.refl _ _).alloc (Nat.le_refl _) _).trans (hb3.mono (by simp))
  have hb03 := hB1.trans (hb13.mono hB1.size)
  have hz : RdB w3 (some ⟨w1.heap.size, 0, none⟩) [0#8] := Rd.to (Rd.new w1 #[.int .u8 0] 5) hb3
  have HJ := fun t => Lib.hid (join_row w3 #[.slice (some ⟨w.heap.size, 0, none⟩) s.size cp, .slice (some ⟨w1.heap.size, 0, none⟩) 1 1, .slice A3 (nums8 xs).length c3] t [(some ⟨w.heap.size, 0, none⟩, cp, sbytes s), (some ⟨w1.heap.size, 0, none⟩, 1, [0#8]), (A3, c3, nums8 xs)] 3 L
    (by simp [pcells, hsl]) rfl (hflat (_, _) (_, _) (_, _)) (fun p hp => by
      simp only [List.mem_cons, List.not_mem_nil, or_false] at hp
      rcases hp with rfl | rfl | rfl
      · exact hrow.to hb13
      · exact hz
      · exact Rd.of_own ho3) hlen (by omega))
  go_wp2_with fail
  refine (HJ _).out.mono ?_; rintro e w4 ⟨A4, c4, rfl, ho4, hb4⟩
  have hb04 := hb03.trans (hb4.mono hb03.size)
  go_wp2_with fail
  have ht := mac_Tag k A4 c4 L w4 (Rd.of_own ho4) hlen (own_cap ho4).1
  rw [HG.out] at ht
  refine ht.mono ?_; rintro e w5 ⟨rfl, hb5⟩
  go_wp2
  go_ret
  exact ⟨rfl, hb04.trans (hb5.mono hb04.size)⟩
theorem nums8_one (x : BitVec 64) : nums8 [x] = numB 8 x := by simp [nums8]
theorem mac_one (b : Nat) (x : BitVec 64) (w : World) (hr : RdU w (some ⟨b, 0, none⟩) [x]) : Calls Try.prog 35 #[.slice (some ⟨b, 0, none⟩) 1 1] w (RetB w (numB 8 x)) := by
  have := mac_bytes (some ⟨b, 0, none⟩) 1 [x] w hr (by simp)
  rwa [nums8_one] at this
theorem own_made (w : World) (n : Nat) (hn : n ≤ maxLen) : (w.alloc (.cells (madeCells #[Value.int .u8 0] n) 5)).ownsRow w.heap.size 5 1 (.slice (some ⟨w.heap.size, 0, none⟩) 0 n) 0 [] :=
  ⟨by simp, .inr ⟨w.heap.size, n, _, rfl, Nat.le_refl _, heap_alloc_new w _, Nat.zero_le _, hn, by simp [madeCells], by simp⟩⟩
def lenV : Value → Nat
  | .slice _ n _ => n
  | _ => 0
theorem put_one (b : Nat) (n : Nat) (x : BitVec 64) (w : World) (hr : Rd w (some ⟨b, 0, none⟩) [.int .i64 (n : Int), .int .u64 (W64 x)]) (hf : fits (n, x)) : Calls Try.prog 47 #[.slice (some ⟨b, 0, none⟩) 1 1] w (RetPut w (numB n x)) := by
  have := octets_Put (some ⟨b, 0, none⟩) 1 [(n, x)] w hr (fun f h => by
    rw [List.mem_singleton] at h
    subst h
    exact hf) (by simp)
  have e : putB [(n, x)] = numB n x := by simp [putB]
  rwa [e] at this
theorem RetPut.at_ {w : World} {bs : List (BitVec 8)} {e : Ending} {w' : World} {n : Nat} (h : RetPut w bs e w') (hn : bs.length = n) :
    ∃ (A : Option Addr) (c : Nat), e = .returned (.tuple #[.slice A n c, .int .i64 0]) ∧ w'.ownsRow w.heap.size 5 1 (.slice A n c) n (bcells bs) ∧ Below w.heap.size w w' := by
  subst hn
  exact h
theorem fits4 (n : Nat) : fits (4, (BitVec.ofNat 32 n).setWidth 64) := by
  refine ⟨by show 1 ≤ 4; omega, by show 4 ≤ 8; omega, fun _ => ?_⟩
  apply BitVec.eq_of_toNat_eq
  have := (BitVec.ofNat 32 n).isLt
  simp only [BitVec.toNat_ushiftRight, BitVec.toNat_setWidth, Nat.shiftRight_eq_div_pow]
  have e : (8 * (4, (BitVec.ofNat 32 n).setWidth 64).1) = 32 := rfl
  rw [e]
  have : (BitVec.ofNat 32 n).toNat % 2 ^ 64 / 2 ^ 32 = 0 := by omega
  rw [this]
  rfl
theorem numB_take (n m : Nat) (x : BitVec 64) (h : m ≤ n) : (numB n x).take m = numB m x := by
  unfold numB
  rw [← List.map_take, List.take_range, Nat.min_eq_left h]
end Go.Proofs.Ythlbancokiaacaa
