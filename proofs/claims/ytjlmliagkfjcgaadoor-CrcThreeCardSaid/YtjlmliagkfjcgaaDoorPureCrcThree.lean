/- The sum of three lists, turned by one another, is three sums, turned by one another. -/
import Derived.Test.YtjlmliagkfjcgaaDoorPCrcThreex2
import Derived.Test.YtjlmliagkfjcgaaDoorHFourP
namespace Go.Proofs.YtjlmliagkfjcgaaDoor.Pure
open Go.RowKit Go.Proofs.YtjlmliagkfjcgaaDoor.Hand Go.Proofs.YtjlmliagkfjcgaaDoor.PCrcThree Go.Proofs.YtjlmliagkfjcgaaDoorW.PrintWords Go.Proofs.YtjlmliagkfjcgaaDoorW.PrintLast
def threeX (l0 l1 l2 : List Int) (n : Nat) : List Int := (List.range n).map fun j => Go.bits .xor .u8 (Go.bits .xor .u8 (l0.getD j 0) (l1.getD j 0)) (l2.getD j 0)
theorem threeX_succ (l0 l1 l2 : List Int) (i : Nat) : threeX l0 l1 l2 (i + 1) = threeX l0 l1 l2 i ++ [Go.bits .xor .u8 (Go.bits .xor .u8 (l0.getD i 0) (l1.getD i 0)) (l2.getD i 0)] := by
  unfold threeX
  rw [List.range_succ, List.map_append]
  rfl
theorem threeX_length (l0 l1 l2 : List Int) (i : Nat) : (threeX l0 l1 l2 i).length = i := by simp [threeX]
theorem take_map32 (l : List Int) (n : Nat) (h : n ≤ l.length) : (l.take n).map (BitVec.ofInt 32) = (List.range n).map fun j => BitVec.ofInt 32 (l.getD j 0) := by
  apply List.ext_getElem
  · simp; omega
  · intro j h1 h2
    have hj : j < n := by simpa using h2
    rw [List.getElem_map, List.getElem_take, List.getElem_map, List.getElem_range, List.getD_eq_getElem?_getD, List.getElem?_eq_getElem (by omega)]
    rfl
theorem zip_map32 (f g : Nat → B32) (n : Nat) : List.zipWith (· ^^^ ·) ((List.range n).map f) ((List.range n).map g) = (List.range n).map fun j => f j ^^^ g j := by
  apply List.ext_getElem
  · simp
  · intro j h1 h2
    simp
theorem three_add (l0 l1 l2 : List Int) (n : Nat) (h0 : n ≤ l0.length) (h1 : n ≤ l1.length) (h2 : n ≤ l2.length) (b0 : l0.all byteB = true) (b1 : l1.all byteB = true) (b2 : l2.all byteB = true) (s : B32) :
    crcAdd s (threeX l0 l1 l2 n) = crcAdd s (l0.take n) ^^^ crcAdd s (l1.take n) ^^^ crcAdd s (l2.take n) := by
  rw [crcAdd_X, crcAdd_X, crcAdd_X, crcAdd_X, take_map32 l0 n h0, take_map32 l1 n h1, take_map32 l2 n h2, crcX_xor _ _ _ _ (by simp), zip_map32, crcX_xor _ _ _ _ (by simp), zip_map32, BitVec.xor_self, BitVec.zero_xor]
  congr 1
  unfold threeX
  rw [List.map_map]
  apply List.map_congr_left
  intro j _
  show BitVec.ofInt 32 (Go.bits .xor .u8 (Go.bits .xor .u8 (l0.getD j 0) (l1.getD j 0)) (l2.getD j 0)) = _
  rw [u8_xor_32 (u8_xor_byte (getD_byte b0 j) (getD_byte b1 j)) (getD_byte b2 j), u8_xor_32 (getD_byte b0 j) (getD_byte b1 j)]
theorem three_bytes (l0 l1 l2 : List Int) (n : Nat) (b0 : l0.all byteB = true) (b1 : l1.all byteB = true) (b2 : l2.all byteB = true) : (threeX l0 l1 l2 n).all byteB = true := by
  rw [List.all_eq_true]
  intro x hx
  obtain ⟨j, _, rfl⟩ := List.mem_map.1 hx
  exact u8_xor_byte (u8_xor_byte (getD_byte b0 j) (getD_byte b1 j)) (getD_byte b2 j)
theorem three_sum (l0 l1 l2 : List Int) (n : Nat) (h0 : n ≤ l0.length) (h1 : n ≤ l1.length) (h2 : n ≤ l2.length) (b0 : l0.all byteB = true) (b1 : l1.all byteB = true) (b2 : l2.all byteB = true) :
    crcSum (threeX l0 l1 l2 n) = Go.bits .xor .u32 (Go.bits .xor .u32 (crcSum (l0.take n)) (crcSum (l1.take n))) (crcSum (l2.take n)) := by
  unfold crcSum
  rw [Hand.u32_xor, b32_of, Hand.u32_xor, b32_of, b32_of, b32_of, three_add l0 l1 l2 n h0 h1 h2 b0 b1 b2]
  congr 2
  generalize crcAdd (BitVec.allOnes 32) (l0.take n) = p
  generalize crcAdd (BitVec.allOnes 32) (l1.take n) = q
  generalize crcAdd (BitVec.allOnes 32) (l2.take n) = r
  apply BitVec.eq_of_getLsbD_eq
  intro i hi
  simp [hi]
theorem take_sum (l : List Int) (n : Nat) (b : l.all byteB = true) : crc_Sum.f (l.take n) = some (crcSum (l.take n)) := by
  unfold crc_Sum.f
  rw [if_pos (List.all_eq_true.2 (fun x hx => List.all_eq_true.1 b x (List.mem_of_mem_take hx)))]
theorem three_loop (l0 l1 l2 : List Int) (n : Nat) (h0 : n ≤ l0.length) (h1 : n ≤ l1.length) (h2 : n ≤ l2.length) (hm : n ≤ 140737488351232) (b0 : l0.all byteB = true) (b1 : l1.all byteB = true) (b2 : l2.all byteB = true) :
    ∀ (d i k : Nat), n - i = d → i ≤ n → d < k → secateurlaw02_CrcThree.l0 k l0 l1 l2 n (threeX l0 l1 l2 i) i = some true := by
  intro d
  induction d with
  | zero =>
    intro i k hd hi hk
    obtain ⟨k, rfl⟩ : ∃ m, k = m + 1 := ⟨k - 1, by omega⟩
    obtain rfl : i = n := by omega
    have e : crc_Sum.f (threeX l0 l1 l2 i) = some (crcSum (threeX l0 l1 l2 i)) := by unfold crc_Sum.f; rw [if_pos (three_bytes l0 l1 l2 i b0 b1 b2)]
    have e7 : secateurlaw02_live.f = some true := rfl
    rw [secateurlaw02_CrcThree.l0, if_neg (by omega), e7, Option.bind_some, if_pos rfl, e, Option.bind_some, if_pos (by omega), if_pos (by omega), Int.toNat_natCast, take_sum l0 i b0, Option.bind_some, if_pos (by omega), take_sum l1 i b1, Option.bind_some, if_pos (by omega), take_sum l2 i b2, Option.bind_some, three_sum l0 l1 l2 i h0 h1 h2 b0 b1 b2, beq_self_eq_true]
  | succ d ih =>
    intro i k hd hi hk
    obtain ⟨k, rfl⟩ : ∃ m, k = m + 1 := ⟨k - 1, by omega⟩
    rw [secateurlaw02_CrcThree.l0, if_pos (by omega), if_pos (by omega), if_pos (by omega), if_pos (by omega), if_pos (by omega), if_pos (by rw [threeX_length]; omega), rd_nat, rd_nat, rd_nat, w64 (by omega) (by omega), ← threeX_succ]
    have := ih (i + 1) k (by omega) (by omega) (by omega)
    push_cast at this
    exact this
theorem CrcThree : secateurlaw02_CrcThree.Pure := by
  intro l0 l1 l2 _ m0 hb0 _ m1 hb1 _ m2 hb2
  have b0 := bytes_wf hb0
  have b1 := bytes_wf hb1
  have b2 := bytes_wf hb2
  have key : ∀ n : Nat, n ≤ l0.length → n ≤ l1.length → n ≤ l2.length → secateurlaw02_CrcThree.j1 (n + 2) l0 l1 l2 n = some true := fun n h0 h1 h2 => by
    rw [secateurlaw02_CrcThree.j1]
    exact three_loop l0 l1 l2 n h0 h1 h2 (by omega) b0 b1 b2 n 0 (n + 1) rfl (by omega) (by omega)
  have key0 : ∀ n : Nat, n ≤ l0.length → n ≤ l1.length → ∃ k, secateurlaw02_CrcThree.j0 k l0 l1 l2 n = some true := fun n h0 h1 => by
    by_cases h : l2.length < n
    · refine ⟨l2.length + 3, ?_⟩
      rw [secateurlaw02_CrcThree.j0, if_pos (by omega)]
      exact key l2.length (by omega) (by omega) (by omega)
    · refine ⟨n + 3, ?_⟩
      rw [secateurlaw02_CrcThree.j0, if_neg (by omega)]
      exact key n h0 h1 (by omega)
  unfold secateurlaw02_CrcThree.f
  by_cases h : (l1.length : Int) < (l0.length : Int)
  · obtain ⟨k, hk⟩ := key0 l1.length (by omega) (by omega)
    exact ⟨k, by rw [if_pos h]; exact hk⟩
  · obtain ⟨k, hk⟩ := key0 l0.length (by omega) (by omega)
    exact ⟨k, by rw [if_neg h]; exact hk⟩
end Go.Proofs.YtjlmliagkfjcgaaDoor.Pure
