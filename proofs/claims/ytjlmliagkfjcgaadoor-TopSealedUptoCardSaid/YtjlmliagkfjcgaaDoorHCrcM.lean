import Derived.Test.YtjlmliagkfjcgaaDoorHLebP
namespace Go.Proofs.YtjlmliagkfjcgaaDoor.Hand
open Go.RowKit Go.Proofs.YtjlmliagkfjcgaaDoorW.PrintWords Go.Proofs.YtjlmliagkfjcgaaDoorW.PrintLast Go.Proofs.YtjlmliagkfjcgaaDoorW.PrintMore
set_option linter.unusedVariables false
set_option linter.unusedSimpArgs false

/-! ### The sum's plain mathematics: one bit, four bits, a byte -/
abbrev B32 := BitVec 32
def bit1 (s : B32) : B32 := (s >>> 1) ^^^ (if s.getLsbD 0 = true then 0xEDB88320#32 else 0#32)
def bit4 (s : B32) : B32 := bit1 (bit1 (bit1 (bit1 s)))
def bit8 (s : B32) : B32 := bit4 (bit4 s)
theorem xor4 (a b c d : B32) : (a ^^^ b) ^^^ (c ^^^ d) = (a ^^^ c) ^^^ (b ^^^ d) := by
  rw [BitVec.xor_assoc, BitVec.xor_assoc]
  congr 1
  rw [← BitVec.xor_assoc, ← BitVec.xor_assoc, BitVec.xor_comm b c]
theorem bit1_xor (a b : B32) : bit1 (a ^^^ b) = bit1 a ^^^ bit1 b := by
  unfold bit1
  rw [BitVec.ushiftRight_xor_distrib, xor4]
  congr 1
  rw [BitVec.getLsbD_xor]
  cases a.getLsbD 0 <;> cases b.getLsbD 0 <;> simp
theorem bit4_xor (a b : B32) : bit4 (a ^^^ b) = bit4 a ^^^ bit4 b := by unfold bit4; simp only [bit1_xor]
theorem bit8_xor (a b : B32) : bit8 (a ^^^ b) = bit8 a ^^^ bit8 b := by unfold bit8; simp only [bit4_xor]
theorem bit1_zero : bit1 0#32 = 0#32 := by decide
theorem bit8_zero : bit8 0#32 = 0#32 := by decide
theorem bit1_even (s : B32) (h : s.getLsbD 0 = false) : bit1 s = s >>> 1 := by
  unfold bit1
  rw [h]
  simp
/-- Where the lowest four bits are none, four steps only shift. -/
theorem bit4_high (s : B32) (h : s.getLsbD 0 = false ∧ s.getLsbD 1 = false ∧ s.getLsbD 2 = false ∧ s.getLsbD 3 = false) : bit4 s = s >>> 4 := by
  obtain ⟨h0, h1, h2, h3⟩ := h
  unfold bit4
  rw [bit1_even s h0, bit1_even (s >>> 1) (by simpa using h1), bit1_even (s >>> 1 >>> 1) (by simpa using h2), bit1_even (s >>> 1 >>> 1 >>> 1) (by simpa using h3)]
  rw [← BitVec.shiftRight_add, ← BitVec.shiftRight_add, ← BitVec.shiftRight_add]
theorem bit4_split (s : B32) : bit4 s = (s >>> 4) ^^^ bit4 (s &&& 15#32) := by
  have e : s = (s &&& ~~~15#32) ^^^ (s &&& 15#32) := by
    apply BitVec.eq_of_getLsbD_eq
    intro i hi
    simp only [BitVec.getLsbD_xor, BitVec.getLsbD_and, BitVec.getLsbD_not]
    cases s.getLsbD i <;> cases (15#32).getLsbD i <;> simp [hi]
  conv => lhs; rw [e]
  rw [bit4_xor]
  congr 1
  rw [bit4_high _ (by simp only [BitVec.getLsbD_and, BitVec.getLsbD_not]; refine ⟨?_, ?_, ?_, ?_⟩ <;> simp)]
  apply BitVec.eq_of_getLsbD_eq
  intro i hi
  simp only [BitVec.getLsbD_ushiftRight, BitVec.getLsbD_and, BitVec.getLsbD_not]
  by_cases h : 4 + i < 32
  · have : (15#32).getLsbD (4 + i) = false := by
      have : ∀ j : Fin 28, (15#32).getLsbD (4 + j.val) = false := by decide
      exact this ⟨i, by omega⟩
    have this2 : (15#32)[4 + i] = false := by rw [← BitVec.getLsbD_eq_getElem h]; exact this
    simp [this, this2, h]
  · rw [BitVec.getLsbD_of_ge _ _ (by omega)]
    simp
/-- One bit's step goes from no two states to one. -/
theorem bit1_inj0 (s : B32) (h : bit1 s = 0#32) : s = 0#32 := by
  unfold bit1 at h
  cases hb : s.getLsbD 0 with
  | true =>
    rw [hb] at h
    simp only [if_true] at h
    have h2 : (s >>> 1) = 0xEDB88320#32 := BitVec.xor_eq_zero_iff.1 h
    have h3 := congrArg (fun x : B32 => x.getLsbD 31) h2
    simp [BitVec.getLsbD_of_ge] at h3
  | false =>
    rw [hb] at h
    simp only [Bool.false_eq_true, if_false, BitVec.xor_zero] at h
    apply BitVec.eq_of_getLsbD_eq
    intro i hi
    rw [BitVec.getLsbD_zero]
    rcases Nat.eq_zero_or_pos i with rfl | hp
    · exact hb
    · have h3 := congrArg (fun x : B32 => x.getLsbD (i - 1)) h
      simp only [BitVec.getLsbD_ushiftRight, BitVec.getLsbD_zero] at h3
      rwa [show 1 + (i - 1) = i from by omega] at h3
theorem bit8_inj0 (s : B32) (h : bit8 s = 0#32) : s = 0#32 := by
  unfold bit8 bit4 at h
  exact bit1_inj0 _ (bit1_inj0 _ (bit1_inj0 _ (bit1_inj0 _ (bit1_inj0 _ (bit1_inj0 _ (bit1_inj0 _ (bit1_inj0 _ h)))))))

/-- The state behind some more bytes. -/
def crcAdd (s : B32) : List Int → B32
  | [] => s
  | x :: l => crcAdd (bit8 (s ^^^ BitVec.ofInt 32 x)) l
theorem crcAdd_append (s : B32) (a b : List Int) : crcAdd s (a ++ b) = crcAdd (crcAdd s a) b := by
  induction a generalizing s with
  | nil => rfl
  | cons x a ih => simp only [List.cons_append, crcAdd]; exact ih _
def crcSum (l : List Int) : Int := ((~~~ crcAdd (BitVec.allOnes 32) l).toNat : Int)
def crcFour : List Int := [0, 498536548, 997073096, 651767980, 1994146192, 1802195444, 1303535960, 1342533948, 3988292384, 4027552580, 3604390888, 3412177804, 2607071920, 2262029012, 2685067896, 3183342108]
theorem crcFour_eq : ∀ i : Fin 16, BitVec.ofInt 32 (crcFour.getD i.val 0) = bit4 (BitVec.ofNat 32 i.val) := by decide +kernel
end Go.Proofs.YtjlmliagkfjcgaaDoor.Hand
