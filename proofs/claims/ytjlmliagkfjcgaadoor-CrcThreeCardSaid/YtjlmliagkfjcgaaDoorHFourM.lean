import Derived.Test.YtjlmliagkfjcgaaDoorHFour
import Derived.Test.YtjlmliagkfjcgaaDoorHLebP
namespace Go.Proofs.YtjlmliagkfjcgaaDoor.Hand
set_option linter.unusedVariables false
set_option linter.unusedSimpArgs false

/-- The state behind some words. -/
def crcX (s : B32) : List B32 → B32
  | [] => s
  | x :: l => crcX (bit8 (s ^^^ x)) l
theorem crcAdd_X (s : B32) (l : List Int) : crcAdd s l = crcX s (l.map (BitVec.ofInt 32)) := by
  induction l generalizing s with
  | nil => rfl
  | cons x l ih => exact ih _
theorem crcX_xor (s t : B32) : ∀ (x y : List B32), x.length = y.length → crcX s x ^^^ crcX t y = crcX (s ^^^ t) (List.zipWith (· ^^^ ·) x y)
  | [], [], _ => rfl
  | a :: x, b :: y, h => by
    show crcX _ x ^^^ crcX _ y = crcX _ (List.zipWith (· ^^^ ·) x y)
    rw [crcX_xor _ _ x y (by simpa using h), ← bit8_xor, xor4]
  | [], _ :: _, h => by simp at h
  | _ :: _, [], h => by simp at h
theorem bit8_inj {a b : B32} (h : bit8 a = bit8 b) : a = b := by
  have h1 : bit8 (a ^^^ b) = 0#32 := by rw [bit8_xor, h, BitVec.xor_self]
  have h2 := bit8_inj0 _ h1
  have h3 : a ^^^ b ^^^ b = 0#32 ^^^ b := by rw [h2]
  rwa [BitVec.xor_assoc, BitVec.xor_self, BitVec.xor_zero, BitVec.zero_xor] at h3
def Bn (n : Nat) (p : B32) : Prop := ∀ i, n ≤ i → p.getLsbD i = false
theorem Bn.shl {n : Nat} {p : B32} (h : Bn n p) : Bn (n + 8) (p <<< 8) := fun i hi => by
  rw [BitVec.getLsbD_shiftLeft, h (i - 8) (by omega), Bool.and_false]
theorem Bn.mono {n m : Nat} {p : B32} (h : Bn n p) (hm : n ≤ m) : Bn m p := fun i hi => h i (by omega)
theorem Bn.xor {n : Nat} {p q : B32} (h : Bn n p) (k : Bn n q) : Bn n (p ^^^ q) := fun i hi => by rw [BitVec.getLsbD_xor, h i hi, k i hi]; rfl
theorem shl_low {v : B32} {i : Nat} (h : i < 8) : (v <<< 8).getLsbD i = false := by
  rw [BitVec.getLsbD_shiftLeft, decide_eq_true h, Bool.not_true, Bool.and_false, Bool.false_and]
theorem shl_high {v : B32} {i : Nat} (h : i < 24) : (v <<< 8).getLsbD (i + 8) = v.getLsbD i := by
  rw [BitVec.getLsbD_shiftLeft, decide_eq_true (show i + 8 < 32 by omega), decide_eq_false (show ¬ i + 8 < 8 by omega)]
  simp
theorem shl_split {p v : B32} (hp : Bn 8 p) (hv : Bn 24 v) (h : p = v <<< 8) : p = 0#32 ∧ v = 0#32 := by
  constructor
  · apply BitVec.eq_of_getLsbD_eq
    intro i hi
    rw [BitVec.getLsbD_zero]
    by_cases h8 : i < 8
    · rw [h, shl_low h8]
    · exact hp i (by omega)
  · apply BitVec.eq_of_getLsbD_eq
    intro i hi
    rw [BitVec.getLsbD_zero]
    by_cases h8 : i < 24
    · rw [← shl_high h8, ← h]; exact hp _ (by omega)
    · exact hv i (by omega)
theorem bit8_shl {v : B32} (hv : Bn 24 v) : bit8 (v <<< 8) = v := by
  unfold bit8
  rw [bit4_high (v <<< 8) ⟨shl_low (by omega), shl_low (by omega), shl_low (by omega), shl_low (by omega)⟩, bit4_high]
  · apply BitVec.eq_of_getLsbD_eq
    intro i hi
    rw [BitVec.getLsbD_ushiftRight, BitVec.getLsbD_ushiftRight]
    by_cases h8 : i < 24
    · rw [show 4 + (4 + i) = i + 8 by omega, shl_high h8]
    · rw [hv i (by omega), BitVec.getLsbD_of_ge _ _ (by omega)]
  · refine ⟨?_, ?_, ?_, ?_⟩ <;> (rw [BitVec.getLsbD_ushiftRight]; exact shl_low (by omega))
theorem xor_eq0 {a b : B32} (h : a ^^^ b = 0#32) : a = b := by
  have h3 : a ^^^ b ^^^ b = 0#32 ^^^ b := by rw [h]
  rwa [BitVec.xor_assoc, BitVec.xor_self, BitVec.xor_zero, BitVec.zero_xor] at h3
theorem xor_move {a b c : B32} (h : a ^^^ b = c) : a = b ^^^ c := by
  rw [← h, BitVec.xor_comm a b, ← BitVec.xor_assoc, BitVec.xor_self, BitVec.zero_xor]
theorem crc_four_zero {a b c e : B32} (ha : Bn 8 a) (hb : Bn 8 b) (hc : Bn 8 c) (he : Bn 8 e) (h : bit8 (bit8 (bit8 (bit8 a ^^^ b) ^^^ c) ^^^ e) = 0#32) : a = 0#32 ∧ b = 0#32 ∧ c = 0#32 ∧ e = 0#32 := by
  have h1 : bit8 (bit8 (bit8 a ^^^ b) ^^^ c) = bit8 (e <<< 8) := by rw [bit8_shl (he.mono (by omega))]; exact xor_eq0 (bit8_inj0 _ h)
  have h2 : bit8 (bit8 a ^^^ b) = c ^^^ e <<< 8 := xor_move (bit8_inj h1)
  have b2 : Bn 16 (c ^^^ e <<< 8) := (hc.mono (by omega)).xor he.shl
  have h3 : bit8 (bit8 a ^^^ b) = bit8 ((c ^^^ e <<< 8) <<< 8) := by rw [bit8_shl (b2.mono (by omega))]; exact h2
  have h4 : bit8 a = b ^^^ (c ^^^ e <<< 8) <<< 8 := xor_move (bit8_inj h3)
  have b4 : Bn 24 (b ^^^ (c ^^^ e <<< 8) <<< 8) := (hb.mono (by omega)).xor b2.shl
  have h5 : a = (b ^^^ (c ^^^ e <<< 8) <<< 8) <<< 8 := bit8_inj (by rw [bit8_shl b4]; exact h4)
  obtain ⟨q1, q2⟩ := shl_split ha b4 h5
  obtain ⟨q3, q4⟩ := shl_split hb (b2.mono (by omega)) (xor_eq0 q2)
  obtain ⟨q5, q6⟩ := shl_split hc (he.mono (by omega)) (xor_eq0 q4)
  exact ⟨q1, q3, q5, q6⟩
theorem crcX_zeros {z : B32} : ∀ (l : List B32), (∀ x ∈ l, x = 0#32) → crcX z l = 0#32 → z = 0#32
  | [], _, h => h
  | x :: l, hx, h => by
    have h1 := crcX_zeros l (fun y hy => hx y (List.mem_cons_of_mem _ hy)) h
    rw [hx x List.mem_cons_self, BitVec.xor_zero] at h1
    exact bit8_inj0 _ h1
theorem crcX_win0 : ∀ (d : List B32), (∀ x ∈ d, Bn 8 x) → (∀ x ∈ d.drop 4, x = 0#32) → crcX 0#32 d = 0#32 → ∀ x ∈ d, x = 0#32
  | [], _, _, _ => by simp
  | [a], hb, _, h => by
    have h : bit8 (0#32 ^^^ a) = 0#32 := h
    rw [BitVec.zero_xor] at h
    simpa using bit8_inj0 _ h
  | [a, b], hb, _, h => by
    have h : bit8 (bit8 (0#32 ^^^ a) ^^^ b) = 0#32 := h
    rw [BitVec.zero_xor] at h
    have z : Bn 8 0#32 := fun i _ => BitVec.getLsbD_zero
    obtain ⟨q1, q2, _⟩ := crc_four_zero (hb a (by simp)) (hb b (by simp)) z z (by rw [h]; decide)
    simp [q1, q2]
  | [a, b, c], hb, _, h => by
    have h : bit8 (bit8 (bit8 (0#32 ^^^ a) ^^^ b) ^^^ c) = 0#32 := h
    rw [BitVec.zero_xor] at h
    have z : Bn 8 0#32 := fun i _ => BitVec.getLsbD_zero
    obtain ⟨q1, q2, q3, _⟩ := crc_four_zero (hb a (by simp)) (hb b (by simp)) (hb c (by simp)) z (by rw [h]; decide)
    simp [q1, q2, q3]
  | a :: b :: c :: e :: r, hb, hz, h => by
    have h : crcX (bit8 (bit8 (bit8 (bit8 (0#32 ^^^ a) ^^^ b) ^^^ c) ^^^ e)) r = 0#32 := h
    rw [BitVec.zero_xor] at h
    have hz : ∀ x ∈ r, x = 0#32 := by simpa using hz
    obtain ⟨q1, q2, q3, q4⟩ := crc_four_zero (hb a (by simp)) (hb b (by simp)) (hb c (by simp)) (hb e (by simp)) (crcX_zeros r hz h)
    intro x hx
    simp only [List.mem_cons] at hx
    rcases hx with rfl | rfl | rfl | rfl | hx
    · exact q1
    · exact q2
    · exact q3
    · exact q4
    · exact hz x hx
theorem crcX_win : ∀ (n : Nat) (d : List B32), (∀ x ∈ d, Bn 8 x) → (∀ x ∈ d.take n, x = 0#32) → (∀ x ∈ d.drop (n + 4), x = 0#32) → crcX 0#32 d = 0#32 → ∀ x ∈ d, x = 0#32
  | 0, d, hb, _, hz, h => crcX_win0 d hb (by simpa using hz) h
  | n + 1, [], _, _, _, _ => by simp
  | n + 1, y :: d, hb, h0, hz, h => by
    have hy : y = 0#32 := h0 y (by simp)
    subst hy
    have h : crcX (bit8 (0#32 ^^^ 0#32)) d = 0#32 := h
    rw [BitVec.xor_self, bit8_zero] at h
    have := crcX_win n d (fun x hx => hb x (List.mem_cons_of_mem _ hx)) (fun x hx => h0 x (by simp [hx])) (fun x hx => hz x (by rw [show n + 1 + 4 = (n + 4) + 1 by omega]; simpa using hx)) h
    intro x hx
    rcases List.mem_cons.1 hx with rfl | hx
    · rfl
    · exact this x hx
end Go.Proofs.YtjlmliagkfjcgaaDoor.Hand
