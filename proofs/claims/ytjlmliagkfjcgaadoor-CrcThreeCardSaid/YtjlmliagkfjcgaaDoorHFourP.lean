import Derived.Test.YtjlmliagkfjcgaaDoorHFourM
namespace Go.Proofs.YtjlmliagkfjcgaaDoor.Hand
open Go.RowKit Go.Proofs.YtjlmliagkfjcgaaDoorW.PrintWords Go.Proofs.YtjlmliagkfjcgaaDoorW.PrintLast
set_option linter.unusedVariables false
set_option linter.unusedSimpArgs false

theorem wu8 {x : Int} (h0 : 0 ≤ x) (h1 : x < 256) : IntKind.u8.wrap x = x := by
  simp [IntKind.wrap, IntKind.bits, IntKind.signed]
  omega
theorem toNat8 {a : Int} (h : byteB a = true) : (BitVec.ofInt 8 a).toNat = a.toNat := by
  have := byteB_iff.1 h
  rw [BitVec.toNat_ofInt]
  have : ((2 ^ 8 : Nat) : Int) = 256 := by decide
  rw [this]
  omega
theorem toNat32 {a : Int} (h : byteB a = true) : (BitVec.ofInt 32 a).toNat = a.toNat := by
  have := byteB_iff.1 h
  have h2 := toNat_of (a := a) (by omega) (by omega)
  omega
theorem u8_xor_val {a b : Int} (ha : byteB a = true) (hb : byteB b = true) : Go.bits .xor .u8 a b = ((a.toNat ^^^ b.toNat : Nat) : Int) ∧ a.toNat ^^^ b.toNat < 256 := by
  have e : (BitVec.ofInt 8 a ^^^ BitVec.ofInt 8 b).toNat = a.toNat ^^^ b.toNat := by rw [BitVec.toNat_xor, toNat8 ha, toNat8 hb]
  have hlt : (BitVec.ofInt 8 a ^^^ BitVec.ofInt 8 b).toNat < 256 := (BitVec.ofInt 8 a ^^^ BitVec.ofInt 8 b).isLt
  rw [e] at hlt
  refine ⟨?_, hlt⟩
  show IntKind.u8.wrap ((BitVec.ofInt 8 a ^^^ BitVec.ofInt 8 b).toNat : Int) = _
  rw [e]
  exact wu8 (by omega) (by omega)
theorem u8_xor_byte {a b : Int} (ha : byteB a = true) (hb : byteB b = true) : byteB (Go.bits .xor .u8 a b) = true := by
  obtain ⟨h, h2⟩ := u8_xor_val ha hb
  rw [h, byteB_iff]
  omega
theorem u8_xor_32 {a b : Int} (ha : byteB a = true) (hb : byteB b = true) : BitVec.ofInt 32 (Go.bits .xor .u8 a b) = BitVec.ofInt 32 a ^^^ BitVec.ofInt 32 b := by
  apply BitVec.eq_of_toNat_eq
  rw [toNat32 (u8_xor_byte ha hb), BitVec.toNat_xor, toNat32 ha, toNat32 hb, (u8_xor_val ha hb).1]
  omega
theorem Bn_byte {a : Int} (h : byteB a = true) : Bn 8 (BitVec.ofInt 32 a) := fun i hi => by
  have h1 := byteB_iff.1 h
  show (BitVec.ofInt 32 a).toNat.testBit i = false
  rw [toNat32 h]
  exact Nat.testBit_lt_two_pow (Nat.lt_of_lt_of_le (show a.toNat < 2 ^ 8 by omega) (Nat.pow_le_pow_right (by omega) hi))
/-- What is turned at a place, once the first i of four are. -/
def fourAt (k : Nat) (bs : List Int) (i j : Nat) : B32 := if k ≤ j ∧ j < k + i then BitVec.ofInt 32 (bs.getD (j - k) 0) else 0#32
theorem getD_byte {l : List Int} (h : l.all byteB = true) (j : Nat) : byteB (l.getD j 0) = true := by
  rw [List.getD_eq_getElem?_getD]
  cases hx : l[j]? with
  | none => decide
  | some x => exact List.all_eq_true.1 h x (List.mem_of_getElem? hx)
theorem fourRun_at (l : List Int) (k : Nat) (bs : List Int) (hl : l.all byteB = true) (hbs : bs.all byteB = true) (i : Nat) :
    (fourRun l k bs i).1.all byteB = true ∧ ∀ j, j < l.length → BitVec.ofInt 32 ((fourRun l k bs i).1.getD j 0) = BitVec.ofInt 32 (l.getD j 0) ^^^ fourAt k bs i j := by
  induction i with
  | zero => exact ⟨hl, fun j hj => by unfold fourAt; rw [if_neg (by omega), BitVec.xor_zero]; rfl⟩
  | succ i ih =>
    obtain ⟨ih1, ih2⟩ := ih
    have hlen := fourRun_length l k bs i
    rw [fourRun]
    obtain ⟨p, hp⟩ : ∃ p, p = fourRun l k bs i := ⟨_, rfl⟩
    rw [← hp] at ih1 ih2 hlen ⊢
    have hkn : ((k : Int) + (i : Int)).toNat = k + i := by omega
    rw [hkn]
    have hx := u8_xor_byte (getD_byte ih1 (k + i)) (getD_byte hbs i)
    by_cases hc : (k : Int) + (i : Int) < (p.1.length : Int) ∧ bs.getD i 0 ≠ 0
    · rw [if_pos hc]
      refine ⟨?_, fun j hj => ?_⟩
      · rw [List.all_eq_true]
        intro x hx2
        rcases List.mem_or_eq_of_mem_set hx2 with h | rfl
        · exact List.all_eq_true.1 ih1 x h
        · exact hx
      · show BitVec.ofInt 32 ((p.1.set (k + i) _).getD j 0) = _
        by_cases hj2 : j = k + i
        · subst hj2
          rw [show (p.1.set (k + i) (Go.bits .xor .u8 (p.1.getD (k + i) 0) (bs.getD i 0))).getD (k + i) 0 = Go.bits .xor .u8 (p.1.getD (k + i) 0) (bs.getD i 0) by
            rw [List.getD_eq_getElem?_getD, List.getElem?_set_self (by omega)]; rfl]
          rw [u8_xor_32 (getD_byte ih1 _) (getD_byte hbs _), ih2 _ hj]
          unfold fourAt
          rw [if_neg (by omega), if_pos (by omega), BitVec.xor_zero, show k + i - k = i by omega]
        · rw [show (p.1.set (k + i) (Go.bits .xor .u8 (p.1.getD (k + i) 0) (bs.getD i 0))).getD j 0 = p.1.getD j 0 by
            rw [List.getD_eq_getElem?_getD, List.getElem?_set_ne (fun h => hj2 h.symm), ← List.getD_eq_getElem?_getD]]
          rw [ih2 j hj]
          unfold fourAt
          refine congrArg (BitVec.ofInt 32 (l.getD j 0) ^^^ ·) ?_
          by_cases h : k ≤ j ∧ j < k + i
          · rw [if_pos h, if_pos (by omega)]
          · rw [if_neg h, if_neg (by omega)]
    · rw [if_neg hc]
      refine ⟨ih1, fun j hj => ?_⟩
      rw [ih2 j hj]
      refine congrArg (BitVec.ofInt 32 (l.getD j 0) ^^^ ·) ?_
      unfold fourAt
      by_cases h : k ≤ j ∧ j < k + i
      · rw [if_pos h, if_pos (by omega)]
      · rw [if_neg h]
        by_cases h2 : k ≤ j ∧ j < k + (i + 1)
        · rw [if_pos h2]
          obtain rfl : j = k + i := by omega
          have hz : bs.getD i 0 = 0 := by
            by_cases hz : bs.getD i 0 = 0
            · exact hz
            · exact absurd ⟨by omega, hz⟩ hc
          rw [show k + i - k = i by omega, hz]
          rfl
        · rw [if_neg h2]
theorem fourRun_turned (l : List Int) (k : Nat) (bs : List Int) (i : Nat) : (fourRun l k bs i).2 = true ↔ ∃ m, m < i ∧ k + m < l.length ∧ bs.getD m 0 ≠ 0 := by
  induction i with
  | zero => simp [fourRun]
  | succ i ih =>
    have hlen := fourRun_length l k bs i
    rw [fourRun]
    by_cases hc : (k : Int) + (i : Int) < ((fourRun l k bs i).1.length : Int) ∧ bs.getD i 0 ≠ 0
    · rw [if_pos hc]
      exact ⟨fun _ => ⟨i, by omega, by omega, hc.2⟩, fun _ => rfl⟩
    · rw [if_neg hc, ih]
      constructor
      · rintro ⟨m, h1, h2, h3⟩
        exact ⟨m, by omega, h2, h3⟩
      · rintro ⟨m, h1, h2, h3⟩
        by_cases hm : m = i
        · subst hm
          exact absurd ⟨by omega, h3⟩ hc
        · exact ⟨m, by omega, h2, h3⟩
theorem four_same (l : List Int) (k : Nat) (bs : List Int) (hl : l.all byteB = true) (hbs : bs.all byteB = true) : crcSum (fourRun l k bs 4).1 = crcSum l ↔ (fourRun l k bs 4).2 = false := by
  have hlen := fourRun_length l k bs 4
  obtain ⟨hb, hat⟩ := fourRun_at l k bs hl hbs 4
  have htu := fourRun_turned l k bs 4
  obtain ⟨x, hx⟩ : ∃ x, x = (fourRun l k bs 4).1 := ⟨_, rfl⟩
  obtain ⟨t, ht⟩ : ∃ t, t = (fourRun l k bs 4).2 := ⟨_, rfl⟩
  rw [← hx] at hlen hb hat ⊢
  rw [← ht] at htu ⊢
  clear hx ht
  have hd : List.zipWith (· ^^^ ·) (x.map (BitVec.ofInt 32)) (l.map (BitVec.ofInt 32)) = (List.range l.length).map (fourAt k bs 4) := by
    apply List.ext_getElem
    · simp [hlen]
    · intro j h1 h2
      have hj : j < l.length := by simpa using h2
      have := hat j hj
      rw [List.getD_eq_getElem?_getD, List.getD_eq_getElem?_getD, List.getElem?_eq_getElem (by omega), List.getElem?_eq_getElem hj] at this
      simp only [Option.getD_some] at this
      rw [List.getElem_zipWith, List.getElem_map, List.getElem_map, List.getElem_map, List.getElem_range, this, BitVec.xor_comm (BitVec.ofInt 32 l[j]), BitVec.xor_assoc, BitVec.xor_self, BitVec.xor_zero]
  have hD : crcAdd (BitVec.allOnes 32) x ^^^ crcAdd (BitVec.allOnes 32) l = crcX 0#32 ((List.range l.length).map (fourAt k bs 4)) := by
    rw [crcAdd_X, crcAdd_X, crcX_xor _ _ _ _ (by simp [hlen]), hd, BitVec.xor_self]
  have hs : crcSum x = crcSum l ↔ crcX 0#32 ((List.range l.length).map (fourAt k bs 4)) = 0#32 := by
    rw [← hD]
    unfold crcSum
    constructor
    · intro h
      have h1 : (~~~ crcAdd (BitVec.allOnes 32) x).toNat = (~~~ crcAdd (BitVec.allOnes 32) l).toNat := by omega
      have h2 := BitVec.eq_of_toNat_eq h1
      have h3 : crcAdd (BitVec.allOnes 32) x = crcAdd (BitVec.allOnes 32) l := by rw [← BitVec.not_not (b := crcAdd (BitVec.allOnes 32) x), h2, BitVec.not_not]
      rw [h3, BitVec.xor_self]
    · intro h
      rw [xor_eq0 h]
  rw [hs]
  constructor
  · intro h
    have hz := crcX_win k _ (by
      intro y hy
      obtain ⟨j, _, rfl⟩ := List.mem_map.1 hy
      unfold fourAt
      split
      · exact Bn_byte (getD_byte hbs _)
      · exact fun i _ => BitVec.getLsbD_zero) (by
      intro y hy
      rw [← List.map_take] at hy
      obtain ⟨j, hj, rfl⟩ := List.mem_map.1 hy
      rw [List.take_range, List.mem_range] at hj
      unfold fourAt
      rw [if_neg (by omega)]) (by
      intro y hy
      obtain ⟨q, hq, rfl⟩ := List.mem_iff_getElem.1 hy
      rw [List.getElem_drop, List.getElem_map, List.getElem_range]
      unfold fourAt
      rw [if_neg (by omega)]) h
    cases t with
    | false => rfl
    | true =>
      obtain ⟨m, h1, h2, h3⟩ := htu.1 rfl
      have := hz (fourAt k bs 4 (k + m)) (List.mem_map.2 ⟨k + m, List.mem_range.2 h2, rfl⟩)
      unfold fourAt at this
      rw [if_pos (by omega), show k + m - k = m by omega] at this
      have hm := getD_byte hbs m
      have h5 := toNat32 hm
      rw [this] at h5
      have h6 := byteB_iff.1 hm
      have h7 : (0#32).toNat = 0 := rfl
      omega
  · intro h
    have hz : ∀ y ∈ (List.range l.length).map (fourAt k bs 4), y = 0#32 := by
      intro y hy
      obtain ⟨j, hj, rfl⟩ := List.mem_map.1 hy
      unfold fourAt
      split
      · rename_i hw
        have : ¬ (bs.getD (j - k) 0 ≠ 0) := fun hne => by
          have := htu.2 ⟨j - k, by omega, by have := List.mem_range.1 hj; omega, hne⟩
          rw [h] at this
          cases this
        rw [show bs.getD (j - k) 0 = 0 from Classical.not_not.1 this]
        rfl
      · rfl
    generalize (List.range l.length).map (fourAt k bs 4) = d at hz
    induction d with
    | nil => rfl
    | cons y d ih =>
      show crcX (bit8 (0#32 ^^^ y)) d = 0#32
      rw [hz y List.mem_cons_self, BitVec.xor_self, bit8_zero]
      exact ih (fun z hzz => hz z (List.mem_cons_of_mem _ hzz))
end Go.Proofs.YtjlmliagkfjcgaaDoor.Hand
