import Derived.Test.YtcbakmojhicahaaHWordE
namespace Go.Proofs.Ytcbakmojhicahaa.Hand
open Go.RowKit Go.Proofs.YtcbakmojhicahaaW.PrintWords Go.Proofs.YtcbakmojhicahaaW.PrintLast Go.Proofs.YtcbakmojhicahaaW.PrintMore
set_option linter.unusedVariables false
set_option linter.unusedSimpArgs false

/-! ### slices.Reverse -/
theorem rd_append (A B : List Int) (x : Int) : rd (A ++ x :: B) (A.length : Int) = x := by simp [rd]
theorem rev_loop : ∀ (n : Nat) (M A B : List Int) (k : Nat), M.length ≤ n → A.length = B.length → (A ++ M ++ B).length ≤ 9223372036854775807 → n < k →
    Q5.slices_Reverse_byte_byte.l0 k (A ++ M ++ B) (A.length : Int) ((A.length : Int) + M.length - 1) = some (A ++ M.reverse ++ B) := by
  intro n
  induction n with
  | zero =>
    intro M A B k hn hl hb hk
    obtain ⟨k, rfl⟩ : ∃ j, k = j + 1 := ⟨k - 1, by omega⟩
    have : M = [] := List.length_eq_zero_iff.1 (by omega)
    subst this
    rw [Q5.slices_Reverse_byte_byte.l0, if_neg (by simp; omega)]
    rfl
  | succ n ih =>
    intro M A B k hn hl hb hk
    obtain ⟨k, rfl⟩ : ∃ j, k = j + 1 := ⟨k - 1, by omega⟩
    match M with
    | [] =>
      rw [Q5.slices_Reverse_byte_byte.l0, if_neg (by simp; omega)]
      rfl
    | [x] =>
      rw [Q5.slices_Reverse_byte_byte.l0, if_neg (by simp)]
      rfl
    | x :: y :: M' =>
      obtain ⟨M2, z, hz⟩ : ∃ M2 z, y :: M' = M2 ++ [z] := ⟨(y :: M').dropLast, (y :: M').getLast (by simp), (List.dropLast_concat_getLast (by simp)).symm⟩
      have hl2 : M2.length = M'.length := by have := congrArg List.length hz; simp at this; omega
      rw [hz] at hb ⊢
      simp only [List.length_append, List.length_cons, List.length_nil] at hb hn
      have e0 : (x :: (M2 ++ [z])).length = M2.length + 2 := by simp
      have ej : ((A.length : Int) + ((x :: (M2 ++ [z])).length : Nat) - 1) = ((A.length + M2.length + 1 : Nat) : Int) := by rw [e0]; omega
      have r1 : rd (A ++ x :: (M2 ++ [z]) ++ B) ((A.length + M2.length + 1 : Nat) : Int) = z := by
        have := rd_append (A ++ x :: M2) B z
        have e1 : A ++ x :: (M2 ++ [z]) ++ B = (A ++ x :: M2) ++ z :: B := by simp
        have e2 : (A ++ x :: M2).length = A.length + M2.length + 1 := by simp; omega
        rw [e1, ← e2]
        exact this
      have r2 : rd (A ++ x :: (M2 ++ [z]) ++ B) ((A.length : Nat) : Int) = x := by
        have := rd_append A (M2 ++ [z] ++ B) x
        have e1 : A ++ x :: (M2 ++ [z]) ++ B = A ++ x :: (M2 ++ [z] ++ B) := by simp
        rw [e1]
        exact this
      have s1 : ((A ++ x :: (M2 ++ [z]) ++ B).set A.length z).set (A.length + M2.length + 1) x = (A ++ [z]) ++ M2 ++ (x :: B) := by
        have e1 : A ++ x :: (M2 ++ [z]) ++ B = A ++ (x :: (M2 ++ z :: B)) := by simp
        rw [e1, List.set_append_right A.length z (by omega), Nat.sub_self, List.set_cons_zero]
        have e2 : A ++ z :: (M2 ++ z :: B) = (A ++ z :: M2) ++ (z :: B) := by simp
        rw [e2, List.set_append_right _ x (by simp; omega)]
        have e3 : A.length + M2.length + 1 - (A ++ z :: M2).length = 0 := by simp; omega
        rw [e3, List.set_cons_zero]
        simp
      rw [Q5.slices_Reverse_byte_byte.l0, ej, if_pos (by omega), if_pos (by omega), if_pos (by simp; omega), if_pos (by omega), if_pos (by simp; omega), r1, r2, Int.toNat_natCast, Int.toNat_natCast, s1, wrap_in (by omega) (by omega), wrap_in (by omega) (by omega)]
      have ih := ih M2 (A ++ [z]) (x :: B) k (by omega) (by simp [hl]) (by simp; omega) (by omega)
      have e5 : ((A ++ [z]).length : Int) = (A.length : Int) + 1 := by simp
      rw [e5] at ih
      have e6 : (A.length : Int) + 1 + M2.length - 1 = ((A.length + M2.length + 1 : Nat) : Int) - 1 := by omega
      rw [e6] at ih
      rw [ih]
      have e7 : (x :: (M2 ++ [z])).reverse = z :: (M2.reverse ++ [x]) := by simp
      rw [e7]
      simp
theorem rev_eq (l : List Int) (h : l.length ≤ 9223372036854775807) : Q5.slices_Reverse_byte_byte.f (l.length + 1) l = some l.reverse := by
  unfold Q5.slices_Reverse_byte_byte.f
  rw [wrap_in (by omega) (by omega)]
  have := rev_loop l.length l [] [] (l.length + 1) (Nat.le_refl _) rfl (by simpa using h) (by omega)
  simpa using this

/-! ### word.Digits -/
def word_Digits.f (n : Int) : Option ByteArray := if -9223372036854775808 ≤ n ∧ n ≤ 9223372036854775807 then some (lb (digitsL n)) else none
def intsOf (l : List UInt8) : List Int := l.map fun b => (b.toNat : Int)
theorem intsOf_append (a b : List UInt8) : intsOf (a ++ b) = intsOf a ++ intsOf b := by simp [intsOf]
theorem intsOf_reverse (a : List UInt8) : (intsOf a).reverse = intsOf a.reverse := by simp [intsOf]
theorem str_ints (l : List UInt8) : strOfNums (intsOf l) = lb l := by
  unfold strOfNums lb intsOf
  rw [List.map_map, show l.map ((fun n => UInt8.ofNat (Int.toNat n)) ∘ fun b => ((b.toNat : Nat) : Int)) = l.map id from List.map_congr_left fun b _ => by simp, List.map_id]
theorem dig_abs (x : Int) : mx (Int.tmod x 10) (wrap64 (-(Int.tmod x 10))) = ((x.natAbs % 10 : Nat) : Int) := by
  unfold mx wrap64
  have h1 := Int.tmod_lt_of_pos x (by decide : (0 : Int) < 10)
  have h2 : (Int.tmod x 10).natAbs = x.natAbs % 10 := by rw [Int.natAbs_tmod]; rfl
  split <;> omega
theorem div_abs (x : Int) (h0 : -9223372036854775808 ≤ x) (h1 : x ≤ 9223372036854775807) : wrap64 (Int.tdiv x 10) = Int.tdiv x 10 ∧ (Int.tdiv x 10).natAbs = x.natAbs / 10 ∧ -9223372036854775808 ≤ Int.tdiv x 10 ∧ Int.tdiv x 10 ≤ 9223372036854775807 := by
  have h2 : (Int.tdiv x 10).natAbs = x.natAbs / 10 := by rw [Int.natAbs_tdiv]; rfl
  have h3 : -9223372036854775808 ≤ Int.tdiv x 10 ∧ Int.tdiv x 10 ≤ 9223372036854775807 := by omega
  exact ⟨wrap_in h3.1 (by omega), h2, h3.1, h3.2⟩
theorem digC_int (d : Nat) (h : d < 10) : ((digC d).toNat : Int) = (48 + (d : Int)) % 256 := by
  rw [(dig_of h).2]
  omega
def signL (n : Int) (l : List UInt8) : List UInt8 := if n < 0 then 45 :: l else l
theorem digits_loop (a0 : Int) : ∀ (f : Nat) (x : Int) (l : List UInt8) (k : Nat), x.natAbs < 10 ^ f → 0 < f → l.length + f ≤ 30 → -9223372036854775808 ≤ x → x ≤ 9223372036854775807 → f + 50 < k →
    Q5.word_Digits.l0 k a0 (intsOf l) x = some (lb (signL a0 (l ++ decR f x.natAbs).reverse)) := by
  intro f
  induction f with
  | zero => intro x l k _ h; omega
  | succ f ih =>
    intro x l k hx _ hl h0 h1 hk
    obtain ⟨k, rfl⟩ : ∃ j, k = j + 1 := ⟨k - 1, by omega⟩
    obtain ⟨d1, d2, d3, d4⟩ := div_abs x h0 h1
    have hm : x.natAbs % 10 < 10 := Nat.mod_lt _ (by decide)
    have hlen : (intsOf l).length = l.length := by simp [intsOf]
    have hy : intsOf l ++ [(48 + ((x.natAbs % 10 : Nat) : Int)) % 256] = intsOf (l ++ [digC (x.natAbs % 10)]) := by
      rw [intsOf_append, ← digC_int _ hm]
      rfl
    have hrev : ∀ (m : List UInt8), m.length ≤ 40 → Q5.slices_Reverse_byte_byte.f k (intsOf m) = some (intsOf m.reverse) := by
      intro m hm2
      have hl3 : (intsOf m).length = m.length := by simp [intsOf]
      have := rev_eq (intsOf m) (by rw [hl3]; omega)
      rw [intsOf_reverse] at this
      exact mono_le (f := fun k => Q5.slices_Reverse_byte_byte.f k (intsOf m)) (fun k => Q5.slices_Reverse_byte_byte.mono _ k) (show (intsOf m).length + 1 ≤ k by rw [hl3]; omega) this
    rw [Q5.word_Digits.l0, if_pos (by rw [hlen]; omega), dig_abs, Option.bind_some, hy, d1]
    by_cases hz : Int.tdiv x 10 = 0
    · have hsm : x.natAbs < 10 := by rw [hz] at d2; simp at d2; omega
      have e1 : x.natAbs % 10 = x.natAbs := Nat.mod_eq_of_lt hsm
      have e2 : decR (f + 1) x.natAbs = [digC (x.natAbs % 10)] := by rw [decR, if_pos hsm, e1]
      rw [if_pos hz, e2]
      unfold signL
      have hl4 : (l ++ [digC (x.natAbs % 10)]).length ≤ 31 := by simp; omega
      by_cases hs : a0 < 0
      · have e3 : intsOf (l ++ [digC (x.natAbs % 10)]) ++ [45] = intsOf (l ++ [digC (x.natAbs % 10)] ++ [45]) := by rw [intsOf_append (l ++ [digC (x.natAbs % 10)])]; rfl
        rw [if_pos hs, if_pos hs, if_pos (by simp [intsOf]; omega), e3, hrev _ (by rw [List.length_append]; simp at hl4 ⊢; omega), Option.bind_some, str_ints]
        simp
      · rw [if_neg hs, if_neg hs, hrev _ (by omega), Option.bind_some, str_ints]
    · have hbig : ¬ x.natAbs < 10 := by
        intro h
        apply hz
        have : (Int.tdiv x 10).natAbs = 0 := by rw [d2]; omega
        omega
      have e2 : decR (f + 1) x.natAbs = digC (x.natAbs % 10) :: decR f (x.natAbs / 10) := by rw [decR, if_neg hbig]
      have hf : 0 < f := by
        rcases Nat.eq_zero_or_pos f with h | h
        · subst h; simp at hx; omega
        · exact h
      have ih := ih (Int.tdiv x 10) (l ++ [digC (x.natAbs % 10)]) k (by rw [d2]; rw [Nat.pow_succ] at hx; omega) hf (by simp; omega) d3 d4 (by omega)
      rw [if_neg hz, ih, d2, e2]
      simp
theorem digits_eq (n : Int) (h0 : -9223372036854775808 ≤ n) (h1 : n ≤ 9223372036854775807) : Q5.word_Digits.f 100 n = some (lb (digitsL n)) := by
  have hp : (10 : Nat) ^ 20 = 100000000000000000000 := by decide
  have := digits_loop n 20 n [] 100 (by omega) (by decide) (by decide) h0 h1 (by decide)
  exact this
theorem word_Digits.calls (a0 : Int) (r : ByteArray) (w : World) (h : word_Digits.f a0 = some r) :
    Calls Try.prog 27 #[.int .i64 a0] w fun e w' => e = .returned (.string r) ∧ Below w.heap.size w w' := by
  unfold word_Digits.f at h
  split at h
  · rename_i hs
    exact Q5.word_Digits.calls 100 a0 r w ((digits_eq a0 hs.1 hs.2).trans h)
  · cases h
end Go.Proofs.Ytcbakmojhicahaa.Hand
