import Derived.Test.YtcbakmojhicahaaHWordF
namespace Go.Proofs.Ytcbakmojhicahaa.Hand
open Go.RowKit Go.Proofs.YtcbakmojhicahaaW.PrintWords Go.Proofs.YtcbakmojhicahaaW.PrintLast Go.Proofs.YtcbakmojhicahaaW.PrintMore
set_option linter.unusedVariables false
set_option linter.unusedSimpArgs false

/-! ### the document's digits -/
theorem lb_append (a b : List UInt8) : lb a ++ lb b = lb (a ++ b) := by
  apply bl_inj
  rw [bl_append]
  simp
theorem enc_dig {d : Nat} (h : d < 10) : Utf8.encode (48 + (d : Int)) = lb [digC d] := by
  have : ∀ x : Fin 10, Utf8.encode (48 + ((x.val : Nat) : Int)) = lb [digC x.val] := by decide +kernel
  exact this ⟨d, h⟩
theorem wrap32_in {x : Int} (h0 : 0 ≤ x) (h1 : x < 1000) : wrap32 (wrap64 x) = x := by
  unfold wrap32 wrap64
  omega
theorem decR_more : ∀ (f n : Nat), n < 10 ^ f → 0 < f → decR (f + 1) n = decR f n
  | 0, _, _, h => by omega
  | f + 1, n, h, _ => by
    rw [decR]
    conv => rhs; rw [decR]
    split
    · rfl
    · rename_i hn
      have hf : 0 < f := by
        rcases Nat.eq_zero_or_pos f with h0 | h0
        · subst h0; simp at h; omega
        · exact h0
      rw [decR_more f (n / 10) (by rw [Nat.pow_succ] at h; omega) hf]
theorem decR_upto (f n : Nat) (h : n < 10 ^ f) (hf : 0 < f) : ∀ j, decR (f + j) n = decR f n
  | 0 => rfl
  | j + 1 => by
    rw [← Nat.add_assoc, decR_more (f + j) n (Nat.lt_of_lt_of_le h (Nat.pow_le_pow_right (by decide) (by omega))) (by omega)]
    exact decR_upto f n h hf j
theorem digsR_loop : ∀ (f x k : Nat) (s : List UInt8), x < 10 ^ f → 0 < f → x ≤ 9223372036854775807 → s.length + f ≤ 40 → f < k → Q5.secateurref04_Digits.l0 k (x : Int) (lb s) = some (if x < 10 then lb s else lb ((decR f (x / 10)).reverse ++ s)) := by
  intro f
  induction f with
  | zero => intro x k s _ h; omega
  | succ f ih =>
    intro x k s hx _ hm hs hk
    obtain ⟨k, rfl⟩ : ∃ j, k = j + 1 := ⟨k - 1, by omega⟩
    rw [Q5.secateurref04_Digits.l0]
    by_cases h : x < 10
    · rw [if_neg (by omega), if_pos h]
    · have e1 : Int.tdiv (x : Int) 10 = ((x / 10 : Nat) : Int) := rfl
      have e2 : Int.tmod ((x / 10 : Nat) : Int) 10 = ((x / 10 % 10 : Nat) : Int) := rfl
      have hf : 0 < f := by
        rcases Nat.eq_zero_or_pos f with h0 | h0
        · subst h0; simp at hx; omega
        · exact h0
      have hd : x / 10 % 10 < 10 := Nat.mod_lt _ (by decide)
      have ew : wrap64 ((x / 10 : Nat) : Int) = ((x / 10 : Nat) : Int) := wrap_in (by omega) (by omega)
      rw [if_pos (by omega), e1, ew, e2, wrap32_in (by omega) (by omega), enc_dig hd, if_pos (by rw [lb_size, lb_size]; simp; omega), lb_append, ih (x / 10) k _ (by rw [Nat.pow_succ] at hx; omega) hf (by omega) (by simp; omega) (by omega), if_neg h]
      by_cases h2 : x / 10 < 10
      · rw [if_pos h2, decR, if_pos h2, Nat.mod_eq_of_lt h2]
        rfl
      · rw [if_neg h2, decR, if_neg h2]
        simp
theorem digsN_loop : ∀ (f x k : Nat), x < 10 ^ f → 0 < f → 0 < x → x ≤ 9223372036854775808 → f ≤ 40 → f < k → ∃ y, Q5.secateurref04_Digits.f k (-(x : Int)) = some y ∧ y = lb (45 :: (decR f x).reverse) ∧ y.size ≤ f + 1 := by
  intro f
  induction f with
  | zero => intro x k _ h; omega
  | succ f ih =>
    intro x k hx _ h0 hm hf40 hk
    obtain ⟨k, rfl⟩ : ∃ j, k = j + 1 := ⟨k - 1, by omega⟩
    have e1 : Int.tdiv (-(x : Int)) 10 = -((x / 10 : Nat) : Int) := by rw [Int.neg_tdiv]; rfl
    have e2 : Int.tmod (-(x : Int)) 10 = -((x % 10 : Nat) : Int) := by rw [Int.neg_tmod]; rfl
    have hd : x % 10 < 10 := Nat.mod_lt _ (by decide)
    have e3 : wrap64 (-(-((x % 10 : Nat) : Int))) = ((x % 10 : Nat) : Int) := by rw [Int.neg_neg]; exact wrap_in (by omega) (by omega)
    have ew : wrap64 (-((x / 10 : Nat) : Int)) = -((x / 10 : Nat) : Int) := wrap_in (by omega) (by omega)
    rw [Q5.secateurref04_Digits.f, if_pos (by omega), e1, e2, e3, ew, wrap32_in (by omega) (by omega), enc_dig hd]
    by_cases h : x < 10
    · have e4 : (⟨#[45]⟩ : ByteArray) = lb [45] := rfl
      rw [if_pos (by omega), if_pos (by rw [lb_size]; simp), e4, lb_append]
      refine ⟨_, rfl, ?_, by rw [lb_size]; simp⟩
      rw [decR, if_pos h, Nat.mod_eq_of_lt h]
      rfl
    · have hf : 0 < f := by
        rcases Nat.eq_zero_or_pos f with h0 | h0
        · subst h0; simp at hx; omega
        · exact h0
      obtain ⟨y, hy, hy2, hy3⟩ := ih (x / 10) k (by rw [Nat.pow_succ] at hx; omega) hf (by omega) (by omega) (by omega) (by omega)
      rw [if_neg (by omega), hy, Option.bind_some, if_pos (by rw [lb_size]; simp; omega), hy2, lb_append]
      refine ⟨_, rfl, ?_, ?_⟩
      · rw [decR, if_neg h]
        simp
      · rw [hy2] at hy3
        rw [lb_size] at hy3 ⊢
        simp at hy3 ⊢
        omega
def secateurref04_Digits.f (n : Int) : Option ByteArray := word_Digits.f n
theorem digitsR_eq (n : Int) (h0 : -9223372036854775808 ≤ n) (h1 : n ≤ 9223372036854775807) : Q5.secateurref04_Digits.f 100 n = some (lb (digitsL n)) := by
  have hp : (10 : Nat) ^ 20 = 100000000000000000000 := by decide
  have hp2 : (10 : Nat) ^ 19 = 10000000000000000000 := by decide
  unfold digitsL decL
  by_cases hn : n < 0
  · obtain ⟨x, rfl⟩ : ∃ x : Nat, n = -(x : Int) := ⟨n.natAbs, by omega⟩
    obtain ⟨y, hy, hy2, _⟩ := digsN_loop 20 x 100 (by omega) (by decide) (by omega) (by omega) (by decide) (by decide)
    rw [hy, hy2, if_pos hn, Int.natAbs_neg, Int.natAbs_natCast]
  · obtain ⟨x, rfl⟩ : ∃ x : Nat, n = (x : Int) := ⟨n.natAbs, by omega⟩
    have hd : x % 10 < 10 := Nat.mod_lt _ (by decide)
    have e2 : Int.tmod ((x : Nat) : Int) 10 = ((x % 10 : Nat) : Int) := rfl
    rw [if_neg hn, show (100 : Nat) = 99 + 1 from rfl, Q5.secateurref04_Digits.f, if_neg hn, e2, wrap32_in (by omega) (by omega), enc_dig hd, digsR_loop 20 x 99 _ (by omega) (by decide) (by omega) (by simp) (by decide), Int.natAbs_natCast]
    by_cases h : x < 10
    · rw [if_pos h, decR, if_pos h, Nat.mod_eq_of_lt h]
      rfl
    · rw [if_neg h]
      congr 2
      rw [show decR 20 x = digC (x % 10) :: decR 19 (x / 10) from by rw [decR, if_neg h], decR_upto 19 (x / 10) (by omega) (by decide) 1]
      simp
theorem secateurref04_Digits.calls (a0 : Int) (r : ByteArray) (w : World) (h : secateurref04_Digits.f a0 = some r) :
    Calls Try.prog 29 #[.int .i64 a0] w fun e w' => e = .returned (.string r) ∧ Drawn0 w w' := by
  unfold secateurref04_Digits.f word_Digits.f at h
  split at h
  · rename_i hs
    exact Q5.secateurref04_Digits.calls 100 a0 r w ((digitsR_eq a0 hs.1 hs.2).trans h)
  · cases h
end Go.Proofs.Ytcbakmojhicahaa.Hand
