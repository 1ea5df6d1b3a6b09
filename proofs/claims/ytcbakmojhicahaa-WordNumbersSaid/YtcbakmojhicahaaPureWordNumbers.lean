import Derived.Test.YtcbakmojhicahaaPWordNumbersx
namespace Go.Proofs.Ytcbakmojhicahaa.Pure
open Go.RowKit Go.Proofs.Ytcbakmojhicahaa.PWordNumbers Go.Proofs.Ytcbakmojhicahaa.Hand Go.Proofs.YtcbakmojhicahaaW.PrintWords Go.Proofs.YtcbakmojhicahaaW.PrintLast

theorem num_wf {x : Int} (h : (Lit.int .i64 x).wf = true) : -9223372036854775808 ≤ x ∧ x ≤ 9223372036854775807 := by
  simp [Lit.wf, IntKind.min, IntKind.max, IntKind.bits, IntKind.signed] at h
  omega
theorem decR_len : ∀ f n, (decR f n).length ≤ f
  | 0, _ => by simp [decR]
  | f + 1, n => by
    unfold decR
    split
    · simp
    · have := decR_len f (n / 10)
      simp
      omega
theorem digitsL_len (n : Int) : (digitsL n).length ≤ 21 := by
  have h := decR_len 20 n.natAbs
  unfold digitsL decL
  split
  · simp; omega
  · simp; omega
theorem parseL_range (l : List UInt8) : -9223372036854775808 ≤ (parseL l).1 ∧ (parseL l).1 ≤ 9223372036854775807 := by
  unfold parseL
  split
  · split
    · simp
    · simp; omega
  · simp
theorem WordNumbers : secateurlaw04_WordNumbers.Pure := by
  intro n s hn hs
  refine ⟨5, ?_⟩
  have hw := num_wf hn
  have h7 : secateurlaw04_live.f = some true := rfl
  unfold secateurlaw04_WordNumbers.f
  rw [h7]
  by_cases hb : (s.size : Int) > 300
  · rw [if_pos hb]; rfl
  · have h1 : word_Digits.f n = some (lb (digitsL n)) := by unfold word_Digits.f; rw [if_pos hw]
    have hl := digitsL_len n
    have h2 : word_Parse.f (lb (digitsL n)) = some (parseL (digitsL n)) := by unfold word_Parse.f; rw [if_pos (by rw [lb_size]; omega), bl_lb]
    have h3 : word_Parse.f s = some (parseL (bl s)) := by unfold word_Parse.f; rw [if_pos (by omega)]
    have h4 : secateurref04_Parse.f s = some (parseL (bl s)) := h3
    have h5 : secateurref04_Digits.f n = some (lb (digitsL n)) := h1
    rw [if_neg hb, h1, Option.bind_some, h2, Option.bind_some, h3, Option.bind_some, h4, Option.bind_some, Option.bind_some, if_pos rfl, Option.bind_some, h5, Option.bind_some, if_pos rfl, if_pos rfl, if_pos rfl]
    have hpd := parse_digits n hw.1 hw.2
    have hj : secateurlaw04_WordNumbers.j0 5 n (parseL (digitsL n)).1 (parseL (digitsL n)).2 false = some true := by
      rw [hpd, secateurlaw04_WordNumbers.j0]
      by_cases c1 : n < 0
      · simp [c1]
      · by_cases c2 : n > 65536
        · simp [c1, c2]
        · simp [c1, c2]
    by_cases h0 : (parseL (bl s)).2 = 0
    · have hr := parseL_range (bl s)
      have hback := digits_parse (bl s) (parseL (bl s)).1 (by rw [← h0])
      have h6 : word_Digits.f (parseL (bl s)).1 = some s := by unfold word_Digits.f; rw [if_pos hr, hback, lb_bl]
      rw [if_pos h0, h6, Option.bind_some]
      simp [hj]
    · rw [if_neg h0]
      exact hj
end Go.Proofs.Ytcbakmojhicahaa.Pure
