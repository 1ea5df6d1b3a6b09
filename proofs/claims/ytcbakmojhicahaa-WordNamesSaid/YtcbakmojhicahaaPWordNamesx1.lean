-- Written by this session's program layer.py (the kit's print, turned), not by hand.
import Derived.Test.YtcbakmojhicahaaPWordNamesx0
namespace Go.Proofs.Ytcbakmojhicahaa.PWordNames
open Go.RowKit Go.Proofs.YtcbakmojhicahaaW.PrintWords Go.Proofs.YtcbakmojhicahaaW.PrintLast Go.Proofs.YtcbakmojhicahaaW.PrintMore Go.Proofs.Ytcbakmojhicahaa.Hand
attribute [local go_sem] max2_int min2_int max_two min_two max_three min_three max_four min_four   -- for this text's walks alone
set_option linter.unusedVariables false
set_option linter.unusedSimpArgs false

-- BY HAND: function 19 (word_Split)

-- BY HAND: function 20 (secateurref04_Split)

-- BY HAND: function 21 (secateurlaw04_live)

-- BY HAND: function 22 (word_Name)

-- BY HAND: function 23 (secateurref04_Name)

-- BY HAND: function 24 (word_Class)

-- BY HAND: function 25 (secateurref04_Class)

/-! ### secateurlaw04_WordNames: function 4 -/
def secateurlaw04_WordNames.f (a0 : ByteArray) : Option (Bool) := (word_Split.f a0).bind fun bt101 => ((secateurref04_Split.f a0).bind fun bt104 => ((secateurlaw04_live.f).bind fun t107 => (if t107 = true then ((word_Name.f a0).bind fun t108 => ((secateurref04_Name.f a0).bind fun t109 => (if (t108 == t109) = true then ((word_Class.f a0).bind fun t110 => ((secateurref04_Class.f a0).bind fun t111 => (if (t110 == t111) = true then (if bt101.1.toList = bt104.1.toList then (if bt101.2.1.toList = bt104.2.1.toList then (if (bt101.2.2 == bt104.2.2) = true then (if bt101.2.2 = true then (if bt101.1.size + 1 ≤ 9223372036854775807 then (if (bt101.1 ++ (⟨#[46]⟩ : ByteArray)).size + bt101.2.1.size ≤ 9223372036854775807 then (some (((bt101.1 ++ (⟨#[46]⟩ : ByteArray)) ++ bt101.2.1).toList == a0.toList)) else (none)) else (none)) else (some true)) else (some false)) else (some false)) else (some false)) else (some false)))) else (some false)))) else (some false))))
set_option maxHeartbeats 8000000 in
set_option maxRecDepth 100000 in
theorem secateurlaw04_WordNames.calls (a0 : ByteArray) (r : Bool) (w : World) (hGMaxL : MaxL w) (h : secateurlaw04_WordNames.f a0 = some r) :
    Calls Try.prog 4 #[.string a0] w fun e w' => e = .returned (.bool r) ∧ Below w.heap.size w w' := by
  have HGMaxL := Aside0.mk hGMaxL
  clear hGMaxL
  have HB := Aside0.mk (Below.refl w.heap.size w)
  have H : ((word_Split.f a0).bind fun bt101 => ((secateurref04_Split.f a0).bind fun bt104 => ((secateurlaw04_live.f).bind fun t107 => (if t107 = true then ((word_Name.f a0).bind fun t108 => ((secateurref04_Name.f a0).bind fun t109 => (if (t108 == t109) = true then ((word_Class.f a0).bind fun t110 => ((secateurref04_Class.f a0).bind fun t111 => (if (t110 == t111) = true then (if bt101.1.toList = bt104.1.toList then (if bt101.2.1.toList = bt104.2.1.toList then (if (bt101.2.2 == bt104.2.2) = true then (if bt101.2.2 = true then (if bt101.1.size + 1 ≤ 9223372036854775807 then (if (bt101.1 ++ (⟨#[46]⟩ : ByteArray)).size + bt101.2.1.size ≤ 9223372036854775807 then (some (((bt101.1 ++ (⟨#[46]⟩ : ByteArray)) ++ bt101.2.1).toList == a0.toList)) else (none)) else (none)) else (some true)) else (some false)) else (some false)) else (some false)) else (some false)))) else (some false)))) else (some false))))) = some r := h
  clear h
  replace H := Option.bind_eq_some_iff.mp H
  obtain ⟨⟨t101, t102, t103⟩, A20, H⟩ := H
  replace H : ((secateurref04_Split.f a0).bind fun bt104 => ((secateurlaw04_live.f).bind fun t107 => (if t107 = true then ((word_Name.f a0).bind fun t108 => ((secateurref04_Name.f a0).bind fun t109 => (if (t108 == t109) = true then ((word_Class.f a0).bind fun t110 => ((secateurref04_Class.f a0).bind fun t111 => (if (t110 == t111) = true then (if t101.toList = bt104.1.toList then (if t102.toList = bt104.2.1.toList then (if (t103 == bt104.2.2) = true then (if t103 = true then (if t101.size + 1 ≤ 9223372036854775807 then (if (t101 ++ (⟨#[46]⟩ : ByteArray)).size + t102.size ≤ 9223372036854775807 then (some (((t101 ++ (⟨#[46]⟩ : ByteArray)) ++ t102).toList == a0.toList)) else (none)) else (none)) else (some true)) else (some false)) else (some false)) else (some false)) else (some false)))) else (some false)))) else (some false)))) = some r := H
  have A2 := Aside0.mk A20
  clear A20
  replace H := Option.bind_eq_some_iff.mp H
  obtain ⟨⟨t104, t105, t106⟩, A30, H⟩ := H
  replace H : ((secateurlaw04_live.f).bind fun t107 => (if t107 = true then ((word_Name.f a0).bind fun t108 => ((secateurref04_Name.f a0).bind fun t109 => (if (t108 == t109) = true then ((word_Class.f a0).bind fun t110 => ((secateurref04_Class.f a0).bind fun t111 => (if (t110 == t111) = true then (if t101.toList = t104.toList then (if t102.toList = t105.toList then (if (t103 == t106) = true then (if t103 = true then (if t101.size + 1 ≤ 9223372036854775807 then (if (t101 ++ (⟨#[46]⟩ : ByteArray)).size + t102.size ≤ 9223372036854775807 then (some (((t101 ++ (⟨#[46]⟩ : ByteArray)) ++ t102).toList == a0.toList)) else (none)) else (none)) else (some true)) else (some false)) else (some false)) else (some false)) else (some false)))) else (some false)))) else (some false))) = some r := H
  have A3 := Aside0.mk A30
  clear A30
  replace H := Option.bind_eq_some_iff.mp H
  obtain ⟨t107, A40, H⟩ := H
  replace H : (if t107 = true then ((word_Name.f a0).bind fun t108 => ((secateurref04_Name.f a0).bind fun t109 => (if (t108 == t109) = true then ((word_Class.f a0).bind fun t110 => ((secateurref04_Class.f a0).bind fun t111 => (if (t110 == t111) = true then (if t101.toList = t104.toList then (if t102.toList = t105.toList then (if (t103 == t106) = true then (if t103 = true then (if t101.size + 1 ≤ 9223372036854775807 then (if (t101 ++ (⟨#[46]⟩ : ByteArray)).size + t102.size ≤ 9223372036854775807 then (some (((t101 ++ (⟨#[46]⟩ : ByteArray)) ++ t102).toList == a0.toList)) else (none)) else (none)) else (some true)) else (some false)) else (some false)) else (some false)) else (some false)))) else (some false)))) else (some false)) = some r := H
  have A4 := Aside0.mk A40
  clear A40
  by_cases c5 : t107 = true
  · subst c5
    have H1 : ((word_Name.f a0).bind fun t108 => ((secateurref04_Name.f a0).bind fun t109 => (if (t108 == t109) = true then ((word_Class.f a0).bind fun t110 => ((secateurref04_Class.f a0).bind fun t111 => (if (t110 == t111) = true then (if t101.toList = t104.toList then (if t102.toList = t105.toList then (if (t103 == t106) = true then (if t103 = true then (if t101.size + 1 ≤ 9223372036854775807 then (if (t101 ++ (⟨#[46]⟩ : ByteArray)).size + t102.size ≤ 9223372036854775807 then (some (((t101 ++ (⟨#[46]⟩ : ByteArray)) ++ t102).toList == a0.toList)) else (none)) else (none)) else (some true)) else (some false)) else (some false)) else (some false)) else (some false)))) else (some false)))) = some r := by rw [if_pos rfl] at H; exact H
    clear H
    have H := H1
    clear H1
    replace H := Option.bind_eq_some_iff.mp H
    obtain ⟨t108, A60, H⟩ := H
    replace H : ((secateurref04_Name.f a0).bind fun t109 => (if (t108 == t109) = true then ((word_Class.f a0).bind fun t110 => ((secateurref04_Class.f a0).bind fun t111 => (if (t110 == t111) = true then (if t101.toList = t104.toList then (if t102.toList = t105.toList then (if (t103 == t106) = true then (if t103 = true then (if t101.size + 1 ≤ 9223372036854775807 then (if (t101 ++ (⟨#[46]⟩ : ByteArray)).size + t102.size ≤ 9223372036854775807 then (some (((t101 ++ (⟨#[46]⟩ : ByteArray)) ++ t102).toList == a0.toList)) else (none)) else (none)) else (some true)) else (some false)) else (some false)) else (some false)) else (some false)))) else (some false))) = some r := H
    have A6 := Aside0.mk A60
    clear A60
    replace H := Option.bind_eq_some_iff.mp H
    obtain ⟨t109, A70, H⟩ := H
    replace H : (if (t108 == t109) = true then ((word_Class.f a0).bind fun t110 => ((secateurref04_Class.f a0).bind fun t111 => (if (t110 == t111) = true then (if t101.toList = t104.toList then (if t102.toList = t105.toList then (if (t103 == t106) = true then (if t103 = true then (if t101.size + 1 ≤ 9223372036854775807 then (if (t101 ++ (⟨#[46]⟩ : ByteArray)).size + t102.size ≤ 9223372036854775807 then (some (((t101 ++ (⟨#[46]⟩ : ByteArray)) ++ t102).toList == a0.toList)) else (none)) else (none)) else (some true)) else (some false)) else (some false)) else (some false)) else (some false)))) else (some false)) = some r := H
    have A7 := Aside0.mk A70
    clear A70
    by_cases c8 : (t108 == t109) = true
    · rw [if_pos c8] at H
      have c8b0 : (t108 == t109) = true := c8
      (try (have c8b1 : decide (t108 = t109) = true := by simpa using c8))
      (try (have c8b2 : (t108 == t109) = true := by simpa using c8))
      clear c8
      replace H := Option.bind_eq_some_iff.mp H
      obtain ⟨t110, A90, H⟩ := H
      replace H : ((secateurref04_Class.f a0).bind fun t111 => (if (t110 == t111) = true then (if t101.toList = t104.toList then (if t102.toList = t105.toList then (if (t103 == t106) = true then (if t103 = true then (if t101.size + 1 ≤ 9223372036854775807 then (if (t101 ++ (⟨#[46]⟩ : ByteArray)).size + t102.size ≤ 9223372036854775807 then (some (((t101 ++ (⟨#[46]⟩ : ByteArray)) ++ t102).toList == a0.toList)) else (none)) else (none)) else (some true)) else (some false)) else (some false)) else (some false)) else (some false))) = some r := H
      have A9 := Aside0.mk A90
      clear A90
      replace H := Option.bind_eq_some_iff.mp H
      obtain ⟨t111, A100, H⟩ := H
      replace H : (if (t110 == t111) = true then (if t101.toList = t104.toList then (if t102.toList = t105.toList then (if (t103 == t106) = true then (if t103 = true then (if t101.size + 1 ≤ 9223372036854775807 then (if (t101 ++ (⟨#[46]⟩ : ByteArray)).size + t102.size ≤ 9223372036854775807 then (some (((t101 ++ (⟨#[46]⟩ : ByteArray)) ++ t102).toList == a0.toList)) else (none)) else (none)) else (some true)) else (some false)) else (some false)) else (some false)) else (some false)) = some r := H
      have A10 := Aside0.mk A100
      clear A100
      by_cases c11 : (t110 == t111) = true
      · rw [if_pos c11] at H
        have c11b0 : (t110 == t111) = true := c11
        (try (have c11b1 : decide (t110 = t111) = true := by simpa using c11))
        (try (have c11b2 : (t110 == t111) = true := by simpa using c11))
        clear c11
        by_cases c12 : t101.toList = t104.toList
        · rw [if_pos c12] at H
          have c12b0 : (t101.toList == t104.toList) = true := beq_iff_eq.mpr c12
          have c12b1 : (t101.toList != t104.toList) = false := bne_eq_false_iff_eq.mpr c12
          clear c12
          by_cases c13 : t102.toList = t105.toList
          · rw [if_pos c13] at H
            have c13b0 : (t102.toList == t105.toList) = true := beq_iff_eq.mpr c13
            have c13b1 : (t102.toList != t105.toList) = false := bne_eq_false_iff_eq.mpr c13
            clear c13
            by_cases c14 : (t103 == t106) = true
            · rw [if_pos c14] at H
              have c14b0 : (t103 == t106) = true := c14
              (try (have c14b1 : decide (t103 = t106) = true := by simpa using c14))
              (try (have c14b2 : (t103 == t106) = true := by simpa using c14))
              clear c14
              by_cases c15 : t103 = true
              · subst c15
                have H1 : (if t101.size + 1 ≤ 9223372036854775807 then (if (t101 ++ (⟨#[46]⟩ : ByteArray)).size + t102.size ≤ 9223372036854775807 then (some (((t101 ++ (⟨#[46]⟩ : ByteArray)) ++ t102).toList == a0.toList)) else (none)) else (none)) = some r := by rw [if_pos rfl] at H; exact H
                clear H
                have H := H1
                clear H1
                by_cases c16 : t101.size + 1 ≤ 9223372036854775807
                · rw [if_pos c16] at H
                  have c16b0 := eq_true c16
                  have c16b1 : decide (t101.size + 1 ≤ 9223372036854775807) = true := decide_eq_true c16
                  try have c16b2 : (9223372036854775807 < t101.size + 1) = False := eq_false (Nat.not_lt.2 c16)
                  by_cases c17 : (t101 ++ (⟨#[46]⟩ : ByteArray)).size + t102.size ≤ 9223372036854775807
                  · rw [if_pos c17] at H
                    have c17b0 := eq_true c17
                    have c17b1 : decide ((t101 ++ (⟨#[46]⟩ : ByteArray)).size + t102.size ≤ 9223372036854775807) = true := decide_eq_true c17
                    try have c17b2 : (9223372036854775807 < (t101 ++ (⟨#[46]⟩ : ByteArray)).size + t102.size) = False := eq_false (Nat.not_lt.2 c17)
                    obtain rfl := Option.some.inj H
                    go_enter Try.func4, Try.ntmps4
                    go_wp2_with (first | ((with_reducible refine gate_callee (f := 19) rfl ?_); refine goesL_ (some 11) rfl rfl Try.func19 (by kernel_rfl) rfl #[.string a0] rfl (by (try simp only [List.map_toArray, List.map_cons, List.map_nil]); first | done | rfl | (simp only [List.length_drop, List.length_take]; rfl)) ?_; (with_reducible refine (word_Split.calls a0 t101 t102 true _ A2.out).mono ?_); rintro e w' ⟨rfl, ⟨nd, rfl⟩⟩; refine ⟨_, rfl, ?_⟩) | ((with_reducible refine gate_callee (f := 20) rfl ?_); refine goesL_ (some 17) rfl rfl Try.func20 (by kernel_rfl) rfl #[.string a0] rfl (by (try simp only [List.map_toArray, List.map_cons, List.map_nil]); first | done | rfl | (simp only [List.length_drop, List.length_take]; rfl)) ?_; (with_reducible refine (secateurref04_Split.calls a0 t104 t105 t106 _ A3.out).mono ?_); rintro e w' ⟨rfl, ⟨nd, rfl⟩⟩; refine ⟨_, rfl, ?_⟩) | ((with_reducible refine gate_callee (f := 21) rfl ?_); refine goesL_ (some 21) rfl rfl Try.func21 (by kernel_rfl) rfl #[] rfl (by (try simp only [List.map_toArray, List.map_cons, List.map_nil]); first | done | rfl | (simp only [List.length_drop, List.length_take]; rfl)) ?_; (with_reducible refine (secateurlaw04_live.calls  true _ ?side1 A4.out).mono ?_); (case side1 => exact MaxL.below HGMaxL.out (by repeat (first | (with_reducible first | exact HB.out | apply below_alloc | apply pw_below_drewN | apply below_drew1) | exact HB.out))); rintro e w18 ⟨rfl, hb⟩; refine ⟨_, rfl, ?_⟩; have n0_ := Aside0.mk (below_step (by repeat (first | (with_reducible first | exact HB.out | apply below_alloc | apply pw_below_drewN | apply below_drew1) | exact HB.out)) hb); clear HB; have HB := n0_; clear n0_; (try clear hb); (try clear hb2); (try clear hk); (try clear hi)) | (go_at_call 22; (with_reducible refine (word_Name.calls a0 t108 _ A6.out).mono ?_); rintro e w' ⟨rfl, ⟨nd, rfl⟩⟩) | (go_at_call 23; (with_reducible refine (secateurref04_Name.calls a0 t109 _ A7.out).mono ?_); rintro e w' ⟨rfl, ⟨nd, rfl⟩⟩) | (go_at_call 24; (with_reducible refine (word_Class.calls a0 t110 _ A9.out).mono ?_); rintro e w' ⟨rfl, ⟨nd, rfl⟩⟩) | (go_at_call 25; (with_reducible refine (secateurref04_Class.calls a0 t111 _ A10.out).mono ?_); rintro e w' ⟨rfl, ⟨nd, rfl⟩⟩))
                    go_ret
                    exact ⟨by first | rfl | (simp [errW_none, errW_some] <;> rfl) | (simp [*, errW_none, errW_some] <;> rfl), by repeat (first | (with_reducible first | exact HB.out | apply below_alloc | apply pw_below_drewN | apply below_drew1) | exact HB.out)⟩
                  · rw [if_neg c17] at H
                    exact absurd H (by simp)
                · rw [if_neg c16] at H
                  exact absurd H (by simp)
              · replace c15 := Bool.eq_false_iff.mpr c15
                subst c15
                have H1 : (some true) = some r := by rw [if_neg (show ¬ (false = true) by decide)] at H; exact H
                clear H
                have H := H1
                clear H1
                obtain rfl := Option.some.inj H
                go_enter Try.func4, Try.ntmps4
                go_wp2_with (first | ((with_reducible refine gate_callee (f := 19) rfl ?_); refine goesL_ (some 11) rfl rfl Try.func19 (by kernel_rfl) rfl #[.string a0] rfl (by (try simp only [List.map_toArray, List.map_cons, List.map_nil]); first | done | rfl | (simp only [List.length_drop, List.length_take]; rfl)) ?_; (with_reducible refine (word_Split.calls a0 t101 t102 false _ A2.out).mono ?_); rintro e w' ⟨rfl, ⟨nd, rfl⟩⟩; refine ⟨_, rfl, ?_⟩) | ((with_reducible refine gate_callee (f := 20) rfl ?_); refine goesL_ (some 17) rfl rfl Try.func20 (by kernel_rfl) rfl #[.string a0] rfl (by (try simp only [List.map_toArray, List.map_cons, List.map_nil]); first | done | rfl | (simp only [List.length_drop, List.length_take]; rfl)) ?_; (with_reducible refine (secateurref04_Split.calls a0 t104 t105 t106 _ A3.out).mono ?_); rintro e w' ⟨rfl, ⟨nd, rfl⟩⟩; refine ⟨_, rfl, ?_⟩) | ((with_reducible refine gate_callee (f := 21) rfl ?_); refine goesL_ (some 21) rfl rfl Try.func21 (by kernel_rfl) rfl #[] rfl (by (try simp only [List.map_toArray, List.map_cons, List.map_nil]); first | done | rfl | (simp only [List.length_drop, List.length_take]; rfl)) ?_; (with_reducible refine (secateurlaw04_live.calls  true _ ?side1 A4.out).mono ?_); (case side1 => exact MaxL.below HGMaxL.out (by repeat (first | (with_reducible first | exact HB.out | apply below_alloc | apply pw_below_drewN | apply below_drew1) | exact HB.out))); rintro e w19 ⟨rfl, hb⟩; refine ⟨_, rfl, ?_⟩; have n0_ := Aside0.mk (below_step (by repeat (first | (with_reducible first | exact HB.out | apply below_alloc | apply pw_below_drewN | apply below_drew1) | exact HB.out)) hb); clear HB; have HB := n0_; clear n0_; (try clear hb); (try clear hb2); (try clear hk); (try clear hi)) | (go_at_call 22; (with_reducible refine (word_Name.calls a0 t108 _ A6.out).mono ?_); rintro e w' ⟨rfl, ⟨nd, rfl⟩⟩) | (go_at_call 23; (with_reducible refine (secateurref04_Name.calls a0 t109 _ A7.out).mono ?_); rintro e w' ⟨rfl, ⟨nd, rfl⟩⟩) | (go_at_call 24; (with_reducible refine (word_Class.calls a0 t110 _ A9.out).mono ?_); rintro e w' ⟨rfl, ⟨nd, rfl⟩⟩) | (go_at_call 25; (with_reducible refine (secateurref04_Class.calls a0 t111 _ A10.out).mono ?_); rintro e w' ⟨rfl, ⟨nd, rfl⟩⟩))
                go_ret
                exact ⟨by first | rfl | (simp [errW_none, errW_some] <;> rfl) | (simp [*, errW_none, errW_some] <;> rfl), by repeat (first | (with_reducible first | exact HB.out | apply below_alloc | apply pw_below_drewN | apply below_drew1) | exact HB.out)⟩
            · rw [if_neg c14] at H
              have c14b0 : (t103 == t106) = false := by simpa using c14
              (try (have c14b1 : decide (t103 = t106) = false := by simpa using c14))
              (try (have c14b2 : (t103 == t106) = false := by simpa using c14))
              (try (have c14b3 : ¬ (t103 = t106) := by simpa using c14))
              clear c14
              obtain rfl := Option.some.inj H
              go_enter Try.func4, Try.ntmps4
              go_wp2_with (first | ((with_reducible refine gate_callee (f := 19) rfl ?_); refine goesL_ (some 11) rfl rfl Try.func19 (by kernel_rfl) rfl #[.string a0] rfl (by (try simp only [List.map_toArray, List.map_cons, List.map_nil]); first | done | rfl | (simp only [List.length_drop, List.length_take]; rfl)) ?_; (with_reducible refine (word_Split.calls a0 t101 t102 t103 _ A2.out).mono ?_); rintro e w' ⟨rfl, ⟨nd, rfl⟩⟩; refine ⟨_, rfl, ?_⟩) | ((with_reducible refine gate_callee (f := 20) rfl ?_); refine goesL_ (some 17) rfl rfl Try.func20 (by kernel_rfl) rfl #[.string a0] rfl (by (try simp only [List.map_toArray, List.map_cons, List.map_nil]); first | done | rfl | (simp only [List.length_drop, List.length_take]; rfl)) ?_; (with_reducible refine (secateurref04_Split.calls a0 t104 t105 t106 _ A3.out).mono ?_); rintro e w' ⟨rfl, ⟨nd, rfl⟩⟩; refine ⟨_, rfl, ?_⟩) | ((with_reducible refine gate_callee (f := 21) rfl ?_); refine goesL_ (some 21) rfl rfl Try.func21 (by kernel_rfl) rfl #[] rfl (by (try simp only [List.map_toArray, List.map_cons, List.map_nil]); first | done | rfl | (simp only [List.length_drop, List.length_take]; rfl)) ?_; (with_reducible refine (secateurlaw04_live.calls  true _ ?side1 A4.out).mono ?_); (case side1 => exact MaxL.below HGMaxL.out (by repeat (first | (with_reducible first | exact HB.out | apply below_alloc | apply pw_below_drewN | apply below_drew1) | exact HB.out))); rintro e w20 ⟨rfl, hb⟩; refine ⟨_, rfl, ?_⟩; have n0_ := Aside0.mk (below_step (by repeat (first | (with_reducible first | exact HB.out | apply below_alloc | apply pw_below_drewN | apply below_drew1) | exact HB.out)) hb); clear HB; have HB := n0_; clear n0_; (try clear hb); (try clear hb2); (try clear hk); (try clear hi)) | (go_at_call 22; (with_reducible refine (word_Name.calls a0 t108 _ A6.out).mono ?_); rintro e w' ⟨rfl, ⟨nd, rfl⟩⟩) | (go_at_call 23; (with_reducible refine (secateurref04_Name.calls a0 t109 _ A7.out).mono ?_); rintro e w' ⟨rfl, ⟨nd, rfl⟩⟩) | (go_at_call 24; (with_reducible refine (word_Class.calls a0 t110 _ A9.out).mono ?_); rintro e w' ⟨rfl, ⟨nd, rfl⟩⟩) | (go_at_call 25; (with_reducible refine (secateurref04_Class.calls a0 t111 _ A10.out).mono ?_); rintro e w' ⟨rfl, ⟨nd, rfl⟩⟩))
              go_ret
              exact ⟨by first | rfl | (simp [errW_none, errW_some] <;> rfl) | (simp [*, errW_none, errW_some] <;> rfl), by repeat (first | (with_reducible first | exact HB.out | apply below_alloc | apply pw_below_drewN | apply below_drew1) | exact HB.out)⟩
          · rw [if_neg c13] at H
            have c13b0 : (t102.toList == t105.toList) = false := beq_eq_false_iff_ne.mpr c13
            have c13b1 : (t102.toList != t105.toList) = true := bne_iff_ne.mpr c13
            obtain rfl := Option.some.inj H
            go_enter Try.func4, Try.ntmps4
            go_wp2_with (first | ((with_reducible refine gate_callee (f := 19) rfl ?_); refine goesL_ (some 11) rfl rfl Try.func19 (by kernel_rfl) rfl #[.string a0] rfl (by (try simp only [List.map_toArray, List.map_cons, List.map_nil]); first | done | rfl | (simp only [List.length_drop, List.length_take]; rfl)) ?_; (with_reducible refine (word_Split.calls a0 t101 t102 t103 _ A2.out).mono ?_); rintro e w' ⟨rfl, ⟨nd, rfl⟩⟩; refine ⟨_, rfl, ?_⟩) | ((with_reducible refine gate_callee (f := 20) rfl ?_); refine goesL_ (some 17) rfl rfl Try.func20 (by kernel_rfl) rfl #[.string a0] rfl (by (try simp only [List.map_toArray, List.map_cons, List.map_nil]); first | done | rfl | (simp only [List.length_drop, List.length_take]; rfl)) ?_; (with_reducible refine (secateurref04_Split.calls a0 t104 t105 t106 _ A3.out).mono ?_); rintro e w' ⟨rfl, ⟨nd, rfl⟩⟩; refine ⟨_, rfl, ?_⟩) | ((with_reducible refine gate_callee (f := 21) rfl ?_); refine goesL_ (some 21) rfl rfl Try.func21 (by kernel_rfl) rfl #[] rfl (by (try simp only [List.map_toArray, List.map_cons, List.map_nil]); first | done | rfl | (simp only [List.length_drop, List.length_take]; rfl)) ?_; (with_reducible refine (secateurlaw04_live.calls  true _ ?side1 A4.out).mono ?_); (case side1 => exact MaxL.below HGMaxL.out (by repeat (first | (with_reducible first | exact HB.out | apply below_alloc | apply pw_below_drewN | apply below_drew1) | exact HB.out))); rintro e w21 ⟨rfl, hb⟩; refine ⟨_, rfl, ?_⟩; have n0_ := Aside0.mk (below_step (by repeat (first | (with_reducible first | exact HB.out | apply below_alloc | apply pw_below_drewN | apply below_drew1) | exact HB.out)) hb); clear HB; have HB := n0_; clear n0_; (try clear hb); (try clear hb2); (try clear hk); (try clear hi)) | (go_at_call 22; (with_reducible refine (word_Name.calls a0 t108 _ A6.out).mono ?_); rintro e w' ⟨rfl, ⟨nd, rfl⟩⟩) | (go_at_call 23; (with_reducible refine (secateurref04_Name.calls a0 t109 _ A7.out).mono ?_); rintro e w' ⟨rfl, ⟨nd, rfl⟩⟩) | (go_at_call 24; (with_reducible refine (word_Class.calls a0 t110 _ A9.out).mono ?_); rintro e w' ⟨rfl, ⟨nd, rfl⟩⟩) | (go_at_call 25; (with_reducible refine (secateurref04_Class.calls a0 t111 _ A10.out).mono ?_); rintro e w' ⟨rfl, ⟨nd, rfl⟩⟩))
            go_ret
            exact ⟨by first | rfl | (simp [errW_none, errW_some] <;> rfl) | (simp [*, errW_none, errW_some] <;> rfl), by repeat (first | (with_reducible first | exact HB.out | apply below_alloc | apply pw_below_drewN | apply below_drew1) | exact HB.out)⟩
        · rw [if_neg c12] at H
          have c12b0 : (t101.toList == t104.toList) = false := beq_eq_false_iff_ne.mpr c12
          have c12b1 : (t101.toList != t104.toList) = true := bne_iff_ne.mpr c12
          obtain rfl := Option.some.inj H
          go_enter Try.func4, Try.ntmps4
          go_wp2_with (first | ((with_reducible refine gate_callee (f := 19) rfl ?_); refine goesL_ (some 11) rfl rfl Try.func19 (by kernel_rfl) rfl #[.string a0] rfl (by (try simp only [List.map_toArray, List.map_cons, List.map_nil]); first | done | rfl | (simp only [List.length_drop, List.length_take]; rfl)) ?_; (with_reducible refine (word_Split.calls a0 t101 t102 t103 _ A2.out).mono ?_); rintro e w' ⟨rfl, ⟨nd, rfl⟩⟩; refine ⟨_, rfl, ?_⟩) | ((with_reducible refine gate_callee (f := 20) rfl ?_); refine goesL_ (some 17) rfl rfl Try.func20 (by kernel_rfl) rfl #[.string a0] rfl (by (try simp only [List.map_toArray, List.map_cons, List.map_nil]); first | done | rfl | (simp only [List.length_drop, List.length_take]; rfl)) ?_; (with_reducible refine (secateurref04_Split.calls a0 t104 t105 t106 _ A3.out).mono ?_); rintro e w' ⟨rfl, ⟨nd, rfl⟩⟩; refine ⟨_, rfl, ?_⟩) | ((with_reducible refine gate_callee (f := 21) rfl ?_); refine goesL_ (some 21) rfl rfl Try.func21 (by kernel_rfl) rfl #[] rfl (by (try simp only [List.map_toArray, List.map_cons, List.map_nil]); first | done | rfl | (simp only [List.length_drop, List.length_take]; rfl)) ?_; (with_reducible refine (secateurlaw04_live.calls  true _ ?side1 A4.out).mono ?_); (case side1 => exact MaxL.below HGMaxL.out (by repeat (first | (with_reducible first | exact HB.out | apply below_alloc | apply pw_below_drewN | apply below_drew1) | exact HB.out))); rintro e w22 ⟨rfl, hb⟩; refine ⟨_, rfl, ?_⟩; have n0_ := Aside0.mk (below_step (by repeat (first | (with_reducible first | exact HB.out | apply below_alloc | apply pw_below_drewN | apply below_drew1) | exact HB.out)) hb); clear HB; have HB := n0_; clear n0_; (try clear hb); (try clear hb2); (try clear hk); (try clear hi)) | (go_at_call 22; (with_reducible refine (word_Name.calls a0 t108 _ A6.out).mono ?_); rintro e w' ⟨rfl, ⟨nd, rfl⟩⟩) | (go_at_call 23; (with_reducible refine (secateurref04_Name.calls a0 t109 _ A7.out).mono ?_); rintro e w' ⟨rfl, ⟨nd, rfl⟩⟩) | (go_at_call 24; (with_reducible refine (word_Class.calls a0 t110 _ A9.out).mono ?_); rintro e w' ⟨rfl, ⟨nd, rfl⟩⟩) | (go_at_call 25; (with_reducible refine (secateurref04_Class.calls a0 t111 _ A10.out).mono ?_); rintro e w' ⟨rfl, ⟨nd, rfl⟩⟩))
          go_ret
          exact ⟨by first | rfl | (simp [errW_none, errW_some] <;> rfl) | (simp [*, errW_none, errW_some] <;> rfl), by repeat (first | (with_reducible first | exact HB.out | apply below_alloc | apply pw_below_drewN | apply below_drew1) | exact HB.out)⟩
      · rw [if_neg c11] at H
        have c11b0 : (t110 == t111) = false := by simpa using c11
        (try (have c11b1 : decide (t110 = t111) = false := by simpa using c11))
        (try (have c11b2 : (t110 == t111) = false := by simpa using c11))
        (try (have c11b3 : ¬ (t110 = t111) := by simpa using c11))
        clear c11
        obtain rfl := Option.some.inj H
        go_enter Try.func4, Try.ntmps4
        go_wp2_with (first | ((with_reducible refine gate_callee (f := 19) rfl ?_); refine goesL_ (some 11) rfl rfl Try.func19 (by kernel_rfl) rfl #[.string a0] rfl (by (try simp only [List.map_toArray, List.map_cons, List.map_nil]); first | done | rfl | (simp only [List.length_drop, List.length_take]; rfl)) ?_; (with_reducible refine (word_Split.calls a0 t101 t102 t103 _ A2.out).mono ?_); rintro e w' ⟨rfl, ⟨nd, rfl⟩⟩; refine ⟨_, rfl, ?_⟩) | ((with_reducible refine gate_callee (f := 20) rfl ?_); refine goesL_ (some 17) rfl rfl Try.func20 (by kernel_rfl) rfl #[.string a0] rfl (by (try simp only [List.map_toArray, List.map_cons, List.map_nil]); first | done | rfl | (simp only [List.length_drop, List.length_take]; rfl)) ?_; (with_reducible refine (secateurref04_Split.calls a0 t104 t105 t106 _ A3.out).mono ?_); rintro e w' ⟨rfl, ⟨nd, rfl⟩⟩; refine ⟨_, rfl, ?_⟩) | ((with_reducible refine gate_callee (f := 21) rfl ?_); refine goesL_ (some 21) rfl rfl Try.func21 (by kernel_rfl) rfl #[] rfl (by (try simp only [List.map_toArray, List.map_cons, List.map_nil]); first | done | rfl | (simp only [List.length_drop, List.length_take]; rfl)) ?_; (with_reducible refine (secateurlaw04_live.calls  true _ ?side1 A4.out).mono ?_); (case side1 => exact MaxL.below HGMaxL.out (by repeat (first | (with_reducible first | exact HB.out | apply below_alloc | apply pw_below_drewN | apply below_drew1) | exact HB.out))); rintro e w23 ⟨rfl, hb⟩; refine ⟨_, rfl, ?_⟩; have n0_ := Aside0.mk (below_step (by repeat (first | (with_reducible first | exact HB.out | apply below_alloc | apply pw_below_drewN | apply below_drew1) | exact HB.out)) hb); clear HB; have HB := n0_; clear n0_; (try clear hb); (try clear hb2); (try clear hk); (try clear hi)) | (go_at_call 22; (with_reducible refine (word_Name.calls a0 t108 _ A6.out).mono ?_); rintro e w' ⟨rfl, ⟨nd, rfl⟩⟩) | (go_at_call 23; (with_reducible refine (secateurref04_Name.calls a0 t109 _ A7.out).mono ?_); rintro e w' ⟨rfl, ⟨nd, rfl⟩⟩) | (go_at_call 24; (with_reducible refine (word_Class.calls a0 t110 _ A9.out).mono ?_); rintro e w' ⟨rfl, ⟨nd, rfl⟩⟩) | (go_at_call 25; (with_reducible refine (secateurref04_Class.calls a0 t111 _ A10.out).mono ?_); rintro e w' ⟨rfl, ⟨nd, rfl⟩⟩))
        go_ret
        exact ⟨by first | rfl | (simp [errW_none, errW_some] <;> rfl) | (simp [*, errW_none, errW_some] <;> rfl), by repeat (first | (with_reducible first | exact HB.out | apply below_alloc | apply pw_below_drewN | apply below_drew1) | exact HB.out)⟩
    · rw [if_neg c8] at H
      have c8b0 : (t108 == t109) = false := by simpa using c8
      (try (have c8b1 : decide (t108 = t109) = false := by simpa using c8))
      (try (have c8b2 : (t108 == t109) = false := by simpa using c8))
      (try (have c8b3 : ¬ (t108 = t109) := by simpa using c8))
      clear c8
      obtain rfl := Option.some.inj H
      go_enter Try.func4, Try.ntmps4
      go_wp2_with (first | ((with_reducible refine gate_callee (f := 19) rfl ?_); refine goesL_ (some 11) rfl rfl Try.func19 (by kernel_rfl) rfl #[.string a0] rfl (by (try simp only [List.map_toArray, List.map_cons, List.map_nil]); first | done | rfl | (simp only [List.length_drop, List.length_take]; rfl)) ?_; (with_reducible refine (word_Split.calls a0 t101 t102 t103 _ A2.out).mono ?_); rintro e w' ⟨rfl, ⟨nd, rfl⟩⟩; refine ⟨_, rfl, ?_⟩) | ((with_reducible refine gate_callee (f := 20) rfl ?_); refine goesL_ (some 17) rfl rfl Try.func20 (by kernel_rfl) rfl #[.string a0] rfl (by (try simp only [List.map_toArray, List.map_cons, List.map_nil]); first | done | rfl | (simp only [List.length_drop, List.length_take]; rfl)) ?_; (with_reducible refine (secateurref04_Split.calls a0 t104 t105 t106 _ A3.out).mono ?_); rintro e w' ⟨rfl, ⟨nd, rfl⟩⟩; refine ⟨_, rfl, ?_⟩) | ((with_reducible refine gate_callee (f := 21) rfl ?_); refine goesL_ (some 21) rfl rfl Try.func21 (by kernel_rfl) rfl #[] rfl (by (try simp only [List.map_toArray, List.map_cons, List.map_nil]); first | done | rfl | (simp only [List.length_drop, List.length_take]; rfl)) ?_; (with_reducible refine (secateurlaw04_live.calls  true _ ?side1 A4.out).mono ?_); (case side1 => exact MaxL.below HGMaxL.out (by repeat (first | (with_reducible first | exact HB.out | apply below_alloc | apply pw_below_drewN | apply below_drew1) | exact HB.out))); rintro e w24 ⟨rfl, hb⟩; refine ⟨_, rfl, ?_⟩; have n0_ := Aside0.mk (below_step (by repeat (first | (with_reducible first | exact HB.out | apply below_alloc | apply pw_below_drewN | apply below_drew1) | exact HB.out)) hb); clear HB; have HB := n0_; clear n0_; (try clear hb); (try clear hb2); (try clear hk); (try clear hi)) | (go_at_call 22; (with_reducible refine (word_Name.calls a0 t108 _ A6.out).mono ?_); rintro e w' ⟨rfl, ⟨nd, rfl⟩⟩) | (go_at_call 23; (with_reducible refine (secateurref04_Name.calls a0 t109 _ A7.out).mono ?_); rintro e w' ⟨rfl, ⟨nd, rfl⟩⟩))
      go_ret
      exact ⟨by first | rfl | (simp [errW_none, errW_some] <;> rfl) | (simp [*, errW_none, errW_some] <;> rfl), by repeat (first | (with_reducible first | exact HB.out | apply below_alloc | apply pw_below_drewN | apply below_drew1) | exact HB.out)⟩
  · replace c5 := Bool.eq_false_iff.mpr c5
    subst c5
    have H1 : (some false) = some r := by rw [if_neg (show ¬ (false = true) by decide)] at H; exact H
    clear H
    have H := H1
    clear H1
    obtain rfl := Option.some.inj H
    go_enter Try.func4, Try.ntmps4
    go_wp2_with (first | ((with_reducible refine gate_callee (f := 19) rfl ?_); refine goesL_ (some 11) rfl rfl Try.func19 (by kernel_rfl) rfl #[.string a0] rfl (by (try simp only [List.map_toArray, List.map_cons, List.map_nil]); first | done | rfl | (simp only [List.length_drop, List.length_take]; rfl)) ?_; (with_reducible refine (word_Split.calls a0 t101 t102 t103 _ A2.out).mono ?_); rintro e w' ⟨rfl, ⟨nd, rfl⟩⟩; refine ⟨_, rfl, ?_⟩) | ((with_reducible refine gate_callee (f := 20) rfl ?_); refine goesL_ (some 17) rfl rfl Try.func20 (by kernel_rfl) rfl #[.string a0] rfl (by (try simp only [List.map_toArray, List.map_cons, List.map_nil]); first | done | rfl | (simp only [List.length_drop, List.length_take]; rfl)) ?_; (with_reducible refine (secateurref04_Split.calls a0 t104 t105 t106 _ A3.out).mono ?_); rintro e w' ⟨rfl, ⟨nd, rfl⟩⟩; refine ⟨_, rfl, ?_⟩) | ((with_reducible refine gate_callee (f := 21) rfl ?_); refine goesL_ (some 21) rfl rfl Try.func21 (by kernel_rfl) rfl #[] rfl (by (try simp only [List.map_toArray, List.map_cons, List.map_nil]); first | done | rfl | (simp only [List.length_drop, List.length_take]; rfl)) ?_; (with_reducible refine (secateurlaw04_live.calls  false _ ?side1 A4.out).mono ?_); (case side1 => exact MaxL.below HGMaxL.out (by repeat (first | (with_reducible first | exact HB.out | apply below_alloc | apply pw_below_drewN | apply below_drew1) | exact HB.out))); rintro e w25 ⟨rfl, hb⟩; refine ⟨_, rfl, ?_⟩; have n0_ := Aside0.mk (below_step (by repeat (first | (with_reducible first | exact HB.out | apply below_alloc | apply pw_below_drewN | apply below_drew1) | exact HB.out)) hb); clear HB; have HB := n0_; clear n0_; (try clear hb); (try clear hb2); (try clear hk); (try clear hi)))
    go_ret
    exact ⟨by first | rfl | (simp [errW_none, errW_some] <;> rfl) | (simp [*, errW_none, errW_some] <;> rfl), by repeat (first | (with_reducible first | exact HB.out | apply below_alloc | apply pw_below_drewN | apply below_drew1) | exact HB.out)⟩

/-- THE ONE PURE STATEMENT of secateurlaw04_WordNames: yours. -/
def secateurlaw04_WordNames.Pure : Prop := ∀ (a0 : ByteArray), a0.size ≤ 140737488351232 → secateurlaw04_WordNames.f a0 = some true
theorem secateurlaw04_WordNames.walk (P : secateurlaw04_WordNames.Pure) (a0 : ByteArray) (w : World) (w0 : a0.size ≤ 140737488351232) (hGMaxL : MaxL w) :
    Calls Try.prog 4 #[.string a0] w fun e w' => e = .returned (.bool true) ∧ Below w.heap.size w w' := by
  have h := P a0 w0
  refine (secateurlaw04_WordNames.calls a0 true w hGMaxL h).mono ?_
  rintro e w' ⟨rfl, hd⟩
  exact ⟨rfl, hd⟩

end Go.Proofs.Ytcbakmojhicahaa.PWordNames
