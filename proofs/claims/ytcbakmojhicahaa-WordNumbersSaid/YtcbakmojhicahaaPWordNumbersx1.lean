-- Written by this session's program layer.py (the kit's print, turned), not by hand.
import Derived.Test.YtcbakmojhicahaaPWordNumbersx0
namespace Go.Proofs.Ytcbakmojhicahaa.PWordNumbers
open Go.RowKit Go.Proofs.YtcbakmojhicahaaW.PrintWords Go.Proofs.YtcbakmojhicahaaW.PrintLast Go.Proofs.YtcbakmojhicahaaW.PrintMore Go.Proofs.Ytcbakmojhicahaa.Hand
attribute [local go_sem] max2_int min2_int max_two min_two max_three min_three max_four min_four   -- for this text's walks alone
set_option linter.unusedVariables false
set_option linter.unusedSimpArgs false

-- BY HAND: function 21 (secateurlaw04_live)

-- BY HAND: function 26 (word_Parse)

-- BY HAND: function 27 (word_Digits)

-- BY HAND: function 28 (secateurref04_Parse)

-- BY HAND: function 29 (secateurref04_Digits)

/-! ### secateurlaw04_WordNumbers: function 5 -/
def secateurlaw04_WordNumbers.j0 : Nat → Int → Int → Int → Bool → Option (Bool)
  | 0, _, _, _, _ => none
  | k + 1, x0, x5, x6, x59 => if x59 = true then (some false) else (if x0 < 0 then (if x5 = 0 then (some (x6 == 1)) else (some false)) else (if x0 > 65536 then (if x5 = 0 then (some (x6 == 12)) else (some false)) else (if x5 = x0 then (some (x6 == 0)) else (some false))))
def secateurlaw04_WordNumbers.f (k : Nat) (a0 : Int) (a1 : ByteArray) : Option (Bool) := if (a1.size : Int) > 300 then ((secateurlaw04_live.f).bind fun t101 => (some t101)) else ((word_Digits.f a0).bind fun t102 => ((word_Parse.f t102).bind fun bt103 => ((word_Parse.f a1).bind fun bt105 => ((secateurref04_Parse.f a1).bind fun bt107 => ((secateurlaw04_live.f).bind fun t109 => (if t109 = true then ((word_Digits.f a0).bind fun t110 => ((secateurref04_Digits.f a0).bind fun t111 => (if t110.toList = t111.toList then (if bt105.1 = bt107.1 then (if bt105.2 = bt107.2 then (if bt105.2 = 0 then ((word_Digits.f bt105.1).bind fun t112 => (secateurlaw04_WordNumbers.j0 k a0 bt103.1 bt103.2 (t112.toList != a1.toList))) else (secateurlaw04_WordNumbers.j0 k a0 bt103.1 bt103.2 false)) else (secateurlaw04_WordNumbers.j0 k a0 bt103.1 bt103.2 true)) else (secateurlaw04_WordNumbers.j0 k a0 bt103.1 bt103.2 true)) else (secateurlaw04_WordNumbers.j0 k a0 bt103.1 bt103.2 true)))) else (secateurlaw04_WordNumbers.j0 k a0 bt103.1 bt103.2 true)))))))
theorem secateurlaw04_WordNumbers.mono_l : ∀ k, (∀ y0 y1 y2 y3, LeO (secateurlaw04_WordNumbers.j0 k y0 y1 y2 y3) (secateurlaw04_WordNumbers.j0 (k + 1) y0 y1 y2 y3))
  | 0 => fun _ _ _ _ r h => by simp [secateurlaw04_WordNumbers.j0] at h
  | k + 1 => by
    have ih0 := secateurlaw04_WordNumbers.mono_l k
    · intro y0 y1 y2 y3
      unfold secateurlaw04_WordNumbers.j0
      repeat' first
      | (with_reducible exact ih0 _ _ _ _)
      | (with_reducible exact LeO.refl _)
      | (with_reducible exact LeO.none _)
      | (with_reducible refine LeO.ite ?_ ?_)
      | (with_reducible refine LeO.bind ?_ (fun _ => ?_))
      | exact ih0 _ _ _ _
      | exact LeO.none _
      | refine LeO.ite ?_ ?_
      | refine LeO.bind ?_ (fun _ => ?_)
theorem secateurlaw04_WordNumbers.mono : ∀ a0 a1 k, LeO (secateurlaw04_WordNumbers.f k a0 a1) (secateurlaw04_WordNumbers.f (k + 1) a0 a1) := by
  intro a0 a1 k
  have ih0 := secateurlaw04_WordNumbers.mono_l k
  unfold secateurlaw04_WordNumbers.f
  repeat' first
      | (with_reducible exact ih0 _ _ _ _)
      | (with_reducible exact LeO.refl _)
      | (with_reducible exact LeO.none _)
      | (with_reducible refine LeO.ite ?_ ?_)
      | (with_reducible refine LeO.bind ?_ (fun _ => ?_))
      | exact ih0 _ _ _ _
      | exact LeO.none _
      | refine LeO.ite ?_ ?_
      | refine LeO.bind ?_ (fun _ => ?_)
set_option maxHeartbeats 8000000 in
set_option maxRecDepth 100000 in
theorem secateurlaw04_WordNumbers.calls (k : Nat) (a0 : Int) (a1 : ByteArray) (r : Bool) (w : World) (hGMaxL : MaxL w) (h : secateurlaw04_WordNumbers.f k a0 a1 = some r) :
    Calls Try.prog 5 #[.int .i64 a0, .string a1] w fun e w' => e = .returned (.bool r) ∧ Below w.heap.size w w' := by
  have HGMaxL := Aside0.mk hGMaxL
  clear hGMaxL
  have HB := Aside0.mk (Below.refl w.heap.size w)
  have H : (if (a1.size : Int) > 300 then ((secateurlaw04_live.f).bind fun t101 => (some t101)) else ((word_Digits.f a0).bind fun t102 => ((word_Parse.f t102).bind fun bt103 => ((word_Parse.f a1).bind fun bt105 => ((secateurref04_Parse.f a1).bind fun bt107 => ((secateurlaw04_live.f).bind fun t109 => (if t109 = true then ((word_Digits.f a0).bind fun t110 => ((secateurref04_Digits.f a0).bind fun t111 => (if t110.toList = t111.toList then (if bt105.1 = bt107.1 then (if bt105.2 = bt107.2 then (if bt105.2 = 0 then ((word_Digits.f bt105.1).bind fun t112 => (secateurlaw04_WordNumbers.j0 k a0 bt103.1 bt103.2 (t112.toList != a1.toList))) else (secateurlaw04_WordNumbers.j0 k a0 bt103.1 bt103.2 false)) else (secateurlaw04_WordNumbers.j0 k a0 bt103.1 bt103.2 true)) else (secateurlaw04_WordNumbers.j0 k a0 bt103.1 bt103.2 true)) else (secateurlaw04_WordNumbers.j0 k a0 bt103.1 bt103.2 true)))) else (secateurlaw04_WordNumbers.j0 k a0 bt103.1 bt103.2 true)))))))) = some r := h
  clear h
  by_cases c3 : (a1.size : Int) > 300
  · rw [if_pos c3] at H
    have c3b0 : decide (300 < (a1.size : Int)) = true := decide_eq_true c3
    have c3b1 : decide (300 < a1.size) = true := decide_eq_true (by omega)
    clear c3
    replace H := Option.bind_eq_some_iff.mp H
    obtain ⟨t101, A40, H⟩ := H
    replace H : (some t101) = some r := H
    have A4 := Aside0.mk A40
    clear A40
    obtain rfl := Option.some.inj H
    go_enter Try.func5, Try.ntmps5
    go_wp2_with (first | ((with_reducible refine gate_callee (f := 21) rfl ?_); refine goesL_ (some 14) rfl rfl Try.func21 (by kernel_rfl) rfl #[] rfl (by (try simp only [List.map_toArray, List.map_cons, List.map_nil]); first | done | rfl | (simp only [List.length_drop, List.length_take]; rfl)) ?_; (with_reducible refine (secateurlaw04_live.calls  t101 _ ?side1 A4.out).mono ?_); (case side1 => exact MaxL.below HGMaxL.out (by repeat (first | (with_reducible first | exact HB.out | apply below_alloc | apply pw_below_drewN | apply below_drew1) | exact HB.out))); rintro e w5 ⟨rfl, hb⟩; refine ⟨_, rfl, ?_⟩; have n0_ := Aside0.mk (below_step (by repeat (first | (with_reducible first | exact HB.out | apply below_alloc | apply pw_below_drewN | apply below_drew1) | exact HB.out)) hb); clear HB; have HB := n0_; clear n0_; (try clear hb); (try clear hb2); (try clear hk); (try clear hi)))
    go_ret
    exact ⟨by first | rfl | (simp [errW_none, errW_some] <;> rfl) | (simp [*, errW_none, errW_some] <;> rfl), by repeat (first | (with_reducible first | exact HB.out | apply below_alloc | apply pw_below_drewN | apply below_drew1) | exact HB.out)⟩
  · rw [if_neg c3] at H
    have c3b0 : decide (300 < (a1.size : Int)) = false := decide_eq_false c3
    have c3b1 : decide (300 < a1.size) = false := decide_eq_false (by omega)
    clear c3
    replace H := Option.bind_eq_some_iff.mp H
    obtain ⟨t102, A60, H⟩ := H
    replace H : ((word_Parse.f t102).bind fun bt103 => ((word_Parse.f a1).bind fun bt105 => ((secateurref04_Parse.f a1).bind fun bt107 => ((secateurlaw04_live.f).bind fun t109 => (if t109 = true then ((word_Digits.f a0).bind fun t110 => ((secateurref04_Digits.f a0).bind fun t111 => (if t110.toList = t111.toList then (if bt105.1 = bt107.1 then (if bt105.2 = bt107.2 then (if bt105.2 = 0 then ((word_Digits.f bt105.1).bind fun t112 => (secateurlaw04_WordNumbers.j0 k a0 bt103.1 bt103.2 (t112.toList != a1.toList))) else (secateurlaw04_WordNumbers.j0 k a0 bt103.1 bt103.2 false)) else (secateurlaw04_WordNumbers.j0 k a0 bt103.1 bt103.2 true)) else (secateurlaw04_WordNumbers.j0 k a0 bt103.1 bt103.2 true)) else (secateurlaw04_WordNumbers.j0 k a0 bt103.1 bt103.2 true)))) else (secateurlaw04_WordNumbers.j0 k a0 bt103.1 bt103.2 true)))))) = some r := H
    have A6 := Aside0.mk A60
    clear A60
    replace H := Option.bind_eq_some_iff.mp H
    obtain ⟨⟨t103, t104⟩, A70, H⟩ := H
    replace H : ((word_Parse.f a1).bind fun bt105 => ((secateurref04_Parse.f a1).bind fun bt107 => ((secateurlaw04_live.f).bind fun t109 => (if t109 = true then ((word_Digits.f a0).bind fun t110 => ((secateurref04_Digits.f a0).bind fun t111 => (if t110.toList = t111.toList then (if bt105.1 = bt107.1 then (if bt105.2 = bt107.2 then (if bt105.2 = 0 then ((word_Digits.f bt105.1).bind fun t112 => (secateurlaw04_WordNumbers.j0 k a0 t103 t104 (t112.toList != a1.toList))) else (secateurlaw04_WordNumbers.j0 k a0 t103 t104 false)) else (secateurlaw04_WordNumbers.j0 k a0 t103 t104 true)) else (secateurlaw04_WordNumbers.j0 k a0 t103 t104 true)) else (secateurlaw04_WordNumbers.j0 k a0 t103 t104 true)))) else (secateurlaw04_WordNumbers.j0 k a0 t103 t104 true))))) = some r := H
    have A7 := Aside0.mk A70
    clear A70
    replace H := Option.bind_eq_some_iff.mp H
    obtain ⟨⟨t105, t106⟩, A80, H⟩ := H
    replace H : ((secateurref04_Parse.f a1).bind fun bt107 => ((secateurlaw04_live.f).bind fun t109 => (if t109 = true then ((word_Digits.f a0).bind fun t110 => ((secateurref04_Digits.f a0).bind fun t111 => (if t110.toList = t111.toList then (if t105 = bt107.1 then (if t106 = bt107.2 then (if t106 = 0 then ((word_Digits.f t105).bind fun t112 => (secateurlaw04_WordNumbers.j0 k a0 t103 t104 (t112.toList != a1.toList))) else (secateurlaw04_WordNumbers.j0 k a0 t103 t104 false)) else (secateurlaw04_WordNumbers.j0 k a0 t103 t104 true)) else (secateurlaw04_WordNumbers.j0 k a0 t103 t104 true)) else (secateurlaw04_WordNumbers.j0 k a0 t103 t104 true)))) else (secateurlaw04_WordNumbers.j0 k a0 t103 t104 true)))) = some r := H
    have A8 := Aside0.mk A80
    clear A80
    replace H := Option.bind_eq_some_iff.mp H
    obtain ⟨⟨t107, t108⟩, A90, H⟩ := H
    replace H : ((secateurlaw04_live.f).bind fun t109 => (if t109 = true then ((word_Digits.f a0).bind fun t110 => ((secateurref04_Digits.f a0).bind fun t111 => (if t110.toList = t111.toList then (if t105 = t107 then (if t106 = t108 then (if t106 = 0 then ((word_Digits.f t105).bind fun t112 => (secateurlaw04_WordNumbers.j0 k a0 t103 t104 (t112.toList != a1.toList))) else (secateurlaw04_WordNumbers.j0 k a0 t103 t104 false)) else (secateurlaw04_WordNumbers.j0 k a0 t103 t104 true)) else (secateurlaw04_WordNumbers.j0 k a0 t103 t104 true)) else (secateurlaw04_WordNumbers.j0 k a0 t103 t104 true)))) else (secateurlaw04_WordNumbers.j0 k a0 t103 t104 true))) = some r := H
    have A9 := Aside0.mk A90
    clear A90
    have HC10 := Aside0.mk H
    clear H
    go_enter Try.func5, Try.ntmps5
    go_upto_region 6 with (first | ((with_reducible refine gate_callee (f := 27) rfl ?_); refine goesL_ (some 17) rfl rfl Try.func27 (by kernel_rfl) rfl #[.int .i64 a0] rfl (by (try simp only [List.map_toArray, List.map_cons, List.map_nil]); first | done | rfl | (simp only [List.length_drop, List.length_take]; rfl)) ?_; (with_reducible refine (word_Digits.calls a0 t102 _ A6.out).mono ?_); rintro e w11 ⟨rfl, hb⟩; refine ⟨_, rfl, ?_⟩; have n0_ := Aside0.mk (below_step (by repeat (first | (with_reducible first | exact HB.out | apply below_alloc | apply pw_below_drewN | apply below_drew1) | exact HB.out)) hb); clear HB; have HB := n0_; clear n0_; (try clear hb); (try clear hb2); (try clear hk); (try clear hi)) | ((with_reducible refine gate_callee (f := 26) rfl ?_); refine goesL_ (some 18) rfl rfl Try.func26 (by kernel_rfl) rfl #[.string t102] rfl (by (try simp only [List.map_toArray, List.map_cons, List.map_nil]); first | done | rfl | (simp only [List.length_drop, List.length_take]; rfl)) ?_; (with_reducible refine (word_Parse.calls t102 t103 t104 _ A7.out).mono ?_); rintro e w12 ⟨rfl, hb⟩; refine ⟨_, rfl, ?_⟩; have n0_ := Aside0.mk (below_step (by repeat (first | (with_reducible first | exact HB.out | apply below_alloc | apply pw_below_drewN | apply below_drew1) | exact HB.out)) hb); clear HB; have HB := n0_; clear n0_; (try clear hb); (try clear hb2); (try clear hk); (try clear hi)) | ((with_reducible refine gate_callee (f := 26) rfl ?_); refine goesL_ (some 23) rfl rfl Try.func26 (by kernel_rfl) rfl #[.string a1] rfl (by (try simp only [List.map_toArray, List.map_cons, List.map_nil]); first | done | rfl | (simp only [List.length_drop, List.length_take]; rfl)) ?_; (with_reducible refine (word_Parse.calls a1 t105 t106 _ A8.out).mono ?_); rintro e w13 ⟨rfl, hb⟩; refine ⟨_, rfl, ?_⟩; have n0_ := Aside0.mk (below_step (by repeat (first | (with_reducible first | exact HB.out | apply below_alloc | apply pw_below_drewN | apply below_drew1) | exact HB.out)) hb); clear HB; have HB := n0_; clear n0_; (try clear hb); (try clear hb2); (try clear hk); (try clear hi)) | ((with_reducible refine gate_callee (f := 28) rfl ?_); refine goesL_ (some 28) rfl rfl Try.func28 (by kernel_rfl) rfl #[.string a1] rfl (by (try simp only [List.map_toArray, List.map_cons, List.map_nil]); first | done | rfl | (simp only [List.length_drop, List.length_take]; rfl)) ?_; (with_reducible refine (secateurref04_Parse.calls a1 t107 t108 _ A9.out).mono ?_); rintro e w' ⟨rfl, ⟨nd, rfl⟩⟩; refine ⟨_, rfl, ?_⟩))
    (try simp only [Act.put, List.setIfInBounds_toArray, List.set_cons_zero, List.set_cons_succ])
    go_cut [59] (fun v59 wc => ∃ (kq : Nat) (x59_9 : Bool), v59 = .bool x59_9 ∧ Aside0 (secateurlaw04_WordNumbers.j0 kq a0 t103 t104 x59_9 = some r) ∧ Aside0 (kq ≤ k) ∧ Aside0 (Below w.heap.size w wc))
    case first =>
      have H := HC10.out
      clear HC10
      replace H := Option.bind_eq_some_iff.mp H
      obtain ⟨t109, A140, H⟩ := H
      replace H : (if t109 = true then ((word_Digits.f a0).bind fun t110 => ((secateurref04_Digits.f a0).bind fun t111 => (if t110.toList = t111.toList then (if t105 = t107 then (if t106 = t108 then (if t106 = 0 then ((word_Digits.f t105).bind fun t112 => (secateurlaw04_WordNumbers.j0 k a0 t103 t104 (t112.toList != a1.toList))) else (secateurlaw04_WordNumbers.j0 k a0 t103 t104 false)) else (secateurlaw04_WordNumbers.j0 k a0 t103 t104 true)) else (secateurlaw04_WordNumbers.j0 k a0 t103 t104 true)) else (secateurlaw04_WordNumbers.j0 k a0 t103 t104 true)))) else (secateurlaw04_WordNumbers.j0 k a0 t103 t104 true)) = some r := H
      have A14 := Aside0.mk A140
      clear A140
      by_cases c15 : t109 = true
      · subst c15
        have H1 : ((word_Digits.f a0).bind fun t110 => ((secateurref04_Digits.f a0).bind fun t111 => (if t110.toList = t111.toList then (if t105 = t107 then (if t106 = t108 then (if t106 = 0 then ((word_Digits.f t105).bind fun t112 => (secateurlaw04_WordNumbers.j0 k a0 t103 t104 (t112.toList != a1.toList))) else (secateurlaw04_WordNumbers.j0 k a0 t103 t104 false)) else (secateurlaw04_WordNumbers.j0 k a0 t103 t104 true)) else (secateurlaw04_WordNumbers.j0 k a0 t103 t104 true)) else (secateurlaw04_WordNumbers.j0 k a0 t103 t104 true)))) = some r := by rw [if_pos rfl] at H; exact H
        clear H
        have H := H1
        clear H1
        replace H := Option.bind_eq_some_iff.mp H
        obtain ⟨t110, A160, H⟩ := H
        replace H : ((secateurref04_Digits.f a0).bind fun t111 => (if t110.toList = t111.toList then (if t105 = t107 then (if t106 = t108 then (if t106 = 0 then ((word_Digits.f t105).bind fun t112 => (secateurlaw04_WordNumbers.j0 k a0 t103 t104 (t112.toList != a1.toList))) else (secateurlaw04_WordNumbers.j0 k a0 t103 t104 false)) else (secateurlaw04_WordNumbers.j0 k a0 t103 t104 true)) else (secateurlaw04_WordNumbers.j0 k a0 t103 t104 true)) else (secateurlaw04_WordNumbers.j0 k a0 t103 t104 true))) = some r := H
        have A16 := Aside0.mk A160
        clear A160
        replace H := Option.bind_eq_some_iff.mp H
        obtain ⟨t111, A170, H⟩ := H
        replace H : (if t110.toList = t111.toList then (if t105 = t107 then (if t106 = t108 then (if t106 = 0 then ((word_Digits.f t105).bind fun t112 => (secateurlaw04_WordNumbers.j0 k a0 t103 t104 (t112.toList != a1.toList))) else (secateurlaw04_WordNumbers.j0 k a0 t103 t104 false)) else (secateurlaw04_WordNumbers.j0 k a0 t103 t104 true)) else (secateurlaw04_WordNumbers.j0 k a0 t103 t104 true)) else (secateurlaw04_WordNumbers.j0 k a0 t103 t104 true)) = some r := H
        have A17 := Aside0.mk A170
        clear A170
        by_cases c18 : t110.toList = t111.toList
        · rw [if_pos c18] at H
          have c18b0 : (t110.toList == t111.toList) = true := beq_iff_eq.mpr c18
          have c18b1 : (t110.toList != t111.toList) = false := bne_eq_false_iff_eq.mpr c18
          clear c18
          (first | rw [c18b0] | rw [c18b1] | (simp only [i64_w, i32_w]; rw [c18b0]) | skip)
          by_cases c19 : t105 = t107
          · rw [if_pos c19] at H
            have c19b0 : (t105 == t107) = true := beq_iff_eq.mpr c19
            have c19b1 : (t105 != t107) = false := bne_eq_false_iff_eq.mpr c19
            clear c19
            by_cases c20 : t106 = t108
            · rw [if_pos c20] at H
              have c20b0 : (t106 == t108) = true := beq_iff_eq.mpr c20
              have c20b1 : (t106 != t108) = false := bne_eq_false_iff_eq.mpr c20
              clear c20
              by_cases c21 : t106 = 0
              · rw [if_pos c21] at H
                have c21b0 : (t106 == 0) = true := beq_iff_eq.mpr c21
                have c21b1 : (t106 != 0) = false := bne_eq_false_iff_eq.mpr c21
                clear c21
                replace H := Option.bind_eq_some_iff.mp H
                obtain ⟨t112, A220, H⟩ := H
                replace H : (secateurlaw04_WordNumbers.j0 k a0 t103 t104 (t112.toList != a1.toList)) = some r := H
                have A22 := Aside0.mk A220
                clear A220
                have H' := Aside0.mk H
                clear H
                go_wp2_with (first | ((with_reducible refine gate_callee (f := 21) rfl ?_); refine goesL_ (some 31) rfl rfl Try.func21 (by kernel_rfl) rfl #[] rfl (by (try simp only [List.map_toArray, List.map_cons, List.map_nil]); first | done | rfl | (simp only [List.length_drop, List.length_take]; rfl)) ?_; (with_reducible refine (secateurlaw04_live.calls  true _ ?side1 A14.out).mono ?_); (case side1 => exact MaxL.below HGMaxL.out (by repeat (first | (with_reducible first | exact HB.out | apply below_alloc | apply pw_below_drewN | apply below_drew1) | exact HB.out))); rintro e w23 ⟨rfl, hb⟩; refine ⟨_, rfl, ?_⟩; have n0_ := Aside0.mk (below_step (by repeat (first | (with_reducible first | exact HB.out | apply below_alloc | apply pw_below_drewN | apply below_drew1) | exact HB.out)) hb); clear HB; have HB := n0_; clear n0_; (try clear hb); (try clear hb2); (try clear hk); (try clear hi)) | (go_at_call 27; (with_reducible refine (word_Digits.calls a0 t110 _ A16.out).mono ?_); rintro e w24 ⟨rfl, hb⟩; have n0_ := Aside0.mk (below_step (by repeat (first | (with_reducible first | exact HB.out | apply below_alloc | apply pw_below_drewN | apply below_drew1) | exact HB.out)) hb); clear HB; have HB := n0_; clear n0_; (try clear hb); (try clear hb2); (try clear hk); (try clear hi)) | (go_at_call 29; (with_reducible refine (secateurref04_Digits.calls a0 t111 _ A17.out).mono ?_); rintro e w' ⟨rfl, ⟨nd, rfl⟩⟩) | (go_at_call 27; (with_reducible refine (word_Digits.calls t105 t112 _ A22.out).mono ?_); rintro e w25 ⟨rfl, hb⟩; have n0_ := Aside0.mk (below_step (by repeat (first | (with_reducible first | exact HB.out | apply below_alloc | apply pw_below_drewN | apply below_drew1) | exact HB.out)) hb); clear HB; have HB := n0_; clear n0_; (try clear hb); (try clear hb2); (try clear hk); (try clear hi)))
                go_meet
                case rel => exact ⟨_, ((t112.toList != a1.toList)), (by first | rfl | (simp; done) | (simp [*]; done)), H', ⟨by first | omega | exact Nat.le_refl _⟩, ⟨by repeat (first | (with_reducible first | exact HB.out | apply below_alloc | apply pw_below_drewN | apply below_drew1) | exact HB.out)⟩⟩
              · rw [if_neg c21] at H
                have c21b0 : (t106 == 0) = false := beq_eq_false_iff_ne.mpr c21
                have c21b1 : (t106 != 0) = true := bne_iff_ne.mpr c21
                have H' := Aside0.mk H
                clear H
                go_wp2_with (first | ((with_reducible refine gate_callee (f := 21) rfl ?_); refine goesL_ (some 31) rfl rfl Try.func21 (by kernel_rfl) rfl #[] rfl (by (try simp only [List.map_toArray, List.map_cons, List.map_nil]); first | done | rfl | (simp only [List.length_drop, List.length_take]; rfl)) ?_; (with_reducible refine (secateurlaw04_live.calls  true _ ?side1 A14.out).mono ?_); (case side1 => exact MaxL.below HGMaxL.out (by repeat (first | (with_reducible first | exact HB.out | apply below_alloc | apply pw_below_drewN | apply below_drew1) | exact HB.out))); rintro e w26 ⟨rfl, hb⟩; refine ⟨_, rfl, ?_⟩; have n0_ := Aside0.mk (below_step (by repeat (first | (with_reducible first | exact HB.out | apply below_alloc | apply pw_below_drewN | apply below_drew1) | exact HB.out)) hb); clear HB; have HB := n0_; clear n0_; (try clear hb); (try clear hb2); (try clear hk); (try clear hi)) | (go_at_call 27; (with_reducible refine (word_Digits.calls a0 t110 _ A16.out).mono ?_); rintro e w27 ⟨rfl, hb⟩; have n0_ := Aside0.mk (below_step (by repeat (first | (with_reducible first | exact HB.out | apply below_alloc | apply pw_below_drewN | apply below_drew1) | exact HB.out)) hb); clear HB; have HB := n0_; clear n0_; (try clear hb); (try clear hb2); (try clear hk); (try clear hi)) | (go_at_call 29; (with_reducible refine (secateurref04_Digits.calls a0 t111 _ A17.out).mono ?_); rintro e w' ⟨rfl, ⟨nd, rfl⟩⟩))
                go_meet
                case rel => exact ⟨_, (false), (by first | rfl | (simp; done) | (simp [*]; done)), H', ⟨by first | omega | exact Nat.le_refl _⟩, ⟨by repeat (first | (with_reducible first | exact HB.out | apply below_alloc | apply pw_below_drewN | apply below_drew1) | exact HB.out)⟩⟩
            · rw [if_neg c20] at H
              have c20b0 : (t106 == t108) = false := beq_eq_false_iff_ne.mpr c20
              have c20b1 : (t106 != t108) = true := bne_iff_ne.mpr c20
              have H' := Aside0.mk H
              clear H
              go_wp2_with (first | ((with_reducible refine gate_callee (f := 21) rfl ?_); refine goesL_ (some 31) rfl rfl Try.func21 (by kernel_rfl) rfl #[] rfl (by (try simp only [List.map_toArray, List.map_cons, List.map_nil]); first | done | rfl | (simp only [List.length_drop, List.length_take]; rfl)) ?_; (with_reducible refine (secateurlaw04_live.calls  true _ ?side1 A14.out).mono ?_); (case side1 => exact MaxL.below HGMaxL.out (by repeat (first | (with_reducible first | exact HB.out | apply below_alloc | apply pw_below_drewN | apply below_drew1) | exact HB.out))); rintro e w28 ⟨rfl, hb⟩; refine ⟨_, rfl, ?_⟩; have n0_ := Aside0.mk (below_step (by repeat (first | (with_reducible first | exact HB.out | apply below_alloc | apply pw_below_drewN | apply below_drew1) | exact HB.out)) hb); clear HB; have HB := n0_; clear n0_; (try clear hb); (try clear hb2); (try clear hk); (try clear hi)) | (go_at_call 27; (with_reducible refine (word_Digits.calls a0 t110 _ A16.out).mono ?_); rintro e w29 ⟨rfl, hb⟩; have n0_ := Aside0.mk (below_step (by repeat (first | (with_reducible first | exact HB.out | apply below_alloc | apply pw_below_drewN | apply below_drew1) | exact HB.out)) hb); clear HB; have HB := n0_; clear n0_; (try clear hb); (try clear hb2); (try clear hk); (try clear hi)) | (go_at_call 29; (with_reducible refine (secateurref04_Digits.calls a0 t111 _ A17.out).mono ?_); rintro e w' ⟨rfl, ⟨nd, rfl⟩⟩))
              go_meet
              case rel => exact ⟨_, (true), (by first | rfl | (simp; done) | (simp [*]; done)), H', ⟨by first | omega | exact Nat.le_refl _⟩, ⟨by repeat (first | (with_reducible first | exact HB.out | apply below_alloc | apply pw_below_drewN | apply below_drew1) | exact HB.out)⟩⟩
          · rw [if_neg c19] at H
            have c19b0 : (t105 == t107) = false := beq_eq_false_iff_ne.mpr c19
            have c19b1 : (t105 != t107) = true := bne_iff_ne.mpr c19
            have H' := Aside0.mk H
            clear H
            go_wp2_with (first | ((with_reducible refine gate_callee (f := 21) rfl ?_); refine goesL_ (some 31) rfl rfl Try.func21 (by kernel_rfl) rfl #[] rfl (by (try simp only [List.map_toArray, List.map_cons, List.map_nil]); first | done | rfl | (simp only [List.length_drop, List.length_take]; rfl)) ?_; (with_reducible refine (secateurlaw04_live.calls  true _ ?side1 A14.out).mono ?_); (case side1 => exact MaxL.below HGMaxL.out (by repeat (first | (with_reducible first | exact HB.out | apply below_alloc | apply pw_below_drewN | apply below_drew1) | exact HB.out))); rintro e w30 ⟨rfl, hb⟩; refine ⟨_, rfl, ?_⟩; have n0_ := Aside0.mk (below_step (by repeat (first | (with_reducible first | exact HB.out | apply below_alloc | apply pw_below_drewN | apply below_drew1) | exact HB.out)) hb); clear HB; have HB := n0_; clear n0_; (try clear hb); (try clear hb2); (try clear hk); (try clear hi)) | (go_at_call 27; (with_reducible refine (word_Digits.calls a0 t110 _ A16.out).mono ?_); rintro e w31 ⟨rfl, hb⟩; have n0_ := Aside0.mk (below_step (by repeat (first | (with_reducible first | exact HB.out | apply below_alloc | apply pw_below_drewN | apply below_drew1) | exact HB.out)) hb); clear HB; have HB := n0_; clear n0_; (try clear hb); (try clear hb2); (try clear hk); (try clear hi)) | (go_at_call 29; (with_reducible refine (secateurref04_Digits.calls a0 t111 _ A17.out).mono ?_); rintro e w' ⟨rfl, ⟨nd, rfl⟩⟩))
            go_meet
            case rel => exact ⟨_, (true), (by first | rfl | (simp; done) | (simp [*]; done)), H', ⟨by first | omega | exact Nat.le_refl _⟩, ⟨by repeat (first | (with_reducible first | exact HB.out | apply below_alloc | apply pw_below_drewN | apply below_drew1) | exact HB.out)⟩⟩
        · rw [if_neg c18] at H
          have c18b0 : (t110.toList == t111.toList) = false := beq_eq_false_iff_ne.mpr c18
          have c18b1 : (t110.toList != t111.toList) = true := bne_iff_ne.mpr c18
          (first | rw [c18b0] | rw [c18b1] | (simp only [i64_w, i32_w]; rw [c18b0]) | skip)
          have H' := Aside0.mk H
          clear H
          go_wp2_with (first | ((with_reducible refine gate_callee (f := 21) rfl ?_); refine goesL_ (some 31) rfl rfl Try.func21 (by kernel_rfl) rfl #[] rfl (by (try simp only [List.map_toArray, List.map_cons, List.map_nil]); first | done | rfl | (simp only [List.length_drop, List.length_take]; rfl)) ?_; (with_reducible refine (secateurlaw04_live.calls  true _ ?side1 A14.out).mono ?_); (case side1 => exact MaxL.below HGMaxL.out (by repeat (first | (with_reducible first | exact HB.out | apply below_alloc | apply pw_below_drewN | apply below_drew1) | exact HB.out))); rintro e w32 ⟨rfl, hb⟩; refine ⟨_, rfl, ?_⟩; have n0_ := Aside0.mk (below_step (by repeat (first | (with_reducible first | exact HB.out | apply below_alloc | apply pw_below_drewN | apply below_drew1) | exact HB.out)) hb); clear HB; have HB := n0_; clear n0_; (try clear hb); (try clear hb2); (try clear hk); (try clear hi)) | (go_at_call 27; (with_reducible refine (word_Digits.calls a0 t110 _ A16.out).mono ?_); rintro e w33 ⟨rfl, hb⟩; have n0_ := Aside0.mk (below_step (by repeat (first | (with_reducible first | exact HB.out | apply below_alloc | apply pw_below_drewN | apply below_drew1) | exact HB.out)) hb); clear HB; have HB := n0_; clear n0_; (try clear hb); (try clear hb2); (try clear hk); (try clear hi)) | (go_at_call 29; (with_reducible refine (secateurref04_Digits.calls a0 t111 _ A17.out).mono ?_); rintro e w' ⟨rfl, ⟨nd, rfl⟩⟩))
          go_meet
          case rel => exact ⟨_, (true), (by first | rfl | (simp; done) | (simp [*]; done)), H', ⟨by first | omega | exact Nat.le_refl _⟩, ⟨by repeat (first | (with_reducible first | exact HB.out | apply below_alloc | apply pw_below_drewN | apply below_drew1) | exact HB.out)⟩⟩
      · replace c15 := Bool.eq_false_iff.mpr c15
        subst c15
        have H1 : (secateurlaw04_WordNumbers.j0 k a0 t103 t104 true) = some r := by rw [if_neg (show ¬ (false = true) by decide)] at H; exact H
        clear H
        have H := H1
        clear H1
        have H' := Aside0.mk H
        clear H
        go_wp2_with (first | ((with_reducible refine gate_callee (f := 21) rfl ?_); refine goesL_ (some 31) rfl rfl Try.func21 (by kernel_rfl) rfl #[] rfl (by (try simp only [List.map_toArray, List.map_cons, List.map_nil]); first | done | rfl | (simp only [List.length_drop, List.length_take]; rfl)) ?_; (with_reducible refine (secateurlaw04_live.calls  false _ ?side1 A14.out).mono ?_); (case side1 => exact MaxL.below HGMaxL.out (by repeat (first | (with_reducible first | exact HB.out | apply below_alloc | apply pw_below_drewN | apply below_drew1) | exact HB.out))); rintro e w34 ⟨rfl, hb⟩; refine ⟨_, rfl, ?_⟩; have n0_ := Aside0.mk (below_step (by repeat (first | (with_reducible first | exact HB.out | apply below_alloc | apply pw_below_drewN | apply below_drew1) | exact HB.out)) hb); clear HB; have HB := n0_; clear n0_; (try clear hb); (try clear hb2); (try clear hk); (try clear hi)))
        go_meet
        case rel => exact ⟨_, (true), (by first | rfl | (simp; done) | (simp [*]; done)), H', ⟨by first | omega | exact Nat.le_refl _⟩, ⟨by repeat (first | (with_reducible first | exact HB.out | apply below_alloc | apply pw_below_drewN | apply below_drew1) | exact HB.out)⟩⟩
    case rest =>
      clear HC10
      try clear c1
      try clear c2
      try clear p2
      try clear c3
      try clear c3b0
      try clear c3b1
      try clear c5
      try clear c15
      try clear c18
      try clear c18b0
      try clear c18b1
      try clear c19
      try clear c19b0
      try clear c19b1
      try clear c20
      try clear c20b0
      try clear c20b1
      try clear c21
      try clear c21b0
      try clear c21b1
      try clear c26
      try clear c27
      try clear c28
      obtain ⟨kq, x59_9, rfl, HA, HJ9, HB⟩ := hcut
      cases kq with
      | zero => exact absurd HA.out (by simp [secateurlaw04_WordNumbers.j0])
      | succ kj9 =>
        have H := HA.out
        clear HA
        simp only [secateurlaw04_WordNumbers.j0] at H
        by_cases c35 : x59_9 = true
        · subst c35
          have H1 : (some false) = some r := by rw [if_pos rfl] at H; exact H
          clear H
          have H := H1
          clear H1
          obtain rfl := Option.some.inj H
          go_wp2
          go_ret
          exact ⟨by first | rfl | (simp [errW_none, errW_some] <;> rfl) | (simp [*, errW_none, errW_some] <;> rfl), by repeat (first | (with_reducible first | exact HB.out | apply below_alloc | apply pw_below_drewN | apply below_drew1) | exact HB.out)⟩
        · replace c35 := Bool.eq_false_iff.mpr c35
          subst c35
          have H1 : (if a0 < 0 then (if t103 = 0 then (some (t104 == 1)) else (some false)) else (if a0 > 65536 then (if t103 = 0 then (some (t104 == 12)) else (some false)) else (if t103 = a0 then (some (t104 == 0)) else (some false)))) = some r := by rw [if_neg (show ¬ (false = true) by decide)] at H; exact H
          clear H
          have H := H1
          clear H1
          by_cases c36 : a0 < 0
          · rw [if_pos c36] at H
            have c36b0 : decide (a0 < 0) = true := decide_eq_true c36
            clear c36
            by_cases c37 : t103 = 0
            · rw [if_pos c37] at H
              have c37b0 : (t103 == 0) = true := beq_iff_eq.mpr c37
              have c37b1 : (t103 != 0) = false := bne_eq_false_iff_eq.mpr c37
              clear c37
              obtain rfl := Option.some.inj H
              go_wp2
              go_ret
              exact ⟨by first | rfl | (simp [errW_none, errW_some] <;> rfl) | (simp [*, errW_none, errW_some] <;> rfl), by repeat (first | (with_reducible first | exact HB.out | apply below_alloc | apply pw_below_drewN | apply below_drew1) | exact HB.out)⟩
            · rw [if_neg c37] at H
              have c37b0 : (t103 == 0) = false := beq_eq_false_iff_ne.mpr c37
              have c37b1 : (t103 != 0) = true := bne_iff_ne.mpr c37
              obtain rfl := Option.some.inj H
              go_wp2
              go_ret
              exact ⟨by first | rfl | (simp [errW_none, errW_some] <;> rfl) | (simp [*, errW_none, errW_some] <;> rfl), by repeat (first | (with_reducible first | exact HB.out | apply below_alloc | apply pw_below_drewN | apply below_drew1) | exact HB.out)⟩
          · rw [if_neg c36] at H
            have c36b0 : decide (a0 < 0) = false := decide_eq_false c36
            clear c36
            by_cases c38 : a0 > 65536
            · rw [if_pos c38] at H
              have c38b0 : decide (65536 < a0) = true := decide_eq_true c38
              clear c38
              by_cases c39 : t103 = 0
              · rw [if_pos c39] at H
                have c39b0 : (t103 == 0) = true := beq_iff_eq.mpr c39
                have c39b1 : (t103 != 0) = false := bne_eq_false_iff_eq.mpr c39
                clear c39
                obtain rfl := Option.some.inj H
                go_wp2
                go_ret
                exact ⟨by first | rfl | (simp [errW_none, errW_some] <;> rfl) | (simp [*, errW_none, errW_some] <;> rfl), by repeat (first | (with_reducible first | exact HB.out | apply below_alloc | apply pw_below_drewN | apply below_drew1) | exact HB.out)⟩
              · rw [if_neg c39] at H
                have c39b0 : (t103 == 0) = false := beq_eq_false_iff_ne.mpr c39
                have c39b1 : (t103 != 0) = true := bne_iff_ne.mpr c39
                obtain rfl := Option.some.inj H
                go_wp2
                go_ret
                exact ⟨by first | rfl | (simp [errW_none, errW_some] <;> rfl) | (simp [*, errW_none, errW_some] <;> rfl), by repeat (first | (with_reducible first | exact HB.out | apply below_alloc | apply pw_below_drewN | apply below_drew1) | exact HB.out)⟩
            · rw [if_neg c38] at H
              have c38b0 : decide (65536 < a0) = false := decide_eq_false c38
              clear c38
              by_cases c40 : t103 = a0
              · rw [if_pos c40] at H
                have c40b0 : (t103 == a0) = true := beq_iff_eq.mpr c40
                have c40b1 : (t103 != a0) = false := bne_eq_false_iff_eq.mpr c40
                clear c40
                obtain rfl := Option.some.inj H
                go_wp2
                go_ret
                exact ⟨by first | rfl | (simp [errW_none, errW_some] <;> rfl) | (simp [*, errW_none, errW_some] <;> rfl), by repeat (first | (with_reducible first | exact HB.out | apply below_alloc | apply pw_below_drewN | apply below_drew1) | exact HB.out)⟩
              · rw [if_neg c40] at H
                have c40b0 : (t103 == a0) = false := beq_eq_false_iff_ne.mpr c40
                have c40b1 : (t103 != a0) = true := bne_iff_ne.mpr c40
                obtain rfl := Option.some.inj H
                go_wp2
                go_ret
                exact ⟨by first | rfl | (simp [errW_none, errW_some] <;> rfl) | (simp [*, errW_none, errW_some] <;> rfl), by repeat (first | (with_reducible first | exact HB.out | apply below_alloc | apply pw_below_drewN | apply below_drew1) | exact HB.out)⟩

/-- THE ONE PURE STATEMENT of secateurlaw04_WordNumbers: yours. -/
def secateurlaw04_WordNumbers.Pure : Prop := ∀ (a0 : Int) (a1 : ByteArray), (Lit.int .i64 a0).wf = true → a1.size ≤ 140737488351232 → ∃ k, secateurlaw04_WordNumbers.f k a0 a1 = some true
theorem secateurlaw04_WordNumbers.walk (P : secateurlaw04_WordNumbers.Pure) (a0 : Int) (a1 : ByteArray) (w : World) (w0 : (Lit.int .i64 a0).wf = true) (w1 : a1.size ≤ 140737488351232) (hGMaxL : MaxL w) :
    Calls Try.prog 5 #[.int .i64 a0, .string a1] w fun e w' => e = .returned (.bool true) ∧ Below w.heap.size w w' := by
  obtain ⟨k, h⟩ := P a0 a1 w0 w1
  refine (secateurlaw04_WordNumbers.calls k a0 a1 true w hGMaxL h).mono ?_
  rintro e w' ⟨rfl, hd⟩
  exact ⟨rfl, hd⟩

end Go.Proofs.Ytcbakmojhicahaa.PWordNumbers
