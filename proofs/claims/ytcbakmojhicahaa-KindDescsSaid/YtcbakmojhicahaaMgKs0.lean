import Derived.Test.YtcbakmojhicahaaProg
import Derived.Below
import Derived.Deep.Draws
import Derived.Deep.AppendLies
import Derived.Maps.AppendAt
import Derived.OwnWalk
import Derived.Laws.BytesArg
import Derived.Laws.MakeOwn
import Derived.Laws.OwnMore
import Derived.Deep.OwnRows
import Derived.Tactics
import Derived.Lib.ConvBytes
import Derived.Laws.Slices
import Derived.WalkKit
import Derived.KernelRfl
import Derived.RowKit3
import Derived.Deep.LoopGhost
import Derived.Deep.QuietTactic
import Derived.BigQuiet
import Derived.WideLaws
import Derived.Deep.DeepCutAuto
import Derived.Deep.CutBlock
import Derived.Deep.RegionHeld3
import Derived.Laws.Rows
import Derived.Lib.AppendStr
import Derived.ArgAppend
import Derived.Laws.IdiomCopy
import Derived.OrdersHeld
import Derived.Laws.BitsLemmas
import Derived.RowKit
import Derived.Test.YtcbakmojhicahaaWWords
import Derived.Test.YtcbakmojhicahaaWLast
import Derived.Test.YtcbakmojhicahaaWTab
import Derived.Test.YtcbakmojhicahaaWFour
import Derived.Test.YtcbakmojhicahaaWQPut
import Derived.Test.YtcbakmojhicahaaWApart
import Derived.Test.YtcbakmojhicahaaWArr
import Derived.Test.YtcbakmojhicahaaWZeros
import Derived.Test.YtcbakmojhicahaaWFoot
import Derived.Test.YtcbakmojhicahaaWKept
import Derived.Test.YtcbakmojhicahaaWShare
import Derived.Test.YtcbakmojhicahaaWN
import Derived.Test.YtcbakmojhicahaaWFootNe
import Derived.Test.YtcbakmojhicahaaWAt
import Derived.Test.YtcbakmojhicahaaWEqStruct
import Derived.Test.YtcbakmojhicahaaWRepsOne
import Derived.Test.YtcbakmojhicahaaWInv
import Derived.Test.YtcbakmojhicahaaWInvWords
import Derived.Test.YtcbakmojhicahaaWGuard
import Derived.Test.YtcbakmojhicahaaWNEv
import Derived.Test.YtcbakmojhicahaaWMore
import Derived.Shelf.Strings.Search1
import Derived.Shelf.Strings.Search2
import Derived.Shelf.Strings.Cut
import Derived.Shelf.LaysM
import Derived.Shelf.Strings.Shaped
import Derived.Shelf.Strings.LastIndex
import Derived.Shelf.GgClosure.StringsIndexFunc
import Derived.Ground.GgwProg
import Derived.Shelf.GgClosure.StringsIndexFuncTop
import Derived.Shelf.GgClosure.StringsRunes
import Derived.Shelf.Strings.FuncGrows
import Derived.Ground.PaProg
import Derived.Shelf.Path.Small
import Derived.Lib.Hide
import Derived.Laws.CopyOwn
import Derived.Laws.Strings
import Derived.Maps.OwnIn
import Derived.IntWalk
import Derived.RangeFuncRecord
import Derived.RangeFuncBox
import Derived.Recover
import Derived.Defers
import Derived.Laws.Pointers
import Derived.BigRegionIn
import Derived.WalkSmall
section
-- Written by this session's program layer.py (the kit's print, turned), not by hand.
namespace Go.Proofs.Ytcbakmojhicahaa.Q13
open Go.RowKit Go.Proofs.YtcbakmojhicahaaW.PrintWords Go.Proofs.YtcbakmojhicahaaW.PrintLast Go.Proofs.YtcbakmojhicahaaW.PrintMore
attribute [local go_sem] max2_int min2_int max_two min_two max_three min_three max_four min_four   -- for this text's walks alone
set_option linter.unusedVariables false
set_option linter.unusedSimpArgs false



def errW : Option Int → Value
  | none => .nilIface
  | some c => .iface 0 (.int .i64 c)
theorem errW_none : errW none = .nilIface := rfl
theorem errW_some (c : Int) : errW (some c) = .iface 0 (.int .i64 c) := rfl

-- the values' own types

end Go.Proofs.Ytcbakmojhicahaa.Q13
end

section
-- Written by this session's program layer.py (the kit's print, turned), not by hand.
namespace Go.Proofs.Ytcbakmojhicahaa.Q13
open Go.RowKit Go.Proofs.YtcbakmojhicahaaW.PrintWords Go.Proofs.YtcbakmojhicahaaW.PrintLast Go.Proofs.YtcbakmojhicahaaW.PrintMore
attribute [local go_sem] max2_int min2_int max_two min_two max_three min_three max_four min_four   -- for this text's walks alone
set_option linter.unusedVariables false
set_option linter.unusedSimpArgs false

/-! ### word_letter: function 82 -/
mutual
def word_letter.j0 : Nat → Int → Bool → Option (Bool)
  | 0, _, _ => none
  | k + 1, x0, x3 => if x3 = true then (some true) else (if x0 ≥ 65 then (word_letter.j1 k x0 (decide (x0 ≤ 90))) else (word_letter.j1 k x0 false))
def word_letter.j1 : Nat → Int → Bool → Option (Bool)
  | 0, _, _ => none
  | k + 1, x0, x8 => if x8 = true then (some true) else (if x0 ≥ 97 then (word_letter.j2 k x0 (decide (x0 ≤ 122))) else (word_letter.j2 k x0 false))
def word_letter.j2 : Nat → Int → Bool → Option (Bool)
  | 0, _, _ => none
  | k + 1, x0, x8 => if x8 = true then (some true) else (if x0 ≥ 48 then (if x0 ≤ 57 then (some true) else (some false)) else (some false))
end
def word_letter.f (k : Nat) (a0 : Int) : Option (Bool) := if a0 = 95 then (word_letter.j0 k a0 (a0 == 95)) else (word_letter.j0 k a0 (a0 == 36))
theorem word_letter.mono_l : ∀ k, (∀ y0 y1, LeO (word_letter.j0 k y0 y1) (word_letter.j0 (k + 1) y0 y1)) ∧ (∀ y0 y1, LeO (word_letter.j1 k y0 y1) (word_letter.j1 (k + 1) y0 y1)) ∧ (∀ y0 y1, LeO (word_letter.j2 k y0 y1) (word_letter.j2 (k + 1) y0 y1))
  | 0 => ⟨fun _ _ r h => by simp [word_letter.j0] at h, fun _ _ r h => by simp [word_letter.j1] at h, fun _ _ r h => by simp [word_letter.j2] at h⟩
  | k + 1 => by
    obtain ⟨ih0, ih1, ih2⟩ := word_letter.mono_l k
    refine ⟨?_, ?_, ?_⟩
    · intro y0 y1
      unfold word_letter.j0
      repeat' first
      | (with_reducible exact ih0 _ _)
      | (with_reducible exact ih1 _ _)
      | (with_reducible exact ih2 _ _)
      | (with_reducible exact LeO.refl _)
      | (with_reducible exact LeO.none _)
      | (with_reducible refine LeO.ite ?_ ?_)
      | (with_reducible refine LeO.bind ?_ (fun _ => ?_))
      | exact ih0 _ _
      | exact ih1 _ _
      | exact ih2 _ _
      | exact LeO.none _
      | refine LeO.ite ?_ ?_
      | refine LeO.bind ?_ (fun _ => ?_)
    · intro y0 y1
      unfold word_letter.j1
      repeat' first
      | (with_reducible exact ih0 _ _)
      | (with_reducible exact ih1 _ _)
      | (with_reducible exact ih2 _ _)
      | (with_reducible exact LeO.refl _)
      | (with_reducible exact LeO.none _)
      | (with_reducible refine LeO.ite ?_ ?_)
      | (with_reducible refine LeO.bind ?_ (fun _ => ?_))
      | exact ih0 _ _
      | exact ih1 _ _
      | exact ih2 _ _
      | exact LeO.none _
      | refine LeO.ite ?_ ?_
      | refine LeO.bind ?_ (fun _ => ?_)
    · intro y0 y1
      unfold word_letter.j2
      repeat' first
      | (with_reducible exact ih0 _ _)
      | (with_reducible exact ih1 _ _)
      | (with_reducible exact ih2 _ _)
      | (with_reducible exact LeO.refl _)
      | (with_reducible exact LeO.none _)
      | (with_reducible refine LeO.ite ?_ ?_)
      | (with_reducible refine LeO.bind ?_ (fun _ => ?_))
      | exact ih0 _ _
      | exact ih1 _ _
      | exact ih2 _ _
      | exact LeO.none _
      | refine LeO.ite ?_ ?_
      | refine LeO.bind ?_ (fun _ => ?_)
theorem word_letter.mono : ∀ a0 k, LeO (word_letter.f k a0) (word_letter.f (k + 1) a0) := by
  intro a0 k
  obtain ⟨ih0, ih1, ih2⟩ := word_letter.mono_l k
  unfold word_letter.f
  repeat' first
      | (with_reducible exact ih0 _ _)
      | (with_reducible exact ih1 _ _)
      | (with_reducible exact ih2 _ _)
      | (with_reducible exact LeO.refl _)
      | (with_reducible exact LeO.none _)
      | (with_reducible refine LeO.ite ?_ ?_)
      | (with_reducible refine LeO.bind ?_ (fun _ => ?_))
      | exact ih0 _ _
      | exact ih1 _ _
      | exact ih2 _ _
      | exact LeO.none _
      | refine LeO.ite ?_ ?_
      | refine LeO.bind ?_ (fun _ => ?_)
set_option maxHeartbeats 8000000 in
set_option maxRecDepth 100000 in
theorem word_letter.calls (k : Nat) (a0 : Int) (r : Bool) (w : World) (h : word_letter.f k a0 = some r) :
    Calls Try.prog 82 #[.int .u8 a0] w fun e w' => e = .returned (.bool r) ∧ Drawn0 w w' := by
  have H : (if a0 = 95 then (word_letter.j0 k a0 (a0 == 95)) else (word_letter.j0 k a0 (a0 == 36))) = some r := h
  clear h
  have HC2 := Aside0.mk H
  clear H
  go_enter Try.func82, Try.ntmps82
  go_upto_if 3 with (fail)
  go_cut [3] (fun v3 wc => ∃ (kq : Nat) (x3_1 : Bool), v3 = .bool x3_1 ∧ Aside0 (word_letter.j0 kq a0 x3_1 = some r) ∧ Aside0 (kq ≤ k) ∧ Drawn0 w wc)
  case first =>
    have H := HC2.out
    clear HC2
    by_cases c3 : a0 = 95
    · rw [if_pos c3] at H
      have c3b0 : (a0 == 95) = true := beq_iff_eq.mpr c3
      have c3b1 : (a0 != 95) = false := bne_eq_false_iff_eq.mpr c3
      clear c3
      (first | rw [c3b0] | rw [c3b1] | (simp only [i64_w, i32_w]; rw [c3b0]) | skip)
      have H' := Aside0.mk H
      clear H
      go_wp2
      go_meet
      case rel => exact ⟨_, ((a0 == 95)), (by first | rfl | (simp; done) | (simp [*]; done)), H', ⟨by first | omega | exact Nat.le_refl _⟩, by repeat (first | exact Drawn0.refl _ | apply Drawn0.step)⟩
    · rw [if_neg c3] at H
      have c3b0 : (a0 == 95) = false := beq_eq_false_iff_ne.mpr c3
      have c3b1 : (a0 != 95) = true := bne_iff_ne.mpr c3
      (first | rw [c3b0] | rw [c3b1] | (simp only [i64_w, i32_w]; rw [c3b0]) | skip)
      have H' := Aside0.mk H
      clear H
      go_wp2
      go_meet
      case rel => exact ⟨_, ((a0 == 36)), (by first | rfl | (simp; done) | (simp [*]; done)), H', ⟨by first | omega | exact Nat.le_refl _⟩, by repeat (first | exact Drawn0.refl _ | apply Drawn0.step)⟩
  case rest =>
    clear HC2
    try clear p2
    try clear c3
    try clear c3b0
    try clear c3b1
    obtain ⟨kq, x3_1, rfl, HA, HJ1, ⟨mc1, rfl⟩⟩ := hcut
    cases kq with
    | zero => exact absurd HA.out (by simp [word_letter.j0])
    | succ kj1 =>
      have H := HA.out
      clear HA
      simp only [word_letter.j0] at H
      by_cases c4 : x3_1 = true
      · subst c4
        have H1 : (some true) = some r := by rw [if_pos rfl] at H; exact H
        clear H
        have H := H1
        clear H1
        obtain rfl := Option.some.inj H
        go_wp2
        go_ret
        exact ⟨by first | rfl | (simp; done) | (simp [*]; done), by repeat (first | exact Drawn0.refl _ | apply Drawn0.step)⟩
      · replace c4 := Bool.eq_false_iff.mpr c4
        subst c4
        have H1 : (if a0 ≥ 65 then (word_letter.j1 kj1 a0 (decide (a0 ≤ 90))) else (word_letter.j1 kj1 a0 false)) = some r := by rw [if_neg (show ¬ (false = true) by decide)] at H; exact H
        clear H
        have H := H1
        clear H1
        have HC5 := Aside0.mk H
        clear H
        go_upto_region 3 with (fail)
        go_cut [8] (fun v8 wc => ∃ (kq : Nat) (x8_4 : Bool), v8 = .bool x8_4 ∧ Aside0 (word_letter.j1 kq a0 x8_4 = some r) ∧ Aside0 (kq ≤ kj1) ∧ Drawn0 w wc)
        case first =>
          have H := HC5.out
          clear HC5
          by_cases c6 : a0 ≥ 65
          · rw [if_pos c6] at H
            have c6b0 : decide (65 ≤ a0) = true := decide_eq_true c6
            clear c6
            (first | rw [c6b0] | rw [c6b1] | (simp only [i64_w, i32_w]; rw [c6b0]) | skip)
            have H' := Aside0.mk H
            clear H
            go_wp2
            go_meet
            case rel => exact ⟨_, (decide (a0 ≤ 90)), (by first | rfl | (simp; done) | (simp [*]; done)), H', ⟨by have := HJ1.out; first | omega | exact Nat.le_refl _⟩, by repeat (first | exact Drawn0.refl _ | apply Drawn0.step)⟩
          · rw [if_neg c6] at H
            have c6b0 : decide (65 ≤ a0) = false := decide_eq_false c6
            clear c6
            (first | rw [c6b0] | rw [c6b1] | (simp only [i64_w, i32_w]; rw [c6b0]) | skip)
            have H' := Aside0.mk H
            clear H
            go_wp2
            go_meet
            case rel => exact ⟨_, (false), (by first | rfl | (simp; done) | (simp [*]; done)), H', ⟨by have := HJ1.out; first | omega | exact Nat.le_refl _⟩, by repeat (first | exact Drawn0.refl _ | apply Drawn0.step)⟩
        case rest =>
          clear HC5
          try clear c1
          try clear p2
          try clear c3
          try clear c3b0
          try clear c3b1
          try clear c4
          try clear c6
          try clear c6b0
          try clear c6b1
          try clear p2
          obtain ⟨kq, x8_4, rfl, HA, HJ4, ⟨mc4, rfl⟩⟩ := hcut
          cases kq with
          | zero => exact absurd HA.out (by simp [word_letter.j1])
          | succ kj4 =>
            have H := HA.out
            clear HA
            simp only [word_letter.j1] at H
            by_cases c7 : x8_4 = true
            · subst c7
              have H1 : (some true) = some r := by rw [if_pos rfl] at H; exact H
              clear H
              have H := H1
              clear H1
              obtain rfl := Option.some.inj H
              go_wp2
              go_ret
              exact ⟨by first | rfl | (simp; done) | (simp [*]; done), by repeat (first | exact Drawn0.refl _ | apply Drawn0.step)⟩
            · replace c7 := Bool.eq_false_iff.mpr c7
              subst c7
              have H1 : (if a0 ≥ 97 then (word_letter.j2 kj4 a0 (decide (a0 ≤ 122))) else (word_letter.j2 kj4 a0 false)) = some r := by rw [if_neg (show ¬ (false = true) by decide)] at H; exact H
              clear H
              have H := H1
              clear H1
              have HC8 := Aside0.mk H
              clear H
              go_upto_region 4 with (fail)
              go_cut [8] (fun v8 wc => ∃ (kq : Nat) (x8_7 : Bool), v8 = .bool x8_7 ∧ Aside0 (word_letter.j2 kq a0 x8_7 = some r) ∧ Aside0 (kq ≤ kj4) ∧ Drawn0 w wc)
              case first =>
                have H := HC8.out
                clear HC8
                by_cases c9 : a0 ≥ 97
                · rw [if_pos c9] at H
                  have c9b0 : decide (97 ≤ a0) = true := decide_eq_true c9
                  clear c9
                  (first | rw [c9b0] | rw [c9b1] | (simp only [i64_w, i32_w]; rw [c9b0]) | skip)
                  have H' := Aside0.mk H
                  clear H
                  go_wp2
                  go_meet
                  case rel => exact ⟨_, (decide (a0 ≤ 122)), (by first | rfl | (simp; done) | (simp [*]; done)), H', ⟨by have := HJ1.out; have := HJ4.out; first | omega | exact Nat.le_refl _⟩, by repeat (first | exact Drawn0.refl _ | apply Drawn0.step)⟩
                · rw [if_neg c9] at H
                  have c9b0 : decide (97 ≤ a0) = false := decide_eq_false c9
                  clear c9
                  (first | rw [c9b0] | rw [c9b1] | (simp only [i64_w, i32_w]; rw [c9b0]) | skip)
                  have H' := Aside0.mk H
                  clear H
                  go_wp2
                  go_meet
                  case rel => exact ⟨_, (false), (by first | rfl | (simp; done) | (simp [*]; done)), H', ⟨by have := HJ1.out; have := HJ4.out; first | omega | exact Nat.le_refl _⟩, by repeat (first | exact Drawn0.refl _ | apply Drawn0.step)⟩
              case rest =>
                clear HC8
                try clear c1
                try clear p2
                try clear c3
                try clear c3b0
                try clear c3b1
                try clear c4
                try clear c6
                try clear c6b0
                try clear c6b1
                try clear c7
                try clear c8
                try clear c9
                try clear c9b0
                try clear c9b1
                try clear p2
                obtain ⟨kq, x8_7, rfl, HA, HJ7, ⟨mc7, rfl⟩⟩ := hcut
                cases kq with
                | zero => exact absurd HA.out (by simp [word_letter.j2])
                | succ kj7 =>
                  have H := HA.out
                  clear HA
                  simp only [word_letter.j2] at H
                  by_cases c10 : x8_7 = true
                  · subst c10
                    have H1 : (some true) = some r := by rw [if_pos rfl] at H; exact H
                    clear H
                    have H := H1
                    clear H1
                    obtain rfl := Option.some.inj H
                    go_wp2
                    go_ret
                    exact ⟨by first | rfl | (simp; done) | (simp [*]; done), by repeat (first | exact Drawn0.refl _ | apply Drawn0.step)⟩
                  · replace c10 := Bool.eq_false_iff.mpr c10
                    subst c10
                    have H1 : (if a0 ≥ 48 then (if a0 ≤ 57 then (some true) else (some false)) else (some false)) = some r := by rw [if_neg (show ¬ (false = true) by decide)] at H; exact H
                    clear H
                    have H := H1
                    clear H1
                    by_cases c11 : a0 ≥ 48
                    · rw [if_pos c11] at H
                      have c11b0 : decide (48 ≤ a0) = true := decide_eq_true c11
                      clear c11
                      by_cases c12 : a0 ≤ 57
                      · rw [if_pos c12] at H
                        have c12b0 : decide (a0 ≤ 57) = true := decide_eq_true c12
                        clear c12
                        obtain rfl := Option.some.inj H
                        go_wp2
                        go_ret
                        exact ⟨by first | rfl | (simp; done) | (simp [*]; done), by repeat (first | exact Drawn0.refl _ | apply Drawn0.step)⟩
                      · rw [if_neg c12] at H
                        have c12b0 : decide (a0 ≤ 57) = false := decide_eq_false c12
                        clear c12
                        obtain rfl := Option.some.inj H
                        go_wp2
                        go_ret
                        exact ⟨by first | rfl | (simp; done) | (simp [*]; done), by repeat (first | exact Drawn0.refl _ | apply Drawn0.step)⟩
                    · rw [if_neg c11] at H
                      have c11b0 : decide (48 ≤ a0) = false := decide_eq_false c11
                      clear c11
                      obtain rfl := Option.some.inj H
                      go_wp2
                      go_ret
                      exact ⟨by first | rfl | (simp; done) | (simp [*]; done), by repeat (first | exact Drawn0.refl _ | apply Drawn0.step)⟩

/-! ### secateurref04_letter: function 125 -/
def secateurref04_letter.f (a0 : Int) : Option (Bool) := if a0 ≥ 65 then (if a0 ≤ 90 then (some true) else (if a0 ≥ 97 then (if a0 ≤ 122 then (some true) else (if a0 ≥ 48 then (if a0 ≤ 57 then (some true) else (if a0 = 95 then (some true) else (some (a0 == 36)))) else (if a0 = 95 then (some true) else (some (a0 == 36))))) else (if a0 ≥ 48 then (if a0 ≤ 57 then (some true) else (if a0 = 95 then (some true) else (some (a0 == 36)))) else (if a0 = 95 then (some true) else (some (a0 == 36)))))) else (if a0 ≥ 97 then (if a0 ≤ 122 then (some true) else (if a0 ≥ 48 then (if a0 ≤ 57 then (some true) else (if a0 = 95 then (some true) else (some (a0 == 36)))) else (if a0 = 95 then (some true) else (some (a0 == 36))))) else (if a0 ≥ 48 then (if a0 ≤ 57 then (some true) else (if a0 = 95 then (some true) else (some (a0 == 36)))) else (if a0 = 95 then (some true) else (some (a0 == 36)))))
set_option maxHeartbeats 8000000 in
set_option maxRecDepth 100000 in
theorem secateurref04_letter.calls (a0 : Int) (r : Bool) (w : World) (h : secateurref04_letter.f a0 = some r) :
    Calls Try.prog 125 #[.int .u8 a0] w fun e w' => e = .returned (.bool r) ∧ Drawn0 w w' := by
  have H : (if a0 ≥ 65 then (if a0 ≤ 90 then (some true) else (if a0 ≥ 97 then (if a0 ≤ 122 then (some true) else (if a0 ≥ 48 then (if a0 ≤ 57 then (some true) else (if a0 = 95 then (some true) else (some (a0 == 36)))) else (if a0 = 95 then (some true) else (some (a0 == 36))))) else (if a0 ≥ 48 then (if a0 ≤ 57 then (some true) else (if a0 = 95 then (some true) else (some (a0 == 36)))) else (if a0 = 95 then (some true) else (some (a0 == 36)))))) else (if a0 ≥ 97 then (if a0 ≤ 122 then (some true) else (if a0 ≥ 48 then (if a0 ≤ 57 then (some true) else (if a0 = 95 then (some true) else (some (a0 == 36)))) else (if a0 = 95 then (some true) else (some (a0 == 36))))) else (if a0 ≥ 48 then (if a0 ≤ 57 then (some true) else (if a0 = 95 then (some true) else (some (a0 == 36)))) else (if a0 = 95 then (some true) else (some (a0 == 36)))))) = some r := h
  clear h
  by_cases c2 : a0 ≥ 65
  · rw [if_pos c2] at H
    have c2b0 : decide (65 ≤ a0) = true := decide_eq_true c2
    clear c2
    by_cases c3 : a0 ≤ 90
    · rw [if_pos c3] at H
      have c3b0 : decide (a0 ≤ 90) = true := decide_eq_true c3
      clear c3
      obtain rfl := Option.some.inj H
      go_enter Try.func125, Try.ntmps125
      go_wp2
      go_ret
      exact ⟨by first | rfl | (simp; done) | (simp [*]; done), by repeat (first | exact Drawn0.refl _ | apply Drawn0.step)⟩
    · rw [if_neg c3] at H
      have c3b0 : decide (a0 ≤ 90) = false := decide_eq_false c3
      clear c3
      by_cases c4 : a0 ≥ 97
      · rw [if_pos c4] at H
        have c4b0 : decide (97 ≤ a0) = true := decide_eq_true c4
        clear c4
        by_cases c5 : a0 ≤ 122
        · rw [if_pos c5] at H
          have c5b0 : decide (a0 ≤ 122) = true := decide_eq_true c5
          clear c5
          obtain rfl := Option.some.inj H
          go_enter Try.func125, Try.ntmps125
          go_wp2
          go_ret
          exact ⟨by first | rfl | (simp; done) | (simp [*]; done), by repeat (first | exact Drawn0.refl _ | apply Drawn0.step)⟩
        · rw [if_neg c5] at H
          have c5b0 : decide (a0 ≤ 122) = false := decide_eq_false c5
          clear c5
          by_cases c6 : a0 ≥ 48
          · rw [if_pos c6] at H
            have c6b0 : decide (48 ≤ a0) = true := decide_eq_true c6
            clear c6
            by_cases c7 : a0 ≤ 57
            · rw [if_pos c7] at H
              have c7b0 : decide (a0 ≤ 57) = true := decide_eq_true c7
              clear c7
              obtain rfl := Option.some.inj H
              go_enter Try.func125, Try.ntmps125
              go_wp2
              go_ret
              exact ⟨by first | rfl | (simp; done) | (simp [*]; done), by repeat (first | exact Drawn0.refl _ | apply Drawn0.step)⟩
            · rw [if_neg c7] at H
              have c7b0 : decide (a0 ≤ 57) = false := decide_eq_false c7
              clear c7
              by_cases c8 : a0 = 95
              · rw [if_pos c8] at H
                have c8b0 : (a0 == 95) = true := beq_iff_eq.mpr c8
                have c8b1 : (a0 != 95) = false := bne_eq_false_iff_eq.mpr c8
                clear c8
                obtain rfl := Option.some.inj H
                go_enter Try.func125, Try.ntmps125
                go_wp2
                go_ret
                exact ⟨by first | rfl | (simp; done) | (simp [*]; done), by repeat (first | exact Drawn0.refl _ | apply Drawn0.step)⟩
              · rw [if_neg c8] at H
                have c8b0 : (a0 == 95) = false := beq_eq_false_iff_ne.mpr c8
                have c8b1 : (a0 != 95) = true := bne_iff_ne.mpr c8
                obtain rfl := Option.some.inj H
                go_enter Try.func125, Try.ntmps125
                go_wp2
                go_ret
                exact ⟨by first | rfl | (simp; done) | (simp [*]; done), by repeat (first | exact Drawn0.refl _ | apply Drawn0.step)⟩
          · rw [if_neg c6] at H
            have c6b0 : decide (48 ≤ a0) = false := decide_eq_false c6
            clear c6
            by_cases c9 : a0 = 95
            · rw [if_pos c9] at H
              have c9b0 : (a0 == 95) = true := beq_iff_eq.mpr c9
              have c9b1 : (a0 != 95) = false := bne_eq_false_iff_eq.mpr c9
              clear c9
              obtain rfl := Option.some.inj H
              go_enter Try.func125, Try.ntmps125
              go_wp2
              go_ret
              exact ⟨by first | rfl | (simp; done) | (simp [*]; done), by repeat (first | exact Drawn0.refl _ | apply Drawn0.step)⟩
            · rw [if_neg c9] at H
              have c9b0 : (a0 == 95) = false := beq_eq_false_iff_ne.mpr c9
              have c9b1 : (a0 != 95) = true := bne_iff_ne.mpr c9
              obtain rfl := Option.some.inj H
              go_enter Try.func125, Try.ntmps125
              go_wp2
              go_ret
              exact ⟨by first | rfl | (simp; done) | (simp [*]; done), by repeat (first | exact Drawn0.refl _ | apply Drawn0.step)⟩
      · rw [if_neg c4] at H
        have c4b0 : decide (97 ≤ a0) = false := decide_eq_false c4
        clear c4
        by_cases c10 : a0 ≥ 48
        · rw [if_pos c10] at H
          have c10b0 : decide (48 ≤ a0) = true := decide_eq_true c10
          clear c10
          by_cases c11 : a0 ≤ 57
          · rw [if_pos c11] at H
            have c11b0 : decide (a0 ≤ 57) = true := decide_eq_true c11
            clear c11
            obtain rfl := Option.some.inj H
            go_enter Try.func125, Try.ntmps125
            go_wp2
            go_ret
            exact ⟨by first | rfl | (simp; done) | (simp [*]; done), by repeat (first | exact Drawn0.refl _ | apply Drawn0.step)⟩
          · rw [if_neg c11] at H
            have c11b0 : decide (a0 ≤ 57) = false := decide_eq_false c11
            clear c11
            by_cases c12 : a0 = 95
            · rw [if_pos c12] at H
              have c12b0 : (a0 == 95) = true := beq_iff_eq.mpr c12
              have c12b1 : (a0 != 95) = false := bne_eq_false_iff_eq.mpr c12
              clear c12
              obtain rfl := Option.some.inj H
              go_enter Try.func125, Try.ntmps125
              go_wp2
              go_ret
              exact ⟨by first | rfl | (simp; done) | (simp [*]; done), by repeat (first | exact Drawn0.refl _ | apply Drawn0.step)⟩
            · rw [if_neg c12] at H
              have c12b0 : (a0 == 95) = false := beq_eq_false_iff_ne.mpr c12
              have c12b1 : (a0 != 95) = true := bne_iff_ne.mpr c12
              obtain rfl := Option.some.inj H
              go_enter Try.func125, Try.ntmps125
              go_wp2
              go_ret
              exact ⟨by first | rfl | (simp; done) | (simp [*]; done), by repeat (first | exact Drawn0.refl _ | apply Drawn0.step)⟩
        · rw [if_neg c10] at H
          have c10b0 : decide (48 ≤ a0) = false := decide_eq_false c10
          clear c10
          by_cases c13 : a0 = 95
          · rw [if_pos c13] at H
            have c13b0 : (a0 == 95) = true := beq_iff_eq.mpr c13
            have c13b1 : (a0 != 95) = false := bne_eq_false_iff_eq.mpr c13
            clear c13
            obtain rfl := Option.some.inj H
            go_enter Try.func125, Try.ntmps125
            go_wp2
            go_ret
            exact ⟨by first | rfl | (simp; done) | (simp [*]; done), by repeat (first | exact Drawn0.refl _ | apply Drawn0.step)⟩
          · rw [if_neg c13] at H
            have c13b0 : (a0 == 95) = false := beq_eq_false_iff_ne.mpr c13
            have c13b1 : (a0 != 95) = true := bne_iff_ne.mpr c13
            obtain rfl := Option.some.inj H
            go_enter Try.func125, Try.ntmps125
            go_wp2
            go_ret
            exact ⟨by first | rfl | (simp; done) | (simp [*]; done), by repeat (first | exact Drawn0.refl _ | apply Drawn0.step)⟩
  · rw [if_neg c2] at H
    have c2b0 : decide (65 ≤ a0) = false := decide_eq_false c2
    clear c2
    by_cases c14 : a0 ≥ 97
    · rw [if_pos c14] at H
      have c14b0 : decide (97 ≤ a0) = true := decide_eq_true c14
      clear c14
      by_cases c15 : a0 ≤ 122
      · rw [if_pos c15] at H
        have c15b0 : decide (a0 ≤ 122) = true := decide_eq_true c15
        clear c15
        obtain rfl := Option.some.inj H
        go_enter Try.func125, Try.ntmps125
        go_wp2
        go_ret
        exact ⟨by first | rfl | (simp; done) | (simp [*]; done), by repeat (first | exact Drawn0.refl _ | apply Drawn0.step)⟩
      · rw [if_neg c15] at H
        have c15b0 : decide (a0 ≤ 122) = false := decide_eq_false c15
        clear c15
        by_cases c16 : a0 ≥ 48
        · rw [if_pos c16] at H
          have c16b0 : decide (48 ≤ a0) = true := decide_eq_true c16
          clear c16
          by_cases c17 : a0 ≤ 57
          · rw [if_pos c17] at H
            have c17b0 : decide (a0 ≤ 57) = true := decide_eq_true c17
            clear c17
            obtain rfl := Option.some.inj H
            go_enter Try.func125, Try.ntmps125
            go_wp2
            go_ret
            exact ⟨by first | rfl | (simp; done) | (simp [*]; done), by repeat (first | exact Drawn0.refl _ | apply Drawn0.step)⟩
          · rw [if_neg c17] at H
            have c17b0 : decide (a0 ≤ 57) = false := decide_eq_false c17
            clear c17
            by_cases c18 : a0 = 95
            · rw [if_pos c18] at H
              have c18b0 : (a0 == 95) = true := beq_iff_eq.mpr c18
              have c18b1 : (a0 != 95) = false := bne_eq_false_iff_eq.mpr c18
              clear c18
              obtain rfl := Option.some.inj H
              go_enter Try.func125, Try.ntmps125
              go_wp2
              go_ret
              exact ⟨by first | rfl | (simp; done) | (simp [*]; done), by repeat (first | exact Drawn0.refl _ | apply Drawn0.step)⟩
            · rw [if_neg c18] at H
              have c18b0 : (a0 == 95) = false := beq_eq_false_iff_ne.mpr c18
              have c18b1 : (a0 != 95) = true := bne_iff_ne.mpr c18
              obtain rfl := Option.some.inj H
              go_enter Try.func125, Try.ntmps125
              go_wp2
              go_ret
              exact ⟨by first | rfl | (simp; done) | (simp [*]; done), by repeat (first | exact Drawn0.refl _ | apply Drawn0.step)⟩
        · rw [if_neg c16] at H
          have c16b0 : decide (48 ≤ a0) = false := decide_eq_false c16
          clear c16
          by_cases c19 : a0 = 95
          · rw [if_pos c19] at H
            have c19b0 : (a0 == 95) = true := beq_iff_eq.mpr c19
            have c19b1 : (a0 != 95) = false := bne_eq_false_iff_eq.mpr c19
            clear c19
            obtain rfl := Option.some.inj H
            go_enter Try.func125, Try.ntmps125
            go_wp2
            go_ret
            exact ⟨by first | rfl | (simp; done) | (simp [*]; done), by repeat (first | exact Drawn0.refl _ | apply Drawn0.step)⟩
          · rw [if_neg c19] at H
            have c19b0 : (a0 == 95) = false := beq_eq_false_iff_ne.mpr c19
            have c19b1 : (a0 != 95) = true := bne_iff_ne.mpr c19
            obtain rfl := Option.some.inj H
            go_enter Try.func125, Try.ntmps125
            go_wp2
            go_ret
            exact ⟨by first | rfl | (simp; done) | (simp [*]; done), by repeat (first | exact Drawn0.refl _ | apply Drawn0.step)⟩
    · rw [if_neg c14] at H
      have c14b0 : decide (97 ≤ a0) = false := decide_eq_false c14
      clear c14
      by_cases c20 : a0 ≥ 48
      · rw [if_pos c20] at H
        have c20b0 : decide (48 ≤ a0) = true := decide_eq_true c20
        clear c20
        by_cases c21 : a0 ≤ 57
        · rw [if_pos c21] at H
          have c21b0 : decide (a0 ≤ 57) = true := decide_eq_true c21
          clear c21
          obtain rfl := Option.some.inj H
          go_enter Try.func125, Try.ntmps125
          go_wp2
          go_ret
          exact ⟨by first | rfl | (simp; done) | (simp [*]; done), by repeat (first | exact Drawn0.refl _ | apply Drawn0.step)⟩
        · rw [if_neg c21] at H
          have c21b0 : decide (a0 ≤ 57) = false := decide_eq_false c21
          clear c21
          by_cases c22 : a0 = 95
          · rw [if_pos c22] at H
            have c22b0 : (a0 == 95) = true := beq_iff_eq.mpr c22
            have c22b1 : (a0 != 95) = false := bne_eq_false_iff_eq.mpr c22
            clear c22
            obtain rfl := Option.some.inj H
            go_enter Try.func125, Try.ntmps125
            go_wp2
            go_ret
            exact ⟨by first | rfl | (simp; done) | (simp [*]; done), by repeat (first | exact Drawn0.refl _ | apply Drawn0.step)⟩
          · rw [if_neg c22] at H
            have c22b0 : (a0 == 95) = false := beq_eq_false_iff_ne.mpr c22
            have c22b1 : (a0 != 95) = true := bne_iff_ne.mpr c22
            obtain rfl := Option.some.inj H
            go_enter Try.func125, Try.ntmps125
            go_wp2
            go_ret
            exact ⟨by first | rfl | (simp; done) | (simp [*]; done), by repeat (first | exact Drawn0.refl _ | apply Drawn0.step)⟩
      · rw [if_neg c20] at H
        have c20b0 : decide (48 ≤ a0) = false := decide_eq_false c20
        clear c20
        by_cases c23 : a0 = 95
        · rw [if_pos c23] at H
          have c23b0 : (a0 == 95) = true := beq_iff_eq.mpr c23
          have c23b1 : (a0 != 95) = false := bne_eq_false_iff_eq.mpr c23
          clear c23
          obtain rfl := Option.some.inj H
          go_enter Try.func125, Try.ntmps125
          go_wp2
          go_ret
          exact ⟨by first | rfl | (simp; done) | (simp [*]; done), by repeat (first | exact Drawn0.refl _ | apply Drawn0.step)⟩
        · rw [if_neg c23] at H
          have c23b0 : (a0 == 95) = false := beq_eq_false_iff_ne.mpr c23
          have c23b1 : (a0 != 95) = true := bne_iff_ne.mpr c23
          obtain rfl := Option.some.inj H
          go_enter Try.func125, Try.ntmps125
          go_wp2
          go_ret
          exact ⟨by first | rfl | (simp; done) | (simp [*]; done), by repeat (first | exact Drawn0.refl _ | apply Drawn0.step)⟩

/-! ### secateurref04_all: function 83 -/
mutual
def secateurref04_all.j0 : Nat → ByteArray → Int → Bool → Option (Bool)
  | 0, _, _, _ => none
  | k + 1, x0, x1, x13 => if x13 = true then (some false) else (secateurref04_all.l0 k x0 x1 0)
def secateurref04_all.l0 : Nat → ByteArray → Int → Int → Option (Bool)
  | 0, _, _, _ => none
  | k + 1, x0, x1, x5 => if x5 < (x0.size : Int) then (if 0 ≤ x5 then ((secateurref04_letter.f (bt x0 x5)).bind fun t101 => (if t101 = true then (secateurref04_all.l0 k x0 x1 (wrap64 (x5 + 1))) else (if (bt x0 x5) = x1 then (secateurref04_all.l0 k x0 x1 (wrap64 (x5 + 1))) else (some false)))) else (none)) else (some true)
end
def secateurref04_all.f (k : Nat) (a0 : ByteArray) (a1 : Int) : Option (Bool) := if (a0.size : Int) < 1 then (secateurref04_all.j0 k a0 a1 true) else (secateurref04_all.j0 k a0 a1 (decide ((a0.size : Int) > 32)))
theorem secateurref04_all.mono_l : ∀ k, (∀ y0 y1 y2, LeO (secateurref04_all.j0 k y0 y1 y2) (secateurref04_all.j0 (k + 1) y0 y1 y2)) ∧ (∀ y0 y1 y2, LeO (secateurref04_all.l0 k y0 y1 y2) (secateurref04_all.l0 (k + 1) y0 y1 y2))
  | 0 => ⟨fun _ _ _ r h => by simp [secateurref04_all.j0] at h, fun _ _ _ r h => by simp [secateurref04_all.l0] at h⟩
  | k + 1 => by
    obtain ⟨ih0, ih1⟩ := secateurref04_all.mono_l k
    refine ⟨?_, ?_⟩
    · intro y0 y1 y2
      unfold secateurref04_all.j0
      repeat' first
      | (with_reducible exact ih0 _ _ _)
      | (with_reducible exact ih1 _ _ _)
      | (with_reducible exact LeO.refl _)
      | (with_reducible exact LeO.none _)
      | (with_reducible refine LeO.ite ?_ ?_)
      | (with_reducible refine LeO.bind ?_ (fun _ => ?_))
      | exact ih0 _ _ _
      | exact ih1 _ _ _
      | exact LeO.none _
      | refine LeO.ite ?_ ?_
      | refine LeO.bind ?_ (fun _ => ?_)
    · intro y0 y1 y2
      unfold secateurref04_all.l0
      repeat' first
      | (with_reducible exact ih0 _ _ _)
      | (with_reducible exact ih1 _ _ _)
      | (with_reducible exact LeO.refl _)
      | (with_reducible exact LeO.none _)
      | (with_reducible refine LeO.ite ?_ ?_)
      | (with_reducible refine LeO.bind ?_ (fun _ => ?_))
      | exact ih0 _ _ _
      | exact ih1 _ _ _
      | exact LeO.none _
      | refine LeO.ite ?_ ?_
      | refine LeO.bind ?_ (fun _ => ?_)
theorem secateurref04_all.mono : ∀ a0 a1 k, LeO (secateurref04_all.f k a0 a1) (secateurref04_all.f (k + 1) a0 a1) := by
  intro a0 a1 k
  obtain ⟨ih0, ih1⟩ := secateurref04_all.mono_l k
  unfold secateurref04_all.f
  repeat' first
      | (with_reducible exact ih0 _ _ _)
      | (with_reducible exact ih1 _ _ _)
      | (with_reducible exact LeO.refl _)
      | (with_reducible exact LeO.none _)
      | (with_reducible refine LeO.ite ?_ ?_)
      | (with_reducible refine LeO.bind ?_ (fun _ => ?_))
      | exact ih0 _ _ _
      | exact ih1 _ _ _
      | exact LeO.none _
      | refine LeO.ite ?_ ?_
      | refine LeO.bind ?_ (fun _ => ?_)
set_option maxHeartbeats 8000000 in
set_option maxRecDepth 100000 in
theorem secateurref04_all.calls (k : Nat) (a0 : ByteArray) (a1 : Int) (r : Bool) (w : World) (h : secateurref04_all.f k a0 a1 = some r) :
    Calls Try.prog 83 #[.string a0, .int .u8 a1] w fun e w' => e = .returned (.bool r) ∧ Drawn0 w w' := by
  have H : (if (a0.size : Int) < 1 then (secateurref04_all.j0 k a0 a1 true) else (secateurref04_all.j0 k a0 a1 (decide ((a0.size : Int) > 32)))) = some r := h
  clear h
  have HC3 := Aside0.mk H
  clear H
  go_enter Try.func83, Try.ntmps83
  go_upto_region 1 with (fail)
  go_cut [13] (fun v13 wc => ∃ (kq : Nat) (x13_2 : Bool), v13 = .bool x13_2 ∧ Aside0 (secateurref04_all.j0 kq a0 a1 x13_2 = some r) ∧ Aside0 (kq ≤ k) ∧ Drawn0 w wc)
  case first =>
    have H := HC3.out
    clear HC3
    by_cases c4 : (a0.size : Int) < 1
    · rw [if_pos c4] at H
      have c4b0 : decide ((a0.size : Int) < 1) = true := decide_eq_true c4
      have c4b1 : decide (a0.size < 1) = true := decide_eq_true (by omega)
      clear c4
      (first | rw [c4b0] | rw [c4b1] | (simp only [i64_w, i32_w]; rw [c4b0]) | skip)
      have H' := Aside0.mk H
      clear H
      go_wp2
      go_meet
      case rel => exact ⟨_, (true), (by first | rfl | (simp; done) | (simp [*]; done)), H', ⟨by first | omega | exact Nat.le_refl _⟩, by repeat (first | exact Drawn0.refl _ | apply Drawn0.step)⟩
    · rw [if_neg c4] at H
      have c4b0 : decide ((a0.size : Int) < 1) = false := decide_eq_false c4
      have c4b1 : decide (a0.size < 1) = false := decide_eq_false (by omega)
      clear c4
      (first | rw [c4b0] | rw [c4b1] | (simp only [i64_w, i32_w]; rw [c4b0]) | skip)
      have H' := Aside0.mk H
      clear H
      go_wp2
      go_meet
      case rel => exact ⟨_, (decide ((a0.size : Int) > 32)), (by first | rfl | (simp; done) | (simp [*]; done)), H', ⟨by first | omega | exact Nat.le_refl _⟩, by repeat (first | exact Drawn0.refl _ | apply Drawn0.step)⟩
  case rest =>
    clear HC3
    try clear p2
    try clear c4
    try clear c4b0
    try clear c4b1
    obtain ⟨kq, x13_2, rfl, HA, HJ2, ⟨mc2, rfl⟩⟩ := hcut
    cases kq with
    | zero => exact absurd HA.out (by simp [secateurref04_all.j0])
    | succ kj2 =>
      have H := HA.out
      clear HA
      simp only [secateurref04_all.j0] at H
      by_cases c5 : x13_2 = true
      · subst c5
        have H1 : (some false) = some r := by rw [if_pos rfl] at H; exact H
        clear H
        have H := H1
        clear H1
        obtain rfl := Option.some.inj H
        go_wp2
        go_ret
        exact ⟨by first | rfl | (simp; done) | (simp [*]; done), by repeat (first | exact Drawn0.refl _ | apply Drawn0.step)⟩
      · replace c5 := Bool.eq_false_iff.mpr c5
        subst c5
        have H1 : (secateurref04_all.l0 kj2 a0 a1 0) = some r := by rw [if_neg (show ¬ (false = true) by decide)] at H; exact H
        clear H
        have H := H1
        clear H1
        have H' := Aside0.mk H
        clear H
        go_wp2
        go_loopg [5] kj2 (fun kq v5 w' => ∃ (x5_2 : Int), v5 = .int .i64 x5_2 ∧ Aside0 (secateurref04_all.l0 kq a0 a1 x5_2 = some r) ∧ Aside0 (kq ≤ kj2) ∧ Drawn0 w w')
        case atStart => exact ⟨(0), (by first | rfl | (simp; done) | (simp [*]; done)), H', ⟨Nat.le_refl _⟩, by repeat (first | exact Drawn0.refl _ | apply Drawn0.step)⟩
        case round =>
          clear H'
          try clear c2
          try clear p2
          try clear c4
          try clear c4b0
          try clear c4b1
          try clear c5
          try clear p2
          obtain ⟨x5_2, rfl, HA, HK2, ⟨m2, rfl⟩⟩ := hrel
          cases gk with
          | zero => exact absurd HA.out (by simp [secateurref04_all.l0])
          | succ k2 =>
            have H := HA.out
            clear HA
            simp only [secateurref04_all.l0] at H
            by_cases c6 : x5_2 < (a0.size : Int)
            · rw [if_pos c6] at H
              have c6b0 : decide (x5_2 < (a0.size : Int)) = true := decide_eq_true c6
              clear c6
              by_cases c7 : 0 ≤ x5_2
              · rw [if_pos c7] at H
                have c7b0 : decide (0 ≤ x5_2) = true := decide_eq_true c7
                clear c7
                replace H := Option.bind_eq_some_iff.mp H
                obtain ⟨t101, A90, H⟩ := H
                replace H : (if t101 = true then (secateurref04_all.l0 k2 a0 a1 (wrap64 (x5_2 + 1))) else (if (bt a0 x5_2) = a1 then (secateurref04_all.l0 k2 a0 a1 (wrap64 (x5_2 + 1))) else (some false))) = some r := H
                have A9 := Aside0.mk A90
                clear A90
                by_cases c10 : t101 = true
                · subst c10
                  have H1 : (secateurref04_all.l0 k2 a0 a1 (wrap64 (x5_2 + 1))) = some r := by rw [if_pos rfl] at H; exact H
                  clear H
                  have H := H1
                  clear H1
                  have H' := Aside0.mk H
                  clear H
                  have p8 : 0 ≤ (x5_2 : Int) := of_decide_eq_true (by first | (with_reducible assumption) | assumption)
                  have q8 : x5_2 < (a0.size : Int) := of_decide_eq_true (by first | (with_reducible assumption) | assumption)
                  have hx8 := bt_at a0 x5_2
                  replace p8 := eq_true p8
                  replace q8 := eq_true q8
                  go_wp2_with (first | ((with_reducible refine gate_callee (f := 125) rfl ?_); refine goesL_ (some 23) rfl rfl Try.func125 (by kernel_rfl) rfl #[.int .u8 (bt a0 x5_2)] rfl (by (try simp only [List.map_toArray, List.map_cons, List.map_nil]); first | done | rfl | (simp only [List.length_drop, List.length_take]; rfl)) ?_; (with_reducible refine (secateurref04_letter.calls (bt a0 x5_2) true _ A9.out).mono ?_); rintro e w' ⟨rfl, ⟨nd, rfl⟩⟩; refine ⟨_, rfl, ?_⟩))
                  go_roundg k2
                  case measure => have := HJ2.out; have := HK2.out; omega
                  case rel => exact ⟨(wrap64 (x5_2 + 1)), (by first | rfl | (simp; done) | (simp [*]; done)), H', ⟨by have := HJ2.out; have := HK2.out; omega⟩, by repeat (first | exact Drawn0.refl _ | apply Drawn0.step)⟩
                · replace c10 := Bool.eq_false_iff.mpr c10
                  subst c10
                  have H1 : (if (bt a0 x5_2) = a1 then (secateurref04_all.l0 k2 a0 a1 (wrap64 (x5_2 + 1))) else (some false)) = some r := by rw [if_neg (show ¬ (false = true) by decide)] at H; exact H
                  clear H
                  have H := H1
                  clear H1
                  by_cases c12 : (bt a0 x5_2) = a1
                  · rw [if_pos c12] at H
                    have c12b0 : ((bt a0 x5_2) == a1) = true := beq_iff_eq.mpr c12
                    have c12b1 : ((bt a0 x5_2) != a1) = false := bne_eq_false_iff_eq.mpr c12
                    clear c12
                    have H' := Aside0.mk H
                    clear H
                    have p8 : 0 ≤ (x5_2 : Int) := of_decide_eq_true (by first | (with_reducible assumption) | assumption)
                    have q8 : x5_2 < (a0.size : Int) := of_decide_eq_true (by first | (with_reducible assumption) | assumption)
                    have hx8 := bt_at a0 x5_2
                    replace p8 := eq_true p8
                    replace q8 := eq_true q8
                    go_wp2_with (first | ((with_reducible refine gate_callee (f := 125) rfl ?_); refine goesL_ (some 23) rfl rfl Try.func125 (by kernel_rfl) rfl #[.int .u8 (bt a0 x5_2)] rfl (by (try simp only [List.map_toArray, List.map_cons, List.map_nil]); first | done | rfl | (simp only [List.length_drop, List.length_take]; rfl)) ?_; (with_reducible refine (secateurref04_letter.calls (bt a0 x5_2) false _ A9.out).mono ?_); rintro e w' ⟨rfl, ⟨nd, rfl⟩⟩; refine ⟨_, rfl, ?_⟩; have p11 : 0 ≤ (x5_2 : Int) := of_decide_eq_true (by first | (with_reducible assumption) | assumption); have q11 : x5_2 < (a0.size : Int) := of_decide_eq_true (by first | (with_reducible assumption) | assumption); have hx11 := bt_at a0 x5_2; replace p11 := eq_true p11; replace q11 := eq_true q11))
                    go_roundg k2
                    case measure => have := HJ2.out; have := HK2.out; omega
                    case rel => exact ⟨(wrap64 (x5_2 + 1)), (by first | rfl | (simp; done) | (simp [*]; done)), H', ⟨by have := HJ2.out; have := HK2.out; omega⟩, by repeat (first | exact Drawn0.refl _ | apply Drawn0.step)⟩
                  · rw [if_neg c12] at H
                    have c12b0 : ((bt a0 x5_2) == a1) = false := beq_eq_false_iff_ne.mpr c12
                    have c12b1 : ((bt a0 x5_2) != a1) = true := bne_iff_ne.mpr c12
                    obtain rfl := Option.some.inj H
                    have p8 : 0 ≤ (x5_2 : Int) := of_decide_eq_true (by first | (with_reducible assumption) | assumption)
                    have q8 : x5_2 < (a0.size : Int) := of_decide_eq_true (by first | (with_reducible assumption) | assumption)
                    have hx8 := bt_at a0 x5_2
                    replace p8 := eq_true p8
                    replace q8 := eq_true q8
                    go_wp2_with (first | ((with_reducible refine gate_callee (f := 125) rfl ?_); refine goesL_ (some 23) rfl rfl Try.func125 (by kernel_rfl) rfl #[.int .u8 (bt a0 x5_2)] rfl (by (try simp only [List.map_toArray, List.map_cons, List.map_nil]); first | done | rfl | (simp only [List.length_drop, List.length_take]; rfl)) ?_; (with_reducible refine (secateurref04_letter.calls (bt a0 x5_2) false _ A9.out).mono ?_); rintro e w' ⟨rfl, ⟨nd, rfl⟩⟩; refine ⟨_, rfl, ?_⟩; have p11 : 0 ≤ (x5_2 : Int) := of_decide_eq_true (by first | (with_reducible assumption) | assumption); have q11 : x5_2 < (a0.size : Int) := of_decide_eq_true (by first | (with_reducible assumption) | assumption); have hx11 := bt_at a0 x5_2; replace p11 := eq_true p11; replace q11 := eq_true q11))
                    go_ret
                    exact ⟨by first | rfl | (simp; done) | (simp [*]; done), by repeat (first | exact Drawn0.refl _ | apply Drawn0.step)⟩
              · rw [if_neg c7] at H
                exact absurd H (by simp)
            · rw [if_neg c6] at H
              have c6b0 : decide (x5_2 < (a0.size : Int)) = false := decide_eq_false c6
              clear c6
              obtain rfl := Option.some.inj H
              go_wp2
              go_ret
              exact ⟨by first | rfl | (simp; done) | (simp [*]; done), by repeat (first | exact Drawn0.refl _ | apply Drawn0.step)⟩

/-! ### secateurref04_Name: function 23 -/
def secateurref04_Name.f (k : Nat) (a0 : ByteArray) : Option (Bool) := if a0.toList = ([60, 99, 108, 105, 110, 105, 116, 62] : List UInt8) then (some true) else ((secateurref04_all.f k a0 95).bind fun t102 => (some t102))
theorem secateurref04_Name.mono : ∀ a0 k, LeO (secateurref04_Name.f k a0) (secateurref04_Name.f (k + 1) a0) := by
  intro a0 k
  unfold secateurref04_Name.f
  repeat' first
      | (with_reducible exact secateurref04_all.mono _ _ _)
      | (with_reducible exact LeO.refl _)
      | (with_reducible exact LeO.none _)
      | (with_reducible refine LeO.ite ?_ ?_)
      | (with_reducible refine LeO.bind ?_ (fun _ => ?_))
      | exact secateurref04_all.mono _ _ _
      | exact LeO.none _
      | refine LeO.ite ?_ ?_
      | refine LeO.bind ?_ (fun _ => ?_)
set_option maxHeartbeats 8000000 in
set_option maxRecDepth 100000 in
theorem secateurref04_Name.calls (k : Nat) (a0 : ByteArray) (r : Bool) (w : World) (h : secateurref04_Name.f k a0 = some r) :
    Calls Try.prog 23 #[.string a0] w fun e w' => e = .returned (.bool r) ∧ Drawn0 w w' := by
  have H : (if a0.toList = ([60, 99, 108, 105, 110, 105, 116, 62] : List UInt8) then (some true) else ((secateurref04_all.f k a0 95).bind fun t102 => (some t102))) = some r := h
  clear h
  by_cases c2 : a0.toList = ([60, 99, 108, 105, 110, 105, 116, 62] : List UInt8)
  · rw [if_pos c2] at H
    have c2b0 : (a0.toList == ([60, 99, 108, 105, 110, 105, 116, 62] : List UInt8)) = true := beq_iff_eq.mpr c2
    have c2b1 : (a0.toList != ([60, 99, 108, 105, 110, 105, 116, 62] : List UInt8)) = false := bne_eq_false_iff_eq.mpr c2
    clear c2
    obtain rfl := Option.some.inj H
    go_enter Try.func23, Try.ntmps23
    go_wp2
    go_ret
    exact ⟨by first | rfl | (simp; done) | (simp [*]; done), by repeat (first | exact Drawn0.refl _ | apply Drawn0.step)⟩
  · rw [if_neg c2] at H
    have c2b0 : (a0.toList == ([60, 99, 108, 105, 110, 105, 116, 62] : List UInt8)) = false := beq_eq_false_iff_ne.mpr c2
    have c2b1 : (a0.toList != ([60, 99, 108, 105, 110, 105, 116, 62] : List UInt8)) = true := bne_iff_ne.mpr c2
    replace H := Option.bind_eq_some_iff.mp H
    obtain ⟨t102, A30, H⟩ := H
    replace H : (some t102) = some r := H
    have A3 := Aside0.mk A30
    clear A30
    obtain rfl := Option.some.inj H
    go_enter Try.func23, Try.ntmps23
    go_wp2_with (first | (go_at_call 83; (with_reducible refine (secateurref04_all.calls k a0 95 t102 _ A3.out).mono ?_); rintro e w' ⟨rfl, ⟨nd, rfl⟩⟩))
    go_ret
    exact ⟨by first | rfl | (simp; done) | (simp [*]; done), by repeat (first | exact Drawn0.refl _ | apply Drawn0.step)⟩

/-! ### secateurref04_Class: function 25 -/
def secateurref04_Class.f (k : Nat) (a0 : ByteArray) : Option (Bool) := (secateurref04_all.f k a0 47).bind fun t103 => (some t103)
theorem secateurref04_Class.mono : ∀ a0 k, LeO (secateurref04_Class.f k a0) (secateurref04_Class.f (k + 1) a0) := by
  intro a0 k
  unfold secateurref04_Class.f
  repeat' first
      | (with_reducible exact secateurref04_all.mono _ _ _)
      | (with_reducible exact LeO.refl _)
      | (with_reducible exact LeO.none _)
      | (with_reducible refine LeO.ite ?_ ?_)
      | (with_reducible refine LeO.bind ?_ (fun _ => ?_))
      | exact secateurref04_all.mono _ _ _
      | exact LeO.none _
      | refine LeO.ite ?_ ?_
      | refine LeO.bind ?_ (fun _ => ?_)
set_option maxHeartbeats 8000000 in
set_option maxRecDepth 100000 in
theorem secateurref04_Class.calls (k : Nat) (a0 : ByteArray) (r : Bool) (w : World) (h : secateurref04_Class.f k a0 = some r) :
    Calls Try.prog 25 #[.string a0] w fun e w' => e = .returned (.bool r) ∧ Drawn0 w w' := by
  have H : ((secateurref04_all.f k a0 47).bind fun t103 => (some t103)) = some r := h
  clear h
  replace H := Option.bind_eq_some_iff.mp H
  obtain ⟨t103, A20, H⟩ := H
  replace H : (some t103) = some r := H
  have A2 := Aside0.mk A20
  clear A20
  obtain rfl := Option.some.inj H
  go_enter Try.func25, Try.ntmps25
  go_wp2_with (first | ((with_reducible refine gate_callee (f := 83) rfl ?_); refine goesL_ (some 4) rfl rfl Try.func83 (by kernel_rfl) rfl #[.string a0, .int .u8 47] rfl (by (try simp only [List.map_toArray, List.map_cons, List.map_nil]); first | done | rfl | (simp only [List.length_drop, List.length_take]; rfl)) ?_; (with_reducible refine (secateurref04_all.calls k a0 47 t103 _ A2.out).mono ?_); rintro e w' ⟨rfl, ⟨nd, rfl⟩⟩; refine ⟨_, rfl, ?_⟩))
  go_ret
  exact ⟨by first | rfl | (simp; done) | (simp [*]; done), by repeat (first | exact Drawn0.refl _ | apply Drawn0.step)⟩

end Go.Proofs.Ytcbakmojhicahaa.Q13
end

section
-- Written by this session's program layer.py (the kit's print, turned), not by hand.
namespace Go.Proofs.Ytcbakmojhicahaa.Q13
open Go.RowKit Go.Proofs.YtcbakmojhicahaaW.PrintWords Go.Proofs.YtcbakmojhicahaaW.PrintLast Go.Proofs.YtcbakmojhicahaaW.PrintMore
attribute [local go_sem] max2_int min2_int max_two min_two max_three min_three max_four min_four   -- for this text's walks alone
set_option linter.unusedVariables false
set_option linter.unusedSimpArgs false

end Go.Proofs.Ytcbakmojhicahaa.Q13
end

section
/-
  DERIVED: THE SHELF's CONTRACTS AT THIS DUMP, IN PLAIN WORDS (tools/lay-plain.mjs out of 'YtcbakmojhicahaaShelf.lean', which tools/lay-shelf.mjs wrote): THE SAME DECLARATIONS UNDER THE SAME NAMES: 'import', 'namespace', 'open', 'def', 'theorem' AND NOTHING ELSE: no command of the shelf's: FOR A HAND-IN. Each laying: the table of numbers ('.._ren') and one theorem, a field a fact of the dump's own or the kernel's comparison; each contract: ONE APPLICATION.
-/
namespace Go.Proofs
open Go.Shelf
def Try.lays217_ren : Go.Shelf.Ren := ⟨fun | 217 => 170 | 266 => 174 | n => n, fun | 9 => 9 | 5 => 5 | 3 => 3 | n => n, fun | n => n⟩
theorem Try.lays217 : Go.Proofs.Lays.n217 Try.prog Try.lays217_ren := {
  mixed := by kernel_rfl
  f217 := Try.func170.trans (congrArg some (by kernel_rfl))
  f266 := Try.func174.trans (congrArg some (by kernel_rfl))
  t3 := Try.underlying3
  a3 := Try.isAgg3
  z3 := Try.sizeOf3
  v3 := Try.zeroValue3
  t5 := Try.underlying5
  a5 := Try.isAgg5
  z5 := Try.sizeOf5
  v5 := Try.zeroValue5
  t9 := Try.underlying9
  a9 := Try.isAgg9
  z9 := Try.sizeOf9
  v9 := Try.zeroValue9 }
open Go.RowKit Go.Lib in
/-- internal/stringslite.IndexByte (what strings.IndexByte calls): IT RETURNS 'Lib.indexByte s c'; the world is as it was. (LAID: no walk: one application.) -/
theorem Try.stringslite_IndexByte (s : ByteArray) (c : Int) (w : World) :
    Calls Try.prog 170 #[.string s, .int .u8 c] w fun e w' => e = .returned (.int .i64 (Lib.indexByte s.data.toList c.toNat.toUInt8)) ∧ w' = w := Any.stringslite_IndexByte Try.lays217 s c w
def Try.lays224_ren : Go.Shelf.Ren := ⟨fun | 224 => 172 | n => n, fun | 3 => 3 | n => n, fun | n => n⟩
theorem Try.lays224 : Go.Proofs.Lays.n224 Try.prog Try.lays224_ren := {
  mixed := by kernel_rfl
  f224 := Try.func172.trans (congrArg some (by kernel_rfl))
  t3 := Try.underlying3
  a3 := Try.isAgg3
  z3 := Try.sizeOf3
  v3 := Try.zeroValue3 }
open Go.RowKit Go.Lib in
/-- internal/bytealg.Cutover: "Cutover reports the number of failures of IndexByte we should tolerate before switching over to Index. n is the number of bytes processed so far.": on amd64: (n + 16) / 8. (LAID: no walk: one application.) -/
theorem Try.bytealg_Cutover (n : Int) (h0 : 0 ≤ n) (h1 : n < 4611686018427387904) (w : World) :
    Calls Try.prog 172 #[.int .i64 n] w fun e w' => e = .returned (.int .i64 ((n + 16) / 8)) ∧ w' = w := Any.bytealg_Cutover Try.lays224 n h0 h1 w
def Try.lays314_ren : Go.Shelf.Ren := ⟨fun | 314 => 175 | n => n, fun | 9 => 9 | 51 => 198 | 3 => 3 | 4 => 4 | 5 => 5 | 46 => 197 | n => n, fun | n => n⟩
theorem Try.lays314 : Go.Proofs.Lays.n314 Try.prog Try.lays314_ren := {
  mixed := by kernel_rfl
  f314 := Try.func175.trans (congrArg some (by kernel_rfl))
  t3 := Try.underlying3
  a3 := Try.isAgg3
  z3 := Try.sizeOf3
  v3 := Try.zeroValue3
  t4 := Try.underlying4
  a4 := Try.isAgg4
  z4 := Try.sizeOf4
  v4 := Try.zeroValue4
  t5 := Try.underlying5
  a5 := Try.isAgg5
  z5 := Try.sizeOf5
  v5 := Try.zeroValue5
  t9 := Try.underlying9
  a9 := Try.isAgg9
  z9 := Try.sizeOf9
  v9 := Try.zeroValue9
  t46 := Try.underlying197
  a46 := Try.isAgg197
  z46 := Try.sizeOf197
  v46 := Try.zeroValue197
  t51 := Try.underlying198
  a51 := Try.isAgg198
  z51 := Try.sizeOf198
  v51 := Try.zeroValue198 }
open Go.RowKit Go.Lib in
/-- hashStr: "returns the hash and the appropriate multiplicative factor for use in Rabin-Karp algorithm": THE HASH OF ALL OF sep, AND 16777619 ^ len(sep), both in uint32. (LAID: no walk: one application.) -/
theorem Try.bytealg_hashStr (sep : ByteArray) (hs : sep.size < 4294967281) (w : World) :
    Calls Try.prog 175 #[.string sep] w fun e w' => e = .returned (.tuple #[.int .u32 (RK.H sep.data.toList % 4294967296), .int .u32 (16777619 ^ sep.size % 4294967296)]) ∧ w' = w := Any.bytealg_hashStr Try.lays314 sep hs w
def Try.lays267_ren : Go.Shelf.Ren := ⟨fun | 267 => 173 | 314 => 175 | n => n, fun | 9 => 9 | 3 => 3 | 146 => 199 | 51 => 198 | 4 => 4 | 5 => 5 | 46 => 197 | n => n, fun | n => n⟩
theorem Try.lays267 : Go.Proofs.Lays.n267 Try.prog Try.lays267_ren := {
  mixed := by kernel_rfl
  f267 := Try.func173.trans (congrArg some (by kernel_rfl))
  f314 := Try.func175.trans (congrArg some (by kernel_rfl))
  t3 := Try.underlying3
  a3 := Try.isAgg3
  z3 := Try.sizeOf3
  v3 := Try.zeroValue3
  t4 := Try.underlying4
  a4 := Try.isAgg4
  z4 := Try.sizeOf4
  v4 := Try.zeroValue4
  t5 := Try.underlying5
  a5 := Try.isAgg5
  z5 := Try.sizeOf5
  v5 := Try.zeroValue5
  t9 := Try.underlying9
  a9 := Try.isAgg9
  z9 := Try.sizeOf9
  v9 := Try.zeroValue9
  t46 := Try.underlying197
  a46 := Try.isAgg197
  z46 := Try.sizeOf197
  v46 := Try.zeroValue197
  t51 := Try.underlying198
  a51 := Try.isAgg198
  z51 := Try.sizeOf198
  v51 := Try.zeroValue198
  t146 := Try.underlying199
  a146 := Try.isAgg199
  z146 := Try.sizeOf199
  v146 := Try.zeroValue199 }
open Go.RowKit Go.Lib in
theorem Try.bytealg_IndexRabinKarp (s sep : ByteArray) (h1 : 1 ≤ sep.size) (h2 : sep.size ≤ s.size) (hs : s.size < 4294967281) (w : World) :
    Calls Try.prog 173 #[.string s, .string sep] w fun e w' => e = .returned (.int .i64 (Lib.index s.data.toList sep.data.toList)) ∧ w' = w := Any.bytealg_IndexRabinKarp Try.lays267 s sep h1 h2 hs w
def Try.lays219_ren : Go.Shelf.Ren := ⟨fun | 219 => 167 | 217 => 170 | 225 => 171 | 224 => 172 | 267 => 173 | 266 => 174 | 314 => 175 | n => n, fun | 9 => 9 | 3 => 3 | 4 => 4 | 5 => 5 | 46 => 197 | 146 => 199 | 51 => 198 | n => n, fun | 1 => 0 | n => n⟩
theorem Try.lays219 : Go.Proofs.Lays.n219 Try.prog Try.lays219_ren := {
  mixed := by kernel_rfl
  f217 := Try.func170.trans (congrArg some (by kernel_rfl))
  f219 := Try.func167.trans (congrArg some (by kernel_rfl))
  f224 := Try.func172.trans (congrArg some (by kernel_rfl))
  f225 := Try.func171.trans (congrArg some (by kernel_rfl))
  f266 := Try.func174.trans (congrArg some (by kernel_rfl))
  f267 := Try.func173.trans (congrArg some (by kernel_rfl))
  f314 := Try.func175.trans (congrArg some (by kernel_rfl))
  t3 := Try.underlying3
  a3 := Try.isAgg3
  z3 := Try.sizeOf3
  v3 := Try.zeroValue3
  t4 := Try.underlying4
  a4 := Try.isAgg4
  z4 := Try.sizeOf4
  v4 := Try.zeroValue4
  t5 := Try.underlying5
  a5 := Try.isAgg5
  z5 := Try.sizeOf5
  v5 := Try.zeroValue5
  t9 := Try.underlying9
  a9 := Try.isAgg9
  z9 := Try.sizeOf9
  v9 := Try.zeroValue9
  t46 := Try.underlying197
  a46 := Try.isAgg197
  z46 := Try.sizeOf197
  v46 := Try.zeroValue197
  t51 := Try.underlying198
  a51 := Try.isAgg198
  z51 := Try.sizeOf198
  v51 := Try.zeroValue198
  t146 := Try.underlying199
  a146 := Try.isAgg199
  z146 := Try.sizeOf199
  v146 := Try.zeroValue199
  g1 := by kernel_rfl }
open Go.RowKit Go.Lib in
/-- internal/stringslite.Index (what strings.Index calls) AT A substr OF ONE BYTE c: IT RETURNS 'Lib.indexByte s c'; the world is as it was. (LAID: no walk: one application.) -/
theorem Try.stringslite_Index_one (s : ByteArray) (c : UInt8) (w : World) :
    Calls Try.prog 167 #[.string s, .string ⟨#[c]⟩] w fun e w' => e = .returned (.int .i64 (Lib.indexByte s.data.toList c)) ∧ w' = w := Any.stringslite_Index_one Try.lays219 s c w
open Go.RowKit Go.Lib in
/-- internal/stringslite.Index (what strings.Index calls) AT A substr OF WHATEVER LENGTH: IT RETURNS 'Lib.index s substr'; the world is as it was. 'm': what internal/bytealg.MaxLen holds: whatever. (LAID: no walk: one application.) -/
theorem Try.stringslite_Index (s sub : ByteArray) (m : Int) (w : World) (hs : s.size < 4294967281) (hm : w.cell? ⟨0, 0, none⟩ = some (.int .i64 m)) :
    Calls Try.prog 167 #[.string s, .string sub] w fun e w' => e = .returned (.int .i64 (Lib.index s.data.toList sub.data.toList)) ∧ w' = w := Any.stringslite_Index Try.lays219 s sub m w hs hm
def Try.lays220_ren : Go.Shelf.Ren := ⟨fun | 220 => 159 | 219 => 167 | 217 => 170 | 225 => 171 | 224 => 172 | 267 => 173 | 266 => 174 | 314 => 175 | n => n, fun | 9 => 9 | 4 => 4 | 3 => 3 | 5 => 5 | 46 => 197 | 146 => 199 | 51 => 198 | n => n, fun | 1 => 0 | n => n⟩
theorem Try.lays220 : Go.Proofs.Lays.n220 Try.prog Try.lays220_ren := {
  mixed := by kernel_rfl
  f217 := Try.func170.trans (congrArg some (by kernel_rfl))
  f219 := Try.func167.trans (congrArg some (by kernel_rfl))
  f220 := Try.func159.trans (congrArg some (by kernel_rfl))
  f224 := Try.func172.trans (congrArg some (by kernel_rfl))
  f225 := Try.func171.trans (congrArg some (by kernel_rfl))
  f266 := Try.func174.trans (congrArg some (by kernel_rfl))
  f267 := Try.func173.trans (congrArg some (by kernel_rfl))
  f314 := Try.func175.trans (congrArg some (by kernel_rfl))
  t3 := Try.underlying3
  a3 := Try.isAgg3
  z3 := Try.sizeOf3
  v3 := Try.zeroValue3
  t4 := Try.underlying4
  a4 := Try.isAgg4
  z4 := Try.sizeOf4
  v4 := Try.zeroValue4
  t5 := Try.underlying5
  a5 := Try.isAgg5
  z5 := Try.sizeOf5
  v5 := Try.zeroValue5
  t9 := Try.underlying9
  a9 := Try.isAgg9
  z9 := Try.sizeOf9
  v9 := Try.zeroValue9
  t46 := Try.underlying197
  a46 := Try.isAgg197
  z46 := Try.sizeOf197
  v46 := Try.zeroValue197
  t51 := Try.underlying198
  a51 := Try.isAgg198
  z51 := Try.sizeOf198
  v51 := Try.zeroValue198
  t146 := Try.underlying199
  a146 := Try.isAgg199
  z146 := Try.sizeOf199
  v146 := Try.zeroValue199
  g1 := by kernel_rfl }
open Go.RowKit Go.Lib in
/-- internal/stringslite.Cut (what strings.Cut calls): IT RETURNS 'Lib.cut s sep'; the world is as it was but for the count of draws. (LAID: no walk: one application.) -/
theorem Try.stringslite_Cut (s sep : ByteArray) (m : Int) (w : World) (hs : s.size < 4294967281) (hm : w.cell? ⟨0, 0, none⟩ = some (.int .i64 m)) :
    Calls Try.prog 159 #[.string s, .string sep] w fun e w' => e = .returned (.tuple #[.string ⟨(Lib.cut s.data.toList sep.data.toList).1.toArray⟩, .string ⟨(Lib.cut s.data.toList sep.data.toList).2.1.toArray⟩, .bool (Lib.cut s.data.toList sep.data.toList).2.2]) ∧ ∃ n, w' = w.drewN n := Any.stringslite_Cut Try.lays220 s sep m w hs hm
def Try.lays145_ren : Go.Shelf.Ren := ⟨fun | 145 => 149 | 220 => 159 | 219 => 167 | 217 => 170 | 225 => 171 | 224 => 172 | 267 => 173 | 266 => 174 | 314 => 175 | n => n, fun | 9 => 9 | 4 => 4 | 59 => 43 | 3 => 3 | 5 => 5 | 46 => 197 | 146 => 199 | 51 => 198 | n => n, fun | 1 => 0 | n => n⟩
theorem Try.lays145 : Go.Proofs.Lays.n145 Try.prog Try.lays145_ren := {
  mixed := by kernel_rfl
  f145 := Try.func149.trans (congrArg some (by kernel_rfl))
  f217 := Try.func170.trans (congrArg some (by kernel_rfl))
  f219 := Try.func167.trans (congrArg some (by kernel_rfl))
  f220 := Try.func159.trans (congrArg some (by kernel_rfl))
  f224 := Try.func172.trans (congrArg some (by kernel_rfl))
  f225 := Try.func171.trans (congrArg some (by kernel_rfl))
  f266 := Try.func174.trans (congrArg some (by kernel_rfl))
  f267 := Try.func173.trans (congrArg some (by kernel_rfl))
  f314 := Try.func175.trans (congrArg some (by kernel_rfl))
  t3 := Try.underlying3
  a3 := Try.isAgg3
  z3 := Try.sizeOf3
  v3 := Try.zeroValue3
  t4 := Try.underlying4
  a4 := Try.isAgg4
  z4 := Try.sizeOf4
  v4 := Try.zeroValue4
  t5 := Try.underlying5
  a5 := Try.isAgg5
  z5 := Try.sizeOf5
  v5 := Try.zeroValue5
  t9 := Try.underlying9
  a9 := Try.isAgg9
  z9 := Try.sizeOf9
  v9 := Try.zeroValue9
  t46 := Try.underlying197
  a46 := Try.isAgg197
  z46 := Try.sizeOf197
  v46 := Try.zeroValue197
  t51 := Try.underlying198
  a51 := Try.isAgg198
  z51 := Try.sizeOf198
  v51 := Try.zeroValue198
  t59 := Try.underlying43
  a59 := Try.isAgg43
  z59 := Try.sizeOf43
  v59 := Try.zeroValue43
  t146 := Try.underlying199
  a146 := Try.isAgg199
  z146 := Try.sizeOf199
  v146 := Try.zeroValue199
  g1 := by kernel_rfl }
open Go.RowKit Go.Lib in
/-- strings.Cut: "Cut slices s around the first instance of sep, returning the text before and after sep. The found result reports whether sep appears in s. If sep does not appear in s, cut returns s, "", false.": IT RETURNS 'Lib.cut s sep'; the world is as it was but for the count of draws. (LAID: no walk: one application.) -/
theorem Try.strings_Cut (s sep : ByteArray) (m : Int) (w : World) (hs : s.size < 4294967281) (hm : w.cell? ⟨0, 0, none⟩ = some (.int .i64 m)) :
    Calls Try.prog 149 #[.string s, .string sep] w fun e w' => e = .returned (.tuple #[.string ⟨(Lib.cut s.data.toList sep.data.toList).1.toArray⟩, .string ⟨(Lib.cut s.data.toList sep.data.toList).2.1.toArray⟩, .bool (Lib.cut s.data.toList sep.data.toList).2.2]) ∧ ∃ n, w' = w.drewN n := Any.strings_Cut Try.lays145 s sep m w hs hm
def Try.laysM219_ren : Go.Shelf.Ren := ⟨fun | 219 => 167 | 217 => 170 | 225 => 171 | 224 => 172 | 267 => 173 | 266 => 174 | 314 => 175 | n => n, fun | 9 => 9 | 3 => 3 | 4 => 4 | 5 => 5 | 46 => 197 | 146 => 199 | 51 => 198 | n => n, fun | 1 => 0 | n => n⟩
theorem Try.laysM219 : Go.Proofs.LaysM.n219 Try.prog Try.laysM219_ren := {
  mixed := by kernel_rfl
  f217 := Try.func170.trans (congrArg some (by kernel_rfl))
  f219 := Try.func167.trans (congrArg some (by kernel_rfl))
  f224 := Try.func172.trans (congrArg some (by kernel_rfl))
  f225 := Try.func171.trans (congrArg some (by kernel_rfl))
  f266 := Try.func174.trans (congrArg some (by kernel_rfl))
  f267 := Try.func173.trans (congrArg some (by kernel_rfl))
  f314 := Try.func175.trans (congrArg some (by kernel_rfl))
  t3 := Try.underlying3
  a3 := Try.isAgg3
  z3 := Try.sizeOf3
  v3 := Try.zeroValue3
  t4 := Try.underlying4
  a4 := Try.isAgg4
  z4 := Try.sizeOf4
  v4 := Try.zeroValue4
  t5 := Try.underlying5
  a5 := Try.isAgg5
  z5 := Try.sizeOf5
  v5 := Try.zeroValue5
  t9 := Try.underlying9
  a9 := Try.isAgg9
  z9 := Try.sizeOf9
  v9 := Try.zeroValue9
  t46 := Try.underlying197
  a46 := Try.isAgg197
  z46 := Try.sizeOf197
  v46 := Try.zeroValue197
  t51 := Try.underlying198
  a51 := Try.isAgg198
  z51 := Try.sizeOf198
  v51 := Try.zeroValue198
  t146 := Try.underlying199
  a146 := Try.isAgg199
  z146 := Try.sizeOf199
  v146 := Try.zeroValue199
  g1 := by kernel_rfl
  i3 := by kernel_rfl
  i4 := by kernel_rfl
  i5 := by kernel_rfl
  i9 := by kernel_rfl
  i46 := by kernel_rfl
  i51 := by kernel_rfl
  i146 := by kernel_rfl
  m1 := by kernel_rfl
  s1_3 := fun w h => Go.Proofs.cell_of_shapedOpen_int (zero := #[.int .i64 0]) (t := 3) h (of_decide_eq_true (by kernel_rfl)) (by kernel_rfl) rfl (by kernel_rfl) (by kernel_rfl) Try.underlying3 }
open Go.RowKit Go.Lib in
theorem Try.stringslite_Index_shaped (s sub : ByteArray) (w : World) (h : w.ShapedOpen Try.prog) (hs : s.size < 4294967281) :
    Calls Try.prog 167 #[.string s, .string sub] w fun e w' => e = .returned (.int .i64 (Lib.index s.data.toList sub.data.toList)) ∧ w' = w := Any.stringslite_Index_shaped Try.laysM219 s sub w h hs
def Try.laysM220_ren : Go.Shelf.Ren := ⟨fun | 220 => 159 | 219 => 167 | 217 => 170 | 225 => 171 | 224 => 172 | 267 => 173 | 266 => 174 | 314 => 175 | n => n, fun | 9 => 9 | 4 => 4 | 3 => 3 | 5 => 5 | 46 => 197 | 146 => 199 | 51 => 198 | n => n, fun | 1 => 0 | n => n⟩
theorem Try.laysM220 : Go.Proofs.LaysM.n220 Try.prog Try.laysM220_ren := {
  mixed := by kernel_rfl
  f217 := Try.func170.trans (congrArg some (by kernel_rfl))
  f219 := Try.func167.trans (congrArg some (by kernel_rfl))
  f220 := Try.func159.trans (congrArg some (by kernel_rfl))
  f224 := Try.func172.trans (congrArg some (by kernel_rfl))
  f225 := Try.func171.trans (congrArg some (by kernel_rfl))
  f266 := Try.func174.trans (congrArg some (by kernel_rfl))
  f267 := Try.func173.trans (congrArg some (by kernel_rfl))
  f314 := Try.func175.trans (congrArg some (by kernel_rfl))
  t3 := Try.underlying3
  a3 := Try.isAgg3
  z3 := Try.sizeOf3
  v3 := Try.zeroValue3
  t4 := Try.underlying4
  a4 := Try.isAgg4
  z4 := Try.sizeOf4
  v4 := Try.zeroValue4
  t5 := Try.underlying5
  a5 := Try.isAgg5
  z5 := Try.sizeOf5
  v5 := Try.zeroValue5
  t9 := Try.underlying9
  a9 := Try.isAgg9
  z9 := Try.sizeOf9
  v9 := Try.zeroValue9
  t46 := Try.underlying197
  a46 := Try.isAgg197
  z46 := Try.sizeOf197
  v46 := Try.zeroValue197
  t51 := Try.underlying198
  a51 := Try.isAgg198
  z51 := Try.sizeOf198
  v51 := Try.zeroValue198
  t146 := Try.underlying199
  a146 := Try.isAgg199
  z146 := Try.sizeOf199
  v146 := Try.zeroValue199
  g1 := by kernel_rfl
  i3 := by kernel_rfl
  i4 := by kernel_rfl
  i5 := by kernel_rfl
  i9 := by kernel_rfl
  i46 := by kernel_rfl
  i51 := by kernel_rfl
  i146 := by kernel_rfl
  m1 := by kernel_rfl
  s1_3 := fun w h => Go.Proofs.cell_of_shapedOpen_int (zero := #[.int .i64 0]) (t := 3) h (of_decide_eq_true (by kernel_rfl)) (by kernel_rfl) rfl (by kernel_rfl) (by kernel_rfl) Try.underlying3 }
open Go.RowKit Go.Lib in
theorem Try.stringslite_Cut_shaped (s sep : ByteArray) (w : World) (h : w.ShapedOpen Try.prog) (hs : s.size < 4294967281) :
    Calls Try.prog 159 #[.string s, .string sep] w fun e w' => e = .returned (.tuple #[.string ⟨(Lib.cut s.data.toList sep.data.toList).1.toArray⟩, .string ⟨(Lib.cut s.data.toList sep.data.toList).2.1.toArray⟩, .bool (Lib.cut s.data.toList sep.data.toList).2.2]) ∧ ∃ n, w' = w.drewN n := Any.stringslite_Cut_shaped Try.laysM220 s sep w h hs
def Try.laysM145_ren : Go.Shelf.Ren := ⟨fun | 145 => 149 | 220 => 159 | 219 => 167 | 217 => 170 | 225 => 171 | 224 => 172 | 267 => 173 | 266 => 174 | 314 => 175 | n => n, fun | 9 => 9 | 4 => 4 | 59 => 43 | 3 => 3 | 5 => 5 | 46 => 197 | 146 => 199 | 51 => 198 | n => n, fun | 1 => 0 | n => n⟩
theorem Try.laysM145 : Go.Proofs.LaysM.n145 Try.prog Try.laysM145_ren := {
  mixed := by kernel_rfl
  f145 := Try.func149.trans (congrArg some (by kernel_rfl))
  f217 := Try.func170.trans (congrArg some (by kernel_rfl))
  f219 := Try.func167.trans (congrArg some (by kernel_rfl))
  f220 := Try.func159.trans (congrArg some (by kernel_rfl))
  f224 := Try.func172.trans (congrArg some (by kernel_rfl))
  f225 := Try.func171.trans (congrArg some (by kernel_rfl))
  f266 := Try.func174.trans (congrArg some (by kernel_rfl))
  f267 := Try.func173.trans (congrArg some (by kernel_rfl))
  f314 := Try.func175.trans (congrArg some (by kernel_rfl))
  t3 := Try.underlying3
  a3 := Try.isAgg3
  z3 := Try.sizeOf3
  v3 := Try.zeroValue3
  t4 := Try.underlying4
  a4 := Try.isAgg4
  z4 := Try.sizeOf4
  v4 := Try.zeroValue4
  t5 := Try.underlying5
  a5 := Try.isAgg5
  z5 := Try.sizeOf5
  v5 := Try.zeroValue5
  t9 := Try.underlying9
  a9 := Try.isAgg9
  z9 := Try.sizeOf9
  v9 := Try.zeroValue9
  t46 := Try.underlying197
  a46 := Try.isAgg197
  z46 := Try.sizeOf197
  v46 := Try.zeroValue197
  t51 := Try.underlying198
  a51 := Try.isAgg198
  z51 := Try.sizeOf198
  v51 := Try.zeroValue198
  t59 := Try.underlying43
  a59 := Try.isAgg43
  z59 := Try.sizeOf43
  v59 := Try.zeroValue43
  t146 := Try.underlying199
  a146 := Try.isAgg199
  z146 := Try.sizeOf199
  v146 := Try.zeroValue199
  g1 := by kernel_rfl
  i3 := by kernel_rfl
  i4 := by kernel_rfl
  i5 := by kernel_rfl
  i9 := by kernel_rfl
  i46 := by kernel_rfl
  i51 := by kernel_rfl
  i59 := by kernel_rfl
  i146 := by kernel_rfl
  m1 := by kernel_rfl
  s1_3 := fun w h => Go.Proofs.cell_of_shapedOpen_int (zero := #[.int .i64 0]) (t := 3) h (of_decide_eq_true (by kernel_rfl)) (by kernel_rfl) rfl (by kernel_rfl) (by kernel_rfl) Try.underlying3 }
open Go.RowKit Go.Lib in
theorem Try.strings_Cut_shaped (s sep : ByteArray) (w : World) (h : w.ShapedOpen Try.prog) (hs : s.size < 4294967281) :
    Calls Try.prog 149 #[.string s, .string sep] w fun e w' => e = .returned (.tuple #[.string ⟨(Lib.cut s.data.toList sep.data.toList).1.toArray⟩, .string ⟨(Lib.cut s.data.toList sep.data.toList).2.1.toArray⟩, .bool (Lib.cut s.data.toList sep.data.toList).2.2]) ∧ ∃ n, w' = w.drewN n := Any.strings_Cut_shaped Try.laysM145 s sep w h hs
def Try.lays222_ren : Go.Shelf.Ren := ⟨fun | 222 => 122 | n => n, fun | 9 => 9 | 5 => 5 | 3 => 3 | 4 => 4 | n => n, fun | n => n⟩
theorem Try.lays222 : Go.Proofs.Lays.n222 Try.prog Try.lays222_ren := {
  mixed := by kernel_rfl
  f222 := Try.func122.trans (congrArg some (by kernel_rfl))
  t3 := Try.underlying3
  a3 := Try.isAgg3
  z3 := Try.sizeOf3
  v3 := Try.zeroValue3
  t4 := Try.underlying4
  a4 := Try.isAgg4
  z4 := Try.sizeOf4
  v4 := Try.zeroValue4
  t5 := Try.underlying5
  a5 := Try.isAgg5
  z5 := Try.sizeOf5
  v5 := Try.zeroValue5
  t9 := Try.underlying9
  a9 := Try.isAgg9
  z9 := Try.sizeOf9
  v9 := Try.zeroValue9 }
open Go.RowKit Go.Lib in
/-- internal/bytealg.LastIndexByteString: 'for i := len(s) - 1; i >= 0; i-- { if s[i] == c { return i } }; return -1'. (LAID: no walk: one application.) -/
theorem Try.bytealg_LastIndexByteString_nm (s : ByteArray) (c : Int) (hs : s.size < 4611686018427387904) (w : World) :
    Calls Try.prog 122 #[.string s, .int .u8 c] w fun e w' => e = .returned (.int .i64 (Lib.lastIndexByte s c)) ∧ w' = w := Any.bytealg_LastIndexByteString_nm Try.lays222 s c hs w
def Try.lays149_ren : Go.Shelf.Ren := ⟨fun | 149 => 79 | 222 => 122 | n => n, fun | 9 => 9 | 5 => 5 | 3 => 3 | 4 => 4 | n => n, fun | n => n⟩
theorem Try.lays149 : Go.Proofs.Lays.n149 Try.prog Try.lays149_ren := {
  mixed := by kernel_rfl
  f149 := Try.func79.trans (congrArg some (by kernel_rfl))
  f222 := Try.func122.trans (congrArg some (by kernel_rfl))
  t3 := Try.underlying3
  a3 := Try.isAgg3
  z3 := Try.sizeOf3
  v3 := Try.zeroValue3
  t4 := Try.underlying4
  a4 := Try.isAgg4
  z4 := Try.sizeOf4
  v4 := Try.zeroValue4
  t5 := Try.underlying5
  a5 := Try.isAgg5
  z5 := Try.sizeOf5
  v5 := Try.zeroValue5
  t9 := Try.underlying9
  a9 := Try.isAgg9
  z9 := Try.sizeOf9
  v9 := Try.zeroValue9 }
open Go.RowKit Go.Lib in
/-- strings.LastIndexByte: "LastIndexByte returns the index of the last instance of c in s, or -1 if c is not present in s." (LAID: no walk: one application.) -/
theorem Try.strings_LastIndexByte (s : ByteArray) (c : Int) (hs : s.size < 4611686018427387904) (w : World) :
    Calls Try.prog 79 #[.string s, .int .u8 c] w fun e w' => e = .returned (.int .i64 (Lib.lastIndexByte s c)) ∧ w' = w := Any.strings_LastIndexByte Try.lays149 s c hs w
def Try.lays315_ren : Go.Shelf.Ren := ⟨fun | 315 => 160 | n => n, fun | 9 => 9 | 40 => 184 | 4 => 4 | 3 => 3 | 0 => 0 | 21 => 21 | n => n, fun | n => n⟩
theorem Try.lays315 : Go.Proofs.Lays.n315 Try.prog Try.lays315_ren := {
  mixed := by kernel_rfl
  f315 := Try.func160.trans (congrArg some (by kernel_rfl))
  t0 := Try.underlying0
  a0 := Try.isAgg0
  z0 := Try.sizeOf0
  v0 := Try.zeroValue0
  t3 := Try.underlying3
  a3 := Try.isAgg3
  z3 := Try.sizeOf3
  v3 := Try.zeroValue3
  t4 := Try.underlying4
  a4 := Try.isAgg4
  z4 := Try.sizeOf4
  v4 := Try.zeroValue4
  t9 := Try.underlying9
  a9 := Try.isAgg9
  z9 := Try.sizeOf9
  v9 := Try.zeroValue9
  t21 := Try.underlying21
  a21 := Try.isAgg21
  z21 := Try.sizeOf21
  v21 := Try.zeroValue21
  t40 := Try.underlying184
  a40 := Try.isAgg184
  z40 := Try.sizeOf184
  v40 := Try.zeroValue184 }
open Go.RowKit Go.Lib in
theorem Try.strings_indexFunc (g : Nat) (lb : Array Value) (eg : ∀ args w, (callFunc g args).run Try.prog w = .ok (.enter g args) w) (p : Nat → Bool) (truth : Bool) (s : ByteArray) (w : World) (hp : PredAt Try.prog g lb encR p w) :
    Calls Try.prog 160 #[.string s, .func (.func g) #[] lb, .bool truth] w fun e w' => e = .returned (.int .i64 (Lib.idxFunc p truth s)) ∧ Below w.heap.size w w' := Any.strings_indexFunc Try.lays315 g lb eg p truth s w hp
def Try.laysGw15_ren : Go.Shelf.Ren := ⟨fun | 15 => 150 | 20 => 160 | n => n, fun | 9 => 9 | 23 => 184 | 3 => 3 | 4 => 4 | 0 => 0 | 21 => 21 | n => n, fun | n => n⟩
theorem Try.laysGw15 : Go.Proofs.LaysGw.n15 Try.prog Try.laysGw15_ren := {
  mixed := by kernel_rfl
  f15 := Try.func150.trans (congrArg some (by kernel_rfl))
  f20 := Try.func160.trans (congrArg some (by kernel_rfl))
  t0 := Try.underlying0
  a0 := Try.isAgg0
  z0 := Try.sizeOf0
  v0 := Try.zeroValue0
  i0 := by kernel_rfl
  t3 := Try.underlying3
  a3 := Try.isAgg3
  z3 := Try.sizeOf3
  v3 := Try.zeroValue3
  i3 := by kernel_rfl
  t4 := Try.underlying4
  a4 := Try.isAgg4
  z4 := Try.sizeOf4
  v4 := Try.zeroValue4
  i4 := by kernel_rfl
  t9 := Try.underlying9
  a9 := Try.isAgg9
  z9 := Try.sizeOf9
  v9 := Try.zeroValue9
  i9 := by kernel_rfl
  t21 := Try.underlying21
  a21 := Try.isAgg21
  z21 := Try.sizeOf21
  v21 := Try.zeroValue21
  i21 := by kernel_rfl
  t23 := Try.underlying184
  a23 := Try.isAgg184
  z23 := Try.sizeOf184
  v23 := Try.zeroValue184
  i23 := by kernel_rfl }
open Go.RowKit Go.Lib in
theorem Try.strings_IndexFunc (g : Nat) (lb : Array Value) (eg : ∀ args w, (callFunc g args).run Try.prog w = .ok (.enter g args) w) (p : Nat → Bool) (s : ByteArray) (w : World) (hp : PredAt Try.prog g lb encR p w) :
    Calls Try.prog 150 #[.string s, .func (.func g) #[] lb] w fun e w' => e = .returned (.int .i64 (Lib.idxFunc p true s)) ∧ Below w.heap.size w w' := Any.strings_IndexFunc Try.laysGw15 g lb eg p s w hp
open Go.RowKit Go.Lib in
theorem Try.strings_indexFunc_runes (g : Nat) (lb : Array Value) (eg : ∀ args w, (callFunc g args).run Try.prog w = .ok (.enter g args) w) (p : Nat → Bool) (truth : Bool) (s : ByteArray) (w : World) (hp : PredAtRunes Try.prog g lb p w) :
    Calls Try.prog 160 #[.string s, .func (.func g) #[] lb, .bool truth] w fun e w' => e = .returned (.int .i64 (Lib.idxFunc p truth s)) ∧ Below w.heap.size w w' := Any.strings_indexFunc_runes Try.lays315 g lb eg p truth s w hp
open Go.RowKit Go.Lib in
theorem Try.strings_IndexFunc_runes (g : Nat) (lb : Array Value) (eg : ∀ args w, (callFunc g args).run Try.prog w = .ok (.enter g args) w) (p : Nat → Bool) (s : ByteArray) (w : World) (hp : PredAtRunes Try.prog g lb p w) :
    Calls Try.prog 150 #[.string s, .func (.func g) #[] lb] w fun e w' => e = .returned (.int .i64 (Lib.idxFunc p true s)) ∧ Below w.heap.size w w' := Any.strings_IndexFunc_runes Try.laysGw15 g lb eg p s w hp
open Go.RowKit Go.Lib in
theorem Try.strings_indexFunc_grows (g : Nat) (lb : Array Value) (eg : ∀ args w, (callFunc g args).run Try.prog w = .ok (.enter g args) w) (p : Nat → Bool) (truth : Bool) (s : ByteArray) (w : World) (hp : PredGrows Try.prog g lb p w) :
    Calls Try.prog 160 #[.string s, .func (.func g) #[] lb, .bool truth] w fun e w' => e = .returned (.int .i64 (Lib.idxFunc p truth s)) ∧ Below w.heap.size w w' := Any.strings_indexFunc_grows Try.lays315 g lb eg p truth s w hp
open Go.RowKit Go.Lib in
theorem Try.strings_IndexFunc_grows (g : Nat) (lb : Array Value) (eg : ∀ args w, (callFunc g args).run Try.prog w = .ok (.enter g args) w) (p : Nat → Bool) (s : ByteArray) (w : World) (hp : PredGrows Try.prog g lb p w) :
    Calls Try.prog 150 #[.string s, .func (.func g) #[] lb] w fun e w' => e = .returned (.int .i64 (Lib.idxFunc p true s)) ∧ Below w.heap.size w w' := Any.strings_IndexFunc_grows Try.laysGw15 g lb eg p s w hp
def Try.laysPa45_ren : Go.Shelf.Ren := ⟨fun | 45 => 122 | n => n, fun | 9 => 9 | 5 => 5 | 3 => 3 | 4 => 4 | n => n, fun | n => n⟩
theorem Try.laysPa45 : Go.Proofs.Lays.p45 Try.prog Try.laysPa45_ren := {
  mixed := by kernel_rfl
  f45 := Try.func122.trans (congrArg some (by kernel_rfl))
  t3 := Try.underlying3
  a3 := Try.isAgg3
  z3 := Try.sizeOf3
  v3 := Try.zeroValue3
  t4 := Try.underlying4
  a4 := Try.isAgg4
  z4 := Try.sizeOf4
  v4 := Try.zeroValue4
  t5 := Try.underlying5
  a5 := Try.isAgg5
  z5 := Try.sizeOf5
  v5 := Try.zeroValue5
  t9 := Try.underlying9
  a9 := Try.isAgg9
  z9 := Try.sizeOf9
  v9 := Try.zeroValue9 }
open Go.RowKit Go.Lib in
/-- internal/bytealg.LastIndexByteString (what strings.LastIndexByte calls: "LastIndexByte returns the index of the last instance of c in s, or -1 if c is not present in s."): IT RETURNS 'Pa.lastIndexByte s c'; the world is as it was. (LAID: no walk: one application.) -/
theorem Try.bytealg_LastIndexByteString (s : ByteArray) (c : UInt8) (w : World) (hs : s.size ≤ 9223372036854775807) :
    Calls Try.prog 122 #[.string s, .int .u8 c.toNat] w fun e w' => e = .returned (.int .i64 (Pa.lastIndexByte s.data.toList c)) ∧ w' = w := Any.bytealg_LastIndexByteString Try.laysPa45 s c w hs
end Go.Proofs
end

section
namespace Go.Proofs.Ytcbakmojhicahaa.Hand
open Go.RowKit Go.Proofs.YtcbakmojhicahaaW.PrintWords Go.Proofs.YtcbakmojhicahaaW.PrintLast Go.Proofs.YtcbakmojhicahaaW.PrintMore
set_option linter.unusedVariables false
set_option linter.unusedSimpArgs false

theorem wrap_in {x : Int} (h0 : -9223372036854775808 ≤ x) (h1 : x < 9223372036854775808) : wrap64 x = x := by
  unfold wrap64
  omega
theorem drawn_trans {a b c : World} (h : Drawn0 a b) (k : Drawn0 b c) : Drawn0 a c := by
  obtain ⟨n, rfl⟩ := h
  obtain ⟨m, rfl⟩ := k
  exact ⟨⟨n + m, World.drewN_drewN ..⟩⟩
/-! ### word.of -/
def ofL (p : Int → Bool) (l : List UInt8) : Bool := l.all (fun b => p (b.toNat : Int)) && decide (0 < l.length ∧ l.length ≤ 32)
theorem bt_data (s : ByteArray) (i : Nat) (h : i < s.size) : bt s (i : Int) = ((s.data.toList[i]'(by rw [Array.length_toList]; exact h)).toNat : Int) := by
  unfold bt
  rw [dif_pos (by simpa using h)]
  rfl
set_option maxHeartbeats 8000000 in
set_option maxRecDepth 100000 in
theorem word_of_walk (g : Nat) (eg : ∀ args w, (callFunc g args).run Try.prog w = .ok (.enter g args) w) (p : Int → Bool) (s : ByteArray) (w : World)
    (hg : ∀ (W : World) (c : Int), 0 ≤ c → c ≤ 255 → Calls Try.prog g #[.int .u8 c] W fun e w' => e = .returned (.bool (p c)) ∧ Drawn0 W w') (hs : s.size ≤ 9223372036854775807) :
    Calls Try.prog 81 #[.string s, .func (.func g) #[] #[]] w fun e w' => e = .returned (.bool (ofL p s.data.toList)) ∧ Drawn0 w w' := by
  have HG := Aside0.mk hg
  have HS := Aside0.mk hs
  clear hg hs
  go_enter Try.func81, Try.ntmps81
  go_wp2_with fail
  go_loopg [8] s.size (fun kq v8 wr => ∃ i : Nat, v8 = .int .i64 (i : Int) ∧ i + kq = s.size ∧ Aside0 ((s.data.toList.take i).all (fun b => p (b.toNat : Int)) = true) ∧ Drawn0 w wr)
  case atStart => exact ⟨0, rfl, by omega, ⟨rfl⟩, Drawn0.refl _⟩
  case round =>
    obtain ⟨i, rfl, hk, HA, HD⟩ := hrel
    by_cases hi : i < s.size
    · have hi1 : decide ((i : Int) < (s.size : Int)) = true := decide_eq_true (by omega)
      have hi2 : decide (i < s.size) = true := decide_eq_true hi
      have hi0 : decide (0 ≤ (i : Int)) = true := decide_eq_true (by omega)
      have he : wrap64 ((i : Int) + 1) = ((i + 1 : Nat) : Int) := by have := HS.out; rw [wrap_in (by omega) (by omega)]; push_cast; rfl
      have hbt := bt_at s (i : Int)
      have hi3 : (0 ≤ (i : Int)) = True := eq_true (by omega)
      have hi4 : ((i : Int) < (s.size : Int)) = True := eq_true (by omega)
      go_wp2_with fail
      have hc : (s[i].toNat : Int) ≤ 255 := by have := s[i].toNat_lt; omega
      refine (HG.out wr _ (by omega) hc).mono ?_
      rintro e w2 ⟨rfl, hd⟩
      have HD2 : Drawn0 w w2 := drawn_trans HD hd
      clear hd HD
      generalize hb : p (s[i].toNat : Int) = b
      have hget : s.data.toList[i]? = some s[i] := by
        rw [List.getElem?_eq_getElem (by rw [Array.length_toList]; exact hi), Array.getElem_toList]
        rfl
      cases b with
      | true =>
        have HA2 : Aside0 ((s.data.toList.take (i + 1)).all (fun b => p (b.toNat : Int)) = true) := ⟨by
          rw [List.take_add_one, hget, List.all_append, HA.out]
          simp [hb]⟩
        go_wp2
        go_roundg (gk - 1)
        case measure => omega
        case rel => exact ⟨i + 1, by rw [he], by omega, HA2, HD2⟩
      | false =>
        have HN : Aside0 (ofL p s.data.toList = false) := ⟨by
          unfold ofL
          rw [show s.data.toList.all (fun b => p (b.toNat : Int)) = false from by
            rw [Bool.eq_false_iff]
            intro h
            have := List.all_eq_true.1 h s[i] (List.mem_of_getElem? hget)
            rw [hb] at this
            cases this]
          rfl⟩
        clear hget
        go_wp2
        go_ret
        exact ⟨by rw [HN.out]; rfl, HD2⟩
    · obtain rfl : i = s.size := by omega
      have hi1 : decide ((s.size : Int) < (s.size : Int)) = false := decide_eq_false (by omega)
      have hall : s.data.toList.all (fun b => p (b.toNat : Int)) = true := by
        have := HA.out
        rwa [List.take_of_length_le (by rw [Array.length_toList]; exact Nat.le_refl _)] at this
      have HV : Aside0 (ofL p s.data.toList = (!s.toList.isEmpty && decide ((s.size : Int) ≤ 32))) := ⟨by
        unfold ofL
        rw [hall, ByteArray.toList_eq, Bool.true_and, Array.length_toList, Bool.decide_and]
        have e1 : decide (0 < s.data.size) = !s.data.toList.isEmpty := by
          cases h : s.data.toList with
          | nil => have : s.data.size = 0 := by rw [← Array.length_toList, h]; rfl
                   rw [this]; rfl
          | cons x l => have : s.data.size = l.length + 1 := by rw [← Array.length_toList, h]; rfl
                        rw [this]; simp
        rw [e1]
        congr 1
        show decide (s.size ≤ 32) = decide ((s.size : Int) ≤ 32)
        simp only [decide_eq_decide]
        omega⟩
      clear hi hall
      go_wp2
      · rename_i h0
        go_ret
        exact ⟨by rw [HV.out, h0]; rfl, HD⟩
      · go_ret
        exact ⟨by rw [HV.out]; rfl, HD⟩
end Go.Proofs.Ytcbakmojhicahaa.Hand
end

section
namespace Go.Proofs.Ytcbakmojhicahaa.Hand
open Go.RowKit Go.Proofs.YtcbakmojhicahaaW.PrintWords Go.Proofs.YtcbakmojhicahaaW.PrintLast Go.Proofs.YtcbakmojhicahaaW.PrintMore
set_option linter.unusedVariables false
set_option linter.unusedSimpArgs false

/-! ### letters -/
def letterI (c : Int) : Bool := decide (65 ≤ c ∧ c ≤ 90) || decide (97 ≤ c ∧ c ≤ 122) || decide (48 ≤ c ∧ c ≤ 57) || decide (c = 95) || decide (c = 36)
def word_letter.f (a0 : Int) : Option Bool := some (letterI a0)
def secateurref04_letter.f (a0 : Int) : Option Bool := some (letterI a0)
theorem letter_eq (c : Int) : Q13.word_letter.f 4 c = some (letterI c) := by
  unfold Q13.word_letter.f letterI
  simp only [Q13.word_letter.j0, Q13.word_letter.j1, Q13.word_letter.j2]
  by_cases h1 : c = 95
  · subst h1; decide
  by_cases h2 : c = 36
  · subst h2; decide
  by_cases h3 : 65 ≤ c <;> by_cases h4 : c ≤ 90 <;> by_cases h5 : 97 ≤ c <;> by_cases h6 : c ≤ 122 <;> by_cases h7 : 48 ≤ c <;> by_cases h8 : c ≤ 57 <;> simp [*] <;> omega
theorem letterR_eq (c : Int) : Q13.secateurref04_letter.f c = some (letterI c) := by
  unfold Q13.secateurref04_letter.f letterI
  by_cases h1 : c = 95
  · subst h1; decide
  by_cases h2 : c = 36
  · subst h2; decide
  by_cases h3 : 65 ≤ c <;> by_cases h4 : c ≤ 90 <;> by_cases h5 : 97 ≤ c <;> by_cases h6 : c ≤ 122 <;> by_cases h7 : 48 ≤ c <;> by_cases h8 : c ≤ 57 <;> simp [*] <;> omega
theorem word_letter.calls (a0 : Int) (r : Bool) (w : World) (h : word_letter.f a0 = some r) :
    Calls Try.prog 82 #[.int .u8 a0] w fun e w' => e = .returned (.bool r) ∧ Drawn0 w w' := Q13.word_letter.calls 4 a0 r w ((letter_eq a0).trans h)
theorem secateurref04_letter.calls (a0 : Int) (r : Bool) (w : World) (h : secateurref04_letter.f a0 = some r) :
    Calls Try.prog 125 #[.int .u8 a0] w fun e w' => e = .returned (.bool r) ∧ Drawn0 w w' := Q13.secateurref04_letter.calls a0 r w ((letterR_eq a0).trans h)

/-! ### names -/
def slashL (c : Int) : Bool := letterI c || decide (c = 47)
def initL : List UInt8 := [60, 99, 108, 105, 110, 105, 116, 62]
def nameL (l : List UInt8) : Bool := decide (l = initL) || ofL letterI l
def classL (l : List UInt8) : Bool := ofL slashL l
def word_Name.f (s : ByteArray) : Option Bool := if s.size ≤ 9223372036854775807 then some (nameL s.data.toList) else none
def word_Class.f (s : ByteArray) : Option Bool := if s.size ≤ 9223372036854775807 then some (classL s.data.toList) else none
set_option maxHeartbeats 8000000 in
set_option maxRecDepth 100000 in
theorem word_slash (c : Int) (w : World) : Calls Try.prog 84 #[.int .u8 c] w fun e w' => e = .returned (.bool (slashL c)) ∧ Drawn0 w w' := by
  obtain ⟨b, hb⟩ : ∃ b, b = letterI c := ⟨_, rfl⟩
  have HL := Aside0.mk (word_letter.calls c b w (by unfold word_letter.f; rw [hb]))
  have HV : Aside0 (slashL c = (b || decide (c = 47))) := ⟨by unfold slashL; rw [hb]⟩
  clear hb
  go_enter Try.func84, Try.ntmps84
  go_wp2_with fail
  refine HL.out.mono ?_
  rintro e w1 ⟨rfl, hd⟩
  cases b with
  | true =>
    go_wp2
    go_ret
    exact ⟨by rw [HV.out]; rfl, hd⟩
  | false =>
    go_wp2
    go_ret
    exact ⟨by rw [HV.out]; first | rfl | simp, hd⟩
set_option maxHeartbeats 8000000 in
set_option maxRecDepth 100000 in
theorem word_Class.calls (a0 : ByteArray) (r : Bool) (w : World) (h : word_Class.f a0 = some r) :
    Calls Try.prog 24 #[.string a0] w fun e w' => e = .returned (.bool r) ∧ Drawn0 w w' := by
  unfold word_Class.f at h
  split at h
  · rename_i hs
    obtain rfl := Option.some.inj h
    have HW := Aside0.mk (word_of_walk 84 (by intro args w; rfl) slashL a0 w (fun W c _ _ => word_slash c W) hs)
    clear h hs
    go_enter Try.func24, Try.ntmps24
    go_wp2_with fail
    refine HW.out.mono ?_
    rintro e w1 ⟨rfl, hd⟩
    go_wp2
    go_ret
    exact ⟨rfl, hd⟩
  · cases h
set_option maxHeartbeats 8000000 in
set_option maxRecDepth 100000 in
theorem word_Name.calls (a0 : ByteArray) (r : Bool) (w : World) (h : word_Name.f a0 = some r) :
    Calls Try.prog 22 #[.string a0] w fun e w' => e = .returned (.bool r) ∧ Drawn0 w w' := by
  unfold word_Name.f at h
  split at h
  · rename_i hs
    obtain rfl := Option.some.inj h
    have HW := Aside0.mk (word_of_walk 82 (by intro args w; rfl) letterI a0 w (fun W c _ _ => word_letter.calls c _ W rfl) hs)
    have HV : Aside0 (nameL a0.data.toList = ((a0.toList == [60, 99, 108, 105, 110, 105, 116, 62]) || ofL letterI a0.data.toList)) := ⟨by
      unfold nameL
      rw [ByteArray.toList_eq]
      congr 1
      rw [Bool.eq_iff_iff, decide_eq_true_iff, beq_iff_eq]
      rfl⟩
    clear h hs
    go_enter Try.func22, Try.ntmps22
    go_wp2_with fail
    · rename_i h0
      go_ret
      refine ⟨?_, Drawn0.refl _⟩
      rw [HV.out, h0]
      rfl
    · refine HW.out.mono ?_
      rintro e w1 ⟨rfl, hd⟩
      go_wp2
      go_ret
      exact ⟨by rw [HV.out]; rfl, hd⟩
  · cases h
end Go.Proofs.Ytcbakmojhicahaa.Hand
end

section
namespace Go.Proofs.Ytcbakmojhicahaa.Hand
open Go.RowKit Go.Proofs.YtcbakmojhicahaaW.PrintWords Go.Proofs.YtcbakmojhicahaaW.PrintLast Go.Proofs.YtcbakmojhicahaaW.PrintMore
set_option linter.unusedVariables false
set_option linter.unusedSimpArgs false

def moreL (m : Int) (c : Int) : Bool := letterI c || decide (c = m)
theorem get_data (s : ByteArray) (i : Nat) (h : i < s.size) : s.data.toList[i]'(by rw [Array.length_toList]; exact h) = s[i] := by
  rw [Array.getElem_toList]; rfl
theorem drop_data (s : ByteArray) (i : Nat) (h : i < s.size) : s.data.toList.drop i = s[i] :: s.data.toList.drop (i + 1) := by
  rw [List.drop_eq_getElem_cons (by rw [Array.length_toList]; exact h), get_data s i h]
theorem bt_nat (s : ByteArray) (i : Nat) (h : i < s.size) : bt s (i : Int) = (s[i].toNat : Int) := by
  unfold bt
  rw [dif_pos (by simpa using h)]
  rfl
theorem all_loop (s : ByteArray) (m : Int) (hs : s.size ≤ 9223372036854775806) : ∀ (d i k : Nat), s.size - i = d → i ≤ s.size → d < k → Q13.secateurref04_all.l0 k s m i = some ((s.data.toList.drop i).all (fun b => moreL m (b.toNat : Int))) := by
  intro d
  induction d with
  | zero =>
    intro i k hd hi hk
    obtain ⟨k, rfl⟩ : ∃ j, k = j + 1 := ⟨k - 1, by omega⟩
    rw [Q13.secateurref04_all.l0, if_neg (by omega), List.drop_of_length_le (by rw [Array.length_toList]; show s.size ≤ i; omega)]
    rfl
  | succ d ih =>
    intro i k hd hi hk
    obtain ⟨k, rfl⟩ : ∃ j, k = j + 1 := ⟨k - 1, by omega⟩
    have hlt : i < s.size := by omega
    have ih := ih (i + 1) k (by omega) (by omega) (by omega)
    push_cast at ih
    have e1 : secateurref04_letter.f (bt s i) = some (letterI (bt s i)) := rfl
    have e0 : Q13.secateurref04_letter.f (bt s i) = some (letterI (bt s i)) := letterR_eq _
    rw [Q13.secateurref04_all.l0, if_pos (by omega), if_pos (by omega), e0, Option.bind_some, wrap_in (by omega) (by omega), ih, drop_data s i hlt, List.all_cons, bt_nat s i hlt]
    unfold moreL
    cases letterI (s[i].toNat : Int) with
    | true => simp
    | false =>
      by_cases h : (s[i].toNat : Int) = m
      · simp [h]
      · simp [h]
theorem all_eq (s : ByteArray) (m : Int) (hs : s.size ≤ 9223372036854775806) : Q13.secateurref04_all.f (s.size + 2) s m = some (ofL (moreL m) s.data.toList) := by
  unfold Q13.secateurref04_all.f ofL
  have hl : s.data.toList.length = s.size := by rw [Array.length_toList]; rfl
  rw [hl]
  by_cases h1 : (s.size : Int) < 1
  · rw [if_pos h1, Q13.secateurref04_all.j0, if_pos rfl, decide_eq_false (show ¬ (0 < s.size ∧ s.size ≤ 32) by omega), Bool.and_false]
  · rw [if_neg h1, Q13.secateurref04_all.j0]
    by_cases h2 : (s.size : Int) > 32
    · rw [if_pos (decide_eq_true h2), decide_eq_false (show ¬ (0 < s.size ∧ s.size ≤ 32) by omega), Bool.and_false]
    · rw [if_neg (by rw [decide_eq_false h2]; decide), decide_eq_true (show 0 < s.size ∧ s.size ≤ 32 by omega), Bool.and_true]
      exact all_loop s m hs s.size 0 (s.size + 1) rfl (by omega) (by omega)
theorem ofL_letter (l : List UInt8) : ofL (moreL 95) l = ofL letterI l := by
  have : moreL 95 = letterI := by
    funext c
    unfold moreL
    by_cases h : c = 95
    · subst h; decide
    · rw [decide_eq_false h, Bool.or_false]
  rw [this]
def secateurref04_Name.f (s : ByteArray) : Option Bool := if s.size ≤ 9223372036854775806 then some (nameL s.data.toList) else none
def secateurref04_Class.f (s : ByteArray) : Option Bool := if s.size ≤ 9223372036854775806 then some (classL s.data.toList) else none
theorem classR_eq (s : ByteArray) (hs : s.size ≤ 9223372036854775806) : Q13.secateurref04_Class.f (s.size + 2) s = some (classL s.data.toList) := by
  unfold Q13.secateurref04_Class.f
  rw [all_eq s 47 hs]
  rfl
theorem nameR_eq (s : ByteArray) (hs : s.size ≤ 9223372036854775806) : Q13.secateurref04_Name.f (s.size + 2) s = some (nameL s.data.toList) := by
  unfold Q13.secateurref04_Name.f nameL initL
  rw [all_eq s 95 hs, ofL_letter, ByteArray.toList_eq]
  by_cases h : s.data.toList = [60, 99, 108, 105, 110, 105, 116, 62]
  · rw [if_pos h, decide_eq_true h, Bool.true_or]
  · rw [if_neg h, decide_eq_false h, Bool.false_or]
    rfl
theorem secateurref04_Name.calls (a0 : ByteArray) (r : Bool) (w : World) (h : secateurref04_Name.f a0 = some r) :
    Calls Try.prog 23 #[.string a0] w fun e w' => e = .returned (.bool r) ∧ Drawn0 w w' := by
  unfold secateurref04_Name.f at h
  split at h
  · rename_i hs
    exact Q13.secateurref04_Name.calls _ a0 r w ((nameR_eq a0 hs).trans h)
  · cases h
theorem secateurref04_Class.calls (a0 : ByteArray) (r : Bool) (w : World) (h : secateurref04_Class.f a0 = some r) :
    Calls Try.prog 25 #[.string a0] w fun e w' => e = .returned (.bool r) ∧ Drawn0 w w' := by
  unfold secateurref04_Class.f at h
  split at h
  · rename_i hs
    exact Q13.secateurref04_Class.calls _ a0 r w ((classR_eq a0 hs).trans h)
  · cases h

theorem extract_size (s : ByteArray) (a b : Nat) : (s.extract a b).size ≤ s.size := by
  rw [ByteArray.size_extract]
  omega
end Go.Proofs.Ytcbakmojhicahaa.Hand
end

section
namespace Go.Proofs.Ytcbakmojhicahaa.Hand
/-! ### texts as lists of bytes -/
def bl (s : ByteArray) : List UInt8 := s.data.toList
def lb (l : List UInt8) : ByteArray := ⟨l.toArray⟩
@[simp] theorem bl_lb (l : List UInt8) : bl (lb l) = l := rfl
@[simp] theorem lb_bl (s : ByteArray) : lb (bl s) = s := by cases s; simp [lb, bl]
theorem bl_inj {a b : ByteArray} (h : bl a = bl b) : a = b := by rw [← lb_bl a, ← lb_bl b, h]
theorem bl_len (s : ByteArray) : (bl s).length = s.size := by unfold bl; rw [Array.length_toList]; rfl
theorem lb_size (l : List UInt8) : (lb l).size = l.length := rfl
theorem bl_append (a b : ByteArray) : bl (a ++ b) = bl a ++ bl b := by simp [bl, ByteArray.data_append]
theorem bl_nil : bl ⟨#[]⟩ = [] := rfl

/-! ### numbers -/
def digB (b : UInt8) : Bool := decide (48 ≤ b.toNat ∧ b.toNat ≤ 57)
def digC (d : Nat) : UInt8 := UInt8.ofNat (48 + d)
def decR : Nat → Nat → List UInt8
  | 0, _ => []
  | f + 1, n => if n < 10 then [digC n] else digC (n % 10) :: decR f (n / 10)
def decL (n : Nat) : List UInt8 := (decR 20 n).reverse
def digitsL (n : Int) : List UInt8 := if n < 0 then 45 :: decL n.natAbs else decL n.natAbs
def valF (a : Nat) (b : UInt8) : Nat := a * 10 + (b.toNat - 48)
def valL (l : List UInt8) : Nat := l.foldl valF 0
def formB (l : List UInt8) : Bool := !l.isEmpty && (l.head? != some 48 || l == [48]) && l.all digB
def parseL (l : List UInt8) : Int × Int := if formB l = true then (if valL l > 65536 then (0, 12) else ((valL l : Int), 0)) else (0, 1)

theorem dig_of {d : Nat} (h : d < 10) : digB (digC d) = true ∧ (digC d).toNat = 48 + d := by
  have h1 : (digC d).toNat = 48 + d := by unfold digC; rw [UInt8.toNat_ofNat']; omega
  refine ⟨?_, h1⟩
  unfold digB
  rw [h1]
  simp
  omega
theorem decR_dig : ∀ f n, (decR f n).all digB = true
  | 0, _ => rfl
  | f + 1, n => by
    unfold decR
    split
    · rename_i h
      simp [(dig_of h).1]
    · rw [List.all_cons, (dig_of (Nat.mod_lt n (by decide))).1, decR_dig f, Bool.and_self]
theorem foldl_rev (l : List UInt8) : ∀ b, l.reverse.foldl valF b = (l.foldr (fun c a => valF a c) b) := by
  intro b
  rw [List.foldl_reverse]
theorem decR_val : ∀ f n, n < 10 ^ f → (decR f n).foldr (fun c a => valF a c) 0 = n
  | 0, n, h => by simp at h; subst h; rfl
  | f + 1, n, h => by
    unfold decR
    split
    · rename_i h1
      simp [valF, (dig_of h1).2]
    · rename_i h1
      have ih := decR_val f (n / 10) (by rw [Nat.pow_succ] at h; omega)
      rw [List.foldr_cons, ih]
      unfold valF
      rw [(dig_of (Nat.mod_lt n (by decide))).2]
      omega
theorem decL_val {n : Nat} (h : n < 10 ^ 20) : valL (decL n) = n := by
  unfold valL decL
  rw [foldl_rev, decR_val 20 n h]
theorem decR_last : ∀ f n, n < 10 ^ f → 0 < n → ∃ d, (decR f n).getLast? = some (digC d) ∧ 0 < d ∧ d < 10
  | 0, n, h, h0 => by simp at h; omega
  | f + 1, n, h, h0 => by
    unfold decR
    split
    · rename_i h1
      exact ⟨n, rfl, h0, h1⟩
    · rename_i h1
      obtain ⟨d, hd, h2⟩ := decR_last f (n / 10) (by rw [Nat.pow_succ] at h; omega) (by omega)
      refine ⟨d, ?_, h2⟩
      rw [List.getLast?_cons, hd]
      rfl
theorem decL_zero : decL 0 = [48] := rfl
theorem decL_form {n : Nat} (h : n < 10 ^ 20) : formB (decL n) = true := by
  rcases Nat.eq_zero_or_pos n with rfl | h0
  · decide
  · obtain ⟨d, hd, h1, h2⟩ := decR_last 20 n h h0
    have hh : (decL n).head? = some (digC d) := by unfold decL; rw [List.head?_reverse, hd]
    have hne : decL n ≠ [] := by intro e; rw [e] at hh; cases hh
    have hd2 : digC d ≠ 48 := by
      intro e
      have := (dig_of h2).2
      rw [e] at this
      have h3 : (48 : UInt8).toNat = 48 := rfl
      omega
    have hall : (decL n).all digB = true := by unfold decL; rw [List.all_reverse, decR_dig]
    unfold formB
    rw [hh, hall]
    cases hl : decL n with
    | nil => exact absurd hl hne
    | cons x r => simp [bne, hd2]
theorem parse_digits (n : Int) (h0 : -9223372036854775808 ≤ n) (h1 : n ≤ 9223372036854775807) : parseL (digitsL n) = if n < 0 then (0, 1) else if n > 65536 then (0, 12) else (n, 0) := by
  have hb : n.natAbs < 10 ^ 20 := by have : (10 : Nat) ^ 20 = 100000000000000000000 := by decide
                                     omega
  unfold parseL digitsL
  by_cases hn : n < 0
  · rw [if_pos hn, if_pos hn, if_neg]
    unfold formB
    rw [List.all_cons, show digB 45 = false from by decide]
    simp
  · rw [if_neg hn, if_neg hn, if_pos (decL_form hb), decL_val hb]
    by_cases h2 : n > 65536
    · rw [if_pos (by omega), if_pos h2]
    · rw [if_neg (by omega), if_neg h2]
      congr 1
      omega
theorem dig_back {x : UInt8} (h : digB x = true) : digC (x.toNat - 48) = x ∧ x.toNat - 48 < 10 := by
  unfold digB at h
  have h := of_decide_eq_true h
  have e : 48 + (x.toNat - 48) = x.toNat := by omega
  unfold digC
  rw [e]
  exact ⟨by simp, by omega⟩
def valR (r : List UInt8) : Nat := r.foldr (fun c a => valF a c) 0
theorem valR_cons (x : UInt8) (r : List UInt8) : valR (x :: r) = valR r * 10 + (x.toNat - 48) := rfl
theorem valR_pos : ∀ (r : List UInt8), r.all digB = true → r ≠ [] → r.getLast? ≠ some 48 → 0 < valR r
  | [], _, h, _ => absurd rfl h
  | [x], h, _, h1 => by
    rw [valR_cons]
    simp at h h1
    unfold digB at h
    have h := of_decide_eq_true h
    have h3 : x.toNat ≠ 48 := fun e => h1 (UInt8.toNat.inj e)
    omega
  | x :: y :: r, h, _, h1 => by
    rw [valR_cons]
    have := valR_pos (y :: r) (by simp at h ⊢; exact h.2) (by simp) (by rw [List.getLast?_cons_cons] at h1; exact h1)
    omega
theorem decR_back : ∀ (f : Nat) (r : List UInt8), r.all digB = true → r ≠ [] → (r.getLast? ≠ some 48 ∨ r = [48]) → r.length ≤ f → decR f (valR r) = r
  | f, [], _, h, _, _ => absurd rfl h
  | 0, x :: r, _, _, _, h => by simp at h
  | f + 1, [x], h, _, _, _ => by
    simp at h
    have hb := dig_back h
    rw [valR_cons, decR, if_pos (by show 0 * 10 + _ < 10; omega)]
    show [digC (0 * 10 + _)] = _
    rw [Nat.zero_mul, Nat.zero_add, hb.1]
  | f + 1, x :: y :: r, h, _, h1, hf => by
    have hx : digB x = true := by simp at h; exact h.1
    have hy : (y :: r).all digB = true := by simp at h ⊢; exact h.2
    have hl : (y :: r).getLast? ≠ some 48 := by
      rcases h1 with h1 | h1
      · rw [List.getLast?_cons_cons] at h1; exact h1
      · cases h1
    have hp := valR_pos (y :: r) hy (by simp) hl
    have hb := dig_back hx
    have ih := decR_back f (y :: r) hy (by simp) (.inl hl) (by simp at hf ⊢; omega)
    rw [valR_cons, decR, if_neg (by omega)]
    have e1 : (valR (y :: r) * 10 + (x.toNat - 48)) % 10 = x.toNat - 48 := by omega
    have e2 : (valR (y :: r) * 10 + (x.toNat - 48)) / 10 = valR (y :: r) := by omega
    rw [e1, e2, ih, hb.1]
theorem valR_eq (l : List UInt8) : valL l = valR l.reverse := by
  have := foldl_rev l.reverse 0
  rw [List.reverse_reverse] at this
  exact this
theorem valR_ge : ∀ (r : List UInt8), r.all digB = true → r.getLast? ≠ some 48 → r ≠ [] → 10 ^ (r.length - 1) ≤ valR r
  | [], _, _, h => absurd rfl h
  | [x], h, h1, h0 => by have := valR_pos [x] h h0 h1; exact this
  | x :: y :: r, h, h1, _ => by
    have ih := valR_ge (y :: r) (by simp at h ⊢; exact h.2) (by rw [List.getLast?_cons_cons] at h1; exact h1) (by simp)
    rw [valR_cons]
    have e : (x :: y :: r).length - 1 = (y :: r).length - 1 + 1 := by simp
    rw [e, Nat.pow_succ]
    omega
theorem digits_parse (l : List UInt8) (y : Int) (h : parseL l = (y, 0)) : digitsL y = l := by
  unfold parseL at h
  split at h
  · rename_i hf
    split at h
    · have h2 := congrArg Prod.snd h; simp at h2
    · rename_i hv
      have hy : (valL l : Int) = y := congrArg Prod.fst h
      subst hy
      unfold digitsL
      rw [if_neg (by omega), Int.natAbs_natCast]
      unfold formB at hf
      simp only [Bool.and_eq_true, Bool.or_eq_true] at hf
      obtain ⟨⟨h1, h2⟩, h3⟩ := hf
      have hne : l.reverse ≠ [] := by intro e; rw [List.reverse_eq_nil_iff] at e; subst e; cases h1
      have hr : l.reverse.all digB = true := by rw [List.all_reverse, h3]
      have hd : l.reverse.getLast? ≠ some 48 ∨ l.reverse = [48] := by
        rcases h2 with h2 | h2
        · left
          rw [List.getLast?_reverse]
          simpa using h2
        · right
          have : l = [48] := by simpa using h2
          rw [this]
          rfl
      have hlen : l.reverse.length ≤ 20 := by
        rcases hd with hd | hd
        · have hg := valR_ge l.reverse hr hd hne
          rw [← valR_eq] at hg
          rcases Nat.lt_or_ge 20 l.reverse.length with hx | hx
          · have : 10 ^ 20 ≤ 10 ^ (l.reverse.length - 1) := Nat.pow_le_pow_right (by decide) (by omega)
            have e20 : (10 : Nat) ^ 20 = 100000000000000000000 := by decide
            omega
          · exact hx
        · rw [hd]; decide
      unfold decL
      rw [valR_eq, decR_back 20 l.reverse hr hne hd hlen, List.reverse_reverse]
  · have h2 := congrArg Prod.snd h; simp at h2

/-! ### lines -/
def seen (b : UInt8) : Bool := decide (32 ≤ b.toNat ∧ b.toNat ≤ 126)
def lin : List UInt8 → List (List UInt8) → List UInt8 → List (List UInt8) × Int × Int
  | cur, out, [] => if cur = [] then (out, 0, 0) else ([], 1, (out.length : Int) + 1)
  | cur, out, b :: r => if b = 10 then lin [] (out ++ [cur]) r else if seen b = true then lin (cur ++ [b]) out r else ([], 1, (out.length : Int) + 1)
def linesL (s : List UInt8) : List (List UInt8) × Int × Int := if s.length > 65536 then ([], 3, 0) else lin [] [] s
def textL (l : List (List UInt8)) : List UInt8 := l.flatMap (fun s => s ++ [10])
theorem seen_nl {b : UInt8} (h : seen b = true) : b ≠ 10 := by rintro rfl; revert h; decide
theorem lin_line (x : List UInt8) (hx : x.all seen = true) : ∀ (cur : List UInt8) (out : List (List UInt8)) (r : List UInt8), lin cur out (x ++ 10 :: r) = lin [] (out ++ [cur ++ x]) r := by
  induction x with
  | nil => intro cur out r; simp [lin]
  | cons b x ih =>
    intro cur out r
    simp only [List.all_cons, Bool.and_eq_true] at hx
    rw [List.cons_append, lin, if_neg (seen_nl hx.1), if_pos hx.1, ih hx.2]
    simp
theorem textL_cons (x : List UInt8) (l : List (List UInt8)) : textL (x :: l) = x ++ 10 :: textL l := by simp [textL]
theorem textL_append (a b : List (List UInt8)) : textL (a ++ b) = textL a ++ textL b := by simp [textL]
theorem lin_text : ∀ (l : List (List UInt8)), (∀ x ∈ l, x.all seen = true) → ∀ out, lin [] out (textL l) = (out ++ l, 0, 0)
  | [], _, out => by simp [textL, lin]
  | x :: l, h, out => by
    rw [textL_cons, lin_line x (h x (by simp)), lin_text l (fun y hy => h y (by simp [hy]))]
    simp
theorem lines_text (l : List (List UInt8)) (h : ∀ x ∈ l, x.all seen = true) (hn : (textL l).length ≤ 65536) : linesL (textL l) = (l, 0, 0) := by
  unfold linesL
  rw [if_neg (by omega), lin_text l h]
  rfl
theorem lin_back : ∀ (s cur : List UInt8) (out m : List (List UInt8)) (f : Int), lin cur out s = (m, 0, f) → textL out ++ cur ++ s = textL m ∧ f = 0
  | [], cur, out, m, f, h => by
    unfold lin at h
    split at h
    · rename_i hc
      simp at h
      simp [hc, h]
    · simp at h
  | b :: r, cur, out, m, f, h => by
    unfold lin at h
    split at h
    · rename_i hb
      have := lin_back r [] (out ++ [cur]) m f h
      rw [textL_append] at this
      simp [textL] at this ⊢
      rw [hb]
      exact this
    · split at h
      · have := lin_back r (cur ++ [b]) out m f h
        simpa using this
      · simp at h
theorem lines_back (s : List UInt8) (m : List (List UInt8)) (f : Int) (h : linesL s = (m, 0, f)) : textL m = s ∧ f = 0 := by
  unfold linesL at h
  split at h
  · simp at h
  · have := lin_back s [] [] m f h
    simp [textL] at this
    simp [textL, this]
theorem lin_seen : ∀ (s cur : List UInt8) (out m : List (List UInt8)) (f : Int), lin cur out s = (m, 0, f) → cur.all seen = true → (∀ x ∈ out, x.all seen = true) → ∀ x ∈ m, x.all seen = true
  | [], cur, out, m, f, h, hc, ho => by
    unfold lin at h
    split at h
    · simp at h
      rw [← h.1]
      exact ho
    · simp at h
  | b :: r, cur, out, m, f, h, hc, ho => by
    unfold lin at h
    split at h
    · refine lin_seen r [] (out ++ [cur]) m f h rfl ?_
      intro x hx
      simp at hx
      rcases hx with hx | hx
      · exact ho x hx
      · rw [hx]; exact hc
    · split at h
      · rename_i hb
        refine lin_seen r (cur ++ [b]) out m f h ?_ ho
        rw [List.all_append, hc, List.all_cons, hb]
        rfl
      · simp at h

/-! ### fields -/
def fld : List UInt8 → List UInt8 → List (List UInt8)
  | cur, [] => [cur]
  | cur, b :: r => if b = 32 then cur :: fld [] r else fld (cur ++ [b]) r
def fieldsL (s : List UInt8) : List (List UInt8) := fld [] s
def lineL : List (List UInt8) → List UInt8
  | [] => []
  | [x] => x
  | x :: y :: l => x ++ 32 :: lineL (y :: l)
theorem fld_ne : ∀ (s cur : List UInt8), fld cur s ≠ []
  | [], _ => by simp [fld]
  | b :: r, cur => by
    unfold fld
    split
    · simp
    · exact fld_ne r _
theorem lineL_cons (x : List UInt8) (l : List (List UInt8)) (h : l ≠ []) : lineL (x :: l) = x ++ 32 :: lineL l := by
  cases l with
  | nil => exact absurd rfl h
  | cons y l => rfl
theorem line_fld : ∀ (s cur : List UInt8), lineL (fld cur s) = cur ++ s
  | [], cur => by simp [fld, lineL]
  | b :: r, cur => by
    unfold fld
    split
    · rename_i hb
      rw [lineL_cons _ _ (fld_ne _ _), line_fld r [], hb]
      simp
    · rw [line_fld r]
      simp
theorem line_fields (s : List UInt8) : lineL (fieldsL s) = s := line_fld s []
def blank (l : List UInt8) : Bool := l.any (fun b => b == 32)
theorem fld_word : ∀ (x cur r : List UInt8), blank x = false → fld cur (x ++ 32 :: r) = (cur ++ x) :: fld [] r
  | [], cur, r, _ => by simp [fld]
  | b :: x, cur, r, h => by
    unfold blank at h
    simp only [List.any_cons, Bool.or_eq_false_iff] at h
    rw [List.cons_append, fld, if_neg (by simpa using h.1), fld_word x _ r h.2]
    simp
theorem fld_last : ∀ (x cur : List UInt8), blank x = false → fld cur x = [cur ++ x]
  | [], cur, _ => by simp [fld]
  | b :: x, cur, h => by
    unfold blank at h
    simp only [List.any_cons, Bool.or_eq_false_iff] at h
    rw [fld, if_neg (by simpa using h.1), fld_last x _ h.2]
    simp
theorem fields_line : ∀ (l : List (List UInt8)), l ≠ [] → (∀ x ∈ l, blank x = false) → fieldsL (lineL l) = l
  | [], h, _ => absurd rfl h
  | [x], _, h => by unfold fieldsL lineL; rw [fld_last x [] (h x (by simp))]; simp
  | x :: y :: l, _, h => by
    have ih := fields_line (y :: l) (by simp) (fun z hz => h z (by simp only [List.mem_cons] at hz ⊢; right; exact hz))
    unfold fieldsL at ih ⊢
    rw [lineL_cons _ _ (by simp), fld_word x [] _ (h x (by simp)), ih]
    simp
end Go.Proofs.Ytcbakmojhicahaa.Hand
end

section
namespace Go.Proofs.Ytcbakmojhicahaa.Hand
/-! ### types and their texts -/
section
variable (cls : List UInt8 → Bool)
abbrev Ty := Int × List UInt8
def rightT (t : Ty) : Bool := if t.1 = 3 ∨ t.1 = 5 then cls t.2 else decide (t.2 = [] ∧ 1 ≤ t.1 ∧ t.1 ≤ 5)
def textT (t : Ty) : List UInt8 :=
  if rightT cls t = true then (if t.1 = 1 then [86] else if t.1 = 2 then [73] else if t.1 = 3 then 76 :: (t.2 ++ [59]) else if t.1 = 4 then [91, 73] else 91 :: 76 :: (t.2 ++ [59])) else []
/-- What stands ahead of a byte's first place, and behind it. -/
def untilL (b : UInt8) : List UInt8 → Option (List UInt8 × List UInt8)
  | [] => none
  | x :: r => if x = b then some ([], r) else (untilL b r).map fun p => (x :: p.1, p.2)
def classT (k : Int) (r : List UInt8) : Option (Ty × List UInt8) := match untilL 59 r with
  | some (n, r') => if cls n = true then some ((k, n), r') else none
  | none => none
/-- A type that is no array, at a text's head. -/
def flatT (d : Int) : List UInt8 → Option (Ty × List UInt8)
  | [] => none
  | x :: r => if x = 86 then (if d = 0 then some ((1, []), r) else none) else if x = 73 then some ((2 + d, []), r) else if x = 76 then classT cls (3 + d) r else none
def oneT : List UInt8 → Option (Ty × List UInt8)
  | [] => none
  | x :: r => if x = 91 then flatT cls 2 r else flatT cls 0 (x :: r)
def parseT (l : List UInt8) : Ty × Int := match oneT cls l with
  | some (t, []) => (t, 0)
  | _ => ((0, []), 1)
theorem until_append {b : UInt8} : ∀ (n r : List UInt8), b ∉ n → untilL b (n ++ b :: r) = some (n, r)
  | [], r, _ => by simp [untilL]
  | x :: n, r, h => by
    simp only [List.mem_cons, not_or] at h
    rw [List.cons_append, untilL, if_neg (fun e => h.1 e.symm), until_append n r h.2]
    rfl
theorem until_some {b : UInt8} : ∀ (l n r : List UInt8), untilL b l = some (n, r) → l = n ++ b :: r ∧ b ∉ n
  | [], n, r, h => by simp [untilL] at h
  | x :: l, n, r, h => by
    unfold untilL at h
    split at h
    · rename_i e
      simp at h
      obtain ⟨rfl, rfl⟩ := h
      simp [e]
    · rename_i hx
      obtain ⟨⟨a, b'⟩, h1, h2⟩ := Option.map_eq_some_iff.1 h
      simp at h2
      obtain ⟨rfl, rfl⟩ := h2
      obtain ⟨h3, h4⟩ := until_some l a b' h1
      refine ⟨by rw [h3]; rfl, ?_⟩
      simp only [List.mem_cons, not_or]
      exact ⟨fun e => hx e.symm, h4⟩
theorem until_none {b : UInt8} : ∀ (l : List UInt8), untilL b l = none ↔ b ∉ l
  | [] => by simp [untilL]
  | x :: l => by
    unfold untilL
    by_cases h : x = b
    · simp [h]
    · rw [if_neg h, Option.map_eq_none_iff, until_none l]
      simp only [List.mem_cons, not_or]
      exact ⟨fun h2 => ⟨fun e => h e.symm, h2⟩, fun h2 => h2.2⟩
variable {cls} (hcls : ∀ n, cls n = true → 59 ∉ n)
include hcls
theorem classT_text (k : Int) (c r : List UInt8) (h : cls c = true) : classT cls k (c ++ 59 :: r) = some ((k, c), r) := by
  unfold classT
  rw [until_append c r (hcls c h)]
  simp [h]
omit hcls in
theorem right_cases {t : Ty} (h : rightT cls t = true) : (t.1 = 1 ∧ t.2 = []) ∨ (t.1 = 2 ∧ t.2 = []) ∨ (t.1 = 3 ∧ cls t.2 = true) ∨ (t.1 = 4 ∧ t.2 = []) ∨ (t.1 = 5 ∧ cls t.2 = true) := by
  unfold rightT at h
  split at h
  · rename_i e
    rcases e with e | e
    · exact .inr (.inr (.inl ⟨e, h⟩))
    · exact .inr (.inr (.inr (.inr ⟨e, h⟩)))
  · rename_i e
    have h := of_decide_eq_true h
    have : t.1 = 1 ∨ t.1 = 2 ∨ t.1 = 4 := by omega
    rcases this with e | e | e <;> simp [e, h.1]
theorem one_text {t : Ty} (h : rightT cls t = true) (r : List UInt8) : oneT cls (textT cls t ++ r) = some (t, r) := by
  obtain ⟨k, c⟩ := t
  unfold textT
  rw [if_pos h]
  rcases right_cases h with ⟨e1, e2⟩ | ⟨e1, e2⟩ | ⟨e1, e2⟩ | ⟨e1, e2⟩ | ⟨e1, e2⟩ <;> simp only at e1 e2
  · subst e1 e2; rfl
  · subst e1 e2; rfl
  · subst e1
    have := classT_text hcls 3 c r e2
    simp [oneT, flatT, this]
  · subst e1 e2; rfl
  · subst e1
    have := classT_text hcls 5 c r e2
    simp [oneT, flatT, this]
omit hcls in
theorem classT_back {k : Int} {l : List UInt8} {t : Ty} {r : List UInt8} (h : classT cls k l = some (t, r)) : t.1 = k ∧ cls t.2 = true ∧ l = t.2 ++ 59 :: r := by
  unfold classT at h
  split at h
  · rename_i n r' e
    split at h
    · rename_i hc
      simp at h
      obtain ⟨rfl, rfl⟩ := h
      exact ⟨rfl, hc, (until_some _ _ _ e).1⟩
    · cases h
  · cases h
omit hcls in
theorem flat_back0 {l : List UInt8} {t : Ty} {r : List UInt8} (h : flatT cls 0 l = some (t, r)) : rightT cls t = true ∧ l = textT cls t ++ r := by
  cases l with
  | nil => cases h
  | cons x l =>
    rw [flatT] at h
    by_cases e : x = 86
    · rw [if_pos e, if_pos rfl] at h
      simp at h
      obtain ⟨rfl, rfl⟩ := h
      subst e
      exact ⟨rfl, rfl⟩
    · rw [if_neg e] at h
      by_cases e : x = 73
      · rw [if_pos e] at h
        simp at h
        obtain ⟨rfl, rfl⟩ := h
        subst e
        exact ⟨rfl, rfl⟩
      · rw [if_neg e] at h
        by_cases e : x = 76
        · rw [if_pos e] at h
          subst e
          obtain ⟨h1, h2, h3⟩ := classT_back h
          obtain ⟨k, c⟩ := t
          simp only at h1 h2 h3
          subst h1
          have hr : rightT cls (3 + 0, c) = true := by unfold rightT; simp [h2]
          refine ⟨hr, ?_⟩
          unfold textT
          rw [if_pos hr, h3]
          simp
        · rw [if_neg e] at h
          cases h
omit hcls in
theorem flat_back2 {l : List UInt8} {t : Ty} {r : List UInt8} (h : flatT cls 2 l = some (t, r)) : rightT cls t = true ∧ 91 :: l = textT cls t ++ r := by
  cases l with
  | nil => cases h
  | cons x l =>
    rw [flatT] at h
    by_cases e : x = 86
    · rw [if_pos e, if_neg (by decide)] at h
      cases h
    · rw [if_neg e] at h
      by_cases e : x = 73
      · rw [if_pos e] at h
        simp at h
        obtain ⟨rfl, rfl⟩ := h
        subst e
        exact ⟨rfl, rfl⟩
      · rw [if_neg e] at h
        by_cases e : x = 76
        · rw [if_pos e] at h
          subst e
          obtain ⟨h1, h2, h3⟩ := classT_back h
          obtain ⟨k, c⟩ := t
          simp only at h1 h2 h3
          subst h1
          have hr : rightT cls (3 + 2, c) = true := by unfold rightT; simp [h2]
          refine ⟨hr, ?_⟩
          unfold textT
          rw [if_pos hr, h3]
          simp
        · rw [if_neg e] at h
          cases h
omit hcls in
theorem one_back {l : List UInt8} {t : Ty} {r : List UInt8} (h : oneT cls l = some (t, r)) : rightT cls t = true ∧ l = textT cls t ++ r := by
  cases l with
  | nil => cases h
  | cons x l =>
    rw [oneT] at h
    by_cases e : x = 91
    · rw [if_pos e] at h
      subst e
      exact flat_back2 h
    · rw [if_neg e] at h
      exact flat_back0 h
theorem parse_text {t : Ty} (h : rightT cls t = true) : parseT cls (textT cls t) = (t, 0) := by
  have := one_text hcls h []
  rw [List.append_nil] at this
  unfold parseT
  rw [this]
omit hcls in
theorem text_parse {s : List UInt8} {t : Ty} (h : parseT cls s = (t, 0)) : rightT cls t = true ∧ textT cls t = s := by
  unfold parseT at h
  split at h
  · rename_i t' e
    simp at h
    subst h
    obtain ⟨h1, h2⟩ := one_back e
    rw [List.append_nil] at h2
    exact ⟨h1, h2.symm⟩
  · simp at h

/-! ### descriptors -/
variable (cls)
def paramT (t : Ty) : Bool := rightT cls t && decide (t.1 ≠ 1)
def descText (ret : Ty) (ps : List Ty) : List UInt8 := 40 :: (ps.flatMap (textT cls) ++ 41 :: textT cls ret)
def descD (ret : Ty) (ps : List Ty) : List UInt8 × Int :=
  if rightT cls ret = true ∧ ps.all (paramT cls) = true then (if ps.length > 8 then ([], 3) else if (descText cls ret ps).length > 64 then ([], 3) else (descText cls ret ps, 0)) else ([], 1)
def typesF : Nat → List UInt8 → Option (List Ty × List UInt8)
  | 0, _ => none
  | f + 1, l => if l.head? = some 41 then some ([], l.tail) else match oneT cls l with
    | some (t, r) => if t.1 = 1 then none else (typesF f r).map fun p => (t :: p.1, p.2)
    | none => none
def splitD (l : List UInt8) : List Ty × Ty × Int :=
  if l.length > 64 then ([], (0, []), 3) else if l.head? = some 40 then (match typesF cls 65 l.tail with
    | some (ps, r) => (match oneT cls r with
      | some (t, []) => if ps.length ≤ 8 then (ps, t, 0) else ([], (0, []), 3)
      | _ => ([], (0, []), 1))
    | none => ([], (0, []), 1)) else ([], (0, []), 1)
variable {cls}
omit hcls in
theorem text_ne {t : Ty} (h : rightT cls t = true) : ∃ x r, textT cls t = x :: r ∧ x ≠ 41 := by
  unfold textT
  rw [if_pos h]
  split
  · exact ⟨_, _, rfl, by decide⟩
  · split
    · exact ⟨_, _, rfl, by decide⟩
    · split
      · exact ⟨_, _, rfl, by decide⟩
      · split
        · exact ⟨_, _, rfl, by decide⟩
        · exact ⟨_, _, rfl, by decide⟩
theorem types_text : ∀ (ps : List Ty) (f : Nat) (r : List UInt8), ps.all (paramT cls) = true → ps.length < f → typesF cls f (ps.flatMap (textT cls) ++ 41 :: r) = some (ps, r)
  | [], f, r, _, hf => by
    obtain ⟨f, rfl⟩ : ∃ g, f = g + 1 := ⟨f - 1, by simp at hf; omega⟩
    simp [typesF]
  | t :: ps, f, r, h, hf => by
    obtain ⟨f, rfl⟩ : ∃ g, f = g + 1 := ⟨f - 1, by simp at hf; omega⟩
    simp only [List.all_cons, Bool.and_eq_true] at h
    have h1 := h.1
    unfold paramT at h1
    simp only [Bool.and_eq_true, decide_eq_true_iff] at h1
    have ih := types_text ps f r h.2 (by simp at hf; omega)
    obtain ⟨x, q, hx, hx2⟩ := text_ne h1.1
    have ho := one_text hcls h1.1 (ps.flatMap (textT cls) ++ 41 :: r)
    rw [List.flatMap_cons, List.append_assoc, typesF, if_neg (by rw [hx]; simpa using hx2), ho]
    simp only
    rw [if_neg h1.2, ih]
    rfl
omit hcls in
theorem types_back : ∀ (f : Nat) (l : List UInt8) (ps : List Ty) (r : List UInt8), typesF cls f l = some (ps, r) → l = ps.flatMap (textT cls) ++ 41 :: r ∧ ps.all (paramT cls) = true
  | 0, _, _, _, h => by cases h
  | f + 1, l, ps, r, h => by
    unfold typesF at h
    split at h
    · rename_i hl
      simp at h
      obtain ⟨rfl, rfl⟩ := h
      cases l with
      | nil => cases hl
      | cons x l => simp at hl; simp [hl]
    · split at h
      · rename_i t r' e
        split at h
        · cases h
        · rename_i ht
          obtain ⟨⟨ps', r2⟩, h1, h2⟩ := Option.map_eq_some_iff.1 h
          simp at h2
          obtain ⟨rfl, rfl⟩ := h2
          obtain ⟨h3, h4⟩ := types_back f r' ps' r2 h1
          obtain ⟨h5, h6⟩ := one_back e
          refine ⟨by rw [h6, h3]; simp, ?_⟩
          rw [List.all_cons, h4]
          unfold paramT
          simp [h5, ht]
      · cases h
theorem split_desc {ret : Ty} {ps : List Ty} {d : List UInt8} (h : descD cls ret ps = (d, 0)) : splitD cls d = (ps, ret, 0) := by
  unfold descD at h
  split at h
  · rename_i hr
    split at h
    · simp at h
    · split at h
      · simp at h
      · rename_i h1 h2
        simp at h
        subst h
        unfold splitD
        rw [if_neg h2, if_pos (by rfl)]
        have ht := types_text hcls ps 65 (textT cls ret) hr.2 (by omega)
        have ho := one_text hcls hr.1 []
        rw [List.append_nil] at ho
        unfold descText
        rw [List.tail_cons, ht]
        simp only
        rw [ho]
        simp only
        rw [if_pos (by omega)]
  · simp at h
omit hcls in
theorem desc_split {d : List UInt8} {ret : Ty} {ps : List Ty} (h : splitD cls d = (ps, ret, 0)) : descD cls ret ps = (d, 0) := by
  unfold splitD at h
  split at h
  · simp at h
  · rename_i hl
    split at h
    · rename_i hh
      split at h
      · rename_i ps' r e
        split at h
        · rename_i t e2
          split at h
          · rename_i h8
            simp at h
            obtain ⟨rfl, rfl⟩ := h
            obtain ⟨h1, h2⟩ := types_back _ _ _ _ e
            obtain ⟨h3, h4⟩ := one_back e2
            rw [List.append_nil] at h4
            have hd : d = descText cls t ps' := by
              cases d with
              | nil => cases hh
              | cons x d =>
                simp at hh h1
                unfold descText
                rw [hh, h1, h4]
            unfold descD
            rw [if_pos ⟨h3, h2⟩, if_neg (by omega), ← hd, if_neg hl]
          · simp at h
        · simp at h
      · simp at h
    · simp at h

/-! ### other names -/
def newOf (l : List (List UInt8 × List UInt8)) (c : List UInt8) : List UInt8 := match l.find? (fun p => p.1 = c) with
  | some p => p.2
  | none => c
def renT (l : List (List UInt8 × List UInt8)) (t : Ty) : Ty := if t.1 = 3 ∨ t.1 = 5 then (t.1, newOf l t.2) else t
variable (cls)
def renD (d : List UInt8) (l : List (List UInt8 × List UInt8)) : List UInt8 := match splitD cls d with
  | (ps, r, e) => if e = 0 then (descD cls (renT l r) (ps.map (renT l))).1 else []
def classesD (d : List UInt8) : List (List UInt8) := match splitD cls d with
  | (ps, r, e) => if e = 0 then ((ps ++ [r]).map (·.2)).filter (fun c => !c.isEmpty) else []
variable {cls}
omit hcls in
/-- Renamed, and renamed back. -/
theorem ren_back {l b : List (List UInt8 × List UInt8)} {t : Ty} (hb : ∀ p ∈ l, newOf b p.2 = p.1) (ht : t.2 ≠ [] → ∃ p ∈ l, p.1 = t.2) (hr : rightT cls t = true) (he : cls [] = false) : renT b (renT l t) = t := by
  unfold renT
  by_cases h : t.1 = 3 ∨ t.1 = 5
  · rw [if_pos h]
    simp only
    rw [if_pos h]
    have hn : t.2 ≠ [] := by
      intro e
      unfold rightT at hr
      rw [if_pos h, e, he] at hr
      cases hr
    obtain ⟨p, hp, hp2⟩ := ht hn
    obtain ⟨q, hq⟩ : ∃ q, l.find? (fun p => p.1 = t.2) = some q := by
      cases h2 : l.find? (fun p => p.1 = t.2) with
      | some q => exact ⟨q, rfl⟩
      | none => have := List.find?_eq_none.1 h2 p hp; simp [hp2] at this
    have hq1 := List.find?_some hq
    have hq2 := List.mem_of_find?_eq_some hq
    unfold newOf at hb ⊢
    rw [hq]
    simp only
    have := hb q hq2
    have e3 : q.1 = t.2 := by simpa using hq1
    cases h4 : b.find? (fun p => p.1 = q.2) with
    | some z => rw [h4] at this; simp only at this ⊢; rw [this, e3]
    | none => rw [h4] at this; simp only at this ⊢; rw [this, e3]
  · rw [if_neg h, if_neg h]
omit hcls in
theorem renD_ne {d : List UInt8} {l : List (List UInt8 × List UInt8)} {ps : List Ty} {r : Ty} (hs : splitD cls d = (ps, r, 0)) (hne : renD cls d l ≠ []) : descD cls (renT l r) (ps.map (renT l)) = (renD cls d l, 0) := by
  unfold renD at hne ⊢
  rw [hs] at hne ⊢
  simp only [if_true] at hne ⊢
  unfold descD at hne ⊢
  split at hne
  · rename_i h1
    split at hne
    · simp at hne
    · rename_i h2
      split at hne
      · simp at hne
      · rename_i h3
        rw [if_pos h1, if_neg h2, if_neg h3]
  · simp at hne
omit hcls in
theorem types_right {d : List UInt8} {ps : List Ty} {r : Ty} (hs : splitD cls d = (ps, r, 0)) : ∀ t ∈ ps ++ [r], rightT cls t = true := by
  have h := desc_split hs
  unfold descD at h
  split at h
  · rename_i h1
    intro t ht
    simp only [List.mem_append, List.mem_singleton] at ht
    rcases ht with ht | ht
    · have := List.all_eq_true.1 h1.2 t ht
      unfold paramT at this
      simp only [Bool.and_eq_true] at this
      exact this.1
    · rw [ht]; exact h1.1
  · simp at h
omit hcls in
theorem ways_back (hcls : ∀ n, cls n = true → 59 ∉ n) (he : cls [] = false) {d : List UInt8} {l b : List (List UInt8 × List UInt8)} {ps : List Ty} {r : Ty} (hs : splitD cls d = (ps, r, 0)) (hne : renD cls d l ≠ [])
    (hb : ∀ p ∈ l, newOf b p.2 = p.1) (hc : ∀ c ∈ classesD cls d, ∃ p ∈ l, p.1 = c) : renD cls (renD cls d l) b = d := by
  have h1 := split_desc hcls (renD_ne hs hne)
  have hr := types_right hs
  have hall : ∀ t ∈ ps ++ [r], renT b (renT l t) = t := by
    intro t ht
    refine ren_back hb (fun hn => hc t.2 ?_) (hr t ht) he
    unfold classesD
    rw [hs]
    simp only [if_true, List.mem_filter, List.mem_map]
    exact ⟨⟨t, ht, rfl⟩, by simp [hn]⟩
  unfold renD
  unfold renD at h1
  rw [h1]
  simp only [if_true, List.map_map]
  rw [hall r (by simp), show ps.map (renT b ∘ renT l) = ps from by
    have : ps.map (renT b ∘ renT l) = ps.map id := List.map_congr_left fun t ht => by simpa using hall t (by simp [ht])
    rw [this, List.map_id], desc_split hs]
end
end Go.Proofs.Ytcbakmojhicahaa.Hand
end

section
/- What the texts on kinds ask of those on words (HWordE, HWordI, HWordJ say the same: never import both). -/
namespace Go.Proofs.Ytcbakmojhicahaa.Hand
open Go.RowKit Go.Shelf Go.Proofs.YtcbakmojhicahaaW.PrintWords Go.Proofs.YtcbakmojhicahaaW.PrintLast Go.Proofs.YtcbakmojhicahaaW.PrintMore
set_option linter.unusedVariables false
set_option linter.unusedSimpArgs false

theorem bt_bl (s : ByteArray) (i : Nat) (h : i < s.size) : ∃ b, (bl s)[i]? = some b ∧ bt s i = (b.toNat : Int) ∧ (bl s).drop i = b :: (bl s).drop (i + 1) := by
  refine ⟨s[i], ?_, bt_nat s i h, drop_data s i h⟩
  unfold bl
  rw [List.getElem?_eq_getElem (by rw [Array.length_toList]; exact h), get_data s i h]
theorem cut_until (c : UInt8) : ∀ l : List UInt8, Lib.cut l [c] = match untilL c l with | some (n, r) => (n, r, true) | none => (l, [], false)
  | [] => by simp [Lib.cut, Lib.index, untilL]
  | b :: l => by
    have ih := cut_until c l
    have hge := Lib.index_ge l [c]
    unfold Lib.cut at ih ⊢
    rw [Lib.index]
    by_cases h : b = c
    · subst h
      have : List.isPrefixOf [b] (b :: l) = true := by simp [List.isPrefixOf]
      rw [if_pos this]
      simp [untilL]
    · have hp : List.isPrefixOf [c] (b :: l) = false := by simp [List.isPrefixOf]; exact fun e => h e.symm
      rw [hp]
      simp only [Bool.false_eq_true, if_false]
      by_cases hi : Lib.index l [c] = -1
      · rw [hi] at ih ⊢
        simp only [beq_self_eq_true, if_true] at ih ⊢
        rw [if_neg (by decide)] at ih
        rw [if_neg (by decide)]
        cases hu : untilL c l with
        | none => rw [untilL, if_neg h, hu]; rfl
        | some p => rw [hu] at ih; simp at ih
      · have hb : (Lib.index l [c] == -1) = false := beq_eq_false_iff_ne.2 hi
        rw [hb]
        simp only [Bool.false_eq_true, if_false]
        rw [if_pos (by omega)] at ih
        rw [if_pos (by omega)]
        cases hu : untilL c l with
        | none => rw [hu] at ih; simp at ih
        | some p =>
          rw [hu] at ih
          simp only [Prod.mk.injEq, and_true] at ih
          rw [untilL, if_neg h, hu]
          have e : (Lib.index l [c] + 1).toNat = (Lib.index l [c]).toNat + 1 := by omega
          simp only [Option.map_some, Prod.mk.injEq, and_true]
          rw [e, List.take_succ_cons, ih.1]
          refine ⟨rfl, ?_⟩
          rw [show (Lib.index l [c]).toNat + 1 + [c].length = ((Lib.index l [c]).toNat + [c].length) + 1 from by omega, List.drop_succ_cons]
          exact ih.2
/-- What package-level variable internal/bytealg.MaxLen holds. -/
def MaxL (w : World) : Prop := ∃ m, w.cell? ⟨0, 0, none⟩ = some (.int .i64 m)
theorem max_below {w w' : World} (h : MaxL w) (hb : Below w.heap.size w w') : MaxL w' := by
  obtain ⟨m, hm⟩ := h
  exact ⟨m, pw_cell_below hb hm⟩
theorem MaxL.below {w w' : World} (h : MaxL w) (hb : Below w.heap.size w w') : MaxL w' := max_below h hb
theorem MaxL.drawn {w w' : World} (h : MaxL w) (hd : Drawn0 w w') : MaxL w' := max_below h hd.below
theorem max_set {w : World} {b : Nat} (h : MaxL w) (hb : b ≠ 0) (v : Value) : MaxL (w.setCell ⟨b, 0, none⟩ v) := by
  obtain ⟨m, hm⟩ := h
  refine ⟨m, ?_⟩
  rw [World.cell?_setCell_other]
  · exact hm
  · intro e; cases e; exact hb rfl
theorem grown_drewN (w : World) (n b : Nat) : w.grownBy (w.drewN n) (some b) := grown_of_below (pw_below_drewN (Below.refl _ w) n) _
end Go.Proofs.Ytcbakmojhicahaa.Hand
end

section
namespace Go.Proofs.Ytcbakmojhicahaa.Hand
open Go.RowKit Go.Proofs.YtcbakmojhicahaaW.PrintWords Go.Proofs.YtcbakmojhicahaaW.PrintLast Go.Proofs.YtcbakmojhicahaaW.PrintMore
set_option linter.unusedVariables false
/- The two struct types of lists: the kit's print wrote these lines; they are shared by the layers (layer.py, SHAREK). -/
/-! #### struct type 54 -/
structure S54 where
  f0 : Int
  f1 : ByteArray
def z54 : S54 := ⟨(0 : Int), (⟨#[]⟩ : ByteArray)⟩
def k54 : Kd S54 := Kd.iso (Kd.pair (Kd.int .i64) Kd.string) (fun x : S54 => (x.f0, x.f1))
theorem k54_open {w : World} {x : S54} {cs : List Value} (h : k54.K w x cs) : cs = [.int .i64 x.f0, .string x.f1] := by
  obtain ⟨_, _, rfl, rfl, rfl⟩ := h
  exact rfl
theorem k54_openM {w : World} {base : Nat} {ok : Nat → Prop} {x : S54} {cs : List Value} (h : k54.M w base ok x cs) : cs = [.int .i64 x.f0, .string x.f1] := by
  obtain ⟨_, _, rfl, rfl, rfl⟩ := h
  exact rfl
theorem k54_mk (w : World) (x : S54)  : k54.K w x [.int .i64 x.f0, .string x.f1] := ⟨[.int .i64 x.f0], [.string x.f1], rfl, rfl, rfl⟩
theorem k54_mkM (w : World) (base : Nat) (ok : Nat → Prop) (x : S54)  : k54.M w base ok x [.int .i64 x.f0, .string x.f1] := ⟨[.int .i64 x.f0], [.string x.f1], rfl, rfl, rfl⟩
def rd_T54 (xs : List S54) (i : Int) : S54 := xs.getD i.toNat z54
theorem at_T54 {w : World} {A : Option Addr} {n : Nat} {xs : List S54} (h : Kd.C k54 w A n xs) (i : Int) (h0 : 0 ≤ i) (h1 : i < n) : ∃ ad , A = some ad ∧ w.cell? (ad.add (i.toNat * 2)) = some (.int .i64 (rd_T54 xs i).f0) ∧ w.cell? ⟨(ad.add (i.toNat * 2)).block, (ad.add (i.toNat * 2)).off + 1, none⟩ = some (.string (rd_T54 xs i).f1) := by
  obtain ⟨ad, c, e, _, hK, hc0⟩ := Kd.C_get h z54 i h0 h1
  have hc : ∀ j u, c[j]? = some u → w.cell? (ad.add (i.toNat * 2 + j)) = some u := hc0
  obtain rfl := k54_open hK
  exact ⟨ad, e, hc 0 _ rfl, by rw [← add_field _ _ 1 (by omega)]; exact hc 1 _ rfl⟩

/-! #### struct type 78 -/
structure S78 where
  f0 : ByteArray
  f1 : ByteArray
def z78 : S78 := ⟨(⟨#[]⟩ : ByteArray), (⟨#[]⟩ : ByteArray)⟩
def k78 : Kd S78 := Kd.iso (Kd.pair Kd.string Kd.string) (fun x : S78 => (x.f0, x.f1))
theorem k78_open {w : World} {x : S78} {cs : List Value} (h : k78.K w x cs) : cs = [.string x.f0, .string x.f1] := by
  obtain ⟨_, _, rfl, rfl, rfl⟩ := h
  exact rfl
theorem k78_openM {w : World} {base : Nat} {ok : Nat → Prop} {x : S78} {cs : List Value} (h : k78.M w base ok x cs) : cs = [.string x.f0, .string x.f1] := by
  obtain ⟨_, _, rfl, rfl, rfl⟩ := h
  exact rfl
theorem k78_mk (w : World) (x : S78)  : k78.K w x [.string x.f0, .string x.f1] := ⟨[.string x.f0], [.string x.f1], rfl, rfl, rfl⟩
theorem k78_mkM (w : World) (base : Nat) (ok : Nat → Prop) (x : S78)  : k78.M w base ok x [.string x.f0, .string x.f1] := ⟨[.string x.f0], [.string x.f1], rfl, rfl, rfl⟩
def rd_T78 (xs : List S78) (i : Int) : S78 := xs.getD i.toNat z78
theorem at_T78 {w : World} {A : Option Addr} {n : Nat} {xs : List S78} (h : Kd.C k78 w A n xs) (i : Int) (h0 : 0 ≤ i) (h1 : i < n) : ∃ ad , A = some ad ∧ w.cell? (ad.add (i.toNat * 2)) = some (.string (rd_T78 xs i).f0) ∧ w.cell? ⟨(ad.add (i.toNat * 2)).block, (ad.add (i.toNat * 2)).off + 1, none⟩ = some (.string (rd_T78 xs i).f1) := by
  obtain ⟨ad, c, e, _, hK, hc0⟩ := Kd.C_get h z78 i h0 h1
  have hc : ∀ j u, c[j]? = some u → w.cell? (ad.add (i.toNat * 2 + j)) = some u := hc0
  obtain rfl := k78_open hK
  exact ⟨ad, e, hc 0 _ rfl, by rw [← add_field _ _ 1 (by omega)]; exact hc 1 _ rfl⟩

end Go.Proofs.Ytcbakmojhicahaa.Hand
end

section
namespace Go.Proofs.Ytcbakmojhicahaa.Hand
open Go.RowKit Go.Shelf Go.Proofs.YtcbakmojhicahaaW.PrintWords Go.Proofs.YtcbakmojhicahaaW.PrintLast Go.Proofs.YtcbakmojhicahaaW.PrintMore
set_option linter.unusedVariables false
set_option linter.unusedSimpArgs false

/-- What reading gives up with. -/
abbrev WrongE (e : Int) : List PanicEntry := [{ v := .iface 168 (.agg #[.int .i64 e]), recovered := false }]
/-- A scan in its block. -/
def Scan (w : World) (b : Nat) (s : ByteArray) (i : Nat) : Prop := w.heap[b]? = some (.cells #[.string s, .int .i64 (i : Int)] 131 (0, 0))
theorem kind_unless (e : Int) (w : World) : Calls Try.prog 95 #[.bool true, .int .i64 e] w fun x w' => x = .returned (.tuple #[]) ∧ w' = w := by
  go_enter Try.func95, Try.ntmps95
  go_wp2
  go_end0
  exact ⟨rfl, rfl⟩
theorem kind_unless_not (e : Int) (w : World) : Calls Try.prog 95 #[.bool false, .int .i64 e] w fun x w' => x = .panicked (WrongE e) ∧ w' = w := by
  go_enter Try.func95, Try.ntmps95
  go_wp2
  exact ⟨rfl, rfl, rfl⟩
theorem scan_cells {w : World} {b : Nat} {s : ByteArray} {i : Nat} (h : Scan w b s i) : w.cell? ⟨b, 0, none⟩ = some (.string s) ∧ w.cell? ⟨b, 1, none⟩ = some (.int .i64 (i : Int)) ∧ w.frozen? ⟨b, 1, none⟩ = false := by
  have h0 := blk_cell h 0
  have h1 := blk_cell h 1
  simp only [List.getElem?_toArray, List.getElem?_cons_zero, List.getElem?_cons_succ] at h0 h1
  exact ⟨h0, h1, blk_frozen h 1⟩
set_option maxHeartbeats 1000000 in
theorem scan_sees_none (b : Nat) (s : ByteArray) (i : Nat) (c : Int) (w : World) (h : Scan w b s i) (hi : s.size ≤ i) (hm : i ≤ 4611686018427387903) :
    Calls Try.prog 97 #[.pointer (some ⟨b, 0, none⟩), .int .u8 c] w fun x w' => x = .returned (.bool false) ∧ Drawn0 w w' := by
  obtain ⟨h0, h1, h2⟩ := scan_cells h
  have hd : decide ((i : Int) < (s.size : Int)) = false := decide_eq_false (by omega)
  have hnl : ¬ i < s.size := by omega
  go_enter Try.func97, Try.ntmps97
  go_wp2
  go_region
  all_goals go_wp2
  all_goals first | (go_ret; exact ⟨rfl, (Drawn0.refl _).step 1⟩) | trace_state
set_option maxHeartbeats 4000000 in
theorem scan_sees_some (b : Nat) (s : ByteArray) (i : Nat) (c : Int) (w : World) (h : Scan w b s i) (hi : i < s.size) (hm : s.size ≤ 4611686018427387903) :
    Calls Try.prog 97 #[.pointer (some ⟨b, 0, none⟩), .int .u8 c] w fun x w' => x = .returned (.bool ((s[i].toNat : Int) == c)) ∧ Drawn0 w w' := by
  obtain ⟨h0, h1, h2⟩ := scan_cells h
  have hd : decide ((i : Int) < (s.size : Int)) = true := decide_eq_true (by omega)
  go_enter Try.func97, Try.ntmps97
  go_wp2
  go_region
  all_goals go_wp2
  all_goals first | (go_ret; exact ⟨rfl, (Drawn0.refl _).step 1⟩) | trace_state
theorem scan_next {w : World} {b : Nat} {s : ByteArray} {i : Nat} (h : Scan w b s i) (n m : Nat) : Scan (((w.drewN n).setCell ⟨b, 1, none⟩ (.int .i64 ((i : Int) + 1))).drewN m) b s (i + 1) := by
  have h1 : Scan (w.drewN n) b s i := by
    unfold Scan at h ⊢
    rw [(pw_below_drewN (Below.refl (w.heap.size) w) n).block b (Array.getElem?_eq_some_iff.1 h).1]
    exact h
  have h2 := blk_set h1 1 (.int .i64 ((i : Int) + 1))
  simp only [List.setIfInBounds_toArray, List.set_cons_zero, List.set_cons_succ] at h2
  have hl := (Array.getElem?_eq_some_iff.1 h2).1
  unfold Scan
  rw [(pw_below_drewN (Below.refl _ _) m).block b hl]
  exact h2
theorem scan_setCell (w : World) (a : Addr) (u : Value) : w.grownBy (w.setCell a u) (some a.block) :=
  ⟨rfl, rfl, rfl, Nat.le_of_eq (World.size_setCell w a u).symm, fun i hi hne => Below.heap_setCell w a u i (fun e => hne (by rw [e]))⟩
theorem scan_grown (w : World) (b i n m : Nat) : w.grownBy (((w.drewN n).setCell ⟨b, 1, none⟩ (.int .i64 ((i : Int) + 1))).drewN m) (some b) :=
  ((grown_drewN w n b).trans (scan_setCell _ ⟨b, 1, none⟩ _)).trans (grown_drewN _ m b)
set_option maxHeartbeats 4000000 in
theorem scan_byte_some (b : Nat) (s : ByteArray) (i : Nat) (w : World) (h : Scan w b s i) (hi : i < s.size) (hm : s.size ≤ 4611686018427387903) :
    Calls Try.prog 96 #[.pointer (some ⟨b, 0, none⟩)] w fun x w' => x = .returned (.int .u8 (s[i].toNat : Int)) ∧ Scan w' b s (i + 1) ∧ w.grownBy w' (some b) := by
  obtain ⟨h0, h1, h2⟩ := scan_cells h
  have hd : decide ((i : Int) < (s.size : Int)) = true := decide_eq_true (by omega)
  go_enter Try.func96, Try.ntmps96
  go_wp2
  have hsum : IntKind.i64.wrap ((i : Int) + 1) = (i : Int) + 1 := IntWalk.i64_in _ ⟨by omega, by omega⟩
  have hsub : IntKind.i64.wrap ((i : Int) + 1 - 1) = (i : Int) := by rw [show (i : Int) + 1 - 1 = i by omega]; exact IntWalk.i64_in _ ⟨by omega, by omega⟩
  go_quiet ((go_at_call 95; exact Calls.quiet_of_same (kind_unless _ _)))
  go_wp2
  go_quiet (fail)
  go_wp2
  refine bodyPost_ret (results_tmp rfl _ _ _) rfl ⟨rfl, scan_next h _ _, scan_grown w b i _ _⟩
/-- A call of a Go function that panics, by its contract. -/
theorem goesP_ {P : Program} {Q : Exit → Act → World → Prop} {ops : Array Oper} {oi : Oper} {N : Option Tmp} {a : Act} {w : World} {K : Act → World → Prop} {f : FuncId} {fn : Func} {ars : Array Operand} {ts : Array TypeId} (hf : P.funcs[f]? = some fn) (hname : (fn.name == "runtime.NumGoroutine") = false) (hb : fn.body.isSome = true) (args : Array Value)
    (hw : Region.wanted oi (yielded ops a.tmps) = true) (hop : oi.op = .call { callee := .value (.func f), args := ars, argTypes := ts }) (hargs : ars.map a.eval = args)
    (h : Calls P f args w fun e w' => ∃ c, e = .panicked c ∧ Q (.panic c) a w') : if Region.wanted oi (yielded ops a.tmps) = true then Oper.wp P oi a w K Q else K (a.put N undef) w := by
  rw [if_pos hw]
  have he := enters_ hf hname hb args w
  have hrun : (execOp a.eval oi).run P w = .ok (.enter f args) w := by
    unfold execOp
    simp [hop, resolve, Deferred.ofValue, invoke, Act.eval, hargs, he]
  unfold Oper.wp
  rw [hrun, Oper.upon_enter]
  refine h.mono fun e w'' hh => ?_
  obtain ⟨c, rfl, hk⟩ := hh
  exact hk
set_option hygiene false in
/-- One operation that yields, taken first. -/
macro "kp " i:num N:num l:term : tactic => `(tactic| (refine take_ (i := $i) (N := some $N) (v := ?_) (a' := ?_) $l rfl rfl (by kernel_rfl) (fun _ _ _ h => h) (Or.inl ⟨by rfl, ?_⟩) hHeld ?_ ?_; rotate_left; rintro w' ⟨s0, s1, s2⟩; go_simp; (try with_reducible rfl); rotate_left; (simp only [Act.put, List.setIfInBounds_toArray, List.set_cons_zero, List.set_cons_succ, i64_w, i32_w]; rfl)))
set_option maxRecDepth 20000 in
set_option maxHeartbeats 4000000 in
theorem scan_byte_none (b : Nat) (s : ByteArray) (i : Nat) (w : World) (h : Scan w b s i) (hi : s.size ≤ i) (hm : i ≤ 4611686018427387903) :
    Calls Try.prog 96 #[.pointer (some ⟨b, 0, none⟩)] w fun x w' => x = .panicked (WrongE 1) ∧ w.grownBy w' (some b) := by
  obtain ⟨h0, h1, h2⟩ := scan_cells h
  have hd : decide ((i : Int) < (s.size : Int)) = false := decide_eq_false (by omega)
  have hd2 : decide (i < s.size) = false := decide_eq_false (by omega)
  have hB := below_drew1 (Below.refl w.heap.size w)
  have hs : w.drew.cell? ⟨b, 0, none⟩ = some (.string s) ∧ w.drew.cell? ⟨b, 1, none⟩ = some (.int .i64 (i : Int)) ∧ w.grownBy w.drew (some b) := ⟨pw_cell_below hB h0, pw_cell_below hB h1, grown_of_below hB _⟩
  clear h0 h1 h2 hB
  go_enter Try.func96, Try.ntmps96
  go_wp2
  refine start_ (n := 11) (S := fun w' => w'.cell? ⟨b, 0, none⟩ = some (.string s) ∧ w'.cell? ⟨b, 1, none⟩ = some (.int .i64 (i : Int)) ∧ w.grownBy w' (some b)) (ds := []) #[false, false, false, false, false, false, false, false, false, false, false] (by kernel_rfl) rfl rfl hs (fun hHeld => ?_)
  kp 0 3 #[true, false, false, false, false, false, false, false, false, false, false]
  kp 1 4 #[true, true, false, false, false, false, false, false, false, false, false]
  kp 2 5 #[true, true, true, false, false, false, false, false, false, false, false]
  kp 3 6 #[true, true, true, true, false, false, false, false, false, false, false]
  kp 4 7 #[true, true, true, true, true, false, false, false, false, false, false]
  kp 5 8 #[true, true, true, true, true, true, false, false, false, false, false]
  kp 6 9 #[true, true, true, true, true, true, true, false, false, false, false]
  kp 7 10 #[true, true, true, true, true, true, true, true, false, false, false]
  kp 8 11 #[true, true, true, true, true, true, true, true, true, false, false]
  kp 9 12 #[true, true, true, true, true, true, true, true, true, true, false]
  refine one_ (i := 10) (N := some 13) #[true, true, true, true, true, true, true, true, true, true, true] rfl rfl (by kernel_rfl) (by decide) (fun K hK => ?_)
  refine goesP_ Try.func95 (by kernel_rfl) rfl #[.bool false, .int .i64 1] (by rfl) rfl (by simp only [List.map_toArray, List.map_cons, List.map_nil]; rfl) ?_
  refine (kind_unless_not _ _).mono ?_
  rintro e w3 ⟨rfl, rfl⟩
  exact ⟨_, rfl, rfl, rfl, hHeld.2.2⟩
set_option maxHeartbeats 4000000 in
theorem scan_done (b : Nat) (s : ByteArray) (i : Nat) (w : World) (h : Scan w b s i) (hi : i = s.size) :
    Calls Try.prog 89 #[.pointer (some ⟨b, 0, none⟩)] w fun x w' => x = .returned (.tuple #[]) ∧ Drawn0 w w' := by
  obtain ⟨h0, h1, h2⟩ := scan_cells h
  have hd : ((i : Int) == (s.size : Int)) = true := by subst hi; exact beq_self_eq_true _
  go_enter Try.func89, Try.ntmps89
  go_wp2
  go_quiet ((go_at_call 95; exact Calls.quiet_of_same (kind_unless _ _)))
  go_wp2
  go_end0
  exact ⟨rfl, ⟨_, rfl⟩⟩
set_option maxRecDepth 20000 in
set_option maxHeartbeats 4000000 in
theorem scan_done_not (b : Nat) (s : ByteArray) (i : Nat) (w : World) (h : Scan w b s i) (hi : i ≠ s.size) :
    Calls Try.prog 89 #[.pointer (some ⟨b, 0, none⟩)] w fun x w' => x = .panicked (WrongE 1) ∧ w.grownBy w' (some b) := by
  obtain ⟨h0, h1, h2⟩ := scan_cells h
  have hd : ((i : Int) == (s.size : Int)) = false := beq_eq_false_iff_ne.2 (by omega)
  have hB := below_drew1 (Below.refl w.heap.size w)
  have hs : w.drew.cell? ⟨b, 0, none⟩ = some (.string s) ∧ w.drew.cell? ⟨b, 1, none⟩ = some (.int .i64 (i : Int)) ∧ w.grownBy w.drew (some b) := ⟨pw_cell_below hB h0, pw_cell_below hB h1, grown_of_below hB _⟩
  clear h0 h1 h2 hB
  go_enter Try.func89, Try.ntmps89
  refine start_ (n := 11) (S := fun w' => w'.cell? ⟨b, 0, none⟩ = some (.string s) ∧ w'.cell? ⟨b, 1, none⟩ = some (.int .i64 (i : Int)) ∧ w.grownBy w' (some b)) (ds := []) #[false, false, false, false, false, false, false, false, false, false, false] (by kernel_rfl) rfl rfl hs (fun hHeld => ?_)
  kp 0 2 #[true, false, false, false, false, false, false, false, false, false, false]
  kp 1 3 #[true, true, false, false, false, false, false, false, false, false, false]
  kp 2 4 #[true, true, true, false, false, false, false, false, false, false, false]
  kp 3 5 #[true, true, true, true, false, false, false, false, false, false, false]
  kp 4 6 #[true, true, true, true, true, false, false, false, false, false, false]
  kp 5 7 #[true, true, true, true, true, true, false, false, false, false, false]
  kp 6 8 #[true, true, true, true, true, true, true, false, false, false, false]
  kp 7 9 #[true, true, true, true, true, true, true, true, false, false, false]
  kp 8 10 #[true, true, true, true, true, true, true, true, true, false, false]
  kp 9 11 #[true, true, true, true, true, true, true, true, true, true, false]
  refine one_ (i := 10) (N := some 12) #[true, true, true, true, true, true, true, true, true, true, true] rfl rfl (by kernel_rfl) (by decide) (fun K hK => ?_)
  refine goesP_ Try.func95 (by kernel_rfl) rfl #[.bool false, .int .i64 1] (by rfl) rfl (by simp only [List.map_toArray, List.map_cons, List.map_nil]; rfl) ?_
  refine (kind_unless_not _ _).mono ?_
  rintro e w3 ⟨rfl, rfl⟩
  exact ⟨_, rfl, rfl, rfl, hHeld.2.2⟩
end Go.Proofs.Ytcbakmojhicahaa.Hand
end

section
namespace Go.Proofs.Ytcbakmojhicahaa.Hand
open Go.RowKit Go.Shelf Go.Proofs.YtcbakmojhicahaaW.PrintWords Go.Proofs.YtcbakmojhicahaaW.PrintLast Go.Proofs.YtcbakmojhicahaaW.PrintMore
set_option linter.unusedVariables false
set_option linter.unusedSimpArgs false

theorem bl_drop (s : ByteArray) (i : Nat) : bl (s.extract i s.size) = (bl s).drop i := by
  unfold bl
  rw [ByteArray.data_extract, Array.toList_extract, List.extract_eq_take_drop, List.take_of_length_le]
  rw [List.length_drop, Array.length_toList]
  exact Nat.le_refl _
theorem max_drewN {w : World} (h : MaxL w) (n : Nat) : MaxL (w.drewN n) := max_below h (pw_below_drewN (Below.refl _ w) n)
theorem scan_drawn {w w' : World} {b : Nat} {s : ByteArray} {i : Nat} (h : Scan w b s i) (hd : Drawn0 w w') : Scan w' b s i := by
  unfold Scan at h ⊢
  rw [hd.below.block b (Array.getElem?_eq_some_iff.1 h).1]
  exact h
theorem scan_set {w : World} {b : Nat} {s : ByteArray} {i : Nat} (h : Scan w b s i) (j : Nat) : Scan (w.setCell ⟨b, 1, none⟩ (.int .i64 (j : Int))) b s j := by
  have h2 := blk_set h 1 (.int .i64 (j : Int))
  simp only [List.setIfInBounds_toArray, List.set_cons_zero, List.set_cons_succ] at h2
  exact h2
/-- strings.Cut behind the place at which a scan stands. -/
theorem cut_at (s : ByteArray) (i : Nat) (w : World) (hM : MaxL w) (hm : s.size ≤ 1048576) (hi : i ≤ s.size) (nm r : List UInt8) (ok : Bool) (hc : Lib.cut ((bl s).drop i) [59] = (nm, r, ok)) (n : Nat) :
    Calls Try.prog 149 #[.string (s.extract i s.size), .string ⟨#[59]⟩] (w.drewN n) fun e w'' => e = .returned (.tuple #[.string (lb nm), .string (lb r), .bool ok]) ∧ ∃ m, w'' = w.drewN m := by
  obtain ⟨m, hmm⟩ := max_drewN hM n
  have := Try.strings_Cut (s.extract i s.size) ⟨#[59]⟩ m (w.drewN n) (by have := extract_size s i s.size; omega) hmm
  have e : (s.extract i s.size).data.toList = (bl s).drop i := bl_drop s i
  have e2 : (⟨#[59]⟩ : ByteArray).data.toList = [59] := rfl
  rw [e, e2, hc] at this
  exact Calls.quiet_of this
theorem cut_name {l nm r : List UInt8} (h : Lib.cut l [59] = (nm, r, true)) : untilL 59 l = some (nm, r) := by
  rw [cut_until] at h
  cases hu : untilL 59 l with
  | none => rw [hu] at h; simp at h
  | some p => rw [hu] at h; simp at h; obtain ⟨rfl, rfl⟩ := h; rfl
theorem cut_no {l nm r : List UInt8} (h : Lib.cut l [59] = (nm, r, false)) : untilL 59 l = none := by
  rw [cut_until] at h
  cases hu : untilL 59 l with
  | none => rfl
  | some p => rw [hu] at h; simp at h
set_option maxHeartbeats 4000000 in
theorem scan_class (b : Nat) (s : ByteArray) (i : Nat) (w : World) (hM : MaxL w) (h : Scan w b s i) (hi : i ≤ s.size) (hm : s.size ≤ 1048576) (nm r : List UInt8) (hu : untilL 59 ((bl s).drop i) = some (nm, r)) (hcl : classL nm = true) :
    Calls Try.prog 127 #[.pointer (some ⟨b, 0, none⟩)] w fun x w' => x = .returned (.string (lb nm)) ∧ Scan w' b s (s.size - r.length) ∧ w.grownBy w' (some b) := by
  obtain ⟨h0, h1, h2⟩ := scan_cells h
  have hcut : Lib.cut ((bl s).drop i) [59] = (nm, r, true) := by rw [cut_until, hu]
  have hrl : r.length ≤ s.size := by
    have := congrArg List.length (until_some _ _ _ hu).1
    rw [List.length_drop, bl_len] at this
    simp at this
    omega
  have hnl : nm.length ≤ s.size := by
    have := congrArg List.length (until_some _ _ _ hu).1
    rw [List.length_drop, bl_len] at this
    simp at this
    omega
  have HC := Aside0.mk (cut_at s i w hM hm hi nm r true hcut)
  have HK := Aside0.mk (fun n => (word_Class.calls (lb nm) true (w.drewN n) (by unfold word_Class.f; rw [if_pos (by show nm.length ≤ _; omega)]; exact congrArg some hcl)))
  have hi1 : (i : Int) ≤ (s.size : Int) := by omega
  have hsz : (lb r).size = r.length := by unfold lb; rfl
  go_enter Try.func127, Try.ntmps127
  go_wp2
  go_quiet ((go_at_call 149; exact HC.out _))
  go_wp2_with (first | (go_at_call 24; refine (HK.out _).mono ?_; rintro e w1 ⟨rfl, hd1⟩; have hD : Drawn0 w w1 := drawn_trans ⟨⟨_, rfl⟩⟩ hd1; have hs1 := scan_drawn h hD; obtain ⟨q0, q1, q2⟩ := scan_cells hs1; clear hd1) | (go_at_call 95; refine (kind_unless _ _).mono ?_; rintro e w2 ⟨rfl, rfl⟩))
  refine bodyPost_ret (results_tmp rfl _ _ _) rfl ⟨rfl, ?_, ?_⟩
  · rw [show (s.size : Int) - (r.length : Int) = ((s.size - r.length : Nat) : Int) by omega]
    exact scan_set hs1 _
  · exact (grown_of_below hD.below _).trans (scan_setCell _ ⟨b, 1, none⟩ _)
set_option maxHeartbeats 4000000 in
theorem scan_class_not (b : Nat) (s : ByteArray) (i : Nat) (w : World) (hM : MaxL w) (h : Scan w b s i) (hi : i ≤ s.size) (hm : s.size ≤ 1048576) (hu : ∀ nm r, untilL 59 ((bl s).drop i) = some (nm, r) → classL nm = false) :
    Calls Try.prog 127 #[.pointer (some ⟨b, 0, none⟩)] w fun x w' => x = .panicked (WrongE 1) ∧ w.grownBy w' (some b) := by
  obtain ⟨h0, h1, h2⟩ := scan_cells h
  obtain ⟨nm, r, ok, hcut⟩ : ∃ nm r ok, Lib.cut ((bl s).drop i) [59] = (nm, r, ok) := ⟨_, _, _, rfl⟩
  have HC := Aside0.mk (cut_at s i w hM hm hi nm r ok hcut)
  have hi1 : (i : Int) ≤ (s.size : Int) := by omega
  cases ok with
  | false =>
    go_enter Try.func127, Try.ntmps127
    go_wp2
    go_quiet ((go_at_call 149; exact HC.out _))
    go_wp2_with (go_at_call 95; refine (kind_unless_not _ _).mono ?_; rintro e w2 ⟨rfl, rfl⟩)
    exact ⟨rfl, rfl, grown_drewN _ _ _⟩
  | true =>
    have hu1 := cut_name hcut
    have hcl := hu nm r hu1
    have hnl : nm.length ≤ s.size := by
      have := congrArg List.length (until_some _ _ _ hu1).1
      rw [List.length_drop, bl_len] at this
      simp at this
      omega
    have HK := Aside0.mk (fun n => (word_Class.calls (lb nm) false (w.drewN n) (by unfold word_Class.f; rw [if_pos (by show nm.length ≤ _; omega)]; exact congrArg some hcl)))
    clear hu hu1 hcut
    go_enter Try.func127, Try.ntmps127
    go_wp2
    go_quiet ((go_at_call 149; exact HC.out _))
    go_wp2_with (first | (go_at_call 24; refine (HK.out _).mono ?_; rintro e w1 ⟨rfl, hd1⟩; have hD : Drawn0 w w1 := drawn_trans ⟨⟨_, rfl⟩⟩ hd1; clear hd1) | (go_at_call 95; refine (kind_unless_not _ _).mono ?_; rintro e w2 ⟨rfl, rfl⟩))
    exact ⟨rfl, rfl, grown_of_below hD.below _⟩
end Go.Proofs.Ytcbakmojhicahaa.Hand
end

section
namespace Go.Proofs.Ytcbakmojhicahaa.Hand
open Go.RowKit Go.Shelf Go.Proofs.YtcbakmojhicahaaW.PrintWords Go.Proofs.YtcbakmojhicahaaW.PrintLast Go.Proofs.YtcbakmojhicahaaW.PrintMore
set_option linter.unusedVariables false
set_option linter.unusedSimpArgs false

/-- What the next type's reading comes to: the type and where the scan stands then, or nothing. -/
def endS (b : Nat) (s : ByteArray) (w : World) (q : Option (Ty × List UInt8)) (x : Ending) (w' : World) : Prop :=
  w.grownBy w' (some b) ∧ match q with
    | some (t, r) => x = .returned (.agg #[.int .i64 t.1, .string (lb t.2)]) ∧ Scan w' b s (s.size - r.length)
    | none => x = .panicked (WrongE 1)
theorem max_grown {w w' : World} {b : Nat} (h : MaxL w) (hb : 0 ≠ b) (hg : w.grownBy w' (some b)) : MaxL w' := by
  obtain ⟨m, hm⟩ := h
  have hl := World.block_lt_of_cell? w _ hm
  refine ⟨m, ?_⟩
  have e := hg.block 0 hl (by simpa using hb)
  exact by rw [← hm]; unfold World.cell?; rw [e]
theorem drop_cons (s : ByteArray) (i : Nat) (hi : i < s.size) : (bl s).drop i = s[i] :: (bl s).drop (i + 1) := drop_data s i hi
/-- A result's block, fresh. -/
def Res (w : World) (g : Nat) : Prop := w.heap[g]? = some (.cells #[.int .i64 0, .string ⟨#[]⟩] 54 (0, 0))
theorem res_cells {w : World} {g : Nat} (h : Res w g) : w.cell? ⟨g, 0, none⟩ = some (.int .i64 0) ∧ w.cell? ⟨g, 1, none⟩ = some (.string ⟨#[]⟩) ∧ w.frozen? ⟨g, 0, none⟩ = false ∧ w.frozen? ⟨g, 1, none⟩ = false := by
  have h0 := blk_cell h 0
  have h1 := blk_cell h 1
  simp only [List.getElem?_toArray, List.getElem?_cons_zero, List.getElem?_cons_succ] at h0 h1
  exact ⟨h0, h1, blk_frozen h 0, blk_frozen h 1⟩
theorem res_new (w : World) : Res (w.alloc (.cells #[.int .i64 0, .string ⟨#[]⟩] 54)) w.heap.size := World.alloc_heap_new _ _
theorem res_kept {w w' : World} {g b : Nat} (h : Res w g) (hg : w.grownBy w' (some b)) (hne : g ≠ b) : Res w' g := by
  unfold Res at h ⊢
  rw [hg.block g (Array.getElem?_eq_some_iff.1 h).1 (by simpa using hne)]
  exact h
theorem scan_alloc {w : World} {b : Nat} {s : ByteArray} {i : Nat} (h : Scan w b s i) (o : Obj) : Scan (w.alloc o) b s i := by
  unfold Scan at h ⊢
  rw [Below.heap_alloc w o b (Array.getElem?_eq_some_iff.1 h).1]
  exact h
theorem scan_far {w : World} {b : Nat} {s : ByteArray} {i : Nat} (h : Scan w b s i) {p : Addr} (hp : p.block ≠ b) (v : Value) : Scan (w.setCell p v) b s i := by
  unfold Scan at h ⊢
  rw [Below.heap_setCell w p v b (fun e => hp e.symm)]
  exact h
/-- The frame behind a new result's block. -/
theorem grown_res {w w1 : World} {b : Nat} {o : Obj} (h : (w.alloc o).grownBy w1 (some b)) : w.grownBy w1 (some b) := (World.grownBy_alloc w o _).trans h
theorem grown_res2 {w w1 : World} {b : Nat} {o : Obj} (h : (w.alloc o).grownBy w1 (some b)) (u v : Value) : w.grownBy ((w1.setCell ⟨w.heap.size, 0, none⟩ u).setCell ⟨w.heap.size, 1, none⟩ v) (some b) := by
  have h0 := grown_res h
  refine ⟨h0.os, h0.tape, h0.output, ?_, fun k hk hne => ?_⟩
  · simpa using h0.size
  · rw [Below.heap_setCell _ _ _ _ (by simp; omega), Below.heap_setCell _ _ _ _ (by simp; omega)]
    exact h0.block k hk hne
theorem at_len (s : ByteArray) (i : Nat) (hi : i < s.size) : s.size - ((bl s).drop (i + 1)).length = i + 1 := by
  rw [List.length_drop, bl_len]
  omega
theorem byte_of {x : UInt8} {n : Nat} [OfNat UInt8 n] (e : (x.toNat : Int) = n) : x = UInt8.ofNat n := by
  have : x.toNat = n := by omega
  rw [← this, UInt8.ofNat_toNat]
set_option maxHeartbeats 16000000 in
set_option maxRecDepth 20000 in
theorem one_any (b : Nat) (s : ByteArray) (i : Nat) (w : World) (hM : MaxL w) (hb : 0 ≠ b) (h : Scan w b s i) (hi : i ≤ s.size) (hm : s.size ≤ 1048576)
    (hArr : ∀ W, Scan W b s (i + 1) → MaxL W → (∃ l, (bl s).drop i = 91 :: l) → Calls Try.prog 128 #[.pointer (some ⟨b, 0, none⟩)] W (endS b s W (flatT classL 2 ((bl s).drop (i + 1))))) :
    Calls Try.prog 88 #[.pointer (some ⟨b, 0, none⟩)] w (endS b s w (oneT classL ((bl s).drop i))) := by
  have hbl : b < w.heap.size := (Array.getElem?_eq_some_iff.1 h).1
  have hS0 := scan_alloc h (.cells #[.int .i64 0, .string ⟨#[]⟩] 54)
  have hM0 := max_grown hM (b := w.heap.size) (by obtain ⟨m, hm⟩ := hM; have := World.block_lt_of_cell? w _ hm; simp at this; omega) (World.grownBy_alloc w (.cells #[.int .i64 0, .string ⟨#[]⟩] 54) _)
  have hR0 := res_new w
  by_cases he : i = s.size
  · have hd : (bl s).drop i = [] := by rw [List.drop_eq_nil_iff, bl_len]; omega
    rw [hd]
    go_enter Try.func88, Try.ntmps88
    go_wp2_with (go_at_call 96; refine (scan_byte_none b s i _ hS0 (by omega) (by omega)).mono ?_; rintro e w1 ⟨rfl, hg⟩)
    exact ⟨rfl, grown_res hg, rfl⟩
  · have hlt : i < s.size := by omega
    have hd := drop_cons s i hlt
    have HB := Aside0.mk (scan_byte_some b s i _ hS0 hlt (by omega))
    have HI := Aside0.mk hi
    have HA := Aside0.mk hArr
    rw [hd]
    rw [hd] at HA
    obtain ⟨x, hx⟩ : ∃ x, s[i] = x := ⟨_, rfl⟩
    rw [hx] at HB HA ⊢
    have HX := Aside0.mk hx
    clear hx hd hArr hi hS0
    have HR : Aside0 (∀ w1, (w.alloc (.cells #[.int .i64 0, .string ⟨#[]⟩] 54)).grownBy w1 (some b) → Res w1 w.heap.size) := ⟨fun w1 hg => res_kept hR0 hg (by omega)⟩
    clear hR0
    by_cases e1 : x = 86
    · subst e1
      go_enter Try.func88, Try.ntmps88
      go_wp2_with (go_at_call 96; refine HB.out.mono ?_; rintro e w1 ⟨rfl, hs1, hg1⟩; obtain ⟨c0, c1, f0, f1⟩ := res_cells (HR.out w1 hg1))
      refine ⟨rfl, .agg #[.int .i64 1, .string (⟨#[]⟩)], by simp [results, Try.results88, go_sem, c0, c1], ?_⟩
      exact ⟨grown_res2 hg1 _ _, rfl, by rw [at_len s i hlt]; exact scan_far (scan_far hs1 (p := ⟨w.heap.size, 0, none⟩) (by simp; omega) _) (p := ⟨w.heap.size, 1, none⟩) (by simp; omega) _⟩
    · by_cases e2 : x = 73
      · subst e2
        go_enter Try.func88, Try.ntmps88
        go_wp2_with (go_at_call 96; refine HB.out.mono ?_; rintro e w1 ⟨rfl, hs1, hg1⟩; obtain ⟨c0, c1, f0, f1⟩ := res_cells (HR.out w1 hg1))
        refine ⟨rfl, .agg #[.int .i64 2, .string (⟨#[]⟩)], by simp [results, Try.results88, go_sem, c0, c1], ?_⟩
        exact ⟨grown_res2 hg1 _ _, rfl, by rw [at_len s i hlt]; exact scan_far (scan_far hs1 (p := ⟨w.heap.size, 0, none⟩) (by simp; omega) _) (p := ⟨w.heap.size, 1, none⟩) (by simp; omega) _⟩
      · by_cases e3 : x = 76
        · subst e3
          have hot : oneT classL (76 :: (bl s).drop (i + 1)) = classT classL 3 ((bl s).drop (i + 1)) := rfl
          rw [hot]
          unfold classT
          cases hu : untilL 59 ((bl s).drop (i + 1)) with
          | none =>
            have HC := Aside0.mk (fun W hMW hSW => scan_class_not b s (i + 1) W hMW hSW (by omega) hm (fun nm r e => by rw [hu] at e; cases e))
            go_enter Try.func88, Try.ntmps88
            go_wp2_with (first | (go_at_call 96; refine HB.out.mono ?_; rintro e w1 ⟨rfl, hs1, hg1⟩; obtain ⟨c0, c1, f0, f1⟩ := res_cells (HR.out w1 hg1)) | (go_at_call 127; refine (HC.out _ (max_grown hM0 hb hg1) hs1).mono ?_; rintro e w2 ⟨rfl, hg2⟩))
            exact ⟨rfl, grown_res (hg1.trans hg2), rfl⟩
          | some p =>
            obtain ⟨nm, r⟩ := p
            dsimp only
            by_cases hcl : classL nm = true
            · rw [if_pos hcl]
              have HC := Aside0.mk (fun W hMW hSW => scan_class b s (i + 1) W hMW hSW (by omega) hm nm r hu hcl)
              go_enter Try.func88, Try.ntmps88
              go_wp2_with (first | (go_at_call 96; refine HB.out.mono ?_; rintro e w1 ⟨rfl, hs1, hg1⟩; obtain ⟨c0, c1, f0, f1⟩ := res_cells (HR.out w1 hg1)) | (go_at_call 127; refine (HC.out _ (max_grown hM0 hb hg1) hs1).mono ?_; rintro e w2 ⟨rfl, hs2, hg2⟩; have hg1 := hg1.trans hg2; obtain ⟨c0, c1, f0, f1⟩ := res_cells (HR.out w2 hg1)))
              refine ⟨rfl, .agg #[.int .i64 3, .string (lb nm)], by simp [results, Try.results88, go_sem, c0, c1], ?_⟩
              exact ⟨grown_res2 hg1 _ _, rfl, scan_far (scan_far hs2 (p := ⟨w.heap.size, 0, none⟩) (by simp; omega) _) (p := ⟨w.heap.size, 1, none⟩) (by simp; omega) _⟩
            · rw [if_neg hcl]
              have HC := Aside0.mk (fun W hMW hSW => scan_class_not b s (i + 1) W hMW hSW (by omega) hm (fun nm' r' e => by rw [hu] at e; cases e; simpa using hcl))
              go_enter Try.func88, Try.ntmps88
              go_wp2_with (first | (go_at_call 96; refine HB.out.mono ?_; rintro e w1 ⟨rfl, hs1, hg1⟩; obtain ⟨c0, c1, f0, f1⟩ := res_cells (HR.out w1 hg1)) | (go_at_call 127; refine (HC.out _ (max_grown hM0 hb hg1) hs1).mono ?_; rintro e w2 ⟨rfl, hg2⟩))
              exact ⟨rfl, grown_res (hg1.trans hg2), rfl⟩
        · by_cases e4 : x = 91
          · subst e4
            have hot : oneT classL (91 :: (bl s).drop (i + 1)) = flatT classL 2 ((bl s).drop (i + 1)) := rfl
            rw [hot]
            cases hf : flatT classL 2 ((bl s).drop (i + 1)) with
            | none =>
              rw [hf] at HA
              go_enter Try.func88, Try.ntmps88
              go_wp2_with (first | (go_at_call 96; refine HB.out.mono ?_; rintro e w1 ⟨rfl, hs1, hg1⟩; obtain ⟨c0, c1, f0, f1⟩ := res_cells (HR.out w1 hg1)) | (go_at_call 128; refine (HA.out _ hs1 (max_grown hM0 hb hg1) ⟨_, rfl⟩).mono ?_; rintro e w2 ⟨hg2, rfl⟩))
              exact ⟨rfl, grown_res (hg1.trans hg2), rfl⟩
            | some p =>
              obtain ⟨⟨k, c⟩, r⟩ := p
              rw [hf] at HA
              go_enter Try.func88, Try.ntmps88
              go_wp2_with (first | (go_at_call 96; refine HB.out.mono ?_; rintro e w1 ⟨rfl, hs1, hg1⟩; obtain ⟨c0, c1, f0, f1⟩ := res_cells (HR.out w1 hg1)) | (go_at_call 128; refine (HA.out _ hs1 (max_grown hM0 hb hg1) ⟨_, rfl⟩).mono ?_; rintro e w2 ⟨hg2, rfl, hs2⟩; have hg1 := hg1.trans hg2; obtain ⟨c0, c1, f0, f1⟩ := res_cells (HR.out w2 hg1)))
              refine ⟨rfl, .agg #[.int .i64 k, .string (lb c)], by simp [results, Try.results88, go_sem, c0, c1], ?_⟩
              exact ⟨grown_res2 hg1 _ _, rfl, scan_far (scan_far hs2 (p := ⟨w.heap.size, 0, none⟩) (by simp; omega) _) (p := ⟨w.heap.size, 1, none⟩) (by simp; omega) _⟩
          · have hot : oneT classL (x :: (bl s).drop (i + 1)) = none := by
              simp [oneT, flatT, e1, e2, e3, e4]
            rw [hot]
            have q1 : ((x.toNat : Int) == 86) = false := beq_eq_false_iff_ne.2 (fun e => e1 (byte_of e))
            have q2 : ((x.toNat : Int) == 73) = false := beq_eq_false_iff_ne.2 (fun e => e2 (byte_of e))
            have q3 : ((x.toNat : Int) == 76) = false := beq_eq_false_iff_ne.2 (fun e => e3 (byte_of e))
            have q4 : ((x.toNat : Int) == 91) = false := beq_eq_false_iff_ne.2 (fun e => e4 (byte_of e))
            go_enter Try.func88, Try.ntmps88
            go_wp2_with (go_at_call 96; refine HB.out.mono ?_; rintro e w1 ⟨rfl, hs1, hg1⟩; obtain ⟨c0, c1, f0, f1⟩ := res_cells (HR.out w1 hg1))
            exact ⟨rfl, grown_res hg1, rfl⟩
end Go.Proofs.Ytcbakmojhicahaa.Hand
end

section
namespace Go.Proofs.Ytcbakmojhicahaa.Hand
open Go.RowKit Go.Shelf Go.Proofs.YtcbakmojhicahaaW.PrintWords Go.Proofs.YtcbakmojhicahaaW.PrintLast Go.Proofs.YtcbakmojhicahaaW.PrintMore
set_option linter.unusedVariables false
set_option linter.unusedSimpArgs false

theorem one_of (b : Nat) (s : ByteArray) (i : Nat) (w : World) (hM : MaxL w) (hb : 0 ≠ b) (h : Scan w b s i) (hi : i ≤ s.size) (hm : s.size ≤ 1048576) (x : UInt8) (l : List UInt8) (hd : (bl s).drop i = x :: l) (hx : x ≠ 91) :
    Calls Try.prog 88 #[.pointer (some ⟨b, 0, none⟩)] w (endS b s w (flatT classL 0 (x :: l))) := by
  have := one_any b s i w hM hb h hi hm (fun W _ _ ⟨l', e⟩ => by rw [hd] at e; cases e; exact absurd rfl hx)
  rw [hd] at this
  unfold oneT at this
  dsimp only at this
  rw [if_neg hx] at this
  exact this
theorem res_two {w : World} {g : Nat} {x y : Value} (u v : Value) (o : Obj) (hlt : g < w.heap.size) (c0 : w.cell? ⟨g, 0, none⟩ = some x) (c1 : w.cell? ⟨g, 1, none⟩ = some y) :
    (((w.setCell ⟨g, 0, none⟩ u).setCell ⟨g, 1, none⟩ v).alloc o).cell? ⟨g, 0, none⟩ = some u ∧ (((w.setCell ⟨g, 0, none⟩ u).setCell ⟨g, 1, none⟩ v).alloc o).cell? ⟨g, 1, none⟩ = some v := by
  rw [World.cell?_alloc_past _ _ _ (by simpa using hlt), World.cell?_alloc_past _ _ _ (by simpa using hlt)]
  simp [go_sem, c0, c1]
set_option maxHeartbeats 16000000 in
set_option maxRecDepth 20000 in
theorem scan_array (b : Nat) (s : ByteArray) (i : Nat) (w : World) (hM : MaxL w) (hb : 0 ≠ b) (h : Scan w b s i) (hi : i ≤ s.size) (hm : s.size ≤ 1048576) :
    Calls Try.prog 128 #[.pointer (some ⟨b, 0, none⟩)] w (endS b s w (flatT classL 2 ((bl s).drop i))) := by
  have hbl : b < w.heap.size := (Array.getElem?_eq_some_iff.1 h).1
  have hS0 := scan_alloc h (.cells #[.int .i64 0, .string ⟨#[]⟩] 54)
  have hM0 := max_grown hM (b := w.heap.size) (by obtain ⟨m, hm⟩ := hM; have := World.block_lt_of_cell? w _ hm; simp at this; omega) (World.grownBy_alloc w (.cells #[.int .i64 0, .string ⟨#[]⟩] 54) _)
  have hR0 := res_new w
  have hG : (w.alloc (.cells #[.int .i64 0, .string ⟨#[]⟩] 54)).grownBy (w.alloc (.cells #[.int .i64 0, .string ⟨#[]⟩] 54)) (some b) := World.grownBy.refl _ _
  by_cases he : i = s.size
  · have hd : (bl s).drop i = [] := by rw [List.drop_eq_nil_iff, bl_len]; omega
    rw [hd]
    go_enter Try.func128, Try.ntmps128
    go_wp2_with (first | (go_at_call 95; refine (kind_unless_not _ _).mono ?_; rintro e w2 ⟨rfl, rfl⟩) | (go_at_call 97; refine (scan_sees_none b s i _ _ hS0 (by omega) (by omega)).mono ?_; rintro e w1 ⟨rfl, hD1⟩; have hS0 := scan_drawn hS0 hD1; have hG := hG.trans (grown_of_below hD1.below _)))
    exact ⟨rfl, grown_res hG, rfl⟩
  · have hlt : i < s.size := by omega
    have hd := drop_cons s i hlt
    have HB := Aside0.mk (fun W c hW => scan_sees_some b s i c W hW hlt (by omega))
    have HI := Aside0.mk hi
    have HO0 : ∀ W, MaxL W → Scan W b s i → s[i] ≠ 91 → Calls Try.prog 88 #[.pointer (some ⟨b, 0, none⟩)] W (endS b s W (flatT classL 0 (s[i] :: (bl s).drop (i + 1)))) := fun W hMW hW hx => one_of b s i W hMW hb hW hi hm s[i] ((bl s).drop (i + 1)) hd hx
    have HR : Aside0 (∀ w1, (w.alloc (.cells #[.int .i64 0, .string ⟨#[]⟩] 54)).grownBy w1 (some b) → Res w1 w.heap.size) := ⟨fun w1 hg => res_kept hR0 hg (by omega)⟩
    have HL : Aside0 (∀ w1, (w.alloc (.cells #[.int .i64 0, .string ⟨#[]⟩] 54)).grownBy w1 (some b) → w.heap.size < w1.heap.size) := ⟨fun w1 hg => by have := hg.size; simp at this; omega⟩
    rw [hd]
    obtain ⟨x, hx⟩ : ∃ x, s[i] = x := ⟨_, rfl⟩
    rw [hx] at HB HO0 ⊢
    have HX := Aside0.mk hx
    clear hx hd hi hR0
    by_cases e1 : x = 73
    · subst e1
      have HO := Aside0.mk (fun W a c => HO0 W a c (by decide))
      have hf : flatT classL 0 (73 :: (bl s).drop (i + 1)) = some ((2, []), (bl s).drop (i + 1)) := rfl
      have hf2 : flatT classL 2 (73 :: (bl s).drop (i + 1)) = some ((4, []), (bl s).drop (i + 1)) := rfl
      rw [hf] at HO
      rw [hf2]
      clear HO0
      go_enter Try.func128, Try.ntmps128
      go_wp2_with (first | (go_at_call 97; refine (HB.out _ _ hS0).mono ?_; rintro e w1 ⟨rfl, hD1⟩; have hS0 := scan_drawn hS0 hD1; have hG := hG.trans (grown_of_below hD1.below _)) | (go_at_call 95; refine (kind_unless _ _).mono ?_; rintro e w2 ⟨rfl, rfl⟩) | (go_at_call 88; refine (HO.out _ (max_grown hM0 hb hG) hS0).mono ?_; rintro e w3 ⟨hg3, rfl, hs3⟩; have hG := hG.trans hg3; obtain ⟨c0, c1, f0, f1⟩ := res_cells (HR.out w3 hG); have hlt3 := HL.out w3 hG))
      obtain ⟨d0, d1⟩ := res_two (.int .i64 4) (.string (lb [])) (.cells #[.int .i64 4, .string (lb [])] 54) hlt3 c0 c1
      refine ⟨rfl, .agg #[.int .i64 4, .string (lb [])], by simp [results, Try.results128, go_sem, d0, d1], ?_⟩
      exact ⟨(grown_res2 hG _ _).trans (World.grownBy_alloc _ _ _), rfl, scan_alloc (scan_far (scan_far hs3 (p := ⟨w.heap.size, 0, none⟩) (by simp; omega) _) (p := ⟨w.heap.size, 1, none⟩) (by simp; omega) _) _⟩
    · by_cases e2 : x = 76
      · subst e2
        have HO1 := fun W a c => HO0 W a c (by decide)
        have hf : flatT classL 0 (76 :: (bl s).drop (i + 1)) = classT classL 3 ((bl s).drop (i + 1)) := rfl
        have hf2 : flatT classL 2 (76 :: (bl s).drop (i + 1)) = classT classL 5 ((bl s).drop (i + 1)) := rfl
        rw [hf] at HO1
        rw [hf2]
        clear HO0 hf hf2
        have hcase : (classT classL 3 ((bl s).drop (i + 1)) = none ∧ classT classL 5 ((bl s).drop (i + 1)) = none) ∨ ∃ c r, classT classL 3 ((bl s).drop (i + 1)) = some ((3, c), r) ∧ classT classL 5 ((bl s).drop (i + 1)) = some ((5, c), r) := by
          unfold classT
          cases untilL 59 ((bl s).drop (i + 1)) with
          | none => exact .inl ⟨rfl, rfl⟩
          | some p =>
            obtain ⟨nm, r⟩ := p
            by_cases hc : classL nm = true
            · exact .inr ⟨nm, r, by simp [hc], by simp [hc]⟩
            · exact .inl ⟨by simp [hc], by simp [hc]⟩
        rcases hcase with ⟨g1, g2⟩ | ⟨c, r, g1, g2⟩
        · rw [g1] at HO1
          rw [g2]
          have HO := Aside0.mk HO1
          clear HO1
          go_enter Try.func128, Try.ntmps128
          go_wp2_with (first | (go_at_call 97; refine (HB.out _ _ hS0).mono ?_; rintro e w1 ⟨rfl, hD1⟩; have hS0 := scan_drawn hS0 hD1; have hG := hG.trans (grown_of_below hD1.below _)) | (go_at_call 95; refine (kind_unless _ _).mono ?_; rintro e w2 ⟨rfl, rfl⟩) | (go_at_call 88; refine (HO.out _ (max_grown hM0 hb hG) hS0).mono ?_; rintro e w3 ⟨hg3, rfl⟩; have hG := hG.trans hg3))
          exact ⟨rfl, grown_res hG, rfl⟩
        · rw [g1] at HO1
          rw [g2]
          have HO := Aside0.mk HO1
          clear HO1
          go_enter Try.func128, Try.ntmps128
          go_wp2_with (first | (go_at_call 97; refine (HB.out _ _ hS0).mono ?_; rintro e w1 ⟨rfl, hD1⟩; have hS0 := scan_drawn hS0 hD1; have hG := hG.trans (grown_of_below hD1.below _)) | (go_at_call 95; refine (kind_unless _ _).mono ?_; rintro e w2 ⟨rfl, rfl⟩) | (go_at_call 88; refine (HO.out _ (max_grown hM0 hb hG) hS0).mono ?_; rintro e w3 ⟨hg3, rfl, hs3⟩; have hG := hG.trans hg3; obtain ⟨c0, c1, f0, f1⟩ := res_cells (HR.out w3 hG); have hlt3 := HL.out w3 hG))
          obtain ⟨d0, d1⟩ := res_two (.int .i64 5) (.string (lb c)) (.cells #[.int .i64 5, .string (lb c)] 54) hlt3 c0 c1
          refine ⟨rfl, .agg #[.int .i64 5, .string (lb c)], by simp [results, Try.results128, go_sem, d0, d1], ?_⟩
          exact ⟨(grown_res2 hG _ _).trans (World.grownBy_alloc _ _ _), rfl, scan_alloc (scan_far (scan_far hs3 (p := ⟨w.heap.size, 0, none⟩) (by simp; omega) _) (p := ⟨w.heap.size, 1, none⟩) (by simp; omega) _) _⟩
      · have hf : flatT classL 2 (x :: (bl s).drop (i + 1)) = none := by simp [flatT, e1, e2]
        rw [hf]
        have q1 : ((x.toNat : Int) == 73) = false := beq_eq_false_iff_ne.2 (fun e => e1 (byte_of e))
        have q2 : ((x.toNat : Int) == 76) = false := beq_eq_false_iff_ne.2 (fun e => e2 (byte_of e))
        clear HO0
        go_enter Try.func128, Try.ntmps128
        go_wp2_with (first | (go_at_call 97; refine (HB.out _ _ hS0).mono ?_; rintro e w1 ⟨rfl, hD1⟩; have hS0 := scan_drawn hS0 hD1; have hG := hG.trans (grown_of_below hD1.below _)) | (go_at_call 95; refine (kind_unless_not _ _).mono ?_; rintro e w2 ⟨rfl, rfl⟩))
        exact ⟨rfl, grown_res hG, rfl⟩
/-- The next type, whatever stands there. -/
theorem scan_one (b : Nat) (s : ByteArray) (i : Nat) (w : World) (hM : MaxL w) (hb : 0 ≠ b) (h : Scan w b s i) (hi : i ≤ s.size) (hm : s.size ≤ 1048576) :
    Calls Try.prog 88 #[.pointer (some ⟨b, 0, none⟩)] w (endS b s w (oneT classL ((bl s).drop i))) :=
  one_any b s i w hM hb h hi hm (fun W hW hMW ⟨l, e⟩ => scan_array b s (i + 1) W hMW hb hW (by
    have := congrArg List.length e
    rw [List.length_drop, bl_len] at this
    simp at this
    omega) hm)
end Go.Proofs.Ytcbakmojhicahaa.Hand
end

section
namespace Go.Proofs.Ytcbakmojhicahaa.Hand
open Go.RowKit Go.Shelf Go.Proofs.YtcbakmojhicahaaW.PrintWords Go.Proofs.YtcbakmojhicahaaW.PrintLast Go.Proofs.YtcbakmojhicahaaW.PrintMore
set_option linter.unusedVariables false
set_option linter.unusedSimpArgs false

set_option maxRecDepth 100000 in
set_option maxHeartbeats 4000000 in
theorem catch_wrong (pb : Nat) (x e : Int) (older : List PanicEntry) (w : World) (hc : w.cell? ⟨pb, 0, none⟩ = some (.int .i64 x)) (hz : w.frozen? ⟨pb, 0, none⟩ = false) :
    CallsD Try.prog 126 #[.pointer (some ⟨pb, 0, none⟩)] (.panicking ({ v := .iface 168 (.agg #[.int .i64 e]), recovered := false } :: older)) w fun x' u' w' =>
      x' = .returned (.tuple #[]) ∧ u' = .panicking ({ v := .iface 168 (.agg #[.int .i64 e]), recovered := true } :: older) ∧ w' = (w.alloc (.cells #[.int .i64 e] 168)).setCell ⟨pb, 0, none⟩ (.int .i64 e) := by
  have hq : ∀ (w : World), (binOp .eql 20 (.iface 168 (.agg #[.int .i64 e])) .nilIface).run Try.prog w = .ok (.bool false) w := fun _ => by kernel_rfl
  have hta : ∀ (w : World), (Instr.typeAssert (.iface 168 (.agg #[.int .i64 e])) 20 168 true).run Try.prog w = .ok (.tuple #[.agg #[.int .i64 e], .bool true]) w := fun _ => by kernel_rfl
  have hlt : pb < w.heap.size := World.block_lt_of_cell? w _ hc
  refine callsD_of_wpS Try.func126 rfl fun c₀ cs hu => ?_
  apply wpS_seq
  apply wpS_region
  simp [wpOpsS, go_sem, recoverD, hu, Try.ntmps126, Exit.thenS]
  refine wpS_of_wp ?_
  simp only [List.size_toArray, List.length_cons, List.length_nil, Nat.reduceAdd, Nat.reduceSub, Array.replicate_succ, Array.replicate_zero, List.push_toArray, List.append_toArray, List.nil_append, List.cons_append, List.setIfInBounds_toArray, List.set_cons_zero, List.set_cons_succ]
  go_wp2
  cases c₀
  simp_all [bodyPostS, results, Try.results126, go_sem]
theorem catch_idle (p : Addr) (w : World) :
    CallsD Try.prog 126 #[.pointer (some p)] .returning w fun x' u' w' => x' = .returned (.tuple #[]) ∧ u' = .returning ∧ w' = w := by
  have hq : ∀ (w : World), (binOp .eql 20 .nilIface .nilIface).run Try.prog w = .ok (.bool true) w := fun _ => by kernel_rfl
  refine callsD_of_wpS Try.func126 rfl fun c₀ cs hu => ?_
  apply wpS_seq
  apply wpS_region
  simp [wpOpsS, go_sem, recoverD, hu, Try.ntmps126, Exit.thenS]
  refine wpS_of_wp ?_
  go_wp2
  cases c₀
  simp_all [bodyPostS, results, Try.results126, go_sem]
theorem caught_ok (g : FuncId) (ls : Array Value) (w : World) (R : World → Prop) (he : ∀ W, (callFunc g ls).run Try.prog W = .ok (.enter g ls) W)
    (hC : Calls Try.prog g ls (w.alloc (.cells #[.int .i64 0] 47)) fun x w' => x = .returned (.tuple #[]) ∧ R w')
    (hR : ∀ w', R w' → w'.cell? ⟨w.heap.size, 0, none⟩ = some (.int .i64 0) ∧ w'.frozen? ⟨w.heap.size, 0, none⟩ = false) :
    Calls Try.prog 86 #[.func (.func g) #[] ls] w fun x w' => x = .returned (.int .i64 0) ∧ ∃ w1, R w1 ∧ w' = w1.setCell ⟨w.heap.size, 0, none⟩ (.int .i64 0) := by
  have hmf : ∀ (fn : Fn) (first cap : Array Value) (w : World), (Instr.makeFunc fn first cap).run Try.prog w = .ok (.func fn first cap) w := fun _ _ _ _ => rfl
  go_enter_defers Try.func86, Try.ntmps86
  go_wp2
  refine hC.mono ?_
  rintro e w1 ⟨rfl, hr⟩
  obtain ⟨c0, f0⟩ := hR w1 hr
  go_wp2
  refine leaves_cons (f := 126) (args := #[.pointer (some ⟨w.heap.size, 0, none⟩)]) (by simp) (by simp [go_sem]) ?_
  refine (catch_idle ⟨w.heap.size, 0, none⟩ _).mono ?_
  rintro e u' w'' ⟨rfl, rfl, rfl⟩
  simp [Leaves, settle, results, Try.results86, go_sem, c0]
  exact ⟨w1, hr, rfl⟩
theorem caught_not (g : FuncId) (ls : Array Value) (w : World) (x : Int) (R : World → Prop) (he : ∀ W, (callFunc g ls).run Try.prog W = .ok (.enter g ls) W)
    (hC : Calls Try.prog g ls (w.alloc (.cells #[.int .i64 0] 47)) fun y w' => y = .panicked (WrongE x) ∧ R w')
    (hR : ∀ w', R w' → w'.cell? ⟨w.heap.size, 0, none⟩ = some (.int .i64 0) ∧ w'.frozen? ⟨w.heap.size, 0, none⟩ = false) :
    Calls Try.prog 86 #[.func (.func g) #[] ls] w fun y w' => y = .returned (.int .i64 x) ∧ ∃ w1, R w1 ∧ w' = (w1.alloc (.cells #[.int .i64 x] 168)).setCell ⟨w.heap.size, 0, none⟩ (.int .i64 x) := by
  have hmf : ∀ (fn : Fn) (first cap : Array Value) (w : World), (Instr.makeFunc fn first cap).run Try.prog w = .ok (.func fn first cap) w := fun _ _ _ _ => rfl
  go_enter_defers Try.func86, Try.ntmps86
  go_wp2
  refine hC.mono ?_
  rintro e w1 ⟨rfl, hr⟩
  obtain ⟨c0, f0⟩ := hR w1 hr
  have hlt := World.block_lt_of_cell? w1 _ c0
  refine leaves_cons (f := 126) (args := #[.pointer (some ⟨w.heap.size, 0, none⟩)]) (by simp) (by simp [go_sem]) ?_
  refine (catch_wrong w.heap.size 0 x [] _ c0 f0).mono ?_
  rintro e u' w'' ⟨rfl, rfl, rfl⟩
  have c1 : (w1.alloc (.cells #[.int .i64 x] 168)).cell? ⟨w.heap.size, 0, none⟩ = some (.int .i64 0) := by rw [World.cell?_alloc_past _ _ _ hlt]; exact c0
  simp [Leaves, settle, results, Try.results86, go_sem, c1]
  exact ⟨w1, hr, rfl⟩
end Go.Proofs.Ytcbakmojhicahaa.Hand
end

section
namespace Go.Proofs.Ytcbakmojhicahaa.Hand
open Go.RowKit Go.Shelf Go.Proofs.YtcbakmojhicahaaW.PrintWords Go.Proofs.YtcbakmojhicahaaW.PrintLast Go.Proofs.YtcbakmojhicahaaW.PrintMore
set_option linter.unusedVariables false
set_option linter.unusedSimpArgs false

/-- A type in its block. -/
def TyAt (w : World) (g : Nat) (t : Ty) : Prop := w.heap[g]? = some (.cells #[.int .i64 t.1, .string (lb t.2)] 54 (0, 0))
theorem ty_cells {w : World} {g : Nat} {t : Ty} (h : TyAt w g t) : w.cell? ⟨g, 0, none⟩ = some (.int .i64 t.1) ∧ w.cell? ⟨g, 1, none⟩ = some (.string (lb t.2)) ∧ w.frozen? ⟨g, 0, none⟩ = false ∧ w.frozen? ⟨g, 1, none⟩ = false := by
  have h0 := blk_cell h 0
  have h1 := blk_cell h 1
  simp only [List.getElem?_toArray, List.getElem?_cons_zero, List.getElem?_cons_succ] at h0 h1
  exact ⟨h0, h1, blk_frozen h 0, blk_frozen h 1⟩
theorem ty_kept {w w' : World} {g : Nat} {r : Option Nat} {t : Ty} (h : TyAt w g t) (hg : w.grownBy w' r) (hne : some g ≠ r) : TyAt w' g t := by
  unfold TyAt at h ⊢
  rw [hg.block g (Array.getElem?_eq_some_iff.1 h).1 hne]
  exact h
theorem ty_set {w : World} {g : Nat} {t : Ty} (h : TyAt w g t) (k : Int) (c : List UInt8) : TyAt ((w.setCell ⟨g, 0, none⟩ (.int .i64 k)).setCell ⟨g, 1, none⟩ (.string (lb c))) g (k, c) := by
  have h2 := blk_set (blk_set h 0 (.int .i64 k)) 1 (.string (lb c))
  simp only [List.setIfInBounds_toArray, List.set_cons_zero, List.set_cons_succ] at h2
  exact h2
/-- A block that the walk has made counts for nothing. -/
theorem grown_new {w w1 : World} {o : Obj} (h : (w.alloc o).grownBy w1 (some w.heap.size)) (r : Option Nat) : w.grownBy w1 r := by
  refine ⟨h.os, h.tape, h.output, ?_, fun k hk hne => ?_⟩
  · have := h.size
    simp at this
    omega
  · rw [h.block k (by simp; omega) (by simp; omega)]
    exact Below.heap_alloc w o k hk
theorem max_ne {w : World} (h : MaxL w) : (0 : Nat) ≠ w.heap.size := by
  obtain ⟨m, hm⟩ := h
  have := World.block_lt_of_cell? w _ hm
  simp at this
  omega
theorem max_alloc {w : World} (h : MaxL w) (o : Obj) : MaxL (w.alloc o) := max_grown h (b := w.heap.size) (max_ne h) (World.grownBy_alloc w o _)
theorem grown_join {w x y : World} {r : Option Nat} {b : Nat} (h : w.grownBy x r) (h2 : x.grownBy y (some b)) (hb : w.heap.size ≤ b) : w.grownBy y r :=
  ⟨h2.os.trans h.os, h2.tape.trans h.tape, h2.output.trans h.output, Nat.le_trans h.size h2.size, fun k hk hne => (h2.block k (Nat.lt_of_lt_of_le hk h.size) (by simp; omega)).trans (h.block k hk hne)⟩
theorem grown_errno {W w1 : World} {o : Obj} {r : Option Nat} (h : (W.alloc o).grownBy w1 r) (v : Value) : W.grownBy (w1.setCell ⟨W.heap.size, 0, none⟩ v) r :=
  grown_join ((World.grownBy_alloc W o r).trans h) (scan_setCell w1 ⟨W.heap.size, 0, none⟩ v) (Nat.le_refl _)
theorem grown_errno2 {W w1 : World} {o o2 : Obj} {r : Option Nat} (h : (W.alloc o).grownBy w1 r) (v : Value) : W.grownBy ((w1.alloc o2).setCell ⟨W.heap.size, 0, none⟩ v) r :=
  grown_join (((World.grownBy_alloc W o r).trans h).trans (World.grownBy_alloc w1 o2 r)) (scan_setCell _ ⟨W.heap.size, 0, none⟩ v) (Nat.le_refl _)
/-- What the closure of Parse comes to. -/
def endP (W : World) (bt : Nat) (q : Option (Ty × List UInt8)) (x : Ending) (w' : World) : Prop :=
  W.grownBy w' (some bt) ∧ (∃ t, TyAt w' bt t) ∧ match q with
    | some (t, []) => x = .returned (.tuple #[]) ∧ TyAt w' bt t
    | _ => x = .panicked (WrongE 1)
set_option maxHeartbeats 16000000 in
set_option maxRecDepth 20000 in
theorem parse_body (bs bt : Nat) (s : ByteArray) (t0 : Ty) (W : World) (hs : W.cell? ⟨bs, 0, none⟩ = some (.string s)) (hT : TyAt W bt t0) (hM : MaxL W) (hm : s.size ≤ 1048576) :
    Calls Try.prog 87 #[.pointer (some ⟨bs, 0, none⟩), .pointer (some ⟨bt, 0, none⟩)] W (endP W bt (oneT classL (bl s))) := by
  have hbt : bt < W.heap.size := (Array.getElem?_eq_some_iff.1 hT).1
  have hS0 : Scan (W.alloc (.cells #[.string s, .int .i64 0] 131)) W.heap.size s 0 := World.alloc_heap_new _ _
  have hM0 := max_alloc hM (.cells #[.string s, .int .i64 0] 131)
  have hT0 := ty_kept hT (World.grownBy_alloc W (.cells #[.string s, .int .i64 0] 131) none) (by simp)
  have HO := Aside0.mk (scan_one W.heap.size s 0 _ hM0 (max_ne hM) hS0 (by omega) hm)
  rw [List.drop_zero] at HO
  have HT := Aside0.mk hT0
  clear hS0 hM0 hM hT0 hT
  cases ho : oneT classL (bl s) with
  | none =>
    rw [ho] at HO
    go_enter Try.func87, Try.ntmps87
    go_wp2_with (go_at_call 88; refine HO.out.mono ?_; rintro e w1 ⟨hg1, rfl⟩)
    exact ⟨rfl, grown_new hg1 _, ⟨t0, ty_kept HT.out hg1 (by simp; omega)⟩, rfl⟩
  | some p =>
    obtain ⟨⟨k, c⟩, r⟩ := p
    rw [ho] at HO
    have hj : Aside0 (r = [] → s.size - r.length = s.size) := ⟨fun e => by rw [e]; rfl⟩
    have hj2 : Aside0 (r ≠ [] → s.size - r.length ≠ s.size) := ⟨fun e h => by
      have h1 : 0 < r.length := List.length_pos_iff.2 e
      have h2 : bl s ≠ [] := fun e2 => by rw [e2] at ho; cases ho
      have h3 : 0 < (bl s).length := List.length_pos_iff.2 h2
      rw [bl_len] at h3
      omega⟩
    have HX : Aside0 (∀ w1, (W.alloc (.cells #[.string s, .int .i64 0] 131)).grownBy w1 (some W.heap.size) → TyAt w1 bt t0) := ⟨fun w1 hg => ty_kept HT.out hg (by simp; omega)⟩
    cases r with
    | nil =>
      go_enter Try.func87, Try.ntmps87
      go_wp2_with (first | (go_at_call 88; refine HO.out.mono ?_; rintro e w1 ⟨hg1, rfl, hs1⟩; obtain ⟨c0, c1, f0, f1⟩ := ty_cells (HX.out w1 hg1)) | (go_at_call 89; refine (scan_done W.heap.size s _ _ (scan_far (scan_far hs1 (p := ⟨bt, 0, none⟩) (by simp; omega) _) (p := ⟨bt, 1, none⟩) (by simp; omega) _) (by simp)).mono ?_; rintro e w2 ⟨rfl, hD⟩))
      go_end0
      have ht := ty_kept (ty_set (HX.out w1 hg1) k c) (grown_of_below hD.below none) (by simp)
      refine ⟨?_, ⟨_, ht⟩, rfl, ht⟩
      · exact (((grown_new hg1 _).trans (scan_setCell _ ⟨bt, 0, none⟩ _)).trans (scan_setCell _ ⟨bt, 1, none⟩ _)).trans (grown_of_below hD.below _)
    | cons y r =>
      go_enter Try.func87, Try.ntmps87
      go_wp2_with (first | (go_at_call 88; refine HO.out.mono ?_; rintro e w1 ⟨hg1, rfl, hs1⟩; obtain ⟨c0, c1, f0, f1⟩ := ty_cells (HX.out w1 hg1)) | (go_at_call 89; refine (scan_done_not W.heap.size s _ _ (scan_far (scan_far hs1 (p := ⟨bt, 0, none⟩) (by simp; omega) _) (p := ⟨bt, 1, none⟩) (by simp; omega) _) (hj2.out (by simp))).mono ?_; rintro e w2 ⟨rfl, hD⟩))
      exact ⟨rfl, grown_join (((grown_new hg1 _).trans (scan_setCell _ ⟨bt, 0, none⟩ _)).trans (scan_setCell _ ⟨bt, 1, none⟩ _)) hD (Nat.le_refl _), ⟨_, ty_kept (ty_set (HX.out w1 hg1) k c) hD (by simp; omega)⟩, rfl⟩
set_option maxHeartbeats 16000000 in
set_option maxRecDepth 20000 in
theorem kind_parse (s : ByteArray) (W : World) (hM : MaxL W) (hm : s.size ≤ 1048576) :
    Calls Try.prog 31 #[.string s] W fun x w' => x = .returned (.tuple #[.agg #[.int .i64 (parseT classL (bl s)).1.1, .string (lb (parseT classL (bl s)).1.2)], .int .i64 (parseT classL (bl s)).2]) ∧ Below W.heap.size W w' := by
  have hmf : ∀ (fn : Fn) (first cap : Array Value) (w : World), (Instr.makeFunc fn first cap).run Try.prog w = .ok (.func fn first cap) w := fun _ _ _ _ => rfl
  obtain ⟨W1, hW1⟩ : ∃ W1, W1 = (W.alloc (.cells #[.string s] 9)).alloc (.cells #[.int .i64 0, .string ⟨#[]⟩] 54) := ⟨_, rfl⟩
  have hz1 : W1.heap.size = W.heap.size + 2 := by rw [hW1]; simp
  have hB1 : Boxed W1 W.heap.size 9 (.string s) := by rw [hW1]; exact (Boxed.new W 9 (.string s)).alloc _
  have hT1 : TyAt W1 (W.heap.size + 1) (0, []) := by
    have := World.alloc_heap_new (W.alloc (.cells #[.string s] 9)) (.cells #[.int .i64 0, .string ⟨#[]⟩] 54)
    rw [World.size_alloc] at this
    rw [hW1]; exact this
  have hG1 : Below W.heap.size W W1 := by rw [hW1]; exact below_alloc (below_alloc (Below.refl _ _) _) _
  have hM1 : MaxL W1 := max_below hM hG1
  have hE : ∀ w', (W1.alloc (.cells #[.int .i64 0] 47)).grownBy w' (some (W.heap.size + 1)) → w'.cell? ⟨W1.heap.size, 0, none⟩ = some (.int .i64 0) ∧ w'.frozen? ⟨W1.heap.size, 0, none⟩ = false := fun w' hg => by
    have hb := (Boxed.new W1 47 (.int .i64 0)).kept hg (by simp; omega)
    exact ⟨hb.cell, hb.frozen⟩
  have hP := parse_body W.heap.size (W.heap.size + 1) s (0, []) (W1.alloc (.cells #[.int .i64 0] 47)) (hB1.alloc _).cell (ty_kept hT1 (World.grownBy_alloc W1 _ none) (by simp)) (max_alloc hM1 _) hm
  have hen := fun W => enters_ Try.func87 (by kernel_rfl) rfl #[.pointer (some ⟨W1.heap.size - 2, 0, none⟩), .pointer (some ⟨W1.heap.size - 1, 0, none⟩)] W
  have hs2 : W1.heap.size - 2 = W.heap.size := by omega
  have hs3 : W1.heap.size - 1 = W.heap.size + 1 := by omega
  rw [hs2, hs3] at hen
  rcases (show (∃ t, oneT classL (bl s) = some (t, []) ∧ parseT classL (bl s) = (t, 0)) ∨ (parseT classL (bl s) = ((0, []), 1) ∧ ∀ x w', endP (W1.alloc (.cells #[.int .i64 0] 47)) (W.heap.size + 1) (oneT classL (bl s)) x w' → x = .panicked (WrongE 1) ∧ (∃ t, TyAt w' (W.heap.size + 1) t) ∧ (W1.alloc (.cells #[.int .i64 0] 47)).grownBy w' (some (W.heap.size + 1))) by
    unfold parseT endP
    cases oneT classL (bl s) with
    | none => exact .inr ⟨rfl, fun x w' ⟨h1, h2, h3⟩ => ⟨h3, h2, h1⟩⟩
    | some p =>
      obtain ⟨t, r⟩ := p
      cases r with
      | nil => exact .inl ⟨t, rfl, rfl⟩
      | cons y r => exact .inr ⟨rfl, fun x w' ⟨h1, h2, h3⟩ => ⟨h3, h2, h1⟩⟩) with ⟨⟨k, c⟩, ho, hp⟩ | ⟨hp, hn⟩
  · rw [ho] at hP
    rw [hp]
    have HC := Aside0.mk ((caught_ok 87 _ W1 (fun w' => TyAt w' (W.heap.size + 1) (k, c) ∧ (W1.alloc (.cells #[.int .i64 0] 47)).grownBy w' (some (W.heap.size + 1))) hen (hP.mono fun x w' ⟨h1, _, h2, h3⟩ => ⟨h2, h3, h1⟩) (fun w' h => hE w' h.2)).mono
      (show ∀ x w', _ → x = .returned (.int .i64 0) ∧ TyAt w' (W.heap.size + 1) (k, c) ∧ W1.grownBy w' (some (W.heap.size + 1)) from fun x w' ⟨h1, w1, ⟨h2, h3⟩, h4⟩ => ⟨h1, by rw [h4]; exact ty_kept h2 (scan_setCell w1 ⟨W1.heap.size, 0, none⟩ _) (by simp; omega), by rw [h4]; exact grown_errno h3 _⟩))
    clear hP hen hE hT1 hB1
    go_enter Try.func31, Try.ntmps31
    go_wp2_with (go_at_call 86; rw [← hW1]; refine HC.out.mono ?_; rintro e w2 ⟨rfl, ht, hg⟩; obtain ⟨c0, c1, f0, f1⟩ := ty_cells ht)
    refine ⟨rfl, .tuple #[.agg #[.int .i64 k, .string (lb c)], .int .i64 0], by simp [results, Try.results31, go_sem, c0, c1], rfl, ?_⟩
    exact ((hG1.grown hg hG1.size (by simp)).setCell (p := ⟨W.heap.size + 1, 0, none⟩) (by simp) _).setCell (p := ⟨W.heap.size + 1, 1, none⟩) (by simp) _
  · rw [hp]
    have HC := Aside0.mk ((caught_not 87 _ W1 1 (fun w' => (∃ t, TyAt w' (W.heap.size + 1) t) ∧ (W1.alloc (.cells #[.int .i64 0] 47)).grownBy w' (some (W.heap.size + 1))) hen (hP.mono fun x w' h => hn x w' h) (fun w' h => hE w' h.2)).mono
      (show ∀ x w', _ → x = .returned (.int .i64 1) ∧ W1.grownBy w' (some (W.heap.size + 1)) ∧ ∃ t, TyAt w' (W.heap.size + 1) t from fun x w' ⟨h1, w1, ⟨⟨t, h2⟩, h3⟩, h4⟩ => ⟨h1, by rw [h4]; exact grown_errno2 h3 _, t, by rw [h4]; exact ty_kept (ty_kept h2 (World.grownBy_alloc w1 _ none) (by simp)) (scan_setCell _ ⟨W1.heap.size, 0, none⟩ _) (by simp; omega)⟩))
    clear hP hen hE hT1 hB1
    go_enter Try.func31, Try.ntmps31
    go_wp2_with (go_at_call 86; rw [← hW1]; refine HC.out.mono ?_; rintro e w2 ⟨rfl, hg, ⟨k0, c0'⟩, ht⟩; obtain ⟨c0, c1, f0, f1⟩ := ty_cells ht)
    refine ⟨rfl, .tuple #[.agg #[.int .i64 0, .string (lb [])], .int .i64 1], by simp [results, Try.results31, go_sem, c0, c1]; rfl, rfl, ?_⟩
    exact ((hG1.grown hg hG1.size (by simp)).setCell (p := ⟨W.heap.size + 1, 0, none⟩) (by simp) _).setCell (p := ⟨W.heap.size + 1, 1, none⟩) (by simp) _
end Go.Proofs.Ytcbakmojhicahaa.Hand
end

section
-- Written by this session's program layer.py (the kit's print, turned), not by hand.
namespace Go.Proofs.Ytcbakmojhicahaa.Q7
open Go.RowKit Go.Proofs.YtcbakmojhicahaaW.PrintWords Go.Proofs.YtcbakmojhicahaaW.PrintLast Go.Proofs.YtcbakmojhicahaaW.PrintMore Go.Proofs.Ytcbakmojhicahaa.Hand
attribute [local go_sem] max2_int min2_int max_two min_two max_three min_three max_four min_four   -- for this text's walks alone
set_option linter.unusedVariables false
set_option linter.unusedSimpArgs false



def errW : Option Int → Value
  | none => .nilIface
  | some c => .iface 0 (.int .i64 c)
theorem errW_none : errW none = .nilIface := rfl
theorem errW_some (c : Int) : errW (some c) = .iface 0 (.int .i64 c) := rfl

-- the values' own types

end Go.Proofs.Ytcbakmojhicahaa.Q7
end

section
-- Written by this session's program layer.py (the kit's print, turned), not by hand.
namespace Go.Proofs.Ytcbakmojhicahaa.Q7
open Go.RowKit Go.Proofs.YtcbakmojhicahaaW.PrintWords Go.Proofs.YtcbakmojhicahaaW.PrintLast Go.Proofs.YtcbakmojhicahaaW.PrintMore Go.Proofs.Ytcbakmojhicahaa.Hand
attribute [local go_sem] max2_int min2_int max_two min_two max_three min_three max_four min_four   -- for this text's walks alone
set_option linter.unusedVariables false
set_option linter.unusedSimpArgs false

theorem eqA54 (d : Nat) (w : World) (x0 y0 : Int) (x1 y1 : ByteArray) :
    (Op.equalIn (d + 2) 54 (.agg #[.int .i64 x0, .string x1]) (.agg #[.int .i64 y0, .string y1])).run Try.prog w = .ok (x0 == y0 && (x1.toList == y1.toList)) w := by
  refine eqA_of Try.underlying54 (by kernel_rfl) ?_
  refine eqf_cons (by rfl) (by go_simp; rfl) (by go_simp; rfl) (by go_simp) ?_
  exact eqf_last (by rfl) (by go_simp; rfl) (by go_simp; rfl) (by go_simp)
end Go.Proofs.Ytcbakmojhicahaa.Q7
end

section
-- Written by this session's program layer.py (the kit's print, turned), not by hand.
namespace Go.Proofs.Ytcbakmojhicahaa.Q7
open Go.RowKit Go.Proofs.YtcbakmojhicahaaW.PrintWords Go.Proofs.YtcbakmojhicahaaW.PrintLast Go.Proofs.YtcbakmojhicahaaW.PrintMore Go.Proofs.Ytcbakmojhicahaa.Hand
attribute [local go_sem] max2_int min2_int max_two min_two max_three min_three max_four min_four   -- for this text's walks alone
set_option linter.unusedVariables false
set_option linter.unusedSimpArgs false

attribute [local go_sem high] eqA54
-- BY HAND: function 24 (word_Class)

/-! ### kind_Right: function 33 -/
def kind_Right.f (a0_0 : Int) (a0_1 : ByteArray) : Option (Bool) := if a0_0 = 3 then ((word_Class.f a0_1).bind fun t102 => (some t102)) else (if a0_0 = 5 then ((word_Class.f a0_1).bind fun t103 => (some t103)) else (if (a0_1.toList == ([] : List UInt8)) = true then (if a0_0 ≥ 1 then (some (decide (a0_0 ≤ 5))) else (some false)) else (some false)))
set_option maxHeartbeats 8000000 in
set_option maxRecDepth 100000 in
theorem kind_Right.calls (a0_0 : Int) (a0_1 : ByteArray) (r : Bool) (w : World) (h : kind_Right.f a0_0 a0_1 = some r) :
    Calls Try.prog 33 #[.agg #[.int .i64 a0_0, .string a0_1]] w fun e w' => e = .returned (.bool r) ∧ Below w.heap.size w w' := by
  have hu54 := Try.underlying54
  have HB := Aside0.mk (Below.refl w.heap.size w)
  have H : (if a0_0 = 3 then ((word_Class.f a0_1).bind fun t102 => (some t102)) else (if a0_0 = 5 then ((word_Class.f a0_1).bind fun t103 => (some t103)) else (if (a0_1.toList == ([] : List UInt8)) = true then (if a0_0 ≥ 1 then (some (decide (a0_0 ≤ 5))) else (some false)) else (some false)))) = some r := h
  clear h
  by_cases c2 : a0_0 = 3
  · rw [if_pos c2] at H
    have c2b0 : (a0_0 == 3) = true := beq_iff_eq.mpr c2
    have c2b1 : (a0_0 != 3) = false := bne_eq_false_iff_eq.mpr c2
    clear c2
    replace H := Option.bind_eq_some_iff.mp H
    obtain ⟨t102, A30, H⟩ := H
    replace H : (some t102) = some r := H
    have A3 := Aside0.mk A30
    clear A30
    obtain rfl := Option.some.inj H
    go_enter Try.func33, Try.ntmps33
    go_wp2_with (first | ((with_reducible refine gate_dst (N := 1) rfl ?_); refine box_event ?hg (N := 1) ?hd (cs := #[.int .i64 a0_0, .string a0_1]) (t := 54) ?hr ?_; (case hd => rfl); (case hg => rfl); (case hr => first | (go_simp; done) | (go_simp; rfl)); intro gb101 hg w4 hbox hb; have n0_ := Aside0.mk (below_step (by repeat (first | (with_reducible first | exact HB.out | apply below_alloc | apply pw_below_drewN | apply below_drew1) | exact HB.out)) hb); have n1_ := Aside0.mk (hbox); have n2_ := Aside0.mk ((by rw [hg]; exact (below_size (by repeat (first | (with_reducible first | exact HB.out | apply below_alloc | apply pw_below_drewN | apply below_drew1) | exact HB.out))) : w.heap.size ≤ gb101)); have n3_ := Aside0.mk ((by rw [hg]; exact (below_size (by repeat (first | (with_reducible first | exact HB.out | apply below_alloc | apply pw_below_drewN | apply below_drew1) | exact HB.out))) : w.heap.size ≤ gb101)); clear HB; have HB := n0_; have BK101 := n1_; have GW101 := n2_; have GE101 := n3_; clear n0_ n1_ n2_ n3_; clear hb hbox hg; have hcz5_0 : w4.cell? ⟨gb101, 0, none⟩ = some (.int .i64 a0_0) := (blk_cell BK101.out 0).trans rfl; have hcz5_1 : w4.cell? ⟨gb101, 1, none⟩ = some (.string a0_1) := (blk_cell BK101.out 1).trans rfl; have hfz5_0 := blk_frozen BK101.out 0; have hfz5_1 := blk_frozen BK101.out 1) | ((with_reducible refine gate_callee (f := 24) rfl ?_); refine goesL_ (some 10) rfl rfl Try.func24 (by kernel_rfl) rfl #[.string a0_1] rfl (by (try simp only [List.map_toArray, List.map_cons, List.map_nil]); first | done | rfl | (simp only [List.length_drop, List.length_take]; rfl)) ?_; (with_reducible refine (word_Class.calls a0_1 t102 _ A3.out).mono ?_); rintro e w' ⟨rfl, ⟨nd, rfl⟩⟩; refine ⟨_, rfl, ?_⟩))
    go_ret
    exact ⟨by first | rfl | (simp [errW_none, errW_some] <;> rfl) | (simp [*, errW_none, errW_some] <;> rfl), by repeat (first | (with_reducible first | exact HB.out | apply below_alloc | apply pw_below_drewN | apply below_drew1 | refine below_set ?_ GE101.out) | exact HB.out)⟩
  · rw [if_neg c2] at H
    have c2b0 : (a0_0 == 3) = false := beq_eq_false_iff_ne.mpr c2
    have c2b1 : (a0_0 != 3) = true := bne_iff_ne.mpr c2
    by_cases c6 : a0_0 = 5
    · rw [if_pos c6] at H
      have c6b0 : (a0_0 == 5) = true := beq_iff_eq.mpr c6
      have c6b1 : (a0_0 != 5) = false := bne_eq_false_iff_eq.mpr c6
      clear c6
      replace H := Option.bind_eq_some_iff.mp H
      obtain ⟨t103, A70, H⟩ := H
      replace H : (some t103) = some r := H
      have A7 := Aside0.mk A70
      clear A70
      obtain rfl := Option.some.inj H
      go_enter Try.func33, Try.ntmps33
      go_wp2_with (first | ((with_reducible refine gate_dst (N := 1) rfl ?_); refine box_event ?hg (N := 1) ?hd (cs := #[.int .i64 a0_0, .string a0_1]) (t := 54) ?hr ?_; (case hd => rfl); (case hg => rfl); (case hr => first | (go_simp; done) | (go_simp; rfl)); intro gb101 hg w8 hbox hb; have n0_ := Aside0.mk (below_step (by repeat (first | (with_reducible first | exact HB.out | apply below_alloc | apply pw_below_drewN | apply below_drew1) | exact HB.out)) hb); have n1_ := Aside0.mk (hbox); have n2_ := Aside0.mk ((by rw [hg]; exact (below_size (by repeat (first | (with_reducible first | exact HB.out | apply below_alloc | apply pw_below_drewN | apply below_drew1) | exact HB.out))) : w.heap.size ≤ gb101)); have n3_ := Aside0.mk ((by rw [hg]; exact (below_size (by repeat (first | (with_reducible first | exact HB.out | apply below_alloc | apply pw_below_drewN | apply below_drew1) | exact HB.out))) : w.heap.size ≤ gb101)); clear HB; have HB := n0_; have BK101 := n1_; have GW101 := n2_; have GE101 := n3_; clear n0_ n1_ n2_ n3_; clear hb hbox hg; have hcz9_0 : w8.cell? ⟨gb101, 0, none⟩ = some (.int .i64 a0_0) := (blk_cell BK101.out 0).trans rfl; have hcz9_1 : w8.cell? ⟨gb101, 1, none⟩ = some (.string a0_1) := (blk_cell BK101.out 1).trans rfl; have hfz9_0 := blk_frozen BK101.out 0; have hfz9_1 := blk_frozen BK101.out 1) | ((with_reducible refine gate_callee (f := 24) rfl ?_); refine goesL_ (some 10) rfl rfl Try.func24 (by kernel_rfl) rfl #[.string a0_1] rfl (by (try simp only [List.map_toArray, List.map_cons, List.map_nil]); first | done | rfl | (simp only [List.length_drop, List.length_take]; rfl)) ?_; (with_reducible refine (word_Class.calls a0_1 t103 _ A7.out).mono ?_); rintro e w' ⟨rfl, ⟨nd, rfl⟩⟩; refine ⟨_, rfl, ?_⟩))
      go_ret
      exact ⟨by first | rfl | (simp [errW_none, errW_some] <;> rfl) | (simp [*, errW_none, errW_some] <;> rfl), by repeat (first | (with_reducible first | exact HB.out | apply below_alloc | apply pw_below_drewN | apply below_drew1 | refine below_set ?_ GE101.out) | exact HB.out)⟩
    · rw [if_neg c6] at H
      have c6b0 : (a0_0 == 5) = false := beq_eq_false_iff_ne.mpr c6
      have c6b1 : (a0_0 != 5) = true := bne_iff_ne.mpr c6
      by_cases c10 : (a0_1.toList == ([] : List UInt8)) = true
      · rw [if_pos c10] at H
        have c10b0 : (a0_1.toList == ([] : List UInt8)) = true := c10
        (try (have c10b1 : decide (a0_1.toList = ([] : List UInt8)) = true := by simpa using c10))
        (try (have c10b2 : (a0_1.toList == ([] : List UInt8)) = true := by simpa using c10))
        clear c10
        by_cases c11 : a0_0 ≥ 1
        · rw [if_pos c11] at H
          have c11b0 : decide (1 ≤ a0_0) = true := decide_eq_true c11
          clear c11
          obtain rfl := Option.some.inj H
          go_enter Try.func33, Try.ntmps33
          go_wp2_with (first | ((with_reducible refine gate_dst (N := 1) rfl ?_); refine box_event ?hg (N := 1) ?hd (cs := #[.int .i64 a0_0, .string a0_1]) (t := 54) ?hr ?_; (case hd => rfl); (case hg => rfl); (case hr => first | (go_simp; done) | (go_simp; rfl)); intro gb101 hg w12 hbox hb; have n0_ := Aside0.mk (below_step (by repeat (first | (with_reducible first | exact HB.out | apply below_alloc | apply pw_below_drewN | apply below_drew1) | exact HB.out)) hb); have n1_ := Aside0.mk (hbox); have n2_ := Aside0.mk ((by rw [hg]; exact (below_size (by repeat (first | (with_reducible first | exact HB.out | apply below_alloc | apply pw_below_drewN | apply below_drew1) | exact HB.out))) : w.heap.size ≤ gb101)); have n3_ := Aside0.mk ((by rw [hg]; exact (below_size (by repeat (first | (with_reducible first | exact HB.out | apply below_alloc | apply pw_below_drewN | apply below_drew1) | exact HB.out))) : w.heap.size ≤ gb101)); clear HB; have HB := n0_; have BK101 := n1_; have GW101 := n2_; have GE101 := n3_; clear n0_ n1_ n2_ n3_; clear hb hbox hg; have hcz13_0 : w12.cell? ⟨gb101, 0, none⟩ = some (.int .i64 a0_0) := (blk_cell BK101.out 0).trans rfl; have hcz13_1 : w12.cell? ⟨gb101, 1, none⟩ = some (.string a0_1) := (blk_cell BK101.out 1).trans rfl; have hfz13_0 := blk_frozen BK101.out 0; have hfz13_1 := blk_frozen BK101.out 1))
          go_ret
          exact ⟨by first | rfl | (simp [errW_none, errW_some] <;> rfl) | (simp [*, errW_none, errW_some] <;> rfl), by repeat (first | (with_reducible first | exact HB.out | apply below_alloc | apply pw_below_drewN | apply below_drew1 | refine below_set ?_ GE101.out) | exact HB.out)⟩
        · rw [if_neg c11] at H
          have c11b0 : decide (1 ≤ a0_0) = false := decide_eq_false c11
          clear c11
          obtain rfl := Option.some.inj H
          go_enter Try.func33, Try.ntmps33
          go_wp2_with (first | ((with_reducible refine gate_dst (N := 1) rfl ?_); refine box_event ?hg (N := 1) ?hd (cs := #[.int .i64 a0_0, .string a0_1]) (t := 54) ?hr ?_; (case hd => rfl); (case hg => rfl); (case hr => first | (go_simp; done) | (go_simp; rfl)); intro gb101 hg w14 hbox hb; have n0_ := Aside0.mk (below_step (by repeat (first | (with_reducible first | exact HB.out | apply below_alloc | apply pw_below_drewN | apply below_drew1) | exact HB.out)) hb); have n1_ := Aside0.mk (hbox); have n2_ := Aside0.mk ((by rw [hg]; exact (below_size (by repeat (first | (with_reducible first | exact HB.out | apply below_alloc | apply pw_below_drewN | apply below_drew1) | exact HB.out))) : w.heap.size ≤ gb101)); have n3_ := Aside0.mk ((by rw [hg]; exact (below_size (by repeat (first | (with_reducible first | exact HB.out | apply below_alloc | apply pw_below_drewN | apply below_drew1) | exact HB.out))) : w.heap.size ≤ gb101)); clear HB; have HB := n0_; have BK101 := n1_; have GW101 := n2_; have GE101 := n3_; clear n0_ n1_ n2_ n3_; clear hb hbox hg; have hcz15_0 : w14.cell? ⟨gb101, 0, none⟩ = some (.int .i64 a0_0) := (blk_cell BK101.out 0).trans rfl; have hcz15_1 : w14.cell? ⟨gb101, 1, none⟩ = some (.string a0_1) := (blk_cell BK101.out 1).trans rfl; have hfz15_0 := blk_frozen BK101.out 0; have hfz15_1 := blk_frozen BK101.out 1))
          go_ret
          exact ⟨by first | rfl | (simp [errW_none, errW_some] <;> rfl) | (simp [*, errW_none, errW_some] <;> rfl), by repeat (first | (with_reducible first | exact HB.out | apply below_alloc | apply pw_below_drewN | apply below_drew1 | refine below_set ?_ GE101.out) | exact HB.out)⟩
      · rw [if_neg c10] at H
        have c10b0 : (a0_1.toList == ([] : List UInt8)) = false := by simpa using c10
        (try (have c10b1 : decide (a0_1.toList = ([] : List UInt8)) = false := by simpa using c10))
        (try (have c10b2 : (a0_1.toList == ([] : List UInt8)) = false := by simpa using c10))
        (try (have c10b3 : ¬ (a0_1.toList = ([] : List UInt8)) := by simpa using c10))
        clear c10
        obtain rfl := Option.some.inj H
        go_enter Try.func33, Try.ntmps33
        go_wp2_with (first | ((with_reducible refine gate_dst (N := 1) rfl ?_); refine box_event ?hg (N := 1) ?hd (cs := #[.int .i64 a0_0, .string a0_1]) (t := 54) ?hr ?_; (case hd => rfl); (case hg => rfl); (case hr => first | (go_simp; done) | (go_simp; rfl)); intro gb101 hg w16 hbox hb; have n0_ := Aside0.mk (below_step (by repeat (first | (with_reducible first | exact HB.out | apply below_alloc | apply pw_below_drewN | apply below_drew1) | exact HB.out)) hb); have n1_ := Aside0.mk (hbox); have n2_ := Aside0.mk ((by rw [hg]; exact (below_size (by repeat (first | (with_reducible first | exact HB.out | apply below_alloc | apply pw_below_drewN | apply below_drew1) | exact HB.out))) : w.heap.size ≤ gb101)); have n3_ := Aside0.mk ((by rw [hg]; exact (below_size (by repeat (first | (with_reducible first | exact HB.out | apply below_alloc | apply pw_below_drewN | apply below_drew1) | exact HB.out))) : w.heap.size ≤ gb101)); clear HB; have HB := n0_; have BK101 := n1_; have GW101 := n2_; have GE101 := n3_; clear n0_ n1_ n2_ n3_; clear hb hbox hg; have hcz17_0 : w16.cell? ⟨gb101, 0, none⟩ = some (.int .i64 a0_0) := (blk_cell BK101.out 0).trans rfl; have hcz17_1 : w16.cell? ⟨gb101, 1, none⟩ = some (.string a0_1) := (blk_cell BK101.out 1).trans rfl; have hfz17_0 := blk_frozen BK101.out 0; have hfz17_1 := blk_frozen BK101.out 1))
        go_ret
        exact ⟨by first | rfl | (simp [errW_none, errW_some] <;> rfl) | (simp [*, errW_none, errW_some] <;> rfl), by repeat (first | (with_reducible first | exact HB.out | apply below_alloc | apply pw_below_drewN | apply below_drew1 | refine below_set ?_ GE101.out) | exact HB.out)⟩

/-! ### kind_Element: function 37 -/
def kind_Element.f (a0_0 : Int) (a0_1 : ByteArray) : Option (Int × ByteArray) := if a0_0 = 4 then (some (2, (⟨#[]⟩ : ByteArray))) else (if a0_0 = 5 then (some (3, a0_1)) else (some (0, (⟨#[]⟩ : ByteArray))))
set_option maxHeartbeats 8000000 in
set_option maxRecDepth 100000 in
theorem kind_Element.calls (a0_0 : Int) (a0_1 : ByteArray) (r1 : Int) (r2 : ByteArray) (w : World) (h : kind_Element.f a0_0 a0_1 = some (r1, r2)) :
    Calls Try.prog 37 #[.agg #[.int .i64 a0_0, .string a0_1]] w fun e w' => e = .returned (.agg #[.int .i64 r1, .string r2]) ∧ Below w.heap.size w w' := by
  have hu54 := Try.underlying54
  have HB := Aside0.mk (Below.refl w.heap.size w)
  have H : (if a0_0 = 4 then (some (2, (⟨#[]⟩ : ByteArray))) else (if a0_0 = 5 then (some (3, a0_1)) else (some (0, (⟨#[]⟩ : ByteArray))))) = some (r1, r2) := h
  clear h
  by_cases c2 : a0_0 = 4
  · rw [if_pos c2] at H
    have c2b0 : (a0_0 == 4) = true := beq_iff_eq.mpr c2
    have c2b1 : (a0_0 != 4) = false := bne_eq_false_iff_eq.mpr c2
    clear c2
    simp only [Option.some.injEq, Prod.mk.injEq] at H
    obtain ⟨rfl, rfl⟩ := H
    go_enter Try.func37, Try.ntmps37
    go_wp2_with (first | ((with_reducible refine gate_dst (N := 1) rfl ?_); refine box_event ?hg (N := 1) ?hd (cs := #[.int .i64 a0_0, .string a0_1]) (t := 54) ?hr ?_; (case hd => rfl); (case hg => rfl); (case hr => first | (go_simp; done) | (go_simp; rfl)); intro gb104 hg w3 hbox hb; have n0_ := Aside0.mk (below_step (by repeat (first | (with_reducible first | exact HB.out | apply below_alloc | apply pw_below_drewN | apply below_drew1) | exact HB.out)) hb); have n1_ := Aside0.mk (hbox); have n2_ := Aside0.mk ((by rw [hg]; exact (below_size (by repeat (first | (with_reducible first | exact HB.out | apply below_alloc | apply pw_below_drewN | apply below_drew1) | exact HB.out))) : w.heap.size ≤ gb104)); have n3_ := Aside0.mk ((by rw [hg]; exact (below_size (by repeat (first | (with_reducible first | exact HB.out | apply below_alloc | apply pw_below_drewN | apply below_drew1) | exact HB.out))) : w.heap.size ≤ gb104)); clear HB; have HB := n0_; have BK104 := n1_; have GW104 := n2_; have GE104 := n3_; clear n0_ n1_ n2_ n3_; clear hb hbox hg) | ((with_reducible refine gate_dst (N := 2) rfl ?_); refine box_event ?hg (N := 2) ?hd (cs := #[.int .i64 0, .string (⟨#[]⟩ : ByteArray)]) (t := 54) ?hr ?_; (case hd => rfl); (case hg => rfl); (case hr => first | (go_simp; done) | (go_simp; rfl)); intro gb105 hg w4 hbox hb; have n0_ := Aside0.mk (blk_below (g := gb104) (o := .cells #[.int .i64 a0_0, .string a0_1] 54 (0, 0)) (by (with_reducible repeat (first | refine blk_drewN ?_ _ | refine blk_drew ?_ | refine blk_alloc ?_ _)); exact BK104.out) hb); have n1_ := Aside0.mk (below_step (by repeat (first | (with_reducible first | exact HB.out | apply below_alloc | apply pw_below_drewN | apply below_drew1 | refine below_set ?_ GE104.out) | exact HB.out)) hb); have n2_ := Aside0.mk (hbox); have n3_ := Aside0.mk ((by rw [hg]; exact (below_size (by repeat (first | (with_reducible first | exact HB.out | apply below_alloc | apply pw_below_drewN | apply below_drew1 | refine below_set ?_ GE104.out) | exact HB.out))) : w.heap.size ≤ gb105)); have n4_ := Aside0.mk ((by rw [hg]; exact (below_size (by repeat (first | (with_reducible first | exact HB.out | apply below_alloc | apply pw_below_drewN | apply below_drew1 | refine below_set ?_ GE104.out) | exact HB.out))) : w.heap.size ≤ gb105)); have n5_ := Aside0.mk ((by rw [hg]; exact Nat.ne_of_lt (blk_lt (g := gb104) (o := .cells #[.int .i64 a0_0, .string a0_1] 54 (0, 0)) (by (with_reducible repeat (first | refine blk_drewN ?_ _ | refine blk_drew ?_ | refine blk_alloc ?_ _)); exact BK104.out)) : gb104 ≠ gb105)); have n6_ := Aside0.mk ((by rw [hg]; exact Nat.ne_of_gt (blk_lt (g := gb104) (o := .cells #[.int .i64 a0_0, .string a0_1] 54 (0, 0)) (by (with_reducible repeat (first | refine blk_drewN ?_ _ | refine blk_drew ?_ | refine blk_alloc ?_ _)); exact BK104.out)) : gb105 ≠ gb104)); clear BK104; clear HB; have BK104 := n0_; have HB := n1_; have BK105 := n2_; have GW105 := n3_; have GE105 := n4_; have NB104_105 := n5_; have NB105_104 := n6_; clear n0_ n1_ n2_ n3_ n4_ n5_ n6_; clear hb hbox hg; have hnb5 := NB104_105.out; have hnc5 := NB105_104.out; have hcz6_0 : w4.cell? ⟨gb104, 0, none⟩ = some (.int .i64 a0_0) := (blk_cell BK104.out 0).trans rfl; have hcz6_1 : w4.cell? ⟨gb104, 1, none⟩ = some (.string a0_1) := (blk_cell BK104.out 1).trans rfl; have hfz6_0 := blk_frozen BK104.out 0; have hfz6_1 := blk_frozen BK104.out 1; have hcz7_0 : w4.cell? ⟨gb105, 0, none⟩ = some (.int .i64 0) := (blk_cell BK105.out 0).trans rfl; have hcz7_1 : w4.cell? ⟨gb105, 1, none⟩ = some (.string (⟨#[]⟩ : ByteArray)) := (blk_cell BK105.out 1).trans rfl; have hfz7_0 := blk_frozen BK105.out 0; have hfz7_1 := blk_frozen BK105.out 1))
    refine bodyPost_ret (results_cell_row rfl _ _ gb105 54 #[.int .i64 2, .string (⟨#[]⟩ : ByteArray)] (0, 0) _ rfl (by (with_reducible repeat (first | refine blk_drewN ?_ _ | refine blk_drew ?_ | refine blk_alloc ?_ _)); refine blk_put (cs := #[.int .i64 2, .string (⟨#[]⟩ : ByteArray)]) ?_ 1 _ rfl; (with_reducible repeat (first | refine blk_drewN ?_ _ | refine blk_drew ?_ | refine blk_alloc ?_ _)); refine blk_put (cs := #[.int .i64 0, .string (⟨#[]⟩ : ByteArray)]) ?_ 0 _ rfl; (with_reducible repeat (first | refine blk_drewN ?_ _ | refine blk_drew ?_ | refine blk_alloc ?_ _)); exact BK105.out) Try.underlying54 rfl (by kernel_rfl)) rfl ?_
    exact ⟨by first | rfl | (simp [errW_none, errW_some] <;> rfl) | (simp [*, errW_none, errW_some] <;> rfl), by repeat (first | (with_reducible first | exact HB.out | apply below_alloc | apply pw_below_drewN | apply below_drew1 | refine below_set ?_ GE104.out | refine below_set ?_ GE105.out) | exact HB.out)⟩
  · rw [if_neg c2] at H
    have c2b0 : (a0_0 == 4) = false := beq_eq_false_iff_ne.mpr c2
    have c2b1 : (a0_0 != 4) = true := bne_iff_ne.mpr c2
    by_cases c8 : a0_0 = 5
    · rw [if_pos c8] at H
      have c8b0 : (a0_0 == 5) = true := beq_iff_eq.mpr c8
      have c8b1 : (a0_0 != 5) = false := bne_eq_false_iff_eq.mpr c8
      clear c8
      simp only [Option.some.injEq, Prod.mk.injEq] at H
      obtain ⟨rfl, rfl⟩ := H
      go_enter Try.func37, Try.ntmps37
      go_wp2_with (first | ((with_reducible refine gate_dst (N := 1) rfl ?_); refine box_event ?hg (N := 1) ?hd (cs := #[.int .i64 a0_0, .string a0_1]) (t := 54) ?hr ?_; (case hd => rfl); (case hg => rfl); (case hr => first | (go_simp; done) | (go_simp; rfl)); intro gb104 hg w9 hbox hb; have n0_ := Aside0.mk (below_step (by repeat (first | (with_reducible first | exact HB.out | apply below_alloc | apply pw_below_drewN | apply below_drew1) | exact HB.out)) hb); have n1_ := Aside0.mk (hbox); have n2_ := Aside0.mk ((by rw [hg]; exact (below_size (by repeat (first | (with_reducible first | exact HB.out | apply below_alloc | apply pw_below_drewN | apply below_drew1) | exact HB.out))) : w.heap.size ≤ gb104)); have n3_ := Aside0.mk ((by rw [hg]; exact (below_size (by repeat (first | (with_reducible first | exact HB.out | apply below_alloc | apply pw_below_drewN | apply below_drew1) | exact HB.out))) : w.heap.size ≤ gb104)); clear HB; have HB := n0_; have BK104 := n1_; have GW104 := n2_; have GE104 := n3_; clear n0_ n1_ n2_ n3_; clear hb hbox hg) | ((with_reducible refine gate_dst (N := 2) rfl ?_); refine box_event ?hg (N := 2) ?hd (cs := #[.int .i64 0, .string (⟨#[]⟩ : ByteArray)]) (t := 54) ?hr ?_; (case hd => rfl); (case hg => rfl); (case hr => first | (go_simp; done) | (go_simp; rfl)); intro gb105 hg w10 hbox hb; have n0_ := Aside0.mk (blk_below (g := gb104) (o := .cells #[.int .i64 a0_0, .string a0_1] 54 (0, 0)) (by (with_reducible repeat (first | refine blk_drewN ?_ _ | refine blk_drew ?_ | refine blk_alloc ?_ _)); exact BK104.out) hb); have n1_ := Aside0.mk (below_step (by repeat (first | (with_reducible first | exact HB.out | apply below_alloc | apply pw_below_drewN | apply below_drew1 | refine below_set ?_ GE104.out) | exact HB.out)) hb); have n2_ := Aside0.mk (hbox); have n3_ := Aside0.mk ((by rw [hg]; exact (below_size (by repeat (first | (with_reducible first | exact HB.out | apply below_alloc | apply pw_below_drewN | apply below_drew1 | refine below_set ?_ GE104.out) | exact HB.out))) : w.heap.size ≤ gb105)); have n4_ := Aside0.mk ((by rw [hg]; exact (below_size (by repeat (first | (with_reducible first | exact HB.out | apply below_alloc | apply pw_below_drewN | apply below_drew1 | refine below_set ?_ GE104.out) | exact HB.out))) : w.heap.size ≤ gb105)); have n5_ := Aside0.mk ((by rw [hg]; exact Nat.ne_of_lt (blk_lt (g := gb104) (o := .cells #[.int .i64 a0_0, .string a0_1] 54 (0, 0)) (by (with_reducible repeat (first | refine blk_drewN ?_ _ | refine blk_drew ?_ | refine blk_alloc ?_ _)); exact BK104.out)) : gb104 ≠ gb105)); have n6_ := Aside0.mk ((by rw [hg]; exact Nat.ne_of_gt (blk_lt (g := gb104) (o := .cells #[.int .i64 a0_0, .string a0_1] 54 (0, 0)) (by (with_reducible repeat (first | refine blk_drewN ?_ _ | refine blk_drew ?_ | refine blk_alloc ?_ _)); exact BK104.out)) : gb105 ≠ gb104)); clear BK104; clear HB; have BK104 := n0_; have HB := n1_; have BK105 := n2_; have GW105 := n3_; have GE105 := n4_; have NB104_105 := n5_; have NB105_104 := n6_; clear n0_ n1_ n2_ n3_ n4_ n5_ n6_; clear hb hbox hg; have hnb11 := NB104_105.out; have hnc11 := NB105_104.out; have hcz12_0 : w10.cell? ⟨gb104, 0, none⟩ = some (.int .i64 a0_0) := (blk_cell BK104.out 0).trans rfl; have hcz12_1 : w10.cell? ⟨gb104, 1, none⟩ = some (.string a0_1) := (blk_cell BK104.out 1).trans rfl; have hfz12_0 := blk_frozen BK104.out 0; have hfz12_1 := blk_frozen BK104.out 1; have hcz13_0 : w10.cell? ⟨gb105, 0, none⟩ = some (.int .i64 0) := (blk_cell BK105.out 0).trans rfl; have hcz13_1 : w10.cell? ⟨gb105, 1, none⟩ = some (.string (⟨#[]⟩ : ByteArray)) := (blk_cell BK105.out 1).trans rfl; have hfz13_0 := blk_frozen BK105.out 0; have hfz13_1 := blk_frozen BK105.out 1))
      refine bodyPost_ret (results_cell_row rfl _ _ gb105 54 #[.int .i64 3, .string a0_1] (0, 0) _ rfl (by (with_reducible repeat (first | refine blk_drewN ?_ _ | refine blk_drew ?_ | refine blk_alloc ?_ _)); refine blk_put (cs := #[.int .i64 3, .string (⟨#[]⟩ : ByteArray)]) ?_ 1 _ rfl; (with_reducible repeat (first | refine blk_drewN ?_ _ | refine blk_drew ?_ | refine blk_alloc ?_ _)); refine blk_put (cs := #[.int .i64 0, .string (⟨#[]⟩ : ByteArray)]) ?_ 0 _ rfl; (with_reducible repeat (first | refine blk_drewN ?_ _ | refine blk_drew ?_ | refine blk_alloc ?_ _)); exact BK105.out) Try.underlying54 rfl (by kernel_rfl)) rfl ?_
      exact ⟨by first | rfl | (simp [errW_none, errW_some] <;> rfl) | (simp [*, errW_none, errW_some] <;> rfl), by repeat (first | (with_reducible first | exact HB.out | apply below_alloc | apply pw_below_drewN | apply below_drew1 | refine below_set ?_ GE104.out | refine below_set ?_ GE105.out) | exact HB.out)⟩
    · rw [if_neg c8] at H
      have c8b0 : (a0_0 == 5) = false := beq_eq_false_iff_ne.mpr c8
      have c8b1 : (a0_0 != 5) = true := bne_iff_ne.mpr c8
      simp only [Option.some.injEq, Prod.mk.injEq] at H
      obtain ⟨rfl, rfl⟩ := H
      go_enter Try.func37, Try.ntmps37
      go_wp2_with (first | ((with_reducible refine gate_dst (N := 1) rfl ?_); refine box_event ?hg (N := 1) ?hd (cs := #[.int .i64 a0_0, .string a0_1]) (t := 54) ?hr ?_; (case hd => rfl); (case hg => rfl); (case hr => first | (go_simp; done) | (go_simp; rfl)); intro gb104 hg w14 hbox hb; have n0_ := Aside0.mk (below_step (by repeat (first | (with_reducible first | exact HB.out | apply below_alloc | apply pw_below_drewN | apply below_drew1) | exact HB.out)) hb); have n1_ := Aside0.mk (hbox); have n2_ := Aside0.mk ((by rw [hg]; exact (below_size (by repeat (first | (with_reducible first | exact HB.out | apply below_alloc | apply pw_below_drewN | apply below_drew1) | exact HB.out))) : w.heap.size ≤ gb104)); have n3_ := Aside0.mk ((by rw [hg]; exact (below_size (by repeat (first | (with_reducible first | exact HB.out | apply below_alloc | apply pw_below_drewN | apply below_drew1) | exact HB.out))) : w.heap.size ≤ gb104)); clear HB; have HB := n0_; have BK104 := n1_; have GW104 := n2_; have GE104 := n3_; clear n0_ n1_ n2_ n3_; clear hb hbox hg) | ((with_reducible refine gate_dst (N := 2) rfl ?_); refine box_event ?hg (N := 2) ?hd (cs := #[.int .i64 0, .string (⟨#[]⟩ : ByteArray)]) (t := 54) ?hr ?_; (case hd => rfl); (case hg => rfl); (case hr => first | (go_simp; done) | (go_simp; rfl)); intro gb105 hg w15 hbox hb; have n0_ := Aside0.mk (blk_below (g := gb104) (o := .cells #[.int .i64 a0_0, .string a0_1] 54 (0, 0)) (by (with_reducible repeat (first | refine blk_drewN ?_ _ | refine blk_drew ?_ | refine blk_alloc ?_ _)); exact BK104.out) hb); have n1_ := Aside0.mk (below_step (by repeat (first | (with_reducible first | exact HB.out | apply below_alloc | apply pw_below_drewN | apply below_drew1 | refine below_set ?_ GE104.out) | exact HB.out)) hb); have n2_ := Aside0.mk (hbox); have n3_ := Aside0.mk ((by rw [hg]; exact (below_size (by repeat (first | (with_reducible first | exact HB.out | apply below_alloc | apply pw_below_drewN | apply below_drew1 | refine below_set ?_ GE104.out) | exact HB.out))) : w.heap.size ≤ gb105)); have n4_ := Aside0.mk ((by rw [hg]; exact (below_size (by repeat (first | (with_reducible first | exact HB.out | apply below_alloc | apply pw_below_drewN | apply below_drew1 | refine below_set ?_ GE104.out) | exact HB.out))) : w.heap.size ≤ gb105)); have n5_ := Aside0.mk ((by rw [hg]; exact Nat.ne_of_lt (blk_lt (g := gb104) (o := .cells #[.int .i64 a0_0, .string a0_1] 54 (0, 0)) (by (with_reducible repeat (first | refine blk_drewN ?_ _ | refine blk_drew ?_ | refine blk_alloc ?_ _)); exact BK104.out)) : gb104 ≠ gb105)); have n6_ := Aside0.mk ((by rw [hg]; exact Nat.ne_of_gt (blk_lt (g := gb104) (o := .cells #[.int .i64 a0_0, .string a0_1] 54 (0, 0)) (by (with_reducible repeat (first | refine blk_drewN ?_ _ | refine blk_drew ?_ | refine blk_alloc ?_ _)); exact BK104.out)) : gb105 ≠ gb104)); clear BK104; clear HB; have BK104 := n0_; have HB := n1_; have BK105 := n2_; have GW105 := n3_; have GE105 := n4_; have NB104_105 := n5_; have NB105_104 := n6_; clear n0_ n1_ n2_ n3_ n4_ n5_ n6_; clear hb hbox hg; have hnb16 := NB104_105.out; have hnc16 := NB105_104.out; have hcz17_0 : w15.cell? ⟨gb104, 0, none⟩ = some (.int .i64 a0_0) := (blk_cell BK104.out 0).trans rfl; have hcz17_1 : w15.cell? ⟨gb104, 1, none⟩ = some (.string a0_1) := (blk_cell BK104.out 1).trans rfl; have hfz17_0 := blk_frozen BK104.out 0; have hfz17_1 := blk_frozen BK104.out 1; have hcz18_0 : w15.cell? ⟨gb105, 0, none⟩ = some (.int .i64 0) := (blk_cell BK105.out 0).trans rfl; have hcz18_1 : w15.cell? ⟨gb105, 1, none⟩ = some (.string (⟨#[]⟩ : ByteArray)) := (blk_cell BK105.out 1).trans rfl; have hfz18_0 := blk_frozen BK105.out 0; have hfz18_1 := blk_frozen BK105.out 1))
      refine bodyPost_ret (results_cell_row rfl _ _ gb105 54 #[.int .i64 0, .string (⟨#[]⟩ : ByteArray)] (0, 0) _ rfl (by (with_reducible repeat (first | refine blk_drewN ?_ _ | refine blk_drew ?_ | refine blk_alloc ?_ _)); refine blk_put (cs := #[.int .i64 0, .string (⟨#[]⟩ : ByteArray)]) ?_ 1 _ rfl; (with_reducible repeat (first | refine blk_drewN ?_ _ | refine blk_drew ?_ | refine blk_alloc ?_ _)); refine blk_put (cs := #[.int .i64 0, .string (⟨#[]⟩ : ByteArray)]) ?_ 0 _ rfl; (with_reducible repeat (first | refine blk_drewN ?_ _ | refine blk_drew ?_ | refine blk_alloc ?_ _)); exact BK105.out) Try.underlying54 rfl (by kernel_rfl)) rfl ?_
      exact ⟨by first | rfl | (simp [errW_none, errW_some] <;> rfl) | (simp [*, errW_none, errW_some] <;> rfl), by repeat (first | (with_reducible first | exact HB.out | apply below_alloc | apply pw_below_drewN | apply below_drew1 | refine below_set ?_ GE104.out | refine below_set ?_ GE105.out) | exact HB.out)⟩

/-! ### kind_param: function 93 -/
def kind_param.f (a0_0 : Int) (a0_1 : ByteArray) : Option (Bool) := (kind_Right.f a0_0 a0_1).bind fun t107 => (if t107 = true then (some (a0_0 != 1)) else (some false))
set_option maxHeartbeats 8000000 in
set_option maxRecDepth 100000 in
theorem kind_param.calls (a0_0 : Int) (a0_1 : ByteArray) (r : Bool) (w : World) (h : kind_param.f a0_0 a0_1 = some r) :
    Calls Try.prog 93 #[.agg #[.int .i64 a0_0, .string a0_1]] w fun e w' => e = .returned (.bool r) ∧ Below w.heap.size w w' := by
  have hu54 := Try.underlying54
  have HB := Aside0.mk (Below.refl w.heap.size w)
  have H : ((kind_Right.f a0_0 a0_1).bind fun t107 => (if t107 = true then (some (a0_0 != 1)) else (some false))) = some r := h
  clear h
  replace H := Option.bind_eq_some_iff.mp H
  obtain ⟨t107, A20, H⟩ := H
  replace H : (if t107 = true then (some (a0_0 != 1)) else (some false)) = some r := H
  have A2 := Aside0.mk A20
  clear A20
  by_cases c3 : t107 = true
  · subst c3
    have H1 : (some (a0_0 != 1)) = some r := by rw [if_pos rfl] at H; exact H
    clear H
    have H := H1
    clear H1
    obtain rfl := Option.some.inj H
    go_enter Try.func93, Try.ntmps93
    go_wp2_with (first | ((with_reducible refine gate_dst (N := 1) rfl ?_); refine box_event ?hg (N := 1) ?hd (cs := #[.int .i64 a0_0, .string a0_1]) (t := 54) ?hr ?_; (case hd => rfl); (case hg => rfl); (case hr => first | (go_simp; done) | (go_simp; rfl)); intro gb106 hg w4 hbox hb; have n0_ := Aside0.mk (below_step (by repeat (first | (with_reducible first | exact HB.out | apply below_alloc | apply pw_below_drewN | apply below_drew1) | exact HB.out)) hb); have n1_ := Aside0.mk (hbox); have n2_ := Aside0.mk ((by rw [hg]; exact (below_size (by repeat (first | (with_reducible first | exact HB.out | apply below_alloc | apply pw_below_drewN | apply below_drew1) | exact HB.out))) : w.heap.size ≤ gb106)); have n3_ := Aside0.mk ((by rw [hg]; exact (below_size (by repeat (first | (with_reducible first | exact HB.out | apply below_alloc | apply pw_below_drewN | apply below_drew1) | exact HB.out))) : w.heap.size ≤ gb106)); clear HB; have HB := n0_; have BK106 := n1_; have GW106 := n2_; have GE106 := n3_; clear n0_ n1_ n2_ n3_; clear hb hbox hg; have hcz5_0 : w4.cell? ⟨gb106, 0, none⟩ = some (.int .i64 a0_0) := (blk_cell BK106.out 0).trans rfl; have hcz5_1 : w4.cell? ⟨gb106, 1, none⟩ = some (.string a0_1) := (blk_cell BK106.out 1).trans rfl; have hfz5_0 := blk_frozen BK106.out 0; have hfz5_1 := blk_frozen BK106.out 1) | ((with_reducible refine gate_callee (f := 33) rfl ?_); refine goesL_ (some 4) rfl rfl Try.func33 (by kernel_rfl) rfl #[.agg #[.int .i64 a0_0, .string a0_1]] rfl (by (try simp only [List.map_toArray, List.map_cons, List.map_nil]); first | done | rfl | (simp only [List.length_drop, List.length_take]; rfl)) ?_; (with_reducible refine (kind_Right.calls a0_0 a0_1 true _ A2.out).mono ?_); rintro e w6 ⟨rfl, hb⟩; refine ⟨_, rfl, ?_⟩; have n0_ := Aside0.mk (blk_below (g := gb106) (o := .cells #[.int .i64 a0_0, .string a0_1] 54 (0, 0)) (by (with_reducible repeat (first | refine blk_drewN ?_ _ | refine blk_drew ?_ | refine blk_alloc ?_ _)); exact BK106.out) hb); have n1_ := Aside0.mk (below_step (by repeat (first | (with_reducible first | exact HB.out | apply below_alloc | apply pw_below_drewN | apply below_drew1 | refine below_set ?_ GE106.out) | exact HB.out)) hb); clear BK106; clear HB; have BK106 := n0_; have HB := n1_; clear n0_ n1_; (try clear hb); (try clear hb2); (try clear hk); (try clear hi); have hcz7_0 : w6.cell? ⟨gb106, 0, none⟩ = some (.int .i64 a0_0) := (blk_cell BK106.out 0).trans rfl; have hcz7_1 : w6.cell? ⟨gb106, 1, none⟩ = some (.string a0_1) := (blk_cell BK106.out 1).trans rfl; have hfz7_0 := blk_frozen BK106.out 0; have hfz7_1 := blk_frozen BK106.out 1))
    go_ret
    exact ⟨by first | rfl | (simp [errW_none, errW_some] <;> rfl) | (simp [*, errW_none, errW_some] <;> rfl), by repeat (first | (with_reducible first | exact HB.out | apply below_alloc | apply pw_below_drewN | apply below_drew1 | refine below_set ?_ GE106.out) | exact HB.out)⟩
  · replace c3 := Bool.eq_false_iff.mpr c3
    subst c3
    have H1 : (some false) = some r := by rw [if_neg (show ¬ (false = true) by decide)] at H; exact H
    clear H
    have H := H1
    clear H1
    obtain rfl := Option.some.inj H
    go_enter Try.func93, Try.ntmps93
    go_wp2_with (first | ((with_reducible refine gate_dst (N := 1) rfl ?_); refine box_event ?hg (N := 1) ?hd (cs := #[.int .i64 a0_0, .string a0_1]) (t := 54) ?hr ?_; (case hd => rfl); (case hg => rfl); (case hr => first | (go_simp; done) | (go_simp; rfl)); intro gb106 hg w8 hbox hb; have n0_ := Aside0.mk (below_step (by repeat (first | (with_reducible first | exact HB.out | apply below_alloc | apply pw_below_drewN | apply below_drew1) | exact HB.out)) hb); have n1_ := Aside0.mk (hbox); have n2_ := Aside0.mk ((by rw [hg]; exact (below_size (by repeat (first | (with_reducible first | exact HB.out | apply below_alloc | apply pw_below_drewN | apply below_drew1) | exact HB.out))) : w.heap.size ≤ gb106)); have n3_ := Aside0.mk ((by rw [hg]; exact (below_size (by repeat (first | (with_reducible first | exact HB.out | apply below_alloc | apply pw_below_drewN | apply below_drew1) | exact HB.out))) : w.heap.size ≤ gb106)); clear HB; have HB := n0_; have BK106 := n1_; have GW106 := n2_; have GE106 := n3_; clear n0_ n1_ n2_ n3_; clear hb hbox hg; have hcz9_0 : w8.cell? ⟨gb106, 0, none⟩ = some (.int .i64 a0_0) := (blk_cell BK106.out 0).trans rfl; have hcz9_1 : w8.cell? ⟨gb106, 1, none⟩ = some (.string a0_1) := (blk_cell BK106.out 1).trans rfl; have hfz9_0 := blk_frozen BK106.out 0; have hfz9_1 := blk_frozen BK106.out 1) | ((with_reducible refine gate_callee (f := 33) rfl ?_); refine goesL_ (some 4) rfl rfl Try.func33 (by kernel_rfl) rfl #[.agg #[.int .i64 a0_0, .string a0_1]] rfl (by (try simp only [List.map_toArray, List.map_cons, List.map_nil]); first | done | rfl | (simp only [List.length_drop, List.length_take]; rfl)) ?_; (with_reducible refine (kind_Right.calls a0_0 a0_1 false _ A2.out).mono ?_); rintro e w10 ⟨rfl, hb⟩; refine ⟨_, rfl, ?_⟩; have n0_ := Aside0.mk (blk_below (g := gb106) (o := .cells #[.int .i64 a0_0, .string a0_1] 54 (0, 0)) (by (with_reducible repeat (first | refine blk_drewN ?_ _ | refine blk_drew ?_ | refine blk_alloc ?_ _)); exact BK106.out) hb); have n1_ := Aside0.mk (below_step (by repeat (first | (with_reducible first | exact HB.out | apply below_alloc | apply pw_below_drewN | apply below_drew1 | refine below_set ?_ GE106.out) | exact HB.out)) hb); clear BK106; clear HB; have BK106 := n0_; have HB := n1_; clear n0_ n1_; (try clear hb); (try clear hb2); (try clear hk); (try clear hi)))
    go_ret
    exact ⟨by first | rfl | (simp [errW_none, errW_some] <;> rfl) | (simp [*, errW_none, errW_some] <;> rfl), by repeat (first | (with_reducible first | exact HB.out | apply below_alloc | apply pw_below_drewN | apply below_drew1 | refine below_set ?_ GE106.out) | exact HB.out)⟩

end Go.Proofs.Ytcbakmojhicahaa.Q7
end

section
-- Written by this session's program layer.py (the kit's print, turned), not by hand.
namespace Go.Proofs.Ytcbakmojhicahaa.Q7
open Go.RowKit Go.Proofs.YtcbakmojhicahaaW.PrintWords Go.Proofs.YtcbakmojhicahaaW.PrintLast Go.Proofs.YtcbakmojhicahaaW.PrintMore Go.Proofs.Ytcbakmojhicahaa.Hand
attribute [local go_sem] max2_int min2_int max_two min_two max_three min_three max_four min_four   -- for this text's walks alone
set_option linter.unusedVariables false
set_option linter.unusedSimpArgs false

end Go.Proofs.Ytcbakmojhicahaa.Q7
end

section
namespace Go.Proofs.Ytcbakmojhicahaa.Hand
open Go.RowKit Go.Shelf Go.Proofs.YtcbakmojhicahaaW.PrintWords Go.Proofs.YtcbakmojhicahaaW.PrintLast Go.Proofs.YtcbakmojhicahaaW.PrintMore
set_option linter.unusedVariables false
set_option linter.unusedSimpArgs false

theorem right_eq (k : Int) (c : ByteArray) (hc : c.size ≤ 9223372036854775807) : Q7.kind_Right.f k c = some (rightT classL (k, bl c)) := by
  unfold Q7.kind_Right.f rightT
  have e : word_Class.f c = some (classL (bl c)) := by unfold word_Class.f; rw [if_pos hc]; rfl
  rw [e]
  by_cases h3 : k = 3
  · simp [h3]
  · rw [if_neg h3]
    by_cases h5 : k = 5
    · simp [h5]
    · have e2 : (c.toList == ([] : List UInt8)) = decide (bl c = []) := by
        rw [ByteArray.toList_eq]
        unfold bl
        cases c.data.toList with
        | nil => rfl
        | cons x l => rfl
      rw [if_neg h5, e2]
      rw [if_neg (show ¬ ((k, bl c).1 = 3 ∨ (k, bl c).1 = 5) by simp [h3, h5])]
      by_cases hb : bl c = []
      · rw [if_pos (decide_eq_true hb)]
        by_cases h1 : k ≥ 1
        · rw [if_pos h1]; simp [hb, h1]
        · rw [if_neg h1]; simp [hb, h1]
      · rw [if_neg (by simp [hb])]; simp [hb]
theorem kind_right (k : Int) (c : ByteArray) (w : World) (hc : c.size ≤ 9223372036854775807) :
    Calls Try.prog 33 #[.agg #[.int .i64 k, .string c]] w fun e w' => e = .returned (.bool (rightT classL (k, bl c))) ∧ Below w.heap.size w w' :=
  Q7.kind_Right.calls k c _ w (right_eq k c hc)
theorem kind_param (k : Int) (c : ByteArray) (w : World) (hc : c.size ≤ 9223372036854775807) :
    Calls Try.prog 93 #[.agg #[.int .i64 k, .string c]] w fun e w' => e = .returned (.bool (paramT classL (k, bl c))) ∧ Below w.heap.size w w' :=
  Q7.kind_param.calls k c _ w (by
    unfold Q7.kind_param.f paramT
    rw [right_eq k c hc]
    cases rightT classL (k, bl c) with
    | false => rfl
    | true => by_cases h : k = 1 <;> simp [h])
theorem lb_cat (a b : List UInt8) : lb a ++ lb b = lb (a ++ b) := by
  unfold lb
  apply ByteArray.ext
  simp
theorem ty_below {w w' : World} {g : Nat} {t : Ty} (h : TyAt w g t) (hb : Below w.heap.size w w') : TyAt w' g t := ty_kept h (grown_of_below hb none) (by simp)
set_option maxHeartbeats 16000000 in
set_option maxRecDepth 20000 in
theorem text_any (k : Int) (c : ByteArray) (w : World) (hc : c.size ≤ 4611686018427387903)
    (hRec : (k = 4 ∨ k = 5) → ∀ W, Calls Try.prog 39 #[.agg #[.int .i64 (k - 2), .string c]] W fun e w' => e = .returned (.string (lb (textT classL (k - 2, bl c)))) ∧ Below W.heap.size W w') :
    Calls Try.prog 39 #[.agg #[.int .i64 k, .string c]] w fun e w' => e = .returned (.string (lb (textT classL (k, bl c)))) ∧ Below w.heap.size w w' := by
  have hT0 : TyAt (w.alloc (.cells #[.int .i64 k, .string c] 54)) w.heap.size (k, bl c) := by
    unfold TyAt
    rw [lb_bl]
    exact World.alloc_heap_new _ _
  have HRt := Aside0.mk (fun W => kind_right k c W (by omega))
  have HT := Aside0.mk hT0
  have hR := right_cases (cls := classL) (t := (k, bl c))
  unfold textT
  cases hr : rightT classL (k, bl c) with
  | false =>
    rw [hr] at HRt
    rw [if_neg (by decide)]
    go_enter Try.func39, Try.ntmps39
    go_wp2_with (go_at_call 33; refine (HRt.out _).mono ?_; rintro e w1 ⟨rfl, hb⟩)
    go_ret
    exact ⟨rfl, (below_alloc (Below.refl _ _) _).trans (hb.mono (by simp))⟩
  | true =>
    rw [hr] at HRt
    rw [if_pos rfl]
    rcases hR hr with ⟨e1, e2⟩ | ⟨e1, e2⟩ | ⟨e1, e2⟩ | ⟨e1, e2⟩ | ⟨e1, e2⟩
    · simp only at e1 e2
      subst e1
      go_enter Try.func39, Try.ntmps39
      go_wp2_with (go_at_call 33; refine (HRt.out _).mono ?_; rintro e w1 ⟨rfl, hb⟩; obtain ⟨c0, c1, f0, f1⟩ := ty_cells (ty_below HT.out hb))
      go_ret
      exact ⟨rfl, (below_alloc (Below.refl _ _) _).trans (hb.mono (by simp))⟩
    · simp only at e1 e2
      subst e1
      go_enter Try.func39, Try.ntmps39
      go_wp2_with (go_at_call 33; refine (HRt.out _).mono ?_; rintro e w1 ⟨rfl, hb⟩; obtain ⟨c0, c1, f0, f1⟩ := ty_cells (ty_below HT.out hb))
      go_ret
      exact ⟨rfl, (below_alloc (Below.refl _ _) _).trans (hb.mono (by simp))⟩
    · simp only at e1 e2
      subst e1
      have hcat : (⟨#[76]⟩ : ByteArray) ++ c ++ ⟨#[59]⟩ = lb (76 :: (bl c ++ [59])) := by
        have := congrArg (· ++ lb [59]) (lb_cat [76] (bl c))
        rw [lb_bl] at this
        exact this.trans (lb_cat _ _)
      go_enter Try.func39, Try.ntmps39
      go_wp2_with (go_at_call 33; refine (HRt.out _).mono ?_; rintro e w1 ⟨rfl, hb⟩; obtain ⟨c0, c1, f0, f1⟩ := ty_cells (ty_below HT.out hb))
      go_ret
      exact ⟨by rw [← hcat]; simp, (below_alloc (Below.refl _ _) _).trans (hb.mono (by simp))⟩
    · simp only at e1 e2
      subst e1
      have ec : c = ⟨#[]⟩ := by rw [← lb_bl c, e2]; rfl
      subst ec
      have HE := Aside0.mk (fun W => Q7.kind_Element.calls 4 ⟨#[]⟩ 2 ⟨#[]⟩ W rfl)
      have HC := Aside0.mk (hRec (.inl rfl))
      go_enter Try.func39, Try.ntmps39
      go_wp2_with (first | (go_at_call 33; refine (HRt.out _).mono ?_; rintro e w1 ⟨rfl, hb⟩; obtain ⟨c0, c1, f0, f1⟩ := ty_cells (ty_below HT.out hb)) | (go_at_call 37; refine (HE.out _).mono ?_; rintro e w2 ⟨rfl, hb2⟩) | (go_at_call 39; refine (HC.out _).mono ?_; rintro e w3 ⟨rfl, hb3⟩))
      go_ret
      exact ⟨rfl, (((below_alloc (Below.refl _ _) _).trans (hb.mono (by simp))).trans (hb2.mono (by have := hb.size; simp at this; omega))).trans (hb3.mono (by have := hb.size; have := hb2.size; simp at *; omega))⟩
    · simp only at e1 e2
      subst e1
      have HE := Aside0.mk (fun W => Q7.kind_Element.calls 5 c 3 c W rfl)
      have HC := hRec (.inr rfl)
      have ht3 : textT classL (5 - 2, bl c) = 76 :: (bl c ++ [59]) := by
        unfold textT
        rw [if_pos (by unfold rightT; rw [if_pos (.inl rfl)]; exact e2)]
        simp
      rw [ht3] at HC
      replace HC := Aside0.mk HC
      have hcat : (⟨#[91]⟩ : ByteArray) ++ lb (76 :: (bl c ++ [59])) = lb (91 :: 76 :: (bl c ++ [59])) := lb_cat [91] _
      have hlen : (lb (76 :: (bl c ++ [59]))).size = c.size + 2 := by
        show (76 :: (bl c ++ [59])).length = _
        simp [bl_len]
      go_enter Try.func39, Try.ntmps39
      go_wp2_with (first | (go_at_call 33; refine (HRt.out _).mono ?_; rintro e w1 ⟨rfl, hb⟩; obtain ⟨c0, c1, f0, f1⟩ := ty_cells (ty_below HT.out hb)) | (go_at_call 37; refine (HE.out _).mono ?_; rintro e w2 ⟨rfl, hb2⟩) | (go_at_call 39; refine (HC.out _).mono ?_; rintro e w3 ⟨rfl, hb3⟩))
      go_ret
      exact ⟨by rw [← hcat]; simp, (((below_alloc (Below.refl _ _) _).trans (hb.mono (by simp))).trans (hb2.mono (by have := hb.size; simp at this; omega))).trans (hb3.mono (by have := hb.size; have := hb2.size; simp at *; omega))⟩
theorem kind_text (k : Int) (c : ByteArray) (w : World) (hc : c.size ≤ 4611686018427387903) :
    Calls Try.prog 39 #[.agg #[.int .i64 k, .string c]] w fun e w' => e = .returned (.string (lb (textT classL (k, bl c)))) ∧ Below w.heap.size w w' :=
  text_any k c w hc fun h W => text_any (k - 2) c W hc fun h2 W2 => by omega
end Go.Proofs.Ytcbakmojhicahaa.Hand
end
